/- The texts that the statement FnHoisted needs, part 2: contracts of the program's functions and plain laws, without what it does not reach. No condition beyond what each theorem says. -/
import Derived.Below
import Derived.Deep.Draws
import Derived.Deep.AppendLies
import Derived.Maps.AppendAt
import Derived.OwnWalk
import Derived.Laws.BytesArg
import Derived.Laws.MakeOwn
import Derived.Laws.OwnMore
import Derived.Deep.OwnRows
import Derived.Tactics
import Derived.Lib.ConvBytes
import Derived.Laws.Slices
import Derived.WalkKit
import Derived.KernelRfl
import Derived.RowKit3
import Derived.Deep.LoopGhost
import Derived.Deep.QuietTactic
import Derived.BigQuiet
import Derived.WideLaws
import Derived.Deep.DeepCutAuto
import Derived.Deep.CutBlock
import Derived.Deep.RegionHeld3
import Derived.Laws.Rows
import Derived.Lib.AppendStr
import Derived.ArgAppend
import Derived.Laws.IdiomCopy
import Derived.RowKit
import Derived.Laws.Tables
import Derived.BigFrame
import Derived.Laws.CopyRow
import Derived.Laws.ResultCell
import Derived.OrdersHeld
import Derived.Laws.BitsLemmas
import Derived.Laws.StructEq
import Derived.Test.YtfdjgomocbniaaaProg
import Derived.WalkSpells
import Derived.StillTailTactics
import Derived.Laws.BitsAllLaws
import Derived.ProofKit
import Derived.OpenShut
import Derived.Deep.Slices
import Derived.Lib.SmallJoins
import Derived.ChangeSame
import Derived.Test.YtfdjgomocbniaaaRows
import Derived.ShutString
import Derived.ChangeOld
import Derived.SizedLaws
import Derived.Test.YtfdjgomocbniaaaZFnHoisted1
namespace Go.Proofs.Ytfdjgomocbniaaa.Arr
open Go.RowKit Go.Proofs.YtfdjgomocbniaaaW.PrintWords Go.Proofs.Ytfdjgomocbniaaa.U
set_option linter.unusedVariables false
set_option linter.unusedSimpArgs false
structure FrB (B : List Nat) (w w' : World) : Prop where
 os : w'.os = w.os
 tape : w'.tape = w.tape
 output : w'.output = w.output
 size : w.heap.size ≤ w'.heap.size
 other : ∀ k, k < w.heap.size → k ∉ B → w'.heap[k]? = w.heap[k]?
namespace FrB
variable {B B' : List Nat} {w w1 w2 : World}
theorem refl (B : List Nat) (w : World) : FrB B w w := ⟨rfl, rfl, rfl, Nat.le_refl _, fun _ _ _ => rfl⟩
theorem trans (h : FrB B w w1) (h2 : FrB B w1 w2) : FrB B w w2 :=
 ⟨h2.os.trans h.os, h2.tape.trans h.tape, h2.output.trans h.output, Nat.le_trans h.size h2.size, fun k hk hn => (h2.other k (Nat.lt_of_lt_of_le hk h.size) hn).trans (h.other k hk hn)⟩
theorem mono (h : FrB B w w1) (hs : ∀ k ∈ B, k ∈ B') : FrB B' w w1 := ⟨h.os, h.tape, h.output, h.size, fun k hk hn => h.other k hk fun hb => hn (hs k hb)⟩
theorem below (h : Below w.heap.size w w1) : FrB B w w1 := ⟨h.os, h.tape, h.output, h.size, fun k hk _ => h.block k hk⟩
theorem to_below (h : FrB [] w w1) : Below w.heap.size w w1 := ⟨h.os, h.tape, h.output, h.size, fun k hk => h.other k hk (by simp)⟩
theorem fr1 {g : Nat} {cs : Array Value} {t : TypeId} (h : Fr1 g cs t w w1) (hg : g ∈ B) : FrB B w w1 := ⟨h.os, h.tape, h.output, h.size, fun k hk hn => h.other k hk fun e => hn (e ▸ hg)⟩
theorem alloc (h : FrB B w w1) (o : Obj) : FrB B w (w1.alloc o) := h.trans (below (below_alloc (Below.refl _ _) o))
theorem grown (h : FrB B w w1) {row : Option Nat} (hg : w1.grownBy w2 row) (hr : ∀ k, row = some k → w.heap.size ≤ k) : FrB B w w2 :=
 ⟨hg.os.trans h.os, hg.tape.trans h.tape, hg.output.trans h.output, Nat.le_trans h.size hg.size, fun k hk hn => (hg.block k (Nat.lt_of_lt_of_le hk h.size) (fun e => by have := hr k e.symm; omega)).trans (h.other k hk hn)⟩
theorem set (h : FrB B w w1) (p : Addr) (u : Value) (hp : p.block ∈ B ∨ w.heap.size ≤ p.block) : FrB B w (w1.setCell p u) :=
 ⟨h.os, h.tape, h.output, by have := h.size; simpa [World.setCell] using this, fun k hk hn => (Below.heap_setCell w1 p u k (fun e => by subst e; rcases hp with hp | hp; exact hn hp; omega)).trans (h.other k hk hn)⟩
theorem row (h : FrB B w w1) {g : Nat} {cs : Array Value} {t : TypeId} (hg : w.heap[g]? = some (.cells cs t (0, 0))) (hn : g ∉ B) : w1.heap[g]? = some (.cells cs t (0, 0)) :=
 (h.other g (lt_of_some hg) hn).trans hg
theorem cell (h : FrB B w w1) {p : Addr} (hp : p.block < w.heap.size) (hn : p.block ∉ B) : w1.cell? p = w.cell? p := World.cell?_of_block (w := w) (h.other p.block hp hn)
theorem read (h : FrB [] w w1) {p : Addr} {v : Value} (hc : w.cell? p = some v) : w1.cell? p = some v := (h.cell (World.block_lt_of_cell? w _ hc) (by simp)).trans hc
theorem same {g : Nat} (h : FrB (g :: B) w w1) (hg : w1.heap[g]? = w.heap[g]?) : FrB B w w1 := ⟨h.os, h.tape, h.output, h.size, fun k hk hn => by
 by_cases e : k = g
 ·subst e; exact hg
 ·exact h.other k hk fun hm => by
   rcases List.mem_cons.1 hm with h1 | h1
   ·exact e h1
   ·exact hn h1⟩
end FrB
def Row (base : Nat) (w : World) (A : Option Addr) (xs : List Int) : Prop := ∀ W : World, (∀ k, base ≤ k → k < w.heap.size → W.heap[k]? = w.heap[k]?) → Kd.C (Kd.int .i8) W A xs.length xs
namespace Row
variable {base : Nat} {w w1 : World} {A : Option Addr} {xs : List Int}
end Row
theorem fill_int {k : IntKind} {z : Int} {cells : Array Value} {i : Nat} {place : Nat → Option (Nat × Nat)} {off : Nat} {rest : List (Nat × Value)} (hp : place i = some (off, 1)) (hc : off + 1 ≤ cells.size) :
  Instr.fill place cells ((i, .int k z) :: rest) = Instr.fill place (cells.setIfInBounds off (.int k z)) rest := by
 rw [Instr.fill, hp]
 have hs : (Value.int k z).cells.size = 1 := rfl
 simp only [hs]
 rw [if_neg (by simp; omega)]
 congr 1
end Go.Proofs.Ytfdjgomocbniaaa.Arr
namespace Go.Proofs.Ytfdjgomocbniaaa.Arr
open Go.RowKit Go.Proofs.YtfdjgomocbniaaaW.PrintWords Go.Proofs.YtfdjgomocbniaaaW.PrintLast Go.Proofs.YtfdjgomocbniaaaW.PrintMore Go.Proofs.Ytfdjgomocbniaaa.U Go.Proofs.Ytfdjgomocbniaaa.K
set_option linter.unusedVariables false
set_option linter.unusedSimpArgs false
abbrev Own (base : Nat) (w : World) (v : Value) (h : List Int) : Prop := Kd.R (Kd.int .i8) 64 w base (fun _ => True) v h
theorem own_later {base : Nat} {w w1 : World} {v : Value} {h : List Int} {B : List Nat} (ho : Own base w v h) (hf : FrB B w w1) (hB : ∀ b ∈ B, b < base) : Own base w1 v h :=
 Kd.R_mono (Kd.R_move (Kd.R_bound ho) fun k hk => hf.other k hk.2.2.1 fun hb => by have := hB k hb; omega) fun _ _ => trivial
theorem own_lower {base b : Nat} {w : World} {v : Value} {h : List Int} (ho : Own base w v h) (hb : b ≤ base) : Own b w v h := Kd.R_lower ho hb
theorem cell1 {w : World} {g : Nat} {v : Value} {t : TypeId} (h : w.heap[g]? = some (.cells #[v] t (0, 0))) : w.cell? ⟨g, 0, none⟩ = some v := by
 rw [cell_of_row w g 0 _ t (0, 0) h]; rfl
section
variable {P : Program} {o : Oper} {a : Act} {w : World}
theorem y_cell {ty : TypeId} {x : Operand} {p : Addr} {v : Value} (ho : o.op = .load ty x) (hx : a.eval x = .pointer (some p)) (h1 : OneTy P ty) (hc : w.cell? p = some v) : (execOp a.eval o).run P w = .ok (.value v) w := by
 have hd := h1.1
 unfold execOp
 have hagg : (isAgg ty).run P w = .ok false w := by
  unfold isAgg
  cases hu : P.underlying ty with
  | none => simp [hu] at hd
  | some d =>
   rw [Sem.run_bind, run_underlying hu w]
   cases d <;> simp_all
 simp only [ho, hx, Instr.loadAt, Instr.sureAddr, Sem.run_bind, Sem.run_pure, Result.andThen_ok, loadVar, hagg]
 simp [run_load, hc]
theorem run_lit1 {t e : TypeId} {x : Operand} {k : IntKind} {z : Int} (ho : o.op = .buildSlice t 1 #[(0, x)]) (hx : a.eval x = .int k z) (hu : P.underlying t = some (.slice e)) (he : OneTy P e) (hz : ZeroTy P e (vals k [0])) :
  (execOp a.eval o).run P w = .ok (.value (.slice (some ⟨w.heap.size, 0, none⟩) 1 1)) (w.alloc (.cells (vals k [z]) e)) := by
 obtain ⟨zz, hz, hzc⟩ := hz
 obtain ⟨_, hi⟩ := he
 unfold execOp
 cases hq : P.info? e with
 | none => simp [hq] at hi
 | some i =>
  have hs : i.size = 1 := by simpa [hq] using hi
  have hz' : i.zero = some zz := by simpa [hq] using hz
  have hf := fill_int (k := k) (z := z) (cells := (Array.range (1 * 1)).map (zz.cells[· % zz.cells.size]!)) (off := 0) (place := fun i => some (i * 1, 1)) (i := 0) (rest := []) (by simp) (by simp)
  have hc : ((Array.range (1 * 1)).map (zz.cells[· % zz.cells.size]!)).setIfInBounds 0 (.int k z) = vals k [z] := by
   rw [show Array.range (1 * 1) = #[0] from rfl]
   generalize (fun x => zz.cells[x % zz.cells.size]!) = f
   simp [vals]
  rw [hc] at hf
  have hrun : (Instr.buildSlice t 1 #[(0, .int k z)]).run P w = .ok (.slice (some ⟨w.heap.size, 0, none⟩) 1 1) (w.alloc (.cells (vals k [z]) e)) := by
   simp only [Instr.buildSlice, Sem.run_bind, run_underlying hu w, Result.andThen_ok, sizeOf, typeInfo, run_program, hq, Sem.run_pure, hs, zeroValue, hz']
   rw [if_neg (by omega), if_neg (by omega)]
   simp only [Sem.run_bind, Sem.run_pure, Result.andThen_ok, hq, hz', hf, run_program]
   simp [Instr.fill, newRow, Sem.run_bind]
  simp only [ho, List.map_toArray, List.map_cons, List.map_nil, hx, Sem.run_bind, hrun, Sem.run_pure, Result.andThen_ok]
theorem enterC {x : Operand} {bs : Array Operand} {ts : Array TypeId} {f : FuncId} {caps args : Array Value} (ho : o.op = .call { callee := .value x, args := bs, argTypes := ts }) (hx : a.eval x = .func (.func f) #[] caps) (hargs : bs.map a.eval = args)
  (hg : (callFunc f (args ++ caps)).run P w = .ok (.enter f (args ++ caps)) w) : (execOp a.eval o).run P w = .ok (.enter f (args ++ caps)) w := by
 unfold execOp
 simp [ho, resolve, Deferred.ofValue, invoke, hx, hargs, hg]
end
theorem oneMean : OneTy Try.prog 25 := ⟨by kernel_rfl, by kernel_rfl⟩
theorem oneI8 : OneTy Try.prog 64 := ⟨by kernel_rfl, by kernel_rfl⟩
theorem zeroI8 : ZeroTy Try.prog 64 (vals .i8 [0]) := ⟨.int .i8 0, by kernel_rfl, rfl⟩
theorem infoI8 : (Try.prog.info? 64).map (fun i => (i.zero, i.size, i.bytes)) = some (some (.int .i8 0), 1, 1) := by kernel_rfl
theorem row1 {w : World} {g : Nat} {z : Int} (h : w.heap[g]? = some (.cells (vals .i8 [z]) 64 (0, 0))) : ReadsRow (fun (x : Int) cs => cs = [Value.int .i8 x]) 1 w (some ⟨g, 0, none⟩) 1 [z] := by
 refine ⟨rfl, by omega, fun _ => ⟨_, rfl, fun j y hj => ?_⟩⟩
 have hj0 : j = 0 := by
  have := (List.getElem?_eq_some_iff.1 hj).1
  simp at this; omega
 subst hj0
 cases hj
 refine ⟨_, rfl, rfl, fun i u hu => ?_⟩
 rcases i with _ | i
 ·cases hu
  exact cell1 h
 ·simp at hu
set_option maxHeartbeats 4000000 in
set_option maxRecDepth 100000 in
theorem of_calls (g : Nat) (L : List Int) (x : Int) (w : World) (h0 : w.heap[g]? = some (.cells (vals .i64 L) 50 (0, 0))) (hl : L.length = 44) (hx : NumH x) (hx1 : x ≠ -10) :
  Calls Try.prog 42 #[.pointer (some ⟨g, 0, none⟩), .int .i8 x] w fun e w' => e = .returned (.int .i64 (rd L (slot x : Nat))) ∧ w' = w := by
 have hm := Mem.given h0
 have hv := hm.get (n := 0) rfl (slot x) (by have := slot_lt hx hx1; omega)
 clear h0
 by_cases hx0 : 0 ≤ x
 ·have hx9 : x < 40 := by rcases hx with h | h | h <;> omega
  rw [slot_flag hx0] at hv ⊢
  generalize rd L (x.toNat : Nat) = y at *
  clear hx hx1
  go_enter Try.func42, Try.ntmps42
  go_wp2
  go_ret
  exact ⟨rfl, rfl⟩
 ·have hx9 : x = -4 ∨ x = -3 ∨ x = -2 ∨ x = -1 := by rcases hx with h | h | h <;> omega
  generalize rd L (slot x : Nat) = y at *
  clear hx hx0 hx1
  have k0 : IntKind.i8.wrap 0 = 0 := rfl
  have k1 : IntKind.i8.wrap 1 = 1 := rfl
  have k2 : IntKind.i8.wrap 2 = 2 := rfl
  have k3 : IntKind.i8.wrap 3 = 3 := rfl
  have k4 : IntKind.i8.wrap 4 = 4 := rfl
  rcases hx9 with rfl | rfl | rfl | rfl
  all_goals
   simp [slot] at hv
   go_enter Try.func42, Try.ntmps42
   go_wp2
   go_ret
   exact ⟨rfl, rfl⟩
set_option maxHeartbeats 1000000 in
set_option maxRecDepth 100000 in
theorem cloneH_calls (A0 : Option Addr) (c0 : Nat) (l0 : List Int) (w : World) (hr0 : Kd.C (Kd.int .i8) w A0 l0.length l0) (hc0 : l0.length ≤ c0) (hl : l0.length < 140737488355328) :
  Calls Try.prog 41 #[.slice A0 l0.length c0] w fun e w' => ∃ v0 : Value, e = .returned v0 ∧ Own w.heap.size w' v0 l0 ∧ Below w.heap.size w w' := by
 have HR0 := Aside0.mk hr0
 have hm := Kd.C_max hr0
 have HL := Aside0.mk hl
 clear hr0 hl
 have heq := fun (W : World) (n c : Nat) => Lib.run_eql_slice_nil (P := Try.prog) W 28 64 A0 n c 0 0 Try.underlying28
 cases A0 with
 | none =>
  have h0 : l0 = [] := by
   rcases Nat.eq_zero_or_pos l0.length with h | h
   ·exact List.eq_nil_of_length_eq_zero h
   ·obtain ⟨ad, e, _⟩ := HR0.out.2.2 h; cases e
  go_enter Try.func41, Try.ntmps41
  go_wp2_with fail
  go_ret
  exact ⟨_, rfl, by rw [h0]; exact Kd.R_nil _ _ _ _ _, Below.refl _ _⟩
 | some ad =>
  go_enter Try.func41, Try.ntmps41
  go_wp2_with (first
   | ((with_reducible refine gate_dst (N := 5) rfl ?_); refine Kd.R_lit (Kd.int .i8) _ 64 ?hg (N := 5) ?hd (xs := ([] : List Int)) (inner := []) (ok := fun _ => True) (okp := fun _ => True) ?hr ?hp (fun _ hk => hk) trivial (Below.refl _ _) (Nat.le_refl _) (by simp) ?_; (case hd => rfl); (case hg => rfl); (case hr => first | (go_simp; done) | (go_simp; rfl)); (case hp => exact (Reps.none _ _)); intro v1 w1 ho hb _ _; have HO := Aside0.mk ho; have HB := Aside0.mk hb; clear ho hb)
   | ((with_reducible refine gate_builtin (b := .append) (xs := #[.tmp 5, .tmp 6]) rfl ?_); at_builtin; refine Kd.R_append_rows (Kd.int .i8) (w0 := w) w.heap.size rfl (.tmp 5) (.tmp 6) 28 64 (.int .i8 0) 1 rfl Try.underlying28 infoI8 rfl (by decide) (by omega) v1 [] l0 _ _ _ (fun _ => True) (fun _ => False) rfl rfl ?aO ?aR (fun _ _ h => h) (fun _ h => h.elim) (fun _ _ => trivial) ?aB ?aS ?aL ?_; (case aR => exact Kd.C_below HR0.out HB.out); (case aB => exact HB.out); (case aO => exact HO.out); (case aS => exact HB.out.size); (case aL => have := HL.out; simp; omega); intro v2 w2 ho hb _ _; have HO2 := Aside0.mk ho; have HB2 := Aside0.mk hb; clear ho hb))
  go_ret
  exact ⟨_, rfl, HO2.out, HB2.out⟩
end Go.Proofs.Ytfdjgomocbniaaa.Arr
namespace Go.Proofs.Ytfdjgomocbniaaa.Arr
open Go.RowKit Go.Proofs.YtfdjgomocbniaaaW.PrintWords Go.Proofs.Ytfdjgomocbniaaa.U
set_option linter.unusedVariables false
set_option linter.unusedSimpArgs false
section
variable {P : Program} (w : World)
theorem run_partA {t : TypeId} {k : IntKind} {L : List Int} {i m : Nat} (h1 : AggTy P t m) : (part t (vals k L) i).run P w = .ok (.agg (vals k ((L.drop i).take m))) w := by
 obtain ⟨hd, hi⟩ := h1
 have hagg : (isAgg t).run P w = .ok true w := by
  unfold isAgg
  cases hu : P.underlying t with
  | none => simp [hu] at hd
  | some d =>
   rw [Sem.run_bind, run_underlying hu w]
   cases d <;> simp_all
 have hsz : (sizeOf t).run P w = .ok m w := by
  cases hq : P.info? t with
  | none => simp [hq] at hi
  | some i => simp [sizeOf, typeInfo, hq, Sem.run_bind]; simpa [hq] using hi
 simp [part, Sem.run_bind, hagg, hsz, vals_extract, List.drop_take]
end
end Go.Proofs.Ytfdjgomocbniaaa.Arr
namespace Go.Proofs.Ytfdjgomocbniaaa.Arr
open Go.RowKit Go.Proofs.Ytfdjgomocbniaaa.U Go.Proofs.YtfdjgomocbniaaaW.PrintWords
set_option linter.unusedVariables false
set_option linter.unusedSimpArgs false
def PartTy (P : Program) (t : TypeId) (f off m : Nat) : Prop := ∃ (fs : Array Field) (fd : Field), P.underlying t = some (.struct fs) ∧ fs[f]? = some fd ∧ fd.offset = off ∧ AggTy P fd.type m
section
variable {P : Program} {ops : Array Oper} {rest : List Oper} {o : Oper} {a : Act} {w : World} {Q : Exit → Act → World → Prop} {dst : Option Tmp} {x : Operand} {tt : TypeId} {pos : String} {after : Array Edge} {g : Option (Nat × Bool)}
theorem st_fieldv (hgd : o.guard = none) (ty : TypeId) (x : Operand) (f : Nat) (ho : o.op = .field ty x f) {k : IntKind} {L S : List Int} {off m : Nat} (hx : a.eval x = .agg (vals k L)) (hf : PartTy P ty f off m) (hS : (L.drop off).take m = S)
  (h : wpList P ops Q rest (a.put o.dst (.agg (vals k S))) w) : wpList P ops Q (o :: rest) a w := by
 obtain ⟨fs, fd, hu, hfd, ho2, ha⟩ := hf
 subst ho2
 subst hS
 refine wpList_plain hgd fun K hK => ?_
 unfold Oper.wp execOp
 simp only [ho, hx, Instr.field, asAgg, Sem.run_bind, Sem.run_pure, Result.andThen_ok, run_underlying hu w, hfd, run_partA w ha]
 exact hK _ _ h
theorem gt_fieldv (ty f : Nat) (h : wpList P ops Q (⟨dst, .field ty x f, tt, pos, after, g⟩ :: rest) a w) : wpList P ops Q (⟨dst, .field ty x f, tt, pos, after, g⟩ :: rest) a w := h
end
theorem partP1 : PartTy Try.prog 50 1 40 4 := ⟨_, _, Try.underlying50, rfl, rfl, agg48⟩
end Go.Proofs.Ytfdjgomocbniaaa.Arr
namespace Go.Proofs.Ytfdjgomocbniaaa.Arr
open Go.RowKit Go.Proofs.Ytfdjgomocbniaaa.K Go.Proofs.Ytfdjgomocbniaaa.U Go.Proofs.YtfdjgomocbniaaaW.PrintLast Go.Proofs.YtfdjgomocbniaaaW.PrintMore Go.Proofs.YtfdjgomocbniaaaW.PrintWords
set_option linter.unusedVariables false
set_option linter.unusedSimpArgs false
def mx (a b : Int) : Int := if b < a then a else b
def mxs (a : Int) (S : List Int) : Nat → Int
 | 0 => a
 | i + 1 => mx (mxs a S i) (rd S (i : Int))
theorem mx_alt (m y : Int) : (if m < y then y else m) = mx m y := by unfold mx; split <;> split <;> omega
theorem mx_assoc (a b c : Int) : mx (mx a b) c = mx a (mx b c) := by unfold mx; repeat' split <;> omega
theorem mxs_ge (a : Int) (S : List Int) : ∀ n, a ≤ mxs a S n
 | 0 => by simp [mxs]
 | n + 1 => by have := mxs_ge a S n; unfold mxs mx; split <;> omega
def top (S : List Int) (n : Nat) : Int := mxs (rd S ((0 : Nat) : Int)) S n
theorem mxs_top (a : Int) (S : List Int) : ∀ n, 0 < n → mxs a S n = mx a (top S n)
 | n + 1, _ => by
  rcases Nat.eq_zero_or_pos n with h | h
  ·subst h
   unfold top mxs mxs mx
   repeat' split
   all_goals omega
  ·show mx (mxs a S n) _ = mx a (mx (mxs _ S n) _)
   rw [mxs_top a S n h, mx_assoc]; rfl
theorem top_one (S : List Int) : top S 1 = rd S ((0 : Nat) : Int) := by unfold top mxs mxs mx; split <;> rfl
def setsH (h : List Int) : Int := mx (top ((pile (zs 44) h 1 h.length).take 40) 40) (top ((pile (zs 44) h 1 h.length).drop 40) 4)
theorem setsH_eq (h : List Int) : setsH h = mxs (mxs 0 ((pile (zs 44) h 1 h.length).take 40) 40) ((pile (zs 44) h 1 h.length).drop 40) 4 := by
 unfold setsH
 rw [mxs_top _ _ 4 (by omega), mxs_top 0 _ 40 (by omega)]
 have h0 : 0 ≤ top ((pile (zs 44) h 1 h.length).take 40) 40 := by
  have h1 := mxs_ge (rd ((pile (zs 44) h 1 h.length).take 40) ((0 : Nat) : Int)) ((pile (zs 44) h 1 h.length).take 40) 40
  have h2 := pile_small h h.length 0 (by omega)
  rw [rd_take _ 0 40 (by omega) (by rw [pile_length, zs_length]; omega)] at h1
  unfold top
  rw [rd_take _ 0 40 (by omega) (by rw [pile_length, zs_length]; omega)]
  omega
 have : mx 0 (top ((pile (zs 44) h 1 h.length).take 40) 40) = top ((pile (zs 44) h 1 h.length).take 40) 40 := by unfold mx; split <;> omega
 rw [this]
theorem l00Max_calls (a b : Int) (w : World) : Calls Try.prog 54 #[.int .i64 a, .int .i64 b] w fun e w' => e = .returned (.int .i64 (mx a b)) ∧ Below w.heap.size w w' := by
 refine (spec_l00Max.calls a b (mx a b) w ?_).mono fun e w' ⟨h1, h2⟩ => ⟨h1, h2.below⟩
 unfold spec_l00Max.f mx
 split <;> rfl
set_option maxHeartbeats 4000000 in
set_option maxRecDepth 100000 in
theorem max_calls (ad : Addr) (n c : Nat) (S : List Int) (w : World) (h0 : 0 < n) (hn : n ≤ 1000) (hc : ∀ j : Nat, j < n → w.cell? (ad.add j) = some (.int .i64 (rd S (j : Int)))) :
  Calls Try.prog 29 #[.slice (some ad) n c] w fun e w' => e = .returned (.int .i64 (top S n)) ∧ w' = w := by
 have HC := Aside0.mk hc
 have hc0 := hc 0 h0
 rw [show ad.add 0 = ad by unfold Addr.add; simp] at hc0
 have hn1 : ¬ ((n : Int) < 1) := by omega
 clear hc
 have H1 := Aside0.mk (top_one S)
 generalize hx : rd S ((0 : Nat) : Int) = x at *
 go_enter Try.func29, Try.ntmps29
 go_wp2
 go_loopw [3, 4] (fun v3 v4 wr => ∃ i : Nat, 1 ≤ i ∧ i ≤ n ∧ v4 = .int .i64 i ∧ v3 = .int .i64 (top S i) ∧ wr = w) (fun _ v4 _ => n - (intOf v4).toNat)
 case atStart => exact ⟨1, by omega, by omega, rfl, by rw [H1.out], rfl⟩
 case round =>
  obtain ⟨i, h1, hi, rfl, rfl, rfl⟩ := hrel
  by_cases hlt : i < n
  ·have hc1 := HC.out i hlt
   have HT : Aside0 (top S (i + 1) = mx (top S i) (rd S (i : Int))) := ⟨rfl⟩
   generalize rd S (i : Int) = y at *
   generalize top S i = m at *
   go_wp2
   refine ⟨⟨i + 1, by omega, by omega, by go_num, by rw [HT.out, mx_alt], trivial⟩, ?_⟩
   simp [intOf]; omega
  ·have HI := Aside0.mk (show i = n by omega)
   go_wp2
   go_ret
   exact ⟨by rw [← HI.out]; rfl, rfl⟩
set_option maxHeartbeats 4000000 in
set_option maxRecDepth 100000 in
theorem l02Sets_calls (A0 : Option Addr) (c0 : Nat) (h : List Int) (w : World) (hr : Kd.C (Kd.int .i8) w A0 h.length h) (hc : h.length ≤ c0) (hh : ∀ x ∈ h, NumH x) (hn : h.length ≤ 1000) :
  Calls Try.prog 50 #[.slice A0 h.length c0] w fun e w' => e = .returned (.int .i64 (setsH h)) ∧ Below w.heap.size w w' := by
 have hm := Mem.start w
 have HR := Aside0.mk hr
 have HF := Aside0.mk (fun W hr => l02Flags_calls A0 c0 h W hr hc hh hn)
 have HS := Aside0.mk (fun W hr => l02Subs_calls A0 c0 h W hr hc hh hn)
 have hF : ((pile (zs 44) h 1 h.length).take 40).length = 40 := by rw [List.length_take, pile_length, zs_length]; rfl
 have hS : ((pile (zs 44) h 1 h.length).drop 40).length = 4 := by rw [List.length_drop, pile_length, zs_length]
 rw [setsH_eq h]
 clear hr hh
 generalize (pile (zs 44) h 1 h.length).take 40 = F at *
 generalize (pile (zs 44) h 1 h.length).drop 40 = S at *
 go_enter Try.func50, Try.ntmps50
 go_wp2_with (first
  | (first | fail | ((with_reducible refine gt_alloc 4 88 ?_); refine st_alloc rfl 4 rfl 88 rfl hm zero88 ?_; clear hm; intro g4 w4 hm) | ((with_reducible refine gt_store 88 ?_); (first | (refine st_full rfl 88 _ _ rfl hm rfl rfl 0 rfl agg88 (by first | omega | assumption | (simp only [lens]; first | omega | assumption) | (simp [lens]; done) | (simp [lens]; omega)) (by first | omega | assumption | (simp only [lens]; first | omega | assumption) | (simp [lens]; done) | (simp [lens]; omega)) ?_) | (refine st_full rfl 88 _ _ rfl hm rfl rfl 1 rfl agg88 (by first | omega | assumption | (simp only [lens]; first | omega | assumption) | (simp [lens]; done) | (simp [lens]; omega)) (by first | omega | assumption | (simp only [lens]; first | omega | assumption) | (simp [lens]; done) | (simp [lens]; omega)) ?_) | (refine st_full rfl 88 _ _ rfl hm rfl rfl 2 rfl agg88 (by first | omega | assumption | (simp only [lens]; first | omega | assumption) | (simp [lens]; done) | (simp [lens]; omega)) (by first | omega | assumption | (simp only [lens]; first | omega | assumption) | (simp [lens]; done) | (simp [lens]; omega)) ?_) | (refine st_full rfl 88 _ _ rfl hm rfl rfl 3 rfl agg88 (by first | omega | assumption | (simp only [lens]; first | omega | assumption) | (simp [lens]; done) | (simp [lens]; omega)) (by first | omega | assumption | (simp only [lens]; first | omega | assumption) | (simp [lens]; done) | (simp [lens]; omega)) ?_) | (refine st_put rfl 88 _ _ rfl hm rfl rfl 0 rfl agg88 (by first | omega | assumption | (simp only [lens]; first | omega | assumption) | (simp [lens]; done) | (simp [lens]; omega)) (by first | omega | assumption | (simp only [lens]; first | omega | assumption) | (simp [lens]; done) | (simp [lens]; omega)) ?_) | (refine st_put rfl 88 _ _ rfl hm rfl rfl 1 rfl agg88 (by first | omega | assumption | (simp only [lens]; first | omega | assumption) | (simp [lens]; done) | (simp [lens]; omega)) (by first | omega | assumption | (simp only [lens]; first | omega | assumption) | (simp [lens]; done) | (simp [lens]; omega)) ?_) | (refine st_put rfl 88 _ _ rfl hm rfl rfl 2 rfl agg88 (by first | omega | assumption | (simp only [lens]; first | omega | assumption) | (simp [lens]; done) | (simp [lens]; omega)) (by first | omega | assumption | (simp only [lens]; first | omega | assumption) | (simp [lens]; done) | (simp [lens]; omega)) ?_) | (refine st_put rfl 88 _ _ rfl hm rfl rfl 3 rfl agg88 (by first | omega | assumption | (simp only [lens]; first | omega | assumption) | (simp [lens]; done) | (simp [lens]; omega)) (by first | omega | assumption | (simp only [lens]; first | omega | assumption) | (simp [lens]; done) | (simp [lens]; omega)) ?_)); clear hm; intro ws hm; simp only [List.set_cons_zero, List.set_cons_succ] at hm) | ((with_reducible refine gt_elem 88 ?_); refine st_elem rfl 88 _ _ rfl rfl rfl arr88 (by first | omega | assumption | (simp only [lens]; first | omega | assumption) | (simp [lens]; done) | (simp [lens]; omega)) (by first | omega | assumption | (simp only [lens]; first | omega | assumption) | (simp [lens]; done) | (simp [lens]; omega)) ?_) | ((with_reducible refine gt_load 2 ?_); (first | (refine st_get rfl 2 _ rfl hm rfl 0 rfl one2 (by first | omega | assumption | (simp only [lens]; first | omega | assumption) | (simp [lens]; done) | (simp [lens]; omega)) ?_) | (refine st_get rfl 2 _ rfl hm rfl 1 rfl one2 (by first | omega | assumption | (simp only [lens]; first | omega | assumption) | (simp [lens]; done) | (simp [lens]; omega)) ?_) | (refine st_get rfl 2 _ rfl hm rfl 2 rfl one2 (by first | omega | assumption | (simp only [lens]; first | omega | assumption) | (simp [lens]; done) | (simp [lens]; omega)) ?_) | (refine st_get rfl 2 _ rfl hm rfl 3 rfl one2 (by first | omega | assumption | (simp only [lens]; first | omega | assumption) | (simp [lens]; done) | (simp [lens]; omega)) ?_))) | ((with_reducible refine gt_alloc 6 38 ?_); refine st_alloc rfl 6 rfl 38 rfl hm zero38 ?_; clear hm; intro g6 w6 hm) | ((with_reducible refine gt_store 38 ?_); (first | (refine st_full rfl 38 _ _ rfl hm rfl rfl 0 rfl agg38 (by first | omega | assumption | (simp only [lens]; first | omega | assumption) | (simp [lens]; done) | (simp [lens]; omega)) (by first | omega | assumption | (simp only [lens]; first | omega | assumption) | (simp [lens]; done) | (simp [lens]; omega)) ?_) | (refine st_full rfl 38 _ _ rfl hm rfl rfl 1 rfl agg38 (by first | omega | assumption | (simp only [lens]; first | omega | assumption) | (simp [lens]; done) | (simp [lens]; omega)) (by first | omega | assumption | (simp only [lens]; first | omega | assumption) | (simp [lens]; done) | (simp [lens]; omega)) ?_) | (refine st_full rfl 38 _ _ rfl hm rfl rfl 2 rfl agg38 (by first | omega | assumption | (simp only [lens]; first | omega | assumption) | (simp [lens]; done) | (simp [lens]; omega)) (by first | omega | assumption | (simp only [lens]; first | omega | assumption) | (simp [lens]; done) | (simp [lens]; omega)) ?_) | (refine st_full rfl 38 _ _ rfl hm rfl rfl 3 rfl agg38 (by first | omega | assumption | (simp only [lens]; first | omega | assumption) | (simp [lens]; done) | (simp [lens]; omega)) (by first | omega | assumption | (simp only [lens]; first | omega | assumption) | (simp [lens]; done) | (simp [lens]; omega)) ?_) | (refine st_put rfl 38 _ _ rfl hm rfl rfl 0 rfl agg38 (by first | omega | assumption | (simp only [lens]; first | omega | assumption) | (simp [lens]; done) | (simp [lens]; omega)) (by first | omega | assumption | (simp only [lens]; first | omega | assumption) | (simp [lens]; done) | (simp [lens]; omega)) ?_) | (refine st_put rfl 38 _ _ rfl hm rfl rfl 1 rfl agg38 (by first | omega | assumption | (simp only [lens]; first | omega | assumption) | (simp [lens]; done) | (simp [lens]; omega)) (by first | omega | assumption | (simp only [lens]; first | omega | assumption) | (simp [lens]; done) | (simp [lens]; omega)) ?_) | (refine st_put rfl 38 _ _ rfl hm rfl rfl 2 rfl agg38 (by first | omega | assumption | (simp only [lens]; first | omega | assumption) | (simp [lens]; done) | (simp [lens]; omega)) (by first | omega | assumption | (simp only [lens]; first | omega | assumption) | (simp [lens]; done) | (simp [lens]; omega)) ?_) | (refine st_put rfl 38 _ _ rfl hm rfl rfl 3 rfl agg38 (by first | omega | assumption | (simp only [lens]; first | omega | assumption) | (simp [lens]; done) | (simp [lens]; omega)) (by first | omega | assumption | (simp only [lens]; first | omega | assumption) | (simp [lens]; done) | (simp [lens]; omega)) ?_)); clear hm; intro ws hm; simp only [List.set_cons_zero, List.set_cons_succ] at hm) | ((with_reducible refine gt_elem 38 ?_); refine st_elem rfl 38 _ _ rfl rfl rfl arr38 (by first | omega | assumption | (simp only [lens]; first | omega | assumption) | (simp [lens]; done) | (simp [lens]; omega)) (by first | omega | assumption | (simp only [lens]; first | omega | assumption) | (simp [lens]; done) | (simp [lens]; omega)) ?_))
  | (go_at_call 53; refine (HF.out _ (Kd.C_below HR.out (hm.done rfl))).mono ?_; rintro e wa ⟨rfl, hb⟩; replace hm := hm.after hb; clear hb))
 go_loopw [3, 5] (fun v3 v5 wr => ∃ i : Nat, i ≤ 40 ∧ v5 = .int .i64 i ∧ v3 = .int .i64 (mxs 0 F i) ∧ Mem w wr [⟨g4, vals .i64 F, 88, true⟩]) (fun _ v5 _ => 40 - (intOf v5).toNat)
 case atStart => exact ⟨0, by omega, rfl, rfl, hm⟩
 case round =>
  obtain ⟨i, hi, rfl, rfl, hm⟩ := hrel
  by_cases hlt : i < 40
  ·have HT : Aside0 (mxs 0 F (i + 1) = mx (mxs 0 F i) (rd F (i : Int))) := ⟨rfl⟩
   generalize mxs 0 F i = m at *
   go_wp2_with (first
    | (first | fail | ((with_reducible refine gt_alloc 4 88 ?_); refine st_alloc rfl 4 rfl 88 rfl hm zero88 ?_; clear hm; intro g4 w4 hm) | ((with_reducible refine gt_store 88 ?_); (first | (refine st_full rfl 88 _ _ rfl hm rfl rfl 0 rfl agg88 (by first | omega | assumption | (simp only [lens]; first | omega | assumption) | (simp [lens]; done) | (simp [lens]; omega)) (by first | omega | assumption | (simp only [lens]; first | omega | assumption) | (simp [lens]; done) | (simp [lens]; omega)) ?_) | (refine st_full rfl 88 _ _ rfl hm rfl rfl 1 rfl agg88 (by first | omega | assumption | (simp only [lens]; first | omega | assumption) | (simp [lens]; done) | (simp [lens]; omega)) (by first | omega | assumption | (simp only [lens]; first | omega | assumption) | (simp [lens]; done) | (simp [lens]; omega)) ?_) | (refine st_full rfl 88 _ _ rfl hm rfl rfl 2 rfl agg88 (by first | omega | assumption | (simp only [lens]; first | omega | assumption) | (simp [lens]; done) | (simp [lens]; omega)) (by first | omega | assumption | (simp only [lens]; first | omega | assumption) | (simp [lens]; done) | (simp [lens]; omega)) ?_) | (refine st_full rfl 88 _ _ rfl hm rfl rfl 3 rfl agg88 (by first | omega | assumption | (simp only [lens]; first | omega | assumption) | (simp [lens]; done) | (simp [lens]; omega)) (by first | omega | assumption | (simp only [lens]; first | omega | assumption) | (simp [lens]; done) | (simp [lens]; omega)) ?_) | (refine st_put rfl 88 _ _ rfl hm rfl rfl 0 rfl agg88 (by first | omega | assumption | (simp only [lens]; first | omega | assumption) | (simp [lens]; done) | (simp [lens]; omega)) (by first | omega | assumption | (simp only [lens]; first | omega | assumption) | (simp [lens]; done) | (simp [lens]; omega)) ?_) | (refine st_put rfl 88 _ _ rfl hm rfl rfl 1 rfl agg88 (by first | omega | assumption | (simp only [lens]; first | omega | assumption) | (simp [lens]; done) | (simp [lens]; omega)) (by first | omega | assumption | (simp only [lens]; first | omega | assumption) | (simp [lens]; done) | (simp [lens]; omega)) ?_) | (refine st_put rfl 88 _ _ rfl hm rfl rfl 2 rfl agg88 (by first | omega | assumption | (simp only [lens]; first | omega | assumption) | (simp [lens]; done) | (simp [lens]; omega)) (by first | omega | assumption | (simp only [lens]; first | omega | assumption) | (simp [lens]; done) | (simp [lens]; omega)) ?_) | (refine st_put rfl 88 _ _ rfl hm rfl rfl 3 rfl agg88 (by first | omega | assumption | (simp only [lens]; first | omega | assumption) | (simp [lens]; done) | (simp [lens]; omega)) (by first | omega | assumption | (simp only [lens]; first | omega | assumption) | (simp [lens]; done) | (simp [lens]; omega)) ?_)); clear hm; intro ws hm; simp only [List.set_cons_zero, List.set_cons_succ] at hm) | ((with_reducible refine gt_elem 88 ?_); refine st_elem rfl 88 _ _ rfl rfl rfl arr88 (by first | omega | assumption | (simp only [lens]; first | omega | assumption) | (simp [lens]; done) | (simp [lens]; omega)) (by first | omega | assumption | (simp only [lens]; first | omega | assumption) | (simp [lens]; done) | (simp [lens]; omega)) ?_) | ((with_reducible refine gt_load 2 ?_); (first | (refine st_get rfl 2 _ rfl hm rfl 0 rfl one2 (by first | omega | assumption | (simp only [lens]; first | omega | assumption) | (simp [lens]; done) | (simp [lens]; omega)) ?_) | (refine st_get rfl 2 _ rfl hm rfl 1 rfl one2 (by first | omega | assumption | (simp only [lens]; first | omega | assumption) | (simp [lens]; done) | (simp [lens]; omega)) ?_) | (refine st_get rfl 2 _ rfl hm rfl 2 rfl one2 (by first | omega | assumption | (simp only [lens]; first | omega | assumption) | (simp [lens]; done) | (simp [lens]; omega)) ?_) | (refine st_get rfl 2 _ rfl hm rfl 3 rfl one2 (by first | omega | assumption | (simp only [lens]; first | omega | assumption) | (simp [lens]; done) | (simp [lens]; omega)) ?_))) | ((with_reducible refine gt_alloc 6 38 ?_); refine st_alloc rfl 6 rfl 38 rfl hm zero38 ?_; clear hm; intro g6 w6 hm) | ((with_reducible refine gt_store 38 ?_); (first | (refine st_full rfl 38 _ _ rfl hm rfl rfl 0 rfl agg38 (by first | omega | assumption | (simp only [lens]; first | omega | assumption) | (simp [lens]; done) | (simp [lens]; omega)) (by first | omega | assumption | (simp only [lens]; first | omega | assumption) | (simp [lens]; done) | (simp [lens]; omega)) ?_) | (refine st_full rfl 38 _ _ rfl hm rfl rfl 1 rfl agg38 (by first | omega | assumption | (simp only [lens]; first | omega | assumption) | (simp [lens]; done) | (simp [lens]; omega)) (by first | omega | assumption | (simp only [lens]; first | omega | assumption) | (simp [lens]; done) | (simp [lens]; omega)) ?_) | (refine st_full rfl 38 _ _ rfl hm rfl rfl 2 rfl agg38 (by first | omega | assumption | (simp only [lens]; first | omega | assumption) | (simp [lens]; done) | (simp [lens]; omega)) (by first | omega | assumption | (simp only [lens]; first | omega | assumption) | (simp [lens]; done) | (simp [lens]; omega)) ?_) | (refine st_full rfl 38 _ _ rfl hm rfl rfl 3 rfl agg38 (by first | omega | assumption | (simp only [lens]; first | omega | assumption) | (simp [lens]; done) | (simp [lens]; omega)) (by first | omega | assumption | (simp only [lens]; first | omega | assumption) | (simp [lens]; done) | (simp [lens]; omega)) ?_) | (refine st_put rfl 38 _ _ rfl hm rfl rfl 0 rfl agg38 (by first | omega | assumption | (simp only [lens]; first | omega | assumption) | (simp [lens]; done) | (simp [lens]; omega)) (by first | omega | assumption | (simp only [lens]; first | omega | assumption) | (simp [lens]; done) | (simp [lens]; omega)) ?_) | (refine st_put rfl 38 _ _ rfl hm rfl rfl 1 rfl agg38 (by first | omega | assumption | (simp only [lens]; first | omega | assumption) | (simp [lens]; done) | (simp [lens]; omega)) (by first | omega | assumption | (simp only [lens]; first | omega | assumption) | (simp [lens]; done) | (simp [lens]; omega)) ?_) | (refine st_put rfl 38 _ _ rfl hm rfl rfl 2 rfl agg38 (by first | omega | assumption | (simp only [lens]; first | omega | assumption) | (simp [lens]; done) | (simp [lens]; omega)) (by first | omega | assumption | (simp only [lens]; first | omega | assumption) | (simp [lens]; done) | (simp [lens]; omega)) ?_) | (refine st_put rfl 38 _ _ rfl hm rfl rfl 3 rfl agg38 (by first | omega | assumption | (simp only [lens]; first | omega | assumption) | (simp [lens]; done) | (simp [lens]; omega)) (by first | omega | assumption | (simp only [lens]; first | omega | assumption) | (simp [lens]; done) | (simp [lens]; omega)) ?_)); clear hm; intro ws hm; simp only [List.set_cons_zero, List.set_cons_succ] at hm) | ((with_reducible refine gt_elem 38 ?_); refine st_elem rfl 38 _ _ rfl rfl rfl arr38 (by first | omega | assumption | (simp only [lens]; first | omega | assumption) | (simp [lens]; done) | (simp [lens]; omega)) (by first | omega | assumption | (simp only [lens]; first | omega | assumption) | (simp [lens]; done) | (simp [lens]; omega)) ?_))
    | (go_at_call 54; refine (l00Max_calls m (rd F (i : Int)) _).mono ?_; rintro e wa ⟨rfl, hb⟩; replace hm := hm.after hb; clear hb))
   go_roundw
   case rel => exact ⟨i + 1, by omega, by go_num, by rw [HT.out], hm⟩
   case measure => simp [intOf]; omega
  ·have HI := Aside0.mk (show i = 40 by omega)
   generalize hm1 : mxs 0 F i = m at *
   have HM := Aside0.mk hm1
   clear hm1
   go_wp2_with (first
    | (first | fail | ((with_reducible refine gt_alloc 4 88 ?_); refine st_alloc rfl 4 rfl 88 rfl hm zero88 ?_; clear hm; intro g4 w4 hm) | ((with_reducible refine gt_store 88 ?_); (first | (refine st_full rfl 88 _ _ rfl hm rfl rfl 0 rfl agg88 (by first | omega | assumption | (simp only [lens]; first | omega | assumption) | (simp [lens]; done) | (simp [lens]; omega)) (by first | omega | assumption | (simp only [lens]; first | omega | assumption) | (simp [lens]; done) | (simp [lens]; omega)) ?_) | (refine st_full rfl 88 _ _ rfl hm rfl rfl 1 rfl agg88 (by first | omega | assumption | (simp only [lens]; first | omega | assumption) | (simp [lens]; done) | (simp [lens]; omega)) (by first | omega | assumption | (simp only [lens]; first | omega | assumption) | (simp [lens]; done) | (simp [lens]; omega)) ?_) | (refine st_full rfl 88 _ _ rfl hm rfl rfl 2 rfl agg88 (by first | omega | assumption | (simp only [lens]; first | omega | assumption) | (simp [lens]; done) | (simp [lens]; omega)) (by first | omega | assumption | (simp only [lens]; first | omega | assumption) | (simp [lens]; done) | (simp [lens]; omega)) ?_) | (refine st_full rfl 88 _ _ rfl hm rfl rfl 3 rfl agg88 (by first | omega | assumption | (simp only [lens]; first | omega | assumption) | (simp [lens]; done) | (simp [lens]; omega)) (by first | omega | assumption | (simp only [lens]; first | omega | assumption) | (simp [lens]; done) | (simp [lens]; omega)) ?_) | (refine st_put rfl 88 _ _ rfl hm rfl rfl 0 rfl agg88 (by first | omega | assumption | (simp only [lens]; first | omega | assumption) | (simp [lens]; done) | (simp [lens]; omega)) (by first | omega | assumption | (simp only [lens]; first | omega | assumption) | (simp [lens]; done) | (simp [lens]; omega)) ?_) | (refine st_put rfl 88 _ _ rfl hm rfl rfl 1 rfl agg88 (by first | omega | assumption | (simp only [lens]; first | omega | assumption) | (simp [lens]; done) | (simp [lens]; omega)) (by first | omega | assumption | (simp only [lens]; first | omega | assumption) | (simp [lens]; done) | (simp [lens]; omega)) ?_) | (refine st_put rfl 88 _ _ rfl hm rfl rfl 2 rfl agg88 (by first | omega | assumption | (simp only [lens]; first | omega | assumption) | (simp [lens]; done) | (simp [lens]; omega)) (by first | omega | assumption | (simp only [lens]; first | omega | assumption) | (simp [lens]; done) | (simp [lens]; omega)) ?_) | (refine st_put rfl 88 _ _ rfl hm rfl rfl 3 rfl agg88 (by first | omega | assumption | (simp only [lens]; first | omega | assumption) | (simp [lens]; done) | (simp [lens]; omega)) (by first | omega | assumption | (simp only [lens]; first | omega | assumption) | (simp [lens]; done) | (simp [lens]; omega)) ?_)); clear hm; intro ws hm; simp only [List.set_cons_zero, List.set_cons_succ] at hm) | ((with_reducible refine gt_elem 88 ?_); refine st_elem rfl 88 _ _ rfl rfl rfl arr88 (by first | omega | assumption | (simp only [lens]; first | omega | assumption) | (simp [lens]; done) | (simp [lens]; omega)) (by first | omega | assumption | (simp only [lens]; first | omega | assumption) | (simp [lens]; done) | (simp [lens]; omega)) ?_) | ((with_reducible refine gt_load 2 ?_); (first | (refine st_get rfl 2 _ rfl hm rfl 0 rfl one2 (by first | omega | assumption | (simp only [lens]; first | omega | assumption) | (simp [lens]; done) | (simp [lens]; omega)) ?_) | (refine st_get rfl 2 _ rfl hm rfl 1 rfl one2 (by first | omega | assumption | (simp only [lens]; first | omega | assumption) | (simp [lens]; done) | (simp [lens]; omega)) ?_) | (refine st_get rfl 2 _ rfl hm rfl 2 rfl one2 (by first | omega | assumption | (simp only [lens]; first | omega | assumption) | (simp [lens]; done) | (simp [lens]; omega)) ?_) | (refine st_get rfl 2 _ rfl hm rfl 3 rfl one2 (by first | omega | assumption | (simp only [lens]; first | omega | assumption) | (simp [lens]; done) | (simp [lens]; omega)) ?_))) | ((with_reducible refine gt_alloc 6 38 ?_); refine st_alloc rfl 6 rfl 38 rfl hm zero38 ?_; clear hm; intro g6 w6 hm) | ((with_reducible refine gt_store 38 ?_); (first | (refine st_full rfl 38 _ _ rfl hm rfl rfl 0 rfl agg38 (by first | omega | assumption | (simp only [lens]; first | omega | assumption) | (simp [lens]; done) | (simp [lens]; omega)) (by first | omega | assumption | (simp only [lens]; first | omega | assumption) | (simp [lens]; done) | (simp [lens]; omega)) ?_) | (refine st_full rfl 38 _ _ rfl hm rfl rfl 1 rfl agg38 (by first | omega | assumption | (simp only [lens]; first | omega | assumption) | (simp [lens]; done) | (simp [lens]; omega)) (by first | omega | assumption | (simp only [lens]; first | omega | assumption) | (simp [lens]; done) | (simp [lens]; omega)) ?_) | (refine st_full rfl 38 _ _ rfl hm rfl rfl 2 rfl agg38 (by first | omega | assumption | (simp only [lens]; first | omega | assumption) | (simp [lens]; done) | (simp [lens]; omega)) (by first | omega | assumption | (simp only [lens]; first | omega | assumption) | (simp [lens]; done) | (simp [lens]; omega)) ?_) | (refine st_full rfl 38 _ _ rfl hm rfl rfl 3 rfl agg38 (by first | omega | assumption | (simp only [lens]; first | omega | assumption) | (simp [lens]; done) | (simp [lens]; omega)) (by first | omega | assumption | (simp only [lens]; first | omega | assumption) | (simp [lens]; done) | (simp [lens]; omega)) ?_) | (refine st_put rfl 38 _ _ rfl hm rfl rfl 0 rfl agg38 (by first | omega | assumption | (simp only [lens]; first | omega | assumption) | (simp [lens]; done) | (simp [lens]; omega)) (by first | omega | assumption | (simp only [lens]; first | omega | assumption) | (simp [lens]; done) | (simp [lens]; omega)) ?_) | (refine st_put rfl 38 _ _ rfl hm rfl rfl 1 rfl agg38 (by first | omega | assumption | (simp only [lens]; first | omega | assumption) | (simp [lens]; done) | (simp [lens]; omega)) (by first | omega | assumption | (simp only [lens]; first | omega | assumption) | (simp [lens]; done) | (simp [lens]; omega)) ?_) | (refine st_put rfl 38 _ _ rfl hm rfl rfl 2 rfl agg38 (by first | omega | assumption | (simp only [lens]; first | omega | assumption) | (simp [lens]; done) | (simp [lens]; omega)) (by first | omega | assumption | (simp only [lens]; first | omega | assumption) | (simp [lens]; done) | (simp [lens]; omega)) ?_) | (refine st_put rfl 38 _ _ rfl hm rfl rfl 3 rfl agg38 (by first | omega | assumption | (simp only [lens]; first | omega | assumption) | (simp [lens]; done) | (simp [lens]; omega)) (by first | omega | assumption | (simp only [lens]; first | omega | assumption) | (simp [lens]; done) | (simp [lens]; omega)) ?_)); clear hm; intro ws hm; simp only [List.set_cons_zero, List.set_cons_succ] at hm) | ((with_reducible refine gt_elem 38 ?_); refine st_elem rfl 38 _ _ rfl rfl rfl arr38 (by first | omega | assumption | (simp only [lens]; first | omega | assumption) | (simp [lens]; done) | (simp [lens]; omega)) (by first | omega | assumption | (simp only [lens]; first | omega | assumption) | (simp [lens]; done) | (simp [lens]; omega)) ?_))
    | (go_at_call 55; refine (HS.out _ (Kd.C_below HR.out (hm.done rfl))).mono ?_; rintro e wa ⟨rfl, hb⟩; replace hm := hm.after hb; clear hb))
   go_loopw [3, 7] (fun v3 v7 wr => ∃ i2 : Nat, i2 ≤ 4 ∧ v7 = .int .i64 i2 ∧ v3 = .int .i64 (mxs m S i2) ∧ Mem w wr [⟨g6, vals .i64 S, 38, true⟩, ⟨g4, vals .i64 F, 88, true⟩]) (fun _ v7 _ => 4 - (intOf v7).toNat)
   case atStart => exact ⟨0, by omega, rfl, rfl, hm⟩
   case round =>
    obtain ⟨i2, hi2, rfl, rfl, hm⟩ := hrel
    by_cases hlt2 : i2 < 4
    ·have HT : Aside0 (mxs m S (i2 + 1) = mx (mxs m S i2) (rd S (i2 : Int))) := ⟨rfl⟩
     generalize mxs m S i2 = m2 at *
     go_wp2_with (first
      | (first | fail | ((with_reducible refine gt_alloc 4 88 ?_); refine st_alloc rfl 4 rfl 88 rfl hm zero88 ?_; clear hm; intro g4 w4 hm) | ((with_reducible refine gt_store 88 ?_); (first | (refine st_full rfl 88 _ _ rfl hm rfl rfl 0 rfl agg88 (by first | omega | assumption | (simp only [lens]; first | omega | assumption) | (simp [lens]; done) | (simp [lens]; omega)) (by first | omega | assumption | (simp only [lens]; first | omega | assumption) | (simp [lens]; done) | (simp [lens]; omega)) ?_) | (refine st_full rfl 88 _ _ rfl hm rfl rfl 1 rfl agg88 (by first | omega | assumption | (simp only [lens]; first | omega | assumption) | (simp [lens]; done) | (simp [lens]; omega)) (by first | omega | assumption | (simp only [lens]; first | omega | assumption) | (simp [lens]; done) | (simp [lens]; omega)) ?_) | (refine st_full rfl 88 _ _ rfl hm rfl rfl 2 rfl agg88 (by first | omega | assumption | (simp only [lens]; first | omega | assumption) | (simp [lens]; done) | (simp [lens]; omega)) (by first | omega | assumption | (simp only [lens]; first | omega | assumption) | (simp [lens]; done) | (simp [lens]; omega)) ?_) | (refine st_full rfl 88 _ _ rfl hm rfl rfl 3 rfl agg88 (by first | omega | assumption | (simp only [lens]; first | omega | assumption) | (simp [lens]; done) | (simp [lens]; omega)) (by first | omega | assumption | (simp only [lens]; first | omega | assumption) | (simp [lens]; done) | (simp [lens]; omega)) ?_) | (refine st_put rfl 88 _ _ rfl hm rfl rfl 0 rfl agg88 (by first | omega | assumption | (simp only [lens]; first | omega | assumption) | (simp [lens]; done) | (simp [lens]; omega)) (by first | omega | assumption | (simp only [lens]; first | omega | assumption) | (simp [lens]; done) | (simp [lens]; omega)) ?_) | (refine st_put rfl 88 _ _ rfl hm rfl rfl 1 rfl agg88 (by first | omega | assumption | (simp only [lens]; first | omega | assumption) | (simp [lens]; done) | (simp [lens]; omega)) (by first | omega | assumption | (simp only [lens]; first | omega | assumption) | (simp [lens]; done) | (simp [lens]; omega)) ?_) | (refine st_put rfl 88 _ _ rfl hm rfl rfl 2 rfl agg88 (by first | omega | assumption | (simp only [lens]; first | omega | assumption) | (simp [lens]; done) | (simp [lens]; omega)) (by first | omega | assumption | (simp only [lens]; first | omega | assumption) | (simp [lens]; done) | (simp [lens]; omega)) ?_) | (refine st_put rfl 88 _ _ rfl hm rfl rfl 3 rfl agg88 (by first | omega | assumption | (simp only [lens]; first | omega | assumption) | (simp [lens]; done) | (simp [lens]; omega)) (by first | omega | assumption | (simp only [lens]; first | omega | assumption) | (simp [lens]; done) | (simp [lens]; omega)) ?_)); clear hm; intro ws hm; simp only [List.set_cons_zero, List.set_cons_succ] at hm) | ((with_reducible refine gt_elem 88 ?_); refine st_elem rfl 88 _ _ rfl rfl rfl arr88 (by first | omega | assumption | (simp only [lens]; first | omega | assumption) | (simp [lens]; done) | (simp [lens]; omega)) (by first | omega | assumption | (simp only [lens]; first | omega | assumption) | (simp [lens]; done) | (simp [lens]; omega)) ?_) | ((with_reducible refine gt_load 2 ?_); (first | (refine st_get rfl 2 _ rfl hm rfl 0 rfl one2 (by first | omega | assumption | (simp only [lens]; first | omega | assumption) | (simp [lens]; done) | (simp [lens]; omega)) ?_) | (refine st_get rfl 2 _ rfl hm rfl 1 rfl one2 (by first | omega | assumption | (simp only [lens]; first | omega | assumption) | (simp [lens]; done) | (simp [lens]; omega)) ?_) | (refine st_get rfl 2 _ rfl hm rfl 2 rfl one2 (by first | omega | assumption | (simp only [lens]; first | omega | assumption) | (simp [lens]; done) | (simp [lens]; omega)) ?_) | (refine st_get rfl 2 _ rfl hm rfl 3 rfl one2 (by first | omega | assumption | (simp only [lens]; first | omega | assumption) | (simp [lens]; done) | (simp [lens]; omega)) ?_))) | ((with_reducible refine gt_alloc 6 38 ?_); refine st_alloc rfl 6 rfl 38 rfl hm zero38 ?_; clear hm; intro g6 w6 hm) | ((with_reducible refine gt_store 38 ?_); (first | (refine st_full rfl 38 _ _ rfl hm rfl rfl 0 rfl agg38 (by first | omega | assumption | (simp only [lens]; first | omega | assumption) | (simp [lens]; done) | (simp [lens]; omega)) (by first | omega | assumption | (simp only [lens]; first | omega | assumption) | (simp [lens]; done) | (simp [lens]; omega)) ?_) | (refine st_full rfl 38 _ _ rfl hm rfl rfl 1 rfl agg38 (by first | omega | assumption | (simp only [lens]; first | omega | assumption) | (simp [lens]; done) | (simp [lens]; omega)) (by first | omega | assumption | (simp only [lens]; first | omega | assumption) | (simp [lens]; done) | (simp [lens]; omega)) ?_) | (refine st_full rfl 38 _ _ rfl hm rfl rfl 2 rfl agg38 (by first | omega | assumption | (simp only [lens]; first | omega | assumption) | (simp [lens]; done) | (simp [lens]; omega)) (by first | omega | assumption | (simp only [lens]; first | omega | assumption) | (simp [lens]; done) | (simp [lens]; omega)) ?_) | (refine st_full rfl 38 _ _ rfl hm rfl rfl 3 rfl agg38 (by first | omega | assumption | (simp only [lens]; first | omega | assumption) | (simp [lens]; done) | (simp [lens]; omega)) (by first | omega | assumption | (simp only [lens]; first | omega | assumption) | (simp [lens]; done) | (simp [lens]; omega)) ?_) | (refine st_put rfl 38 _ _ rfl hm rfl rfl 0 rfl agg38 (by first | omega | assumption | (simp only [lens]; first | omega | assumption) | (simp [lens]; done) | (simp [lens]; omega)) (by first | omega | assumption | (simp only [lens]; first | omega | assumption) | (simp [lens]; done) | (simp [lens]; omega)) ?_) | (refine st_put rfl 38 _ _ rfl hm rfl rfl 1 rfl agg38 (by first | omega | assumption | (simp only [lens]; first | omega | assumption) | (simp [lens]; done) | (simp [lens]; omega)) (by first | omega | assumption | (simp only [lens]; first | omega | assumption) | (simp [lens]; done) | (simp [lens]; omega)) ?_) | (refine st_put rfl 38 _ _ rfl hm rfl rfl 2 rfl agg38 (by first | omega | assumption | (simp only [lens]; first | omega | assumption) | (simp [lens]; done) | (simp [lens]; omega)) (by first | omega | assumption | (simp only [lens]; first | omega | assumption) | (simp [lens]; done) | (simp [lens]; omega)) ?_) | (refine st_put rfl 38 _ _ rfl hm rfl rfl 3 rfl agg38 (by first | omega | assumption | (simp only [lens]; first | omega | assumption) | (simp [lens]; done) | (simp [lens]; omega)) (by first | omega | assumption | (simp only [lens]; first | omega | assumption) | (simp [lens]; done) | (simp [lens]; omega)) ?_)); clear hm; intro ws hm; simp only [List.set_cons_zero, List.set_cons_succ] at hm) | ((with_reducible refine gt_elem 38 ?_); refine st_elem rfl 38 _ _ rfl rfl rfl arr38 (by first | omega | assumption | (simp only [lens]; first | omega | assumption) | (simp [lens]; done) | (simp [lens]; omega)) (by first | omega | assumption | (simp only [lens]; first | omega | assumption) | (simp [lens]; done) | (simp [lens]; omega)) ?_))
      | (go_at_call 54; refine (l00Max_calls m2 (rd S (i2 : Int)) _).mono ?_; rintro e wa ⟨rfl, hb⟩; replace hm := hm.after hb; clear hb))
     go_roundw
     case rel => exact ⟨i2 + 1, by omega, by go_num, by rw [HT.out], hm⟩
     case measure => simp [intOf]; omega
    ·have HI2 := Aside0.mk (show i2 = 4 by omega)
     generalize hm2 : mxs m S i2 = m2 at *
     have HM2 := Aside0.mk hm2
     clear hm2
     go_wp2_with (first | fail | ((with_reducible refine gt_alloc 4 88 ?_); refine st_alloc rfl 4 rfl 88 rfl hm zero88 ?_; clear hm; intro g4 w4 hm) | ((with_reducible refine gt_store 88 ?_); (first | (refine st_full rfl 88 _ _ rfl hm rfl rfl 0 rfl agg88 (by first | omega | assumption | (simp only [lens]; first | omega | assumption) | (simp [lens]; done) | (simp [lens]; omega)) (by first | omega | assumption | (simp only [lens]; first | omega | assumption) | (simp [lens]; done) | (simp [lens]; omega)) ?_) | (refine st_full rfl 88 _ _ rfl hm rfl rfl 1 rfl agg88 (by first | omega | assumption | (simp only [lens]; first | omega | assumption) | (simp [lens]; done) | (simp [lens]; omega)) (by first | omega | assumption | (simp only [lens]; first | omega | assumption) | (simp [lens]; done) | (simp [lens]; omega)) ?_) | (refine st_full rfl 88 _ _ rfl hm rfl rfl 2 rfl agg88 (by first | omega | assumption | (simp only [lens]; first | omega | assumption) | (simp [lens]; done) | (simp [lens]; omega)) (by first | omega | assumption | (simp only [lens]; first | omega | assumption) | (simp [lens]; done) | (simp [lens]; omega)) ?_) | (refine st_full rfl 88 _ _ rfl hm rfl rfl 3 rfl agg88 (by first | omega | assumption | (simp only [lens]; first | omega | assumption) | (simp [lens]; done) | (simp [lens]; omega)) (by first | omega | assumption | (simp only [lens]; first | omega | assumption) | (simp [lens]; done) | (simp [lens]; omega)) ?_) | (refine st_put rfl 88 _ _ rfl hm rfl rfl 0 rfl agg88 (by first | omega | assumption | (simp only [lens]; first | omega | assumption) | (simp [lens]; done) | (simp [lens]; omega)) (by first | omega | assumption | (simp only [lens]; first | omega | assumption) | (simp [lens]; done) | (simp [lens]; omega)) ?_) | (refine st_put rfl 88 _ _ rfl hm rfl rfl 1 rfl agg88 (by first | omega | assumption | (simp only [lens]; first | omega | assumption) | (simp [lens]; done) | (simp [lens]; omega)) (by first | omega | assumption | (simp only [lens]; first | omega | assumption) | (simp [lens]; done) | (simp [lens]; omega)) ?_) | (refine st_put rfl 88 _ _ rfl hm rfl rfl 2 rfl agg88 (by first | omega | assumption | (simp only [lens]; first | omega | assumption) | (simp [lens]; done) | (simp [lens]; omega)) (by first | omega | assumption | (simp only [lens]; first | omega | assumption) | (simp [lens]; done) | (simp [lens]; omega)) ?_) | (refine st_put rfl 88 _ _ rfl hm rfl rfl 3 rfl agg88 (by first | omega | assumption | (simp only [lens]; first | omega | assumption) | (simp [lens]; done) | (simp [lens]; omega)) (by first | omega | assumption | (simp only [lens]; first | omega | assumption) | (simp [lens]; done) | (simp [lens]; omega)) ?_)); clear hm; intro ws hm; simp only [List.set_cons_zero, List.set_cons_succ] at hm) | ((with_reducible refine gt_elem 88 ?_); refine st_elem rfl 88 _ _ rfl rfl rfl arr88 (by first | omega | assumption | (simp only [lens]; first | omega | assumption) | (simp [lens]; done) | (simp [lens]; omega)) (by first | omega | assumption | (simp only [lens]; first | omega | assumption) | (simp [lens]; done) | (simp [lens]; omega)) ?_) | ((with_reducible refine gt_load 2 ?_); (first | (refine st_get rfl 2 _ rfl hm rfl 0 rfl one2 (by first | omega | assumption | (simp only [lens]; first | omega | assumption) | (simp [lens]; done) | (simp [lens]; omega)) ?_) | (refine st_get rfl 2 _ rfl hm rfl 1 rfl one2 (by first | omega | assumption | (simp only [lens]; first | omega | assumption) | (simp [lens]; done) | (simp [lens]; omega)) ?_) | (refine st_get rfl 2 _ rfl hm rfl 2 rfl one2 (by first | omega | assumption | (simp only [lens]; first | omega | assumption) | (simp [lens]; done) | (simp [lens]; omega)) ?_) | (refine st_get rfl 2 _ rfl hm rfl 3 rfl one2 (by first | omega | assumption | (simp only [lens]; first | omega | assumption) | (simp [lens]; done) | (simp [lens]; omega)) ?_))) | ((with_reducible refine gt_alloc 6 38 ?_); refine st_alloc rfl 6 rfl 38 rfl hm zero38 ?_; clear hm; intro g6 w6 hm) | ((with_reducible refine gt_store 38 ?_); (first | (refine st_full rfl 38 _ _ rfl hm rfl rfl 0 rfl agg38 (by first | omega | assumption | (simp only [lens]; first | omega | assumption) | (simp [lens]; done) | (simp [lens]; omega)) (by first | omega | assumption | (simp only [lens]; first | omega | assumption) | (simp [lens]; done) | (simp [lens]; omega)) ?_) | (refine st_full rfl 38 _ _ rfl hm rfl rfl 1 rfl agg38 (by first | omega | assumption | (simp only [lens]; first | omega | assumption) | (simp [lens]; done) | (simp [lens]; omega)) (by first | omega | assumption | (simp only [lens]; first | omega | assumption) | (simp [lens]; done) | (simp [lens]; omega)) ?_) | (refine st_full rfl 38 _ _ rfl hm rfl rfl 2 rfl agg38 (by first | omega | assumption | (simp only [lens]; first | omega | assumption) | (simp [lens]; done) | (simp [lens]; omega)) (by first | omega | assumption | (simp only [lens]; first | omega | assumption) | (simp [lens]; done) | (simp [lens]; omega)) ?_) | (refine st_full rfl 38 _ _ rfl hm rfl rfl 3 rfl agg38 (by first | omega | assumption | (simp only [lens]; first | omega | assumption) | (simp [lens]; done) | (simp [lens]; omega)) (by first | omega | assumption | (simp only [lens]; first | omega | assumption) | (simp [lens]; done) | (simp [lens]; omega)) ?_) | (refine st_put rfl 38 _ _ rfl hm rfl rfl 0 rfl agg38 (by first | omega | assumption | (simp only [lens]; first | omega | assumption) | (simp [lens]; done) | (simp [lens]; omega)) (by first | omega | assumption | (simp only [lens]; first | omega | assumption) | (simp [lens]; done) | (simp [lens]; omega)) ?_) | (refine st_put rfl 38 _ _ rfl hm rfl rfl 1 rfl agg38 (by first | omega | assumption | (simp only [lens]; first | omega | assumption) | (simp [lens]; done) | (simp [lens]; omega)) (by first | omega | assumption | (simp only [lens]; first | omega | assumption) | (simp [lens]; done) | (simp [lens]; omega)) ?_) | (refine st_put rfl 38 _ _ rfl hm rfl rfl 2 rfl agg38 (by first | omega | assumption | (simp only [lens]; first | omega | assumption) | (simp [lens]; done) | (simp [lens]; omega)) (by first | omega | assumption | (simp only [lens]; first | omega | assumption) | (simp [lens]; done) | (simp [lens]; omega)) ?_) | (refine st_put rfl 38 _ _ rfl hm rfl rfl 3 rfl agg38 (by first | omega | assumption | (simp only [lens]; first | omega | assumption) | (simp [lens]; done) | (simp [lens]; omega)) (by first | omega | assumption | (simp only [lens]; first | omega | assumption) | (simp [lens]; done) | (simp [lens]; omega)) ?_)); clear hm; intro ws hm; simp only [List.set_cons_zero, List.set_cons_succ] at hm) | ((with_reducible refine gt_elem 38 ?_); refine st_elem rfl 38 _ _ rfl rfl rfl arr38 (by first | omega | assumption | (simp only [lens]; first | omega | assumption) | (simp [lens]; done) | (simp [lens]; omega)) (by first | omega | assumption | (simp only [lens]; first | omega | assumption) | (simp [lens]; done) | (simp [lens]; omega)) ?_))
     go_ret
     refine ⟨?_, hm.done rfl⟩
     rw [← HI.out, HM.out, ← HI2.out, HM2.out]
     rfl
def setsRes (h : List Int) : Value := if okH h = true then .tuple #[.int .i64 (setsH h), .int .i64 0] else .tuple #[.int .i64 0, .int .i64 1]
set_option maxHeartbeats 4000000 in
set_option maxRecDepth 100000 in
theorem implSets_calls (A0 : Option Addr) (c0 : Nat) (h : List Int) (w : World) (hr : Kd.C (Kd.int .i8) w A0 h.length h) (hc : h.length ≤ c0) (hs : Small8 h) :
  Calls Try.prog 14 #[.slice A0 h.length c0] w fun e w' => e = .returned (setsRes h) ∧ Below w.heap.size w w' := by
 have hm := Mem.start w
 have HR := Aside0.mk hr
 have HS := Aside0.mk hs
 clear hr hs
 unfold setsRes
 by_cases hk : okH h = true
 ·rw [if_pos hk]
  have HK := Aside0.mk hk
  have HN := Aside0.mk (okH_N hk)
  have HP := Aside0.mk (fun W hr => hoistPieces_calls A0 c0 h W hr hc HN.out.1 HN.out.2)
  have hl3 := (pile_length (zs 44) h 1 h.length).trans zs_length
  clear hk
  rw [show setsH h = mx (top ((pile (zs 44) h 1 h.length).take 40) 40) (top ((pile (zs 44) h 1 h.length).drop 40) 4) from rfl]
  generalize pile (zs 44) h 1 h.length = X at *
  have HF : Aside0 (∀ j : Nat, j < 40 → rd (X.take 40) (j : Int) = rd X (j : Int)) := ⟨fun j hj => rd_take X j 40 hj (by omega)⟩
  have HG : Aside0 (∀ j : Nat, j < 4 → rd (X.drop 40) (j : Int) = rd X ((40 + j : Nat) : Int)) := ⟨fun j hj => rd_drop X j 40 (by omega)⟩
  obtain ⟨a, ha⟩ : ∃ a, top (X.take 40) 40 = a := ⟨_, rfl⟩
  obtain ⟨b, hb⟩ : ∃ b, top (X.drop 40) 4 = b := ⟨_, rfl⟩
  rw [ha, hb, ← mx_alt]
  have HA := Aside0.mk ha
  have HB := Aside0.mk hb
  clear ha hb
  go_enter Try.func14, Try.ntmps14
  go_wp2_with (first
   | (first | fail | ((with_reducible refine gt_alloc 4 50 ?_); refine st_alloc rfl 4 rfl 50 rfl hm zero50 ?_; clear hm; intro g4 w4 hm) | ((with_reducible refine gt_store 50 ?_); (first | (refine st_full rfl 50 _ _ rfl hm rfl rfl 0 rfl agg50 (by first | omega | assumption | (simp only [lens]; first | omega | assumption) | (simp [lens]; done) | (simp [lens]; omega)) (by first | omega | assumption | (simp only [lens]; first | omega | assumption) | (simp [lens]; done) | (simp [lens]; omega)) ?_) | (refine st_full rfl 50 _ _ rfl hm rfl rfl 1 rfl agg50 (by first | omega | assumption | (simp only [lens]; first | omega | assumption) | (simp [lens]; done) | (simp [lens]; omega)) (by first | omega | assumption | (simp only [lens]; first | omega | assumption) | (simp [lens]; done) | (simp [lens]; omega)) ?_) | (refine st_full rfl 50 _ _ rfl hm rfl rfl 2 rfl agg50 (by first | omega | assumption | (simp only [lens]; first | omega | assumption) | (simp [lens]; done) | (simp [lens]; omega)) (by first | omega | assumption | (simp only [lens]; first | omega | assumption) | (simp [lens]; done) | (simp [lens]; omega)) ?_)); clear hm; intro ws hm; simp only [List.set_cons_zero, List.set_cons_succ] at hm) | ((with_reducible refine gt_field 50 0 ?_); refine st_field rfl 50 _ 0 rfl rfl field50_0 ?_) | ((with_reducible refine gt_field 50 1 ?_); refine st_field rfl 50 _ 1 rfl rfl field50_1 ?_))
   | (go_at_call 27; refine (validHoist_calls A0 c0 h _ (Kd.C_below HR.out (hm.done rfl)) hc HS.out.1 HS.out.2).mono ?_; rintro e wa ⟨rfl, hb⟩; replace hm := hm.after hb; clear hb; rw [HK.out])
   | (go_at_call 28; refine (HP.out _ (Kd.C_below HR.out (hm.done rfl))).mono ?_; rintro e wa ⟨rfl, hb⟩; replace hm := hm.after hb; clear hb))
  have hmd := hm.drawn (ws.drawn + 1)
  have hadd : ∀ i j : Nat, (⟨g4, i, none⟩ : Addr).add j = ⟨g4, i + j, none⟩ := fun i j => by unfold Addr.add; split <;> simp_all
  have HM1 := fun (j : Nat) (hj : j < 40) => (congrArg _ (hadd 0 j)).trans ((hmd.get (n := 0) rfl (0 + j) (by omega)).trans (by rw [Nat.zero_add, ← HF.out j hj]))
  have HM2 := fun (j : Nat) (hj : j < 4) => (congrArg _ (hadd 40 j)).trans ((hmd.get (n := 0) rfl (40 + j) (by omega)).trans (by rw [← HG.out j hj]))
  go_still_tail 7, (by kernel_rfl)
  still_call (HA.out ▸ max_calls ⟨g4, 0, none⟩ 40 40 (X.take 40) _ (by omega) (by omega) HM1)
  repeat still_step
  still_call (HB.out ▸ max_calls ⟨g4, 40, none⟩ 4 4 (X.drop 40) _ (by omega) (by omega) HM2)
  repeat still_step
  refine wpStill_nil ?_
  clear HM1 HM2 hm
  go_wp2
  all_goals
   go_ret2
   exact ⟨rfl, hmd.done rfl⟩
 ·rw [if_neg hk]
  have HK := Aside0.mk (show okH h = false by simpa using hk)
  clear hk
  go_enter Try.func14, Try.ntmps14
  go_wp2_with (first
   | (first | fail | ((with_reducible refine gt_alloc 4 50 ?_); refine st_alloc rfl 4 rfl 50 rfl hm zero50 ?_; clear hm; intro g4 w4 hm) | ((with_reducible refine gt_store 50 ?_); (first | (refine st_full rfl 50 _ _ rfl hm rfl rfl 0 rfl agg50 (by first | omega | assumption | (simp only [lens]; first | omega | assumption) | (simp [lens]; done) | (simp [lens]; omega)) (by first | omega | assumption | (simp only [lens]; first | omega | assumption) | (simp [lens]; done) | (simp [lens]; omega)) ?_) | (refine st_full rfl 50 _ _ rfl hm rfl rfl 1 rfl agg50 (by first | omega | assumption | (simp only [lens]; first | omega | assumption) | (simp [lens]; done) | (simp [lens]; omega)) (by first | omega | assumption | (simp only [lens]; first | omega | assumption) | (simp [lens]; done) | (simp [lens]; omega)) ?_) | (refine st_full rfl 50 _ _ rfl hm rfl rfl 2 rfl agg50 (by first | omega | assumption | (simp only [lens]; first | omega | assumption) | (simp [lens]; done) | (simp [lens]; omega)) (by first | omega | assumption | (simp only [lens]; first | omega | assumption) | (simp [lens]; done) | (simp [lens]; omega)) ?_)); clear hm; intro ws hm; simp only [List.set_cons_zero, List.set_cons_succ] at hm) | ((with_reducible refine gt_field 50 0 ?_); refine st_field rfl 50 _ 0 rfl rfl field50_0 ?_) | ((with_reducible refine gt_field 50 1 ?_); refine st_field rfl 50 _ 1 rfl rfl field50_1 ?_))
   | (go_at_call 27; refine (validHoist_calls A0 c0 h _ (Kd.C_below HR.out (hm.done rfl)) hc HS.out.1 HS.out.2).mono ?_; rintro e wa ⟨rfl, hb⟩; replace hm := hm.after hb; clear hb; rw [HK.out]))
  go_ret2
  exact ⟨rfl, hm.done rfl⟩
end Go.Proofs.Ytfdjgomocbniaaa.Arr
namespace Go.Proofs.Ytfdjgomocbniaaa.Arr
open Go.RowKit Go.Proofs.YtfdjgomocbniaaaW.PrintWords Go.Proofs.YtfdjgomocbniaaaW.PrintLast Go.Proofs.Ytfdjgomocbniaaa.U Go.Proofs.Ytfdjgomocbniaaa.K
set_option linter.unusedVariables false
set_option linter.unusedSimpArgs false
theorem mxs_le (a b : Int) (S : List Int) : ∀ n : Nat, mxs a S n ≤ b ↔ a ≤ b ∧ ∀ j : Nat, j < n → rd S (j : Int) ≤ b
 | 0 => by simp [mxs]
 | n + 1 => by
  have ih := mxs_le a b S n
  have hm : mxs a S (n + 1) ≤ b ↔ mxs a S n ≤ b ∧ rd S (n : Int) ≤ b := by
   rw [mxs]
   unfold Arr.mx
   split <;> omega
  rw [hm, ih]
  constructor
  ·rintro ⟨⟨h1, h2⟩, h3⟩
   refine ⟨h1, fun j hj => ?_⟩
   rcases Nat.lt_or_ge j n with h | h
   ·exact h2 j h
   ·obtain rfl : j = n := by omega
    exact h3
  ·rintro ⟨h1, h2⟩
   exact ⟨⟨h1, fun j hj => h2 j (by omega)⟩, h2 n (by omega)⟩
theorem setsH_le (h : List Int) (sets : Int) : setsH h ≤ sets ↔ ∀ j : Nat, j < 44 → rd (pile (zs 44) h 1 h.length) (j : Int) ≤ sets := by
 have hl := (pile_length (zs 44) h 1 h.length).trans zs_length
 rw [setsH_eq, mxs_le, mxs_le]
 constructor
 ·rintro ⟨⟨h0, h1⟩, h2⟩ j hj
  rcases Nat.lt_or_ge j 40 with hlt | hge
  ·have := h1 j hlt
   rwa [rd_take _ j 40 hlt (by omega)] at this
  ·have := h2 (j - 40) (by omega)
   rwa [rd_drop _ (j - 40) 40 (by omega), show 40 + (j - 40) = j by omega] at this
 ·intro hall
  refine ⟨⟨?_, fun j hj => ?_⟩, fun j hj => ?_⟩
  ·have h1 := hall 0 (by omega)
   have h2 := pile_small h h.length 0 (by omega)
   omega
  ·rw [rd_take _ j 40 hj (by omega)]; exact hall j (by omega)
  ·rw [rd_drop _ j 40 (by omega)]; exact hall (40 + j) (by omega)
theorem within_sets (sets : Int) (h : List Int) (n : Int) : within sets h n = decide (setsH (h ++ [n]) ≤ sets) := by
 unfold within
 exact decide_eq_decide.2 (setsH_le (h ++ [n]) sets).symm
end Go.Proofs.Ytfdjgomocbniaaa.Arr
namespace Go.Proofs.Ytfdjgomocbniaaa.Arr
open Go.RowKit Go.Proofs.YtfdjgomocbniaaaW.PrintWords Go.Proofs.YtfdjgomocbniaaaW.PrintLast Go.Proofs.YtfdjgomocbniaaaW.PrintMore Go.Proofs.Ytfdjgomocbniaaa.U Go.Proofs.Ytfdjgomocbniaaa.K
set_option linter.unusedVariables false
set_option linter.unusedSimpArgs false
def goesS (m : List Int) (sets : Int) (subs : Nat) (d : Nat) (h : List Int) (g : Int) (l : List Int) : List (List Int) := l.flatMap fun n => if within sets h n = true then leaves m subs (within sets) d (h ++ [n]) g else []
theorem leavesS_stop (m : List Int) (sets : Int) (subs : Nat) (d : Nat) (h : List Int) (g : Int) (hb : rd m (h.length : Int) = -10) : leaves m subs (within sets) (d + 1) h g = leaves m subs (within sets) d (h ++ [-10]) ((h.length : Int) + 1) := by rw [leaves, if_pos hb]
theorem leavesS_go (m : List Int) (sets : Int) (subs : Nat) (d : Nat) (h : List Int) (g : Int) (hb : rd m (h.length : Int) ≠ -10) : leaves m subs (within sets) (d + 1) h g = goesS m sets subs d h g (opts m h.length g subs) := by rw [leaves, if_neg hb]; rfl
theorem goesS_cons (m : List Int) (sets : Int) (subs : Nat) (d : Nat) (h : List Int) (g : Int) (n : Int) (l : List Int) : goesS m sets subs d h g (n :: l) = (if within sets h n = true then leaves m subs (within sets) d (h ++ [n]) g else []) ++ goesS m sets subs d h g l := by
 unfold goesS; rw [List.flatMap_cons]
theorem flat_le {f : Int → List (List Int)} {b : Nat} (hf : ∀ n, (f n).length ≤ b) : ∀ l : List Int, (l.flatMap f).length ≤ l.length * b
 | [] => by simp
 | a :: l => by
  rw [List.flatMap_cons, List.length_append, List.length_cons, Nat.add_mul, Nat.one_mul]
  have := flat_le hf l
  have := hf a
  omega
theorem leaves_le (m : List Int) (top : Nat) (ht : top ≤ 4) (ok : List Int → Int → Bool) : ∀ (d : Nat) (h : List Int) (g : Int), (leaves m top ok d h g).length ≤ 5 ^ d
 | 0, h, g => by simp [leaves]
 | d + 1, h, g => by
  have h5 : 5 ^ (d + 1) = 5 ^ d * 5 := Nat.pow_succ ..
  rw [leaves]
  split
  ·have := leaves_le m top ht ok d (h ++ [-10]) ((h.length : Int) + 1)
   omega
  ·have h1 := flat_le (f := fun n => if ok h n = true then leaves m top ok d (h ++ [n]) g else []) (b := 5 ^ d) (fun n => by
    split
    ·exact leaves_le m top ht ok d _ _
    ·simp) (opts m h.length g top)
   have h2 : (opts m h.length g top).length ≤ 5 := by
    unfold opts
    have := subsTo_len m h.length g top
    simp; omega
   have h3 := Nat.mul_le_mul_right (5 ^ d) h2
   omega
def restO (m : List Int) (k : Nat) (g : Int) (subs : Nat) (x : Int) (i : Nat) : List Int := if i ≤ subs then subsTo m k g (subs - i) ++ [x] else []
def cs5 (Am : Option Addr) (cm : Nat) (m : List Int) (sets subs : Int) (n : Int) (vf : Value) : Array Value := #[.slice Am m.length cm, .int .i64 sets, .int .i64 subs, .int .i64 n, vf]
section
variable {P : Program} {ops : Array Oper} {rest : List Oper} {o : Oper} {a : Act} {w : World} {Q : Exit → Act → World → Prop}
theorem st_at (hgd : o.guard = none) (ty : TypeId) (x y : Operand) (ho : o.op = .store ty x y) {g i : Nat} {v : Value} {cs : Array Value} {t : TypeId} (hx : a.eval x = .pointer (some ⟨g, i, none⟩)) (hy : a.eval y = v)
  (hc : w.heap[g]? = some (.cells cs t (0, 0))) {u : Value} (hi : cs[i]? = some u) (h1 : OneTy P ty) (hv : v.cells = #[v]) (hv1 : v.oneCell' = true)
  (h : ∀ w1, w1.heap[g]? = some (.cells (cs.setIfInBounds i v) t (0, 0)) → FrB [g] w w1 → wpList P ops Q rest (a.put o.dst undef) w1) : wpList P ops Q (o :: rest) a w := by
 refine wpList_plain hgd fun K hK => ?_
 unfold Oper.wp execOp
 have hst : (storeVar ty ⟨g, i, none⟩ v).run P w = .ok () (w.setCell ⟨g, i, none⟩ v) := run_store1 h1.2 hv ((cell_of_row w g i cs t (0, 0) hc).trans hi) (frozen_of_row w g i cs t hc) hv1
 simp only [ho, hx, hy, Instr.storeAt, Instr.sureAddr, Sem.run_bind, Sem.run_pure, Result.andThen_ok, hst]
 refine hK _ _ (h _ ?_ ((FrB.refl [g] w).set _ _ (Or.inl (by simp))))
 rw [setCell_eq_setRow w g i cs t (0, 0) v hc]
 exact setRow_heap w g cs _ t (0, 0) hc
end
theorem oneH : OneTy Try.prog 28 := ⟨by kernel_rfl, by kernel_rfl⟩
theorem oneI64' : OneTy Try.prog 2 := ⟨by kernel_rfl, by kernel_rfl⟩
section
variable {wS : World} {gs : Nat} {Am : Option Addr} {cm : Nat} {m : List Int} {sets : Int} {subs : Nat} {ts : TypeId}
def SI (wS : World) (gs : Nat) (Am : Option Addr) (cm : Nat) (m : List Int) (sets : Int) (subs : Nat) (ts : TypeId) (l : List (List Int)) (w : World) : Prop :=
 ∃ vf, w.heap[gs]? = some (.cells (cs5 Am cm m sets subs l.length vf) ts (0, 0)) ∧ ∀ x, l.head? = some x → Own wS.heap.size w vf x
theorem SI.later {l : List (List Int)} {w w1 : World} (h : SI wS gs Am cm m sets subs ts l w) (hf : FrB [] w w1) : SI wS gs Am cm m sets subs ts l w1 := by
 obtain ⟨vf, h1, h2⟩ := h
 exact ⟨vf, hf.row h1 (by simp), fun x hx => own_later (h2 x hx) hf (by simp)⟩
set_option maxHeartbeats 8000000 in
set_option maxRecDepth 100000 in
theorem look_calls (hgs : gs < wS.heap.size) (hM : ∀ W, FrB [gs] wS W → Kd.C (Kd.int .i8) W Am m.length m) (hmc : m.length ≤ cm) (hm : ∀ x ∈ m, PlainN x) (hml : m.length ≤ 1000) (hs4 : subs ≤ 4) :
  ∀ (d : Nat) (h : List Int) (g : Int) (A : Option Addr) (c : Nat) (l : List (List Int)) (w : World), h.length + d = m.length → 0 ≤ g → g ≤ h.length → FrB [gs] wS w → SI wS gs Am cm m sets subs ts l w → Own wS.heap.size w (.slice A h.length c) h → (∀ x ∈ h, NumH x) → l.length + 2 * 5 ^ d ≤ 1000000000000 →
  Calls Try.prog 39 #[.pointer (some ⟨gs, 0, none⟩), .slice A h.length c, .int .i64 g] w fun e w' =>
   e = .returned (.tuple #[]) ∧ SI wS gs Am cm m sets subs ts (l ++ leaves m subs (within sets) d h g) w' ∧ FrB [gs] w w' := by
 intro d
 induction d with
 | zero =>
  intro h g A c l w hd hg0 hg1 hf hI ho hn hbd
  obtain ⟨vf, hcs, hfst⟩ := hI
  have c0 := cell_of_row w gs 0 _ ts (0, 0) hcs
  have c3 := cell_of_row w gs 3 _ ts (0, 0) hcs
  have HC0 := Aside0.mk hcs
  have hlen : h.length = m.length := by omega
  simp only [cs5, List.getElem?_toArray, List.getElem?_cons_zero, List.getElem?_cons_succ] at c0 c3
  have HOH := Aside0.mk ho
  have HF := Aside0.mk hf
  have HFS := Aside0.mk hfst
  have hsz := hf.size
  have hL : leaves m subs (within sets) 0 h g = [h] := rfl
  rw [hL]
  clear ho hf hcs hfst hM hm hn
  rw [← hlen] at c0
  have HLEN := Aside0.mk hlen
  have hhl : h.length ≤ 1000 := by omega
  clear hlen hd hml hmc
  cases l with
  | nil =>
   have hz : (([] : List (List Int)).length : Int) = 0 := rfl
   rw [hz] at c3
   go_enter Try.func39, Try.ntmps39
   go_wp2_with (first
    | ((with_reducible refine gate_dst (N := 25) rfl ?_); refine Kd.R_lit (Kd.int .i8) _ 64 ?hg (N := 25) ?hd (xs := ([] : List Int)) (inner := []) (ok := fun _ => True) (okp := fun _ => True) ?hr ?hp (fun _ hk => hk) trivial (Below.refl _ _) (Nat.le_refl _) (by simp) ?_; (case hd => rfl); (case hg => rfl); (case hr => first | (go_simp; done) | (go_simp; rfl)); (case hp => exact (Reps.none _ _)); intro v1 w1 ho1 hb1 _ _; have HO1 := Aside0.mk ho1; have HF1 := Aside0.mk (FrB.below (B := []) hb1); clear ho1 hb1)
    | ((with_reducible refine gate_builtin (b := .append) (xs := #[.tmp 25, .tmp 26]) rfl ?_); at_builtin; refine Kd.R_append_rows (Kd.int .i8) (w0 := w1) _ rfl (.tmp 25) (.tmp 26) 28 64 (.int .i8 0) 1 rfl Try.underlying28 infoI8 rfl (by decide) (by omega) v1 [] h A h.length c (fun _ => True) (fun _ => False) rfl rfl HO1.out (Kd.R_reads' (own_later HOH.out HF1.out (by simp))).2.2 (fun _ _ h => h) (fun _ h => h.elim) (fun _ _ => trivial) (Below.refl _ _) HF1.out.size (by simp; omega) ?_; intro v2 w2 ho2 hb2 hg2 hat2; obtain ⟨A2, c2, rfl⟩ := Kd.R_slice ho2; have HO2 := Aside0.mk ho2; have HF2 := Aside0.mk (HF1.out.grown hg2 (fun k hk => Kd.R_base HO1.out k hk)); clear ho2 hb2 hg2 hat2)
    | ((with_reducible refine gt_store 28 ?_); refine st_at rfl 28 _ _ rfl (i := 4) rfl rfl (HF2.out.row HC0.out (by simp)) rfl oneH rfl rfl ?_; intro w3 hc3 hf3; have c3n := (cell_of_row w3 gs 3 _ ts (0, 0) hc3); simp [cs5] at c3n; have HC3 := Aside0.mk hc3; have HF3 := Aside0.mk hf3; clear hc3 hf3)
    | ((with_reducible refine gt_store 2 ?_); refine st_at rfl 2 _ _ rfl (i := 3) rfl rfl HC3.out rfl oneI64' rfl rfl ?_; intro w4 hc4 hf4; have HC4 := Aside0.mk hc4; have HF4 := Aside0.mk hf4; clear hc4 hf4))
   refine bodyPost_ret (results_none rfl _ _ _) rfl ?_
   have hfr := HF3.out.trans HF4.out
   refine ⟨rfl, ⟨.slice A2 h.length c2, HC4.out, fun x hx => ?_⟩, (HF2.out.mono (by simp)).trans hfr⟩
   simp at hx
   subst hx
   exact own_later (own_lower HO2.out hsz) hfr (by simpa using hgs)
  | cons x l =>
   have hn0 : (((x :: l).length : Int) == 0) = false := by
    rw [beq_eq_false_iff_ne]
    rw [List.length_cons]
    omega
   have hw1 : wrap64 (((x :: l).length : Int) + 1) = ((x :: l).length : Int) + 1 := w64 (by omega) (by omega)
   have HNE := Aside0.mk (show ((x :: (l ++ [h])).length : Int) = ((x :: l).length : Int) + 1 by simp)
   generalize ((x :: l).length : Int) = n at *
   go_enter Try.func39, Try.ntmps39
   go_wp2_with ((with_reducible refine gt_store 2 ?_); refine st_at rfl 2 _ _ rfl (i := 3) rfl rfl HC0.out rfl oneI64' rfl rfl ?_; intro w4 hc4 hf4; have HC4 := Aside0.mk hc4; have HF4 := Aside0.mk hf4; clear hc4 hf4)
   refine bodyPost_ret (results_none rfl _ _ _) rfl ?_
   refine ⟨rfl, ⟨vf, by rw [HNE.out, ← hw1]; exact HC4.out, fun y hy => ?_⟩, HF4.out⟩
   exact own_later (HFS.out y (by simpa using hy)) HF4.out (by simpa using hgs)
 | succ d ih =>
  intro h g A c l w hd hg0 hg1 hf hI ho hn hbd
  have HI := Aside0.mk hI
  obtain ⟨vf, hcs, hfst⟩ := hI
  have c0 := cell_of_row w gs 0 _ ts (0, 0) hcs
  have c2s := cell_of_row w gs 2 _ ts (0, 0) hcs
  simp only [cs5, List.getElem?_toArray, List.getElem?_cons_zero, List.getElem?_cons_succ] at c0 c2s
  have hlm : h.length < m.length := by omega
  have hhl : h.length ≤ 1000 := by omega
  obtain ⟨ad, rfl, hcx⟩ := Kd.at_int (hM w hf) (h.length : Int) (by omega) (by omega)
  rw [Int.toNat_natCast] at hcx
  have hx := hm _ (by rw [rd_get m h.length hlm]; exact List.getElem_mem _ : rd m (h.length : Int) ∈ m)
  have HOH := Aside0.mk ho
  have HF := Aside0.mk hf
  have hsz := hf.size
  by_cases hb : rd m (h.length : Int) = -10
  ·rw [leavesS_stop m sets subs d h g hb]
   have HIH : Aside0 (∀ (h2 : List Int) (A3 : Option Addr) (c3 : Nat) (w3 : World), h ++ [-10] = h2 → FrB [] w w3 → Own w.heap.size w3 (.slice A3 h2.length c3) h2 → Calls Try.prog 39 #[.pointer (some ⟨gs, 0, none⟩), .slice A3 h2.length c3, .int .i64 ((h.length : Int) + 1)] w3 fun e w' =>
     e = .returned (.tuple #[]) ∧ SI wS gs (some ad) cm m sets subs ts (l ++ leaves m subs (within sets) d (h ++ [-10]) ((h.length : Int) + 1)) w' ∧ FrB [gs] w3 w') := ⟨fun h2 A3 c3 w3 e2 hf3 ho3 => by
    subst e2
    exact ih (h ++ [-10]) ((h.length : Int) + 1) A3 c3 l w3 (by simp; omega) (by omega) (by simp) (hf.trans (hf3.mono (by simp))) (HI.out.later hf3) (own_lower ho3 hsz) (fun y hy => by
     rcases List.mem_append.1 hy with hy | hy
     ·exact hn y hy
     ·rw [List.mem_singleton] at hy; subst hy; exact Or.inl rfl) (by have h5 : 5 ^ (d + 1) = 5 ^ d * 5 := Nat.pow_succ ..; omega)⟩
   have hsw : wrap64 ((h.length : Int) + 1) = (h.length : Int) + 1 := w64 (by omega) (by omega)
   rw [hb] at hcx
   clear hM hm hx hcs hfst ih hf ho hn hbd hd hmc hml
   go_enter Try.func39, Try.ntmps39
   go_wp2_with (first
    | ((with_reducible refine gate_dst (N := 46) rfl ?_); refine Kd.R_lit (Kd.int .i8) _ 64 ?hg (N := 46) ?hd (xs := ([] : List Int)) (inner := []) (ok := fun _ => True) (okp := fun _ => True) ?hr ?hp (fun _ hk => hk) trivial (Below.refl _ _) (Nat.le_refl _) (by simp) ?_; (case hd => rfl); (case hg => rfl); (case hr => first | (go_simp; done) | (go_simp; rfl)); (case hp => exact (Reps.none _ _)); intro v1 w1 ho1 hb1 _ _; have HO1 := Aside0.mk ho1; have HF1 := Aside0.mk (FrB.below (B := []) hb1); clear ho1 hb1)
    | ((with_reducible refine gate_builtin (b := .append) (xs := #[.tmp 46, .tmp 47]) rfl ?_); at_builtin; refine Kd.R_append_rows (Kd.int .i8) (w0 := w1) _ rfl (.tmp 46) (.tmp 47) 28 64 (.int .i8 0) 1 rfl Try.underlying28 infoI8 rfl (by decide) (by omega) v1 [] h A h.length c (fun _ => True) (fun _ => False) rfl rfl HO1.out (Kd.R_reads' (own_later HOH.out HF1.out (by simp))).2.2 (fun _ _ h => h) (fun _ h => h.elim) (fun _ _ => trivial) (Below.refl _ _) HF1.out.size (by simp; omega) ?_; intro v2 w2 ho2 hb2 hg2 hat2; obtain ⟨A2, c2, rfl⟩ := Kd.R_slice ho2; have HO2 := Aside0.mk ho2; have HF2 := Aside0.mk (HF1.out.grown hg2 (fun k hk => Kd.R_base HO1.out k hk)); clear ho2 hb2 hg2 hat2)
    | ((with_reducible refine gate_builtin (b := .append) (xs := #[.tmp 48, .tmp 49]) rfl ?_); (try (refine gate_guard (by rfl) ?_; dsimp only)); at_builtin; refine Kd.R_append (Kd.int .i8) (w0 := w2) _ rfl (.tmp 48) (.tmp 49) 28 64 (.int .i8 0) 1 rfl Try.underlying28 infoI8 rfl (by decide) (by omega) (.slice A2 h.length c2) h (-10) [.int .i8 (-10)] (fun _ => True) (fun _ => False) rfl rfl rfl (fun _ hk => hk.elim) (fun _ _ => trivial) HO2.out (Below.refl _ _) HF2.out.size (by omega) ?_; intro v3 w3 ho3 hb3 hg3 hat3; generalize hH2 : h ++ [(-10)] = h2 at ho3; have HH2 := Aside0.mk hH2; clear hH2; obtain ⟨A3, c3, rfl⟩ := Kd.R_slice ho3; have HO3 := Aside0.mk ho3; have HF3 := Aside0.mk (HF2.out.grown hg3 (fun k hk => Kd.R_base HO2.out k hk)); clear ho3 hb3 hg3 hat3)
    | (go_at_call 39; refine (HIH.out h2 A3 c3 _ HH2.out HF3.out HO3.out).mono ?_; rintro e w4 ⟨rfl, hI4, hf4⟩; have HI4 := Aside0.mk hI4; have HF4 := Aside0.mk hf4; clear hI4 hf4))
   refine bodyPost_ret (results_none rfl _ _ _) rfl ?_
   exact ⟨rfl, HI4.out, (HF3.out.mono (by simp)).trans HF4.out⟩
  ·rw [leavesS_go m sets subs d h g hb]
   have hF5 : ∀ (h2 : List Int) (g2 : Int), (leaves m subs (within sets) d h2 g2).length ≤ 5 ^ d := fun h2 g2 => leaves_le m subs hs4 (within sets) d h2 g2
   have HIH : Aside0 (∀ (h2 : List Int) (y : Int) (A3 : Option Addr) (c3 : Nat) (w3 : World) (l2 : List (List Int)), h ++ [y] = h2 → NumH y → FrB [gs] w w3 → SI wS gs (some ad) cm m sets subs ts (l ++ l2) w3 → Own wS.heap.size w3 (.slice A3 h2.length c3) h2 → l2.length ≤ 5 * 5 ^ d → Calls Try.prog 39 #[.pointer (some ⟨gs, 0, none⟩), .slice A3 h2.length c3, .int .i64 g] w3 fun e w' =>
     e = .returned (.tuple #[]) ∧ SI wS gs (some ad) cm m sets subs ts ((l ++ l2) ++ leaves m subs (within sets) d (h ++ [y]) g) w' ∧ FrB [gs] w3 w') := ⟨fun h2 y A3 c3 w3 l2 e2 hy hf3 hI3 ho3 hl2 => by
    subst e2
    exact ih (h ++ [y]) g A3 c3 (l ++ l2) w3 (by simp; omega) hg0 (by simp; omega) (hf.trans hf3) hI3 ho3 (fun z hz => by
     rcases List.mem_append.1 hz with hz | hz
     ·exact hn z hz
     ·rw [List.mem_singleton] at hz; subst hz; exact hy) (by have h5 : 5 ^ (d + 1) = 5 ^ d * 5 := Nat.pow_succ ..; rw [List.length_append]; omega)⟩
   have HSETS : Aside0 (∀ (h2 : List Int) (y : Int) (A3 : Option Addr) (c3 : Nat) (w3 : World), h ++ [y] = h2 → NumH y → Kd.C (Kd.int .i8) w3 A3 h2.length h2 → h2.length ≤ c3 → Calls Try.prog 50 #[.slice A3 h2.length c3] w3 fun e w' => e = .returned (.int .i64 (setsH h2)) ∧ Below w3.heap.size w3 w') := ⟨fun h2 y A3 c3 w3 e2 hy hC hc3 => by
    subst e2
    exact l02Sets_calls A3 c3 (h ++ [y]) w3 hC hc3 (fun z hz => by
     rcases List.mem_append.1 hz with hz | hz
     ·exact hn z hz
     ·rw [List.mem_singleton] at hz; subst hz; exact hy) (by simp; omega)⟩
   have HTOT : Aside0 ((goesS m sets subs d h g (opts m h.length g subs)).length ≤ 5 * 5 ^ d) := ⟨by
    have h1 := flat_le (f := fun n => if within sets h n = true then leaves m subs (within sets) d (h ++ [n]) g else []) (b := 5 ^ d) (fun n => by
     split
     ·exact hF5 _ _
     ·simp) (opts m h.length g subs)
    have h2 : (opts m h.length g subs).length ≤ 5 := by
     unfold opts
     have := subsTo_len m h.length g subs
     simp; omega
    exact Nat.le_trans h1 (Nat.mul_le_mul_right _ h2)⟩
   have HM := Aside0.mk hM
   have HXN := Aside0.mk hx
   have hgsl : ∀ b ∈ [gs], b < wS.heap.size := by simpa using hgs
   clear hM hm hx hcs hfst ih hf ho hn hbd hF5
   generalize hxv : rd m (h.length : Int) = x at *
   have hne0 : ((h.length : Int) == (m.length : Int)) = false := by rw [beq_eq_false_iff_ne]; omega
   have hx10 : (x == -10) = false := by rw [beq_eq_false_iff_ne]; exact hb
   have HRZ := Aside0.mk (show restO m h.length g subs x 0 = opts m h.length g subs by unfold restO opts; rw [if_pos (by omega), Nat.sub_zero, hxv])
   go_enter Try.func39, Try.ntmps39
   go_wp2_with fail
   go_loopw [7, 8, 9] (fun v7 v8 v9 wr => ∃ (i : Nat) (l2 : List (List Int)), i ≤ subs + 1 ∧ v7 = .int .i64 ((subs : Int) - i) ∧ Aside0 (l2 ++ goesS m sets subs d h g (restO m h.length g subs x i) = goesS m sets subs d h g (opts m h.length g subs)) ∧ Aside0 (SI wS gs (some ad) cm m sets subs ts (l ++ l2) wr) ∧ Aside0 (FrB [gs] w wr)) (fun v7 _ _ _ => (intOf v7 + 1).toNat)
   case atStart => exact ⟨0, [], by omega, by simp, ⟨by rw [HRZ.out, List.nil_append]⟩, ⟨by rw [List.append_nil]; exact HI.out⟩, ⟨FrB.refl _ _⟩⟩
   case round =>
    obtain ⟨i, l2, hi, rfl, HL2, HIr, HFr⟩ := hrel
    have HLL : Aside0 (l2.length ≤ 5 * 5 ^ d) := ⟨by have h1 := congrArg List.length HL2.out; rw [List.length_append] at h1; have := HTOT.out; omega⟩
    obtain ⟨vf2, hcs2, _⟩ := HIr.out
    have c0r := cell_of_row wr gs 0 _ ts (0, 0) hcs2
    have c1r := cell_of_row wr gs 1 _ ts (0, 0) hcs2
    simp only [cs5, List.getElem?_toArray, List.getElem?_cons_zero, List.getElem?_cons_succ] at c0r c1r
    have hcxr := (Kd.at_int (HM.out _ (HF.out.trans HFr.out)) (h.length : Int) (by omega) (by omega))
    rw [Int.toNat_natCast, hxv] at hcxr
    obtain ⟨ad1, e1, hcxr⟩ := hcxr
    cases e1
    have HOHr := Aside0.mk (own_later HOH.out HFr.out hgsl)
    clear hcs2
    have HNX : Aside0 (∀ n : Int, n = (subs : Int) - i → Value.int .i64 (n - 1) = .int .i64 ((subs : Int) - ((i + 1 : Nat) : Int))) := ⟨fun n hn => by subst hn; congr 1; omega⟩
    by_cases hlt : i ≤ subs
    ·by_cases hz : i = subs
     ·have hn0 : (subs : Int) - i = 0 := by omega
      have HNX := Aside0.mk (HNX.out 0 hn0.symm)
      have HMS : Aside0 ((intOf (Value.int .i64 (0 - 1)) + 1).toNat < (intOf (Value.int .i64 0) + 1).toNat) := ⟨by simp [intOf]⟩
      have HRS := Aside0.mk (show restO m h.length g subs x i = x :: restO m h.length g subs x (i + 1) by unfold restO; rw [if_pos (by omega), if_neg (by omega), show subs - i = 0 by omega]; rfl)
      have HNY := Aside0.mk (show NumH x by rcases HXN.out with h1 | h1; exact absurd h1 hb; exact Or.inr (Or.inl h1))
      rw [hn0]
      have HW0 := Aside0.mk (FrB.refl [] wr)
      have HOC := HOHr
      have HC1 := Aside0.mk c1r
      have HAP : Aside0 (∀ w3, FrB [] wr w3 → FrB [gs] w w3) := ⟨fun w3 h3 => HFr.out.trans ((HW0.out.trans h3).mono (by simp))⟩
      have HSI : Aside0 (∀ w3, FrB [] wr w3 → SI wS gs (some ad) cm m sets subs ts (l ++ l2) w3) := ⟨fun w3 h3 => HIr.out.later (HW0.out.trans h3)⟩
      by_cases hw : setsH (h ++ [x]) ≤ sets <;> have HWF := Aside0.mk hw <;> clear hw
      ·go_wp2_with (first
        | ((with_reducible refine gate_dst (N := 100) rfl ?_); refine Kd.R_lit (Kd.int .i8) _ 64 ?hg (N := 100) ?hd (xs := ([] : List Int)) (inner := []) (ok := fun _ => True) (okp := fun _ => True) ?hr ?hp (fun _ hk => hk) trivial (Below.refl _ _) (Nat.le_refl _) (by simp) ?_; (case hd => rfl); (case hg => rfl); (case hr => first | (go_simp; done) | (go_simp; rfl)); (case hp => exact (Reps.none _ _)); intro v1 w1 ho1 hb1 _ _; have HO1 := Aside0.mk ho1; have HF1 := Aside0.mk (FrB.below (B := []) hb1); clear ho1 hb1)
        | ((with_reducible refine gate_builtin (b := .append) (xs := #[.tmp 100, .tmp 101]) rfl ?_); at_builtin; refine Kd.R_append_rows (Kd.int .i8) (w0 := w1) _ rfl (.tmp 100) (.tmp 101) 28 64 (.int .i8 0) 1 rfl Try.underlying28 infoI8 rfl (by decide) (by omega) v1 [] h A h.length c (fun _ => True) (fun _ => False) rfl rfl HO1.out (Kd.R_reads' (own_later HOC.out HF1.out (by simp))).2.2 (fun _ _ h => h) (fun _ h => h.elim) (fun _ _ => trivial) (Below.refl _ _) HF1.out.size (by simp; omega) ?_; intro v2 w2 ho2 hb2 hg2 hat2; obtain ⟨A2, c2, rfl⟩ := Kd.R_slice ho2; have HO2 := Aside0.mk ho2; have HF2 := Aside0.mk (HF1.out.grown hg2 (fun k hk => Kd.R_base HO1.out k hk)); clear ho2 hb2 hg2 hat2)
        | ((with_reducible refine gate_builtin (b := .append) (xs := #[.tmp 102, .tmp 104]) rfl ?_); (try (refine gate_guard (by rfl) ?_; dsimp only)); at_builtin; refine Kd.R_append (Kd.int .i8) (w0 := w2) _ rfl (.tmp 102) (.tmp 104) 28 64 (.int .i8 0) 1 rfl Try.underlying28 infoI8 rfl (by decide) (by omega) (.slice A2 h.length c2) h x [.int .i8 x] (fun _ => True) (fun _ => False) rfl rfl rfl (fun _ hk => hk.elim) (fun _ _ => trivial) HO2.out (Below.refl _ _) HF2.out.size (by omega) ?_; intro v3 w3 ho3 hb3 hg3 hat3; generalize hH2 : h ++ [x] = h2 at ho3; have HH2 := Aside0.mk hH2; clear hH2; obtain ⟨A3, c3, rfl⟩ := Kd.R_slice ho3; have HO3 := Aside0.mk ho3; have HF3 := Aside0.mk (HF2.out.grown hg3 (fun k hk => Kd.R_base HO2.out k hk)); clear ho3 hb3 hg3 hat3))
       have hw2 : setsH h2 ≤ sets := by rw [← HH2.out]; exact HWF.out
       have hw3 := decide_eq_true hw2
       have HC3 := Aside0.mk (Kd.R_reads' HO3.out).2.1
       refine start_ (n := 7) (S := fun w' => FrB [] w3 w') (ds := []) #[false, false, false, false, false, false, false] (by kernel_rfl) rfl rfl (FrB.below (below_drew (Below.refl _ _))) (fun hHeld => ?_)
       refine pure_ (i := 0) (N := some 106) (v := ?_) (a' := ?_) #[true, false, false, false, false, false, false] rfl rfl (by kernel_rfl) (fun _ _ _ h => h) (Or.inl ⟨by rfl, ?_⟩) ?_ ?_
       rotate_left
       ·intro w'
        go_simp
        with_reducible rfl
       rotate_left
       ·simp only [Act.put, List.setIfInBounds_toArray, List.set_cons_zero, List.set_cons_succ, i64_w, i32_w]
        rfl
       refine pure_ (i := 2) (N := some 108) (v := ?_) (a' := ?_) #[true, false, true, false, false, false, false] rfl rfl (by kernel_rfl) (fun _ _ _ h => h) (Or.inl ⟨by rfl, ?_⟩) ?_ ?_
       rotate_left
       ·intro w'
        go_simp
        with_reducible rfl
       rotate_left
       ·simp only [Act.put, List.setIfInBounds_toArray, List.set_cons_zero, List.set_cons_succ, i64_w, i32_w]
        rfl
       refine pure_ (i := 3) (N := some 109) (v := ?_) (a' := ?_) #[true, false, true, true, false, false, false] rfl rfl (by kernel_rfl) (fun _ _ _ h => h) (Or.inl ⟨by rfl, ?_⟩) ?_ ?_
       rotate_left
       ·intro w'
        go_simp
        with_reducible rfl
       rotate_left
       ·simp only [Act.put, List.setIfInBounds_toArray, List.set_cons_zero, List.set_cons_succ, i64_w, i32_w]
        rfl
       refine pure_ (i := 4) (N := some 110) (v := ?_) (a' := ?_) #[true, false, true, true, true, false, false] rfl rfl (by kernel_rfl) (fun _ _ _ h => h) (Or.inl ⟨by rfl, ?_⟩) ?_ ?_
       rotate_left
       ·intro w'
        go_simp
        with_reducible rfl
       rotate_left
       ·simp only [Act.put, List.setIfInBounds_toArray, List.set_cons_zero, List.set_cons_succ, i64_w, i32_w]
        rfl
       refine take_ (i := 5) (N := some 111) (v := .int .i64 sets) (a' := ?_) #[true, false, true, true, true, true, false] rfl rfl (by kernel_rfl) (fun _ _ _ h => h) (Or.inl ⟨by rfl, ?_⟩) hHeld ?_ ?_
       ·intro w' s0
        exact y_cell (by rfl) (by rfl) oneI64' (s0.read (HF3.out.read HC1.out))
       rotate_left
       ·simp only [Act.put, List.setIfInBounds_toArray, List.set_cons_zero, List.set_cons_succ, i64_w, i32_w]
        rfl
       refine one_ (i := 1) (N := some 107) #[true, true, true, true, true, true, false] rfl rfl (by kernel_rfl) (by decide) (fun K hK => ?_)
       refine goes_ Try.func50 (by kernel_rfl) rfl #[.slice A3 h2.length c3] (by rfl) rfl rfl (by simp only [List.map_toArray, List.map_cons, List.map_nil]; rfl) ?_
       refine (HSETS.out h2 x A3 c3 _ HH2.out HNY.out (Kd.R_reads' (own_later HO3.out hHeld (by simp))).2.2 HC3.out).mono ?_
       rintro e w4 ⟨rfl, hb4⟩
       refine ⟨_, rfl, ?_⟩
       refine hK.out _ _ (hHeld.trans (FrB.below hb4)) (fun hHeld => ?_)
       clear hK K
       refine norm_ (a' := ?_) ?_ ?_
       rotate_left
       ·show Act.put _ (some 107) _ = _
        simp only [Act.put, List.setIfInBounds_toArray, List.set_cons_zero, List.set_cons_succ, i64_w, i32_w]
        rfl
       refine pure_ (i := 6) (N := some 112) (v := ?_) (a' := ?_) #[true, true, true, true, true, true, true] rfl rfl (by kernel_rfl) (fun _ _ _ h => h) (Or.inl ⟨by rfl, ?_⟩) ?_ ?_
       rotate_left
       ·intro w'
        go_simp
        with_reducible rfl
       rotate_left
       ·simp only [Act.put, List.setIfInBounds_toArray, List.set_cons_zero, List.set_cons_succ, i64_w, i32_w]
        rfl
       refine done_ (by kernel_rfl) ?_
       skip
       have HHD := Aside0.mk hHeld
       go_wp2_with (go_at_call 39; refine (HIH.out h2 x A3 c3 _ l2 HH2.out HNY.out (HAP.out _ (HF3.out.trans HHD.out)) (HSI.out _ (HF3.out.trans HHD.out)) (own_later (own_lower HO3.out (Nat.le_trans hsz (Nat.le_trans HFr.out.size HW0.out.size))) HHD.out (by simp)) HLL.out).mono ?_; rintro e w7 ⟨rfl, hI7, hf7⟩; have HI7 := Aside0.mk hI7; have HF7 := Aside0.mk hf7; clear hI7 hf7)
       go_roundw
       case rel => exact ⟨i + 1, l2 ++ leaves m subs (within sets) d (h ++ [x]) g, by omega, (by first | exact HNX.out | (rw [← HNX.out]; rfl)), ⟨by rw [← HL2.out, HRS.out, goesS_cons, within_sets, decide_eq_true HWF.out, if_pos rfl, List.append_assoc]⟩, ⟨by rw [← List.append_assoc]; exact HI7.out⟩, ⟨(HAP.out _ (HF3.out.trans HHD.out)).trans HF7.out⟩⟩
       case measure => first | exact HMS.out | (simp [intOf]; done)
      ·go_wp2_with (first
        | ((with_reducible refine gate_dst (N := 100) rfl ?_); refine Kd.R_lit (Kd.int .i8) _ 64 ?hg (N := 100) ?hd (xs := ([] : List Int)) (inner := []) (ok := fun _ => True) (okp := fun _ => True) ?hr ?hp (fun _ hk => hk) trivial (Below.refl _ _) (Nat.le_refl _) (by simp) ?_; (case hd => rfl); (case hg => rfl); (case hr => first | (go_simp; done) | (go_simp; rfl)); (case hp => exact (Reps.none _ _)); intro v1 w1 ho1 hb1 _ _; have HO1 := Aside0.mk ho1; have HF1 := Aside0.mk (FrB.below (B := []) hb1); clear ho1 hb1)
        | ((with_reducible refine gate_builtin (b := .append) (xs := #[.tmp 100, .tmp 101]) rfl ?_); at_builtin; refine Kd.R_append_rows (Kd.int .i8) (w0 := w1) _ rfl (.tmp 100) (.tmp 101) 28 64 (.int .i8 0) 1 rfl Try.underlying28 infoI8 rfl (by decide) (by omega) v1 [] h A h.length c (fun _ => True) (fun _ => False) rfl rfl HO1.out (Kd.R_reads' (own_later HOC.out HF1.out (by simp))).2.2 (fun _ _ h => h) (fun _ h => h.elim) (fun _ _ => trivial) (Below.refl _ _) HF1.out.size (by simp; omega) ?_; intro v2 w2 ho2 hb2 hg2 hat2; obtain ⟨A2, c2, rfl⟩ := Kd.R_slice ho2; have HO2 := Aside0.mk ho2; have HF2 := Aside0.mk (HF1.out.grown hg2 (fun k hk => Kd.R_base HO1.out k hk)); clear ho2 hb2 hg2 hat2)
        | ((with_reducible refine gate_builtin (b := .append) (xs := #[.tmp 102, .tmp 104]) rfl ?_); (try (refine gate_guard (by rfl) ?_; dsimp only)); at_builtin; refine Kd.R_append (Kd.int .i8) (w0 := w2) _ rfl (.tmp 102) (.tmp 104) 28 64 (.int .i8 0) 1 rfl Try.underlying28 infoI8 rfl (by decide) (by omega) (.slice A2 h.length c2) h x [.int .i8 x] (fun _ => True) (fun _ => False) rfl rfl rfl (fun _ hk => hk.elim) (fun _ _ => trivial) HO2.out (Below.refl _ _) HF2.out.size (by omega) ?_; intro v3 w3 ho3 hb3 hg3 hat3; generalize hH2 : h ++ [x] = h2 at ho3; have HH2 := Aside0.mk hH2; clear hH2; obtain ⟨A3, c3, rfl⟩ := Kd.R_slice ho3; have HO3 := Aside0.mk ho3; have HF3 := Aside0.mk (HF2.out.grown hg3 (fun k hk => Kd.R_base HO2.out k hk)); clear ho3 hb3 hg3 hat3))
       have hwf := HWF.out
       have hw2 : ¬ setsH h2 ≤ sets := by rw [← HH2.out]; omega
       clear hwf
       have hw3 := decide_eq_false hw2
       have hw4 := eq_false hw2
       have hw5 : sets < setsH h2 := by omega
       have HC3 := Aside0.mk (Kd.R_reads' HO3.out).2.1
       refine start_ (n := 7) (S := fun w' => FrB [] w3 w') (ds := []) #[false, false, false, false, false, false, false] (by kernel_rfl) rfl rfl (FrB.below (below_drew (Below.refl _ _))) (fun hHeld => ?_)
       refine pure_ (i := 0) (N := some 106) (v := ?_) (a' := ?_) #[true, false, false, false, false, false, false] rfl rfl (by kernel_rfl) (fun _ _ _ h => h) (Or.inl ⟨by rfl, ?_⟩) ?_ ?_
       rotate_left
       ·intro w'
        go_simp
        with_reducible rfl
       rotate_left
       ·simp only [Act.put, List.setIfInBounds_toArray, List.set_cons_zero, List.set_cons_succ, i64_w, i32_w]
        rfl
       refine pure_ (i := 2) (N := some 108) (v := ?_) (a' := ?_) #[true, false, true, false, false, false, false] rfl rfl (by kernel_rfl) (fun _ _ _ h => h) (Or.inl ⟨by rfl, ?_⟩) ?_ ?_
       rotate_left
       ·intro w'
        go_simp
        with_reducible rfl
       rotate_left
       ·simp only [Act.put, List.setIfInBounds_toArray, List.set_cons_zero, List.set_cons_succ, i64_w, i32_w]
        rfl
       refine pure_ (i := 3) (N := some 109) (v := ?_) (a' := ?_) #[true, false, true, true, false, false, false] rfl rfl (by kernel_rfl) (fun _ _ _ h => h) (Or.inl ⟨by rfl, ?_⟩) ?_ ?_
       rotate_left
       ·intro w'
        go_simp
        with_reducible rfl
       rotate_left
       ·simp only [Act.put, List.setIfInBounds_toArray, List.set_cons_zero, List.set_cons_succ, i64_w, i32_w]
        rfl
       refine pure_ (i := 4) (N := some 110) (v := ?_) (a' := ?_) #[true, false, true, true, true, false, false] rfl rfl (by kernel_rfl) (fun _ _ _ h => h) (Or.inl ⟨by rfl, ?_⟩) ?_ ?_
       rotate_left
       ·intro w'
        go_simp
        with_reducible rfl
       rotate_left
       ·simp only [Act.put, List.setIfInBounds_toArray, List.set_cons_zero, List.set_cons_succ, i64_w, i32_w]
        rfl
       refine take_ (i := 5) (N := some 111) (v := .int .i64 sets) (a' := ?_) #[true, false, true, true, true, true, false] rfl rfl (by kernel_rfl) (fun _ _ _ h => h) (Or.inl ⟨by rfl, ?_⟩) hHeld ?_ ?_
       ·intro w' s0
        exact y_cell (by rfl) (by rfl) oneI64' (s0.read (HF3.out.read HC1.out))
       rotate_left
       ·simp only [Act.put, List.setIfInBounds_toArray, List.set_cons_zero, List.set_cons_succ, i64_w, i32_w]
        rfl
       refine one_ (i := 1) (N := some 107) #[true, true, true, true, true, true, false] rfl rfl (by kernel_rfl) (by decide) (fun K hK => ?_)
       refine goes_ Try.func50 (by kernel_rfl) rfl #[.slice A3 h2.length c3] (by rfl) rfl rfl (by simp only [List.map_toArray, List.map_cons, List.map_nil]; rfl) ?_
       refine (HSETS.out h2 x A3 c3 _ HH2.out HNY.out (Kd.R_reads' (own_later HO3.out hHeld (by simp))).2.2 HC3.out).mono ?_
       rintro e w4 ⟨rfl, hb4⟩
       refine ⟨_, rfl, ?_⟩
       refine hK.out _ _ (hHeld.trans (FrB.below hb4)) (fun hHeld => ?_)
       clear hK K
       refine norm_ (a' := ?_) ?_ ?_
       rotate_left
       ·show Act.put _ (some 107) _ = _
        simp only [Act.put, List.setIfInBounds_toArray, List.set_cons_zero, List.set_cons_succ, i64_w, i32_w]
        rfl
       refine pure_ (i := 6) (N := some 112) (v := ?_) (a' := ?_) #[true, true, true, true, true, true, true] rfl rfl (by kernel_rfl) (fun _ _ _ h => h) (Or.inl ⟨by rfl, ?_⟩) ?_ ?_
       rotate_left
       ·intro w'
        go_simp
        with_reducible rfl
       rotate_left
       ·simp only [Act.put, List.setIfInBounds_toArray, List.set_cons_zero, List.set_cons_succ, i64_w, i32_w]
        rfl
       refine done_ (by kernel_rfl) ?_
       skip
       have HHD := Aside0.mk hHeld
       go_wp2_with fail
       go_roundw
       case rel => exact ⟨i + 1, l2, by omega, (by first | exact HNX.out | (rw [← HNX.out]; rfl)), ⟨by rw [← HL2.out, HRS.out, goesS_cons, within_sets, decide_eq_false (show ¬ setsH (h ++ [x]) ≤ sets by have := HWF.out; omega), if_neg (by simp), List.nil_append]⟩, ⟨HSI.out _ (HF3.out.trans HHD.out)⟩, ⟨HAP.out _ (HF3.out.trans HHD.out)⟩⟩
       case measure => first | exact HMS.out | (simp [intOf]; done)
     ·have hn1 : 1 ≤ (subs : Int) - i := by omega
      have hn4 : (subs : Int) - i ≤ 4 := by omega
      have HR0 := Aside0.mk (show restO m h.length g subs x i = (if subOk m h.length g (-((subs : Int) - i)) = true then [-((subs : Int) - i)] else []) ++ restO m h.length g subs x (i + 1) by
       unfold restO
       rw [if_pos (show i ≤ subs by omega), if_pos (show i + 1 ≤ subs by omega)]
       obtain ⟨t, ht⟩ : ∃ t, subs - i = t + 1 := ⟨subs - i - 1, by omega⟩
       rw [ht, show subs - (i + 1) = t by omega, subsTo, show -((t : Int) + 1) = -((subs : Int) - i) by omega, List.append_assoc])
      have HNX := Aside0.mk (HNX.out _ rfl)
      have HMS : Aside0 ((intOf (Value.int .i64 ((subs : Int) - i - 1)) + 1).toNat < (intOf (Value.int .i64 ((subs : Int) - i)) + 1).toNat) := ⟨by simp only [intOf]; omega⟩
      generalize (subs : Int) - i = n at *
      have hv1 : wrap64 (-n) = -n := w64 (by omega) (by omega)
      have hv2 : IntKind.i8.wrap (-n) = -n := i8w (by omega) (by omega)
      have hv3 : wrap64 (g + n) = g + n := w64 (by omega) (by omega)
      have hv4 : wrap64 (g + n - 1) = g + n - 1 := w64 (by omega) (by omega)
      have hv5 : (n == 0) = false := by rw [beq_eq_false_iff_ne]; omega
      have HNY := Aside0.mk (show NumH (-n) from Or.inr (Or.inr (by omega)))
      have hp0 : 1 ≤ g + n := by omega
      have HSO : Aside0 (subOk m h.length g (-n) = decide (g + n - 1 < (h.length : Int) ∧ rd m (g + n - 1) = x)) := ⟨by unfold subOk; rw [hxv, show g - -n - 1 = g + n - 1 by omega]⟩
      by_cases hat : g + n - 1 < (h.length : Int)
      ·have hca := Kd.at_int (HM.out _ (HF.out.trans HFr.out)) (g + n - 1) (by omega) (by omega)
       rw [show (g + n - 1).toNat = (g + n).toNat - 1 by omega] at hca
       obtain ⟨ad2, e2, hca⟩ := hca
       cases e2
       have hge1 : decide ((h.length : Int) ≤ g + n - 1) = false := decide_eq_false (by omega)
       have hge2 : decide ((h.length : Int) < g + n) = false := decide_eq_false (by omega)
       have hge3 : ¬ ((h.length : Int) < g + n) := by omega
       have hpm1 : g + n - 1 < (m.length : Int) := by omega
       have hpm2 : g + n ≤ (m.length : Int) := by omega
       generalize rd m (g + n - 1) = y at *
       by_cases heq : y = x
       ·subst heq
        have HRS := Aside0.mk (show restO m h.length g subs y i = -n :: restO m h.length g subs y (i + 1) by rw [HR0.out, if_pos (by rw [HSO.out]; exact decide_eq_true ⟨hat, rfl⟩)]; rfl)
        go_wp2_with fail
        refine start_ (n := 26) (S := fun w' => FrB [] wr w') (ds := []) #[false, false, false, false, false, false, false, false, false, false, false, false, false, false, false, false, false, false, false, false, false, false, false, false, false, false] (by kernel_rfl) rfl rfl (FrB.below (below_drew (Below.refl _ _))) (fun hHeld => ?_)
        refine pure_ (i := 0) (N := some 74) (v := ?_) (a' := ?_) #[true, false, false, false, false, false, false, false, false, false, false, false, false, false, false, false, false, false, false, false, false, false, false, false, false, false] rfl rfl (by kernel_rfl) (fun _ _ _ h => h) (Or.inl ⟨by rfl, ?_⟩) ?_ ?_
        rotate_left
        ·intro w'
         go_simp
         with_reducible rfl
        rotate_left
        ·simp only [Act.put, List.setIfInBounds_toArray, List.set_cons_zero, List.set_cons_succ, i64_w, i32_w]
         rfl
        refine pure_ (i := 1) (N := some 75) (v := ?_) (a' := ?_) #[true, true, false, false, false, false, false, false, false, false, false, false, false, false, false, false, false, false, false, false, false, false, false, false, false, false] rfl rfl (by kernel_rfl) (fun _ _ _ h => h) (Or.inl ⟨by rfl, ?_⟩) ?_ ?_
        rotate_left
        ·intro w'
         go_simp
         with_reducible rfl
        rotate_left
        ·simp only [Act.put, List.setIfInBounds_toArray, List.set_cons_zero, List.set_cons_succ, i64_w, i32_w]
         rfl
        refine pure_ (i := 2) (N := some 76) (v := ?_) (a' := ?_) #[true, true, true, false, false, false, false, false, false, false, false, false, false, false, false, false, false, false, false, false, false, false, false, false, false, false] rfl rfl (by kernel_rfl) (fun _ _ _ h => h) (Or.inl ⟨by rfl, ?_⟩) ?_ ?_
        rotate_left
        ·intro w'
         go_simp
         with_reducible rfl
        rotate_left
        ·simp only [Act.put, List.setIfInBounds_toArray, List.set_cons_zero, List.set_cons_succ, i64_w, i32_w]
         rfl
        refine pure_ (i := 3) (N := some 77) (v := ?_) (a' := ?_) #[true, true, true, true, false, false, false, false, false, false, false, false, false, false, false, false, false, false, false, false, false, false, false, false, false, false] rfl rfl (by kernel_rfl) (fun _ _ _ h => h) (Or.inl ⟨by rfl, ?_⟩) ?_ ?_
        rotate_left
        ·intro w'
         go_simp
         with_reducible rfl
        rotate_left
        ·simp only [Act.put, List.setIfInBounds_toArray, List.set_cons_zero, List.set_cons_succ, i64_w, i32_w]
         rfl
        refine pure_ (i := 4) (N := some 78) (v := ?_) (a' := ?_) #[true, true, true, true, true, false, false, false, false, false, false, false, false, false, false, false, false, false, false, false, false, false, false, false, false, false] rfl rfl (by kernel_rfl) (fun _ _ _ h => h) (Or.inl ⟨by rfl, ?_⟩) ?_ ?_
        rotate_left
        ·intro w'
         go_simp
         with_reducible rfl
        rotate_left
        ·simp only [Act.put, List.setIfInBounds_toArray, List.set_cons_zero, List.set_cons_succ, i64_w, i32_w]
         rfl
        refine pure_ (i := 5) (N := some 79) (v := ?_) (a' := ?_) #[true, true, true, true, true, true, false, false, false, false, false, false, false, false, false, false, false, false, false, false, false, false, false, false, false, false] rfl rfl (by kernel_rfl) (fun _ _ _ h => h) (Or.inl ⟨by rfl, ?_⟩) ?_ ?_
        rotate_left
        ·intro w'
         go_simp
         with_reducible rfl
        rotate_left
        ·simp only [Act.put, List.setIfInBounds_toArray, List.set_cons_zero, List.set_cons_succ, i64_w, i32_w]
         rfl
        refine pure_ (i := 6) (N := some 80) (v := ?_) (a' := ?_) #[true, true, true, true, true, true, true, false, false, false, false, false, false, false, false, false, false, false, false, false, false, false, false, false, false, false] rfl rfl (by kernel_rfl) (fun _ _ _ h => h) (Or.inl ⟨by rfl, ?_⟩) ?_ ?_
        rotate_left
        ·intro w'
         go_simp
         with_reducible rfl
        rotate_left
        ·simp only [Act.put, List.setIfInBounds_toArray, List.set_cons_zero, List.set_cons_succ, i64_w, i32_w]
         rfl
        refine pure_ (i := 7) (N := some 81) (v := ?_) (a' := ?_) #[true, true, true, true, true, true, true, true, false, false, false, false, false, false, false, false, false, false, false, false, false, false, false, false, false, false] rfl rfl (by kernel_rfl) (fun _ _ _ h => h) (Or.inl ⟨by rfl, ?_⟩) ?_ ?_
        rotate_left
        ·intro w'
         go_simp
         with_reducible rfl
        rotate_left
        ·simp only [Act.put, List.setIfInBounds_toArray, List.set_cons_zero, List.set_cons_succ, i64_w, i32_w]
         rfl
        refine pure_ (i := 8) (N := some 82) (v := ?_) (a' := ?_) #[true, true, true, true, true, true, true, true, true, false, false, false, false, false, false, false, false, false, false, false, false, false, false, false, false, false] rfl rfl (by kernel_rfl) (fun _ _ _ h => h) (Or.inl ⟨by rfl, ?_⟩) ?_ ?_
        rotate_left
        ·intro w'
         go_simp
         with_reducible rfl
        rotate_left
        ·simp only [Act.put, List.setIfInBounds_toArray, List.set_cons_zero, List.set_cons_succ, i64_w, i32_w]
         rfl
        refine pure_ (i := 9) (N := some 83) (v := ?_) (a' := ?_) #[true, true, true, true, true, true, true, true, true, true, false, false, false, false, false, false, false, false, false, false, false, false, false, false, false, false] rfl rfl (by kernel_rfl) (fun _ _ _ h => h) (Or.inl ⟨by rfl, ?_⟩) ?_ ?_
        rotate_left
        ·intro w'
         go_simp
         with_reducible rfl
        rotate_left
        ·simp only [Act.put, List.setIfInBounds_toArray, List.set_cons_zero, List.set_cons_succ, i64_w, i32_w]
         rfl
        refine pure_ (i := 11) (N := some 85) (v := ?_) (a' := ?_) #[true, true, true, true, true, true, true, true, true, true, false, true, false, false, false, false, false, false, false, false, false, false, false, false, false, false] rfl rfl (by kernel_rfl) (fun _ _ _ h => h) (Or.inl ⟨by rfl, ?_⟩) ?_ ?_
        rotate_left
        ·intro w'
         go_simp
         with_reducible rfl
        rotate_left
        ·simp only [Act.put, List.setIfInBounds_toArray, List.set_cons_zero, List.set_cons_succ, i64_w, i32_w]
         rfl
        refine pure_ (i := 12) (N := some 86) (v := ?_) (a' := ?_) #[true, true, true, true, true, true, true, true, true, true, false, true, true, false, false, false, false, false, false, false, false, false, false, false, false, false] rfl rfl (by kernel_rfl) (fun _ _ _ h => h) (Or.inl ⟨by rfl, ?_⟩) ?_ ?_
        rotate_left
        ·intro w'
         go_simp
         with_reducible rfl
        rotate_left
        ·simp only [Act.put, List.setIfInBounds_toArray, List.set_cons_zero, List.set_cons_succ, i64_w, i32_w]
         rfl
        refine pure_ (i := 13) (N := some 87) (v := ?_) (a' := ?_) #[true, true, true, true, true, true, true, true, true, true, false, true, true, true, false, false, false, false, false, false, false, false, false, false, false, false] rfl rfl (by kernel_rfl) (fun _ _ _ h => h) (Or.inl ⟨by rfl, ?_⟩) ?_ ?_
        rotate_left
        ·intro w'
         go_simp
         with_reducible rfl
        rotate_left
        ·simp only [Act.put, List.setIfInBounds_toArray, List.set_cons_zero, List.set_cons_succ, i64_w, i32_w]
         rfl
        refine pure_ (i := 14) (N := some 88) (v := ?_) (a' := ?_) #[true, true, true, true, true, true, true, true, true, true, false, true, true, true, true, false, false, false, false, false, false, false, false, false, false, false] rfl rfl (by kernel_rfl) (fun _ _ _ h => h) (Or.inl ⟨by rfl, ?_⟩) ?_ ?_
        rotate_left
        ·intro w'
         go_simp
         with_reducible rfl
        rotate_left
        ·simp only [Act.put, List.setIfInBounds_toArray, List.set_cons_zero, List.set_cons_succ, i64_w, i32_w]
         rfl
        refine pure_ (i := 17) (N := some 91) (v := ?_) (a' := ?_) #[true, true, true, true, true, true, true, true, true, true, false, true, true, true, true, false, false, true, false, false, false, false, false, false, false, false] rfl rfl (by kernel_rfl) (fun _ _ _ h => h) (Or.inl ⟨by rfl, ?_⟩) ?_ ?_
        rotate_left
        ·intro w'
         go_simp
         with_reducible rfl
        rotate_left
        ·simp only [Act.put, List.setIfInBounds_toArray, List.set_cons_zero, List.set_cons_succ, i64_w, i32_w]
         rfl
        refine pure_ (i := 18) (N := some 92) (v := ?_) (a' := ?_) #[true, true, true, true, true, true, true, true, true, true, false, true, true, true, true, false, false, true, true, false, false, false, false, false, false, false] rfl rfl (by kernel_rfl) (fun _ _ _ h => h) (Or.inl ⟨by rfl, ?_⟩) ?_ ?_
        rotate_left
        ·intro w'
         go_simp
         with_reducible rfl
        rotate_left
        ·simp only [Act.put, List.setIfInBounds_toArray, List.set_cons_zero, List.set_cons_succ, i64_w, i32_w]
         rfl
        refine pure_ (i := 19) (N := some 93) (v := ?_) (a' := ?_) #[true, true, true, true, true, true, true, true, true, true, false, true, true, true, true, false, false, true, true, true, false, false, false, false, false, false] rfl rfl (by kernel_rfl) (fun _ _ _ h => h) (Or.inl ⟨by rfl, ?_⟩) ?_ ?_
        rotate_left
        ·intro w'
         go_simp
         with_reducible rfl
        rotate_left
        ·simp only [Act.put, List.setIfInBounds_toArray, List.set_cons_zero, List.set_cons_succ, i64_w, i32_w]
         rfl
        refine pure_ (i := 21) (N := some 95) (v := ?_) (a' := ?_) #[true, true, true, true, true, true, true, true, true, true, false, true, true, true, true, false, false, true, true, true, false, true, false, false, false, false] rfl rfl (by kernel_rfl) (fun _ _ _ h => h) (Or.inl ⟨by rfl, ?_⟩) ?_ ?_
        rotate_left
        ·intro w'
         go_simp
         with_reducible rfl
        rotate_left
        ·simp only [Act.put, List.setIfInBounds_toArray, List.set_cons_zero, List.set_cons_succ, i64_w, i32_w]
         rfl
        refine take_ (i := 10) (N := some 84) (v := .slice (some ad) m.length cm) (a' := ?_) #[true, true, true, true, true, true, true, true, true, true, true, true, true, true, true, false, false, true, true, true, false, true, false, false, false, false] rfl rfl (by kernel_rfl) (fun _ _ _ h => h) (Or.inl ⟨by rfl, ?_⟩) hHeld ?_ ?_
        ·intro w' s0
         exact y_cell (by rfl) (by rfl) oneMean (s0.read c0r)
        rotate_left
        ·simp only [Act.put, List.setIfInBounds_toArray, List.set_cons_zero, List.set_cons_succ, i64_w, i32_w]
         rfl
        refine pure_ (i := 15) (N := some 89) (v := ?_) (a' := ?_) #[true, true, true, true, true, true, true, true, true, true, true, true, true, true, true, true, false, true, true, true, false, true, false, false, false, false] rfl rfl (by kernel_rfl) (fun _ _ _ h => h) (Or.inl ⟨by rfl, ?_⟩) ?_ ?_
        rotate_left
        ·intro w'
         go_simp
         with_reducible rfl
        rotate_left
        ·simp only [Act.put, List.setIfInBounds_toArray, List.set_cons_zero, List.set_cons_succ, i64_w, i32_w]
         rfl
        refine take_ (i := 16) (N := some 90) (v := .int .i8 y) (a' := ?_) #[true, true, true, true, true, true, true, true, true, true, true, true, true, true, true, true, true, true, true, true, false, true, false, false, false, false] rfl rfl (by kernel_rfl) (fun _ _ _ h => h) (Or.inl ⟨by rfl, ?_⟩) hHeld ?_ ?_
        ·intro w' s0
         exact y_cell (by rfl) (by rfl) oneI8 (s0.read hca)
        rotate_left
        ·simp only [Act.put, List.setIfInBounds_toArray, List.set_cons_zero, List.set_cons_succ, i64_w, i32_w]
         rfl
        refine take_ (i := 20) (N := some 94) (v := .slice (some ad) m.length cm) (a' := ?_) #[true, true, true, true, true, true, true, true, true, true, true, true, true, true, true, true, true, true, true, true, true, true, false, false, false, false] rfl rfl (by kernel_rfl) (fun _ _ _ h => h) (Or.inl ⟨by rfl, ?_⟩) hHeld ?_ ?_
        ·intro w' s0
         exact y_cell (by rfl) (by rfl) oneMean (s0.read c0r)
        rotate_left
        ·simp only [Act.put, List.setIfInBounds_toArray, List.set_cons_zero, List.set_cons_succ, i64_w, i32_w]
         rfl
        refine pure_ (i := 22) (N := some 96) (v := ?_) (a' := ?_) #[true, true, true, true, true, true, true, true, true, true, true, true, true, true, true, true, true, true, true, true, true, true, true, false, false, false] rfl rfl (by kernel_rfl) (fun _ _ _ h => h) (Or.inl ⟨by rfl, ?_⟩) ?_ ?_
        rotate_left
        ·intro w'
         go_simp
         with_reducible rfl
        rotate_left
        ·simp only [Act.put, List.setIfInBounds_toArray, List.set_cons_zero, List.set_cons_succ, i64_w, i32_w]
         rfl
        refine take_ (i := 23) (N := some 97) (v := .int .i8 y) (a' := ?_) #[true, true, true, true, true, true, true, true, true, true, true, true, true, true, true, true, true, true, true, true, true, true, true, true, false, false] rfl rfl (by kernel_rfl) (fun _ _ _ h => h) (Or.inl ⟨by rfl, ?_⟩) hHeld ?_ ?_
        ·intro w' s0
         exact y_cell (by rfl) (by rfl) oneI8 (s0.read hcxr)
        rotate_left
        ·simp only [Act.put, List.setIfInBounds_toArray, List.set_cons_zero, List.set_cons_succ, i64_w, i32_w]
         rfl
        refine pure_ (i := 24) (N := some 98) (v := ?_) (a' := ?_) #[true, true, true, true, true, true, true, true, true, true, true, true, true, true, true, true, true, true, true, true, true, true, true, true, true, false] rfl rfl (by kernel_rfl) (fun _ _ _ h => h) (Or.inl ⟨by rfl, ?_⟩) ?_ ?_
        rotate_left
        ·intro w'
         go_simp
         with_reducible rfl
        rotate_left
        ·simp only [Act.put, List.setIfInBounds_toArray, List.set_cons_zero, List.set_cons_succ, i64_w, i32_w]
         rfl
        refine pure_ (i := 25) (N := some 99) (v := ?_) (a' := ?_) #[true, true, true, true, true, true, true, true, true, true, true, true, true, true, true, true, true, true, true, true, true, true, true, true, true, true] rfl rfl (by kernel_rfl) (fun _ _ _ h => h) (Or.inl ⟨by rfl, ?_⟩) ?_ ?_
        rotate_left
        ·intro w'
         go_simp
         with_reducible rfl
        rotate_left
        ·simp only [Act.put, List.setIfInBounds_toArray, List.set_cons_zero, List.set_cons_succ, i64_w, i32_w]
         rfl
        refine done_ (by kernel_rfl) ?_
        skip
        have HW0 := Aside0.mk hHeld
        have HOC := Aside0.mk (own_later HOHr.out HW0.out (by simp))
        have HC1 := Aside0.mk (HW0.out.read c1r)
        clear hHeld
        generalize wr.drew = wd at *
        have HAP : Aside0 (∀ w3, FrB [] wd w3 → FrB [gs] w w3) := ⟨fun w3 h3 => HFr.out.trans ((HW0.out.trans h3).mono (by simp))⟩
        have HSI : Aside0 (∀ w3, FrB [] wd w3 → SI wS gs (some ad) cm m sets subs ts (l ++ l2) w3) := ⟨fun w3 h3 => HIr.out.later (HW0.out.trans h3)⟩
        by_cases hw : setsH (h ++ [(-n)]) ≤ sets <;> have HWF := Aside0.mk hw <;> clear hw
        ·go_wp2_with (first
          | ((with_reducible refine gate_dst (N := 100) rfl ?_); refine Kd.R_lit (Kd.int .i8) _ 64 ?hg (N := 100) ?hd (xs := ([] : List Int)) (inner := []) (ok := fun _ => True) (okp := fun _ => True) ?hr ?hp (fun _ hk => hk) trivial (Below.refl _ _) (Nat.le_refl _) (by simp) ?_; (case hd => rfl); (case hg => rfl); (case hr => first | (go_simp; done) | (go_simp; rfl)); (case hp => exact (Reps.none _ _)); intro v1 w1 ho1 hb1 _ _; have HO1 := Aside0.mk ho1; have HF1 := Aside0.mk (FrB.below (B := []) hb1); clear ho1 hb1)
          | ((with_reducible refine gate_builtin (b := .append) (xs := #[.tmp 100, .tmp 101]) rfl ?_); at_builtin; refine Kd.R_append_rows (Kd.int .i8) (w0 := w1) _ rfl (.tmp 100) (.tmp 101) 28 64 (.int .i8 0) 1 rfl Try.underlying28 infoI8 rfl (by decide) (by omega) v1 [] h A h.length c (fun _ => True) (fun _ => False) rfl rfl HO1.out (Kd.R_reads' (own_later HOC.out HF1.out (by simp))).2.2 (fun _ _ h => h) (fun _ h => h.elim) (fun _ _ => trivial) (Below.refl _ _) HF1.out.size (by simp; omega) ?_; intro v2 w2 ho2 hb2 hg2 hat2; obtain ⟨A2, c2, rfl⟩ := Kd.R_slice ho2; have HO2 := Aside0.mk ho2; have HF2 := Aside0.mk (HF1.out.grown hg2 (fun k hk => Kd.R_base HO1.out k hk)); clear ho2 hb2 hg2 hat2)
          | ((with_reducible refine gate_builtin (b := .append) (xs := #[.tmp 102, .tmp 104]) rfl ?_); (try (refine gate_guard (by rfl) ?_; dsimp only)); at_builtin; refine Kd.R_append (Kd.int .i8) (w0 := w2) _ rfl (.tmp 102) (.tmp 104) 28 64 (.int .i8 0) 1 rfl Try.underlying28 infoI8 rfl (by decide) (by omega) (.slice A2 h.length c2) h (-n) [.int .i8 (-n)] (fun _ => True) (fun _ => False) rfl rfl rfl (fun _ hk => hk.elim) (fun _ _ => trivial) HO2.out (Below.refl _ _) HF2.out.size (by omega) ?_; intro v3 w3 ho3 hb3 hg3 hat3; generalize hH2 : h ++ [(-n)] = h2 at ho3; have HH2 := Aside0.mk hH2; clear hH2; obtain ⟨A3, c3, rfl⟩ := Kd.R_slice ho3; have HO3 := Aside0.mk ho3; have HF3 := Aside0.mk (HF2.out.grown hg3 (fun k hk => Kd.R_base HO2.out k hk)); clear ho3 hb3 hg3 hat3))
         have hw2 : setsH h2 ≤ sets := by rw [← HH2.out]; exact HWF.out
         have hw3 := decide_eq_true hw2
         have HC3 := Aside0.mk (Kd.R_reads' HO3.out).2.1
         refine start_ (n := 7) (S := fun w' => FrB [] w3 w') (ds := []) #[false, false, false, false, false, false, false] (by kernel_rfl) rfl rfl (FrB.below (below_drew (Below.refl _ _))) (fun hHeld => ?_)
         refine pure_ (i := 0) (N := some 106) (v := ?_) (a' := ?_) #[true, false, false, false, false, false, false] rfl rfl (by kernel_rfl) (fun _ _ _ h => h) (Or.inl ⟨by rfl, ?_⟩) ?_ ?_
         rotate_left
         ·intro w'
          go_simp
          with_reducible rfl
         rotate_left
         ·simp only [Act.put, List.setIfInBounds_toArray, List.set_cons_zero, List.set_cons_succ, i64_w, i32_w]
          rfl
         refine pure_ (i := 2) (N := some 108) (v := ?_) (a' := ?_) #[true, false, true, false, false, false, false] rfl rfl (by kernel_rfl) (fun _ _ _ h => h) (Or.inl ⟨by rfl, ?_⟩) ?_ ?_
         rotate_left
         ·intro w'
          go_simp
          with_reducible rfl
         rotate_left
         ·simp only [Act.put, List.setIfInBounds_toArray, List.set_cons_zero, List.set_cons_succ, i64_w, i32_w]
          rfl
         refine pure_ (i := 3) (N := some 109) (v := ?_) (a' := ?_) #[true, false, true, true, false, false, false] rfl rfl (by kernel_rfl) (fun _ _ _ h => h) (Or.inl ⟨by rfl, ?_⟩) ?_ ?_
         rotate_left
         ·intro w'
          go_simp
          with_reducible rfl
         rotate_left
         ·simp only [Act.put, List.setIfInBounds_toArray, List.set_cons_zero, List.set_cons_succ, i64_w, i32_w]
          rfl
         refine pure_ (i := 4) (N := some 110) (v := ?_) (a' := ?_) #[true, false, true, true, true, false, false] rfl rfl (by kernel_rfl) (fun _ _ _ h => h) (Or.inl ⟨by rfl, ?_⟩) ?_ ?_
         rotate_left
         ·intro w'
          go_simp
          with_reducible rfl
         rotate_left
         ·simp only [Act.put, List.setIfInBounds_toArray, List.set_cons_zero, List.set_cons_succ, i64_w, i32_w]
          rfl
         refine take_ (i := 5) (N := some 111) (v := .int .i64 sets) (a' := ?_) #[true, false, true, true, true, true, false] rfl rfl (by kernel_rfl) (fun _ _ _ h => h) (Or.inl ⟨by rfl, ?_⟩) hHeld ?_ ?_
         ·intro w' s0
          exact y_cell (by rfl) (by rfl) oneI64' (s0.read (HF3.out.read HC1.out))
         rotate_left
         ·simp only [Act.put, List.setIfInBounds_toArray, List.set_cons_zero, List.set_cons_succ, i64_w, i32_w]
          rfl
         refine one_ (i := 1) (N := some 107) #[true, true, true, true, true, true, false] rfl rfl (by kernel_rfl) (by decide) (fun K hK => ?_)
         refine goes_ Try.func50 (by kernel_rfl) rfl #[.slice A3 h2.length c3] (by rfl) rfl rfl (by simp only [List.map_toArray, List.map_cons, List.map_nil]; rfl) ?_
         refine (HSETS.out h2 (-n) A3 c3 _ HH2.out HNY.out (Kd.R_reads' (own_later HO3.out hHeld (by simp))).2.2 HC3.out).mono ?_
         rintro e w4 ⟨rfl, hb4⟩
         refine ⟨_, rfl, ?_⟩
         refine hK.out _ _ (hHeld.trans (FrB.below hb4)) (fun hHeld => ?_)
         clear hK K
         refine norm_ (a' := ?_) ?_ ?_
         rotate_left
         ·show Act.put _ (some 107) _ = _
          simp only [Act.put, List.setIfInBounds_toArray, List.set_cons_zero, List.set_cons_succ, i64_w, i32_w]
          rfl
         refine pure_ (i := 6) (N := some 112) (v := ?_) (a' := ?_) #[true, true, true, true, true, true, true] rfl rfl (by kernel_rfl) (fun _ _ _ h => h) (Or.inl ⟨by rfl, ?_⟩) ?_ ?_
         rotate_left
         ·intro w'
          go_simp
          with_reducible rfl
         rotate_left
         ·simp only [Act.put, List.setIfInBounds_toArray, List.set_cons_zero, List.set_cons_succ, i64_w, i32_w]
          rfl
         refine done_ (by kernel_rfl) ?_
         skip
         have HHD := Aside0.mk hHeld
         go_wp2_with (go_at_call 39; refine (HIH.out h2 (-n) A3 c3 _ l2 HH2.out HNY.out (HAP.out _ (HF3.out.trans HHD.out)) (HSI.out _ (HF3.out.trans HHD.out)) (own_later (own_lower HO3.out (Nat.le_trans hsz (Nat.le_trans HFr.out.size HW0.out.size))) HHD.out (by simp)) HLL.out).mono ?_; rintro e w7 ⟨rfl, hI7, hf7⟩; have HI7 := Aside0.mk hI7; have HF7 := Aside0.mk hf7; clear hI7 hf7)
         go_roundw
         case rel => exact ⟨i + 1, l2 ++ leaves m subs (within sets) d (h ++ [(-n)]) g, by omega, (by first | exact HNX.out | (rw [← HNX.out]; rfl)), ⟨by rw [← HL2.out, HRS.out, goesS_cons, within_sets, decide_eq_true HWF.out, if_pos rfl, List.append_assoc]⟩, ⟨by rw [← List.append_assoc]; exact HI7.out⟩, ⟨(HAP.out _ (HF3.out.trans HHD.out)).trans HF7.out⟩⟩
         case measure => first | exact HMS.out | (simp [intOf]; done)
        ·go_wp2_with (first
          | ((with_reducible refine gate_dst (N := 100) rfl ?_); refine Kd.R_lit (Kd.int .i8) _ 64 ?hg (N := 100) ?hd (xs := ([] : List Int)) (inner := []) (ok := fun _ => True) (okp := fun _ => True) ?hr ?hp (fun _ hk => hk) trivial (Below.refl _ _) (Nat.le_refl _) (by simp) ?_; (case hd => rfl); (case hg => rfl); (case hr => first | (go_simp; done) | (go_simp; rfl)); (case hp => exact (Reps.none _ _)); intro v1 w1 ho1 hb1 _ _; have HO1 := Aside0.mk ho1; have HF1 := Aside0.mk (FrB.below (B := []) hb1); clear ho1 hb1)
          | ((with_reducible refine gate_builtin (b := .append) (xs := #[.tmp 100, .tmp 101]) rfl ?_); at_builtin; refine Kd.R_append_rows (Kd.int .i8) (w0 := w1) _ rfl (.tmp 100) (.tmp 101) 28 64 (.int .i8 0) 1 rfl Try.underlying28 infoI8 rfl (by decide) (by omega) v1 [] h A h.length c (fun _ => True) (fun _ => False) rfl rfl HO1.out (Kd.R_reads' (own_later HOC.out HF1.out (by simp))).2.2 (fun _ _ h => h) (fun _ h => h.elim) (fun _ _ => trivial) (Below.refl _ _) HF1.out.size (by simp; omega) ?_; intro v2 w2 ho2 hb2 hg2 hat2; obtain ⟨A2, c2, rfl⟩ := Kd.R_slice ho2; have HO2 := Aside0.mk ho2; have HF2 := Aside0.mk (HF1.out.grown hg2 (fun k hk => Kd.R_base HO1.out k hk)); clear ho2 hb2 hg2 hat2)
          | ((with_reducible refine gate_builtin (b := .append) (xs := #[.tmp 102, .tmp 104]) rfl ?_); (try (refine gate_guard (by rfl) ?_; dsimp only)); at_builtin; refine Kd.R_append (Kd.int .i8) (w0 := w2) _ rfl (.tmp 102) (.tmp 104) 28 64 (.int .i8 0) 1 rfl Try.underlying28 infoI8 rfl (by decide) (by omega) (.slice A2 h.length c2) h (-n) [.int .i8 (-n)] (fun _ => True) (fun _ => False) rfl rfl rfl (fun _ hk => hk.elim) (fun _ _ => trivial) HO2.out (Below.refl _ _) HF2.out.size (by omega) ?_; intro v3 w3 ho3 hb3 hg3 hat3; generalize hH2 : h ++ [(-n)] = h2 at ho3; have HH2 := Aside0.mk hH2; clear hH2; obtain ⟨A3, c3, rfl⟩ := Kd.R_slice ho3; have HO3 := Aside0.mk ho3; have HF3 := Aside0.mk (HF2.out.grown hg3 (fun k hk => Kd.R_base HO2.out k hk)); clear ho3 hb3 hg3 hat3))
         have hwf := HWF.out
         have hw2 : ¬ setsH h2 ≤ sets := by rw [← HH2.out]; omega
         clear hwf
         have hw3 := decide_eq_false hw2
         have hw4 := eq_false hw2
         have hw5 : sets < setsH h2 := by omega
         have HC3 := Aside0.mk (Kd.R_reads' HO3.out).2.1
         refine start_ (n := 7) (S := fun w' => FrB [] w3 w') (ds := []) #[false, false, false, false, false, false, false] (by kernel_rfl) rfl rfl (FrB.below (below_drew (Below.refl _ _))) (fun hHeld => ?_)
         refine pure_ (i := 0) (N := some 106) (v := ?_) (a' := ?_) #[true, false, false, false, false, false, false] rfl rfl (by kernel_rfl) (fun _ _ _ h => h) (Or.inl ⟨by rfl, ?_⟩) ?_ ?_
         rotate_left
         ·intro w'
          go_simp
          with_reducible rfl
         rotate_left
         ·simp only [Act.put, List.setIfInBounds_toArray, List.set_cons_zero, List.set_cons_succ, i64_w, i32_w]
          rfl
         refine pure_ (i := 2) (N := some 108) (v := ?_) (a' := ?_) #[true, false, true, false, false, false, false] rfl rfl (by kernel_rfl) (fun _ _ _ h => h) (Or.inl ⟨by rfl, ?_⟩) ?_ ?_
         rotate_left
         ·intro w'
          go_simp
          with_reducible rfl
         rotate_left
         ·simp only [Act.put, List.setIfInBounds_toArray, List.set_cons_zero, List.set_cons_succ, i64_w, i32_w]
          rfl
         refine pure_ (i := 3) (N := some 109) (v := ?_) (a' := ?_) #[true, false, true, true, false, false, false] rfl rfl (by kernel_rfl) (fun _ _ _ h => h) (Or.inl ⟨by rfl, ?_⟩) ?_ ?_
         rotate_left
         ·intro w'
          go_simp
          with_reducible rfl
         rotate_left
         ·simp only [Act.put, List.setIfInBounds_toArray, List.set_cons_zero, List.set_cons_succ, i64_w, i32_w]
          rfl
         refine pure_ (i := 4) (N := some 110) (v := ?_) (a' := ?_) #[true, false, true, true, true, false, false] rfl rfl (by kernel_rfl) (fun _ _ _ h => h) (Or.inl ⟨by rfl, ?_⟩) ?_ ?_
         rotate_left
         ·intro w'
          go_simp
          with_reducible rfl
         rotate_left
         ·simp only [Act.put, List.setIfInBounds_toArray, List.set_cons_zero, List.set_cons_succ, i64_w, i32_w]
          rfl
         refine take_ (i := 5) (N := some 111) (v := .int .i64 sets) (a' := ?_) #[true, false, true, true, true, true, false] rfl rfl (by kernel_rfl) (fun _ _ _ h => h) (Or.inl ⟨by rfl, ?_⟩) hHeld ?_ ?_
         ·intro w' s0
          exact y_cell (by rfl) (by rfl) oneI64' (s0.read (HF3.out.read HC1.out))
         rotate_left
         ·simp only [Act.put, List.setIfInBounds_toArray, List.set_cons_zero, List.set_cons_succ, i64_w, i32_w]
          rfl
         refine one_ (i := 1) (N := some 107) #[true, true, true, true, true, true, false] rfl rfl (by kernel_rfl) (by decide) (fun K hK => ?_)
         refine goes_ Try.func50 (by kernel_rfl) rfl #[.slice A3 h2.length c3] (by rfl) rfl rfl (by simp only [List.map_toArray, List.map_cons, List.map_nil]; rfl) ?_
         refine (HSETS.out h2 (-n) A3 c3 _ HH2.out HNY.out (Kd.R_reads' (own_later HO3.out hHeld (by simp))).2.2 HC3.out).mono ?_
         rintro e w4 ⟨rfl, hb4⟩
         refine ⟨_, rfl, ?_⟩
         refine hK.out _ _ (hHeld.trans (FrB.below hb4)) (fun hHeld => ?_)
         clear hK K
         refine norm_ (a' := ?_) ?_ ?_
         rotate_left
         ·show Act.put _ (some 107) _ = _
          simp only [Act.put, List.setIfInBounds_toArray, List.set_cons_zero, List.set_cons_succ, i64_w, i32_w]
          rfl
         refine pure_ (i := 6) (N := some 112) (v := ?_) (a' := ?_) #[true, true, true, true, true, true, true] rfl rfl (by kernel_rfl) (fun _ _ _ h => h) (Or.inl ⟨by rfl, ?_⟩) ?_ ?_
         rotate_left
         ·intro w'
          go_simp
          with_reducible rfl
         rotate_left
         ·simp only [Act.put, List.setIfInBounds_toArray, List.set_cons_zero, List.set_cons_succ, i64_w, i32_w]
          rfl
         refine done_ (by kernel_rfl) ?_
         skip
         have HHD := Aside0.mk hHeld
         go_wp2_with fail
         go_roundw
         case rel => exact ⟨i + 1, l2, by omega, (by first | exact HNX.out | (rw [← HNX.out]; rfl)), ⟨by rw [← HL2.out, HRS.out, goesS_cons, within_sets, decide_eq_false (show ¬ setsH (h ++ [(-n)]) ≤ sets by have := HWF.out; omega), if_neg (by simp), List.nil_append]⟩, ⟨HSI.out _ (HF3.out.trans HHD.out)⟩, ⟨HAP.out _ (HF3.out.trans HHD.out)⟩⟩
         case measure => first | exact HMS.out | (simp [intOf]; done)
       ·have hne1 : (y == x) = false := by simpa using heq
        have hne2 : (y != x) = true := by simpa using heq
        have HRK := Aside0.mk (show restO m h.length g subs x i = restO m h.length g subs x (i + 1) by rw [HR0.out, if_neg (by rw [HSO.out, decide_eq_false (fun e => heq e.2)]; simp)]; rfl)
        go_wp2_with fail
        refine start_ (n := 26) (S := fun w' => FrB [] wr w') (ds := []) #[false, false, false, false, false, false, false, false, false, false, false, false, false, false, false, false, false, false, false, false, false, false, false, false, false, false] (by kernel_rfl) rfl rfl (FrB.below (below_drew (Below.refl _ _))) (fun hHeld => ?_)
        refine pure_ (i := 0) (N := some 74) (v := ?_) (a' := ?_) #[true, false, false, false, false, false, false, false, false, false, false, false, false, false, false, false, false, false, false, false, false, false, false, false, false, false] rfl rfl (by kernel_rfl) (fun _ _ _ h => h) (Or.inl ⟨by rfl, ?_⟩) ?_ ?_
        rotate_left
        ·intro w'
         go_simp
         with_reducible rfl
        rotate_left
        ·simp only [Act.put, List.setIfInBounds_toArray, List.set_cons_zero, List.set_cons_succ, i64_w, i32_w]
         rfl
        refine pure_ (i := 1) (N := some 75) (v := ?_) (a' := ?_) #[true, true, false, false, false, false, false, false, false, false, false, false, false, false, false, false, false, false, false, false, false, false, false, false, false, false] rfl rfl (by kernel_rfl) (fun _ _ _ h => h) (Or.inl ⟨by rfl, ?_⟩) ?_ ?_
        rotate_left
        ·intro w'
         go_simp
         with_reducible rfl
        rotate_left
        ·simp only [Act.put, List.setIfInBounds_toArray, List.set_cons_zero, List.set_cons_succ, i64_w, i32_w]
         rfl
        refine pure_ (i := 2) (N := some 76) (v := ?_) (a' := ?_) #[true, true, true, false, false, false, false, false, false, false, false, false, false, false, false, false, false, false, false, false, false, false, false, false, false, false] rfl rfl (by kernel_rfl) (fun _ _ _ h => h) (Or.inl ⟨by rfl, ?_⟩) ?_ ?_
        rotate_left
        ·intro w'
         go_simp
         with_reducible rfl
        rotate_left
        ·simp only [Act.put, List.setIfInBounds_toArray, List.set_cons_zero, List.set_cons_succ, i64_w, i32_w]
         rfl
        refine pure_ (i := 3) (N := some 77) (v := ?_) (a' := ?_) #[true, true, true, true, false, false, false, false, false, false, false, false, false, false, false, false, false, false, false, false, false, false, false, false, false, false] rfl rfl (by kernel_rfl) (fun _ _ _ h => h) (Or.inl ⟨by rfl, ?_⟩) ?_ ?_
        rotate_left
        ·intro w'
         go_simp
         with_reducible rfl
        rotate_left
        ·simp only [Act.put, List.setIfInBounds_toArray, List.set_cons_zero, List.set_cons_succ, i64_w, i32_w]
         rfl
        refine pure_ (i := 4) (N := some 78) (v := ?_) (a' := ?_) #[true, true, true, true, true, false, false, false, false, false, false, false, false, false, false, false, false, false, false, false, false, false, false, false, false, false] rfl rfl (by kernel_rfl) (fun _ _ _ h => h) (Or.inl ⟨by rfl, ?_⟩) ?_ ?_
        rotate_left
        ·intro w'
         go_simp
         with_reducible rfl
        rotate_left
        ·simp only [Act.put, List.setIfInBounds_toArray, List.set_cons_zero, List.set_cons_succ, i64_w, i32_w]
         rfl
        refine pure_ (i := 5) (N := some 79) (v := ?_) (a' := ?_) #[true, true, true, true, true, true, false, false, false, false, false, false, false, false, false, false, false, false, false, false, false, false, false, false, false, false] rfl rfl (by kernel_rfl) (fun _ _ _ h => h) (Or.inl ⟨by rfl, ?_⟩) ?_ ?_
        rotate_left
        ·intro w'
         go_simp
         with_reducible rfl
        rotate_left
        ·simp only [Act.put, List.setIfInBounds_toArray, List.set_cons_zero, List.set_cons_succ, i64_w, i32_w]
         rfl
        refine pure_ (i := 6) (N := some 80) (v := ?_) (a' := ?_) #[true, true, true, true, true, true, true, false, false, false, false, false, false, false, false, false, false, false, false, false, false, false, false, false, false, false] rfl rfl (by kernel_rfl) (fun _ _ _ h => h) (Or.inl ⟨by rfl, ?_⟩) ?_ ?_
        rotate_left
        ·intro w'
         go_simp
         with_reducible rfl
        rotate_left
        ·simp only [Act.put, List.setIfInBounds_toArray, List.set_cons_zero, List.set_cons_succ, i64_w, i32_w]
         rfl
        refine pure_ (i := 7) (N := some 81) (v := ?_) (a' := ?_) #[true, true, true, true, true, true, true, true, false, false, false, false, false, false, false, false, false, false, false, false, false, false, false, false, false, false] rfl rfl (by kernel_rfl) (fun _ _ _ h => h) (Or.inl ⟨by rfl, ?_⟩) ?_ ?_
        rotate_left
        ·intro w'
         go_simp
         with_reducible rfl
        rotate_left
        ·simp only [Act.put, List.setIfInBounds_toArray, List.set_cons_zero, List.set_cons_succ, i64_w, i32_w]
         rfl
        refine pure_ (i := 8) (N := some 82) (v := ?_) (a' := ?_) #[true, true, true, true, true, true, true, true, true, false, false, false, false, false, false, false, false, false, false, false, false, false, false, false, false, false] rfl rfl (by kernel_rfl) (fun _ _ _ h => h) (Or.inl ⟨by rfl, ?_⟩) ?_ ?_
        rotate_left
        ·intro w'
         go_simp
         with_reducible rfl
        rotate_left
        ·simp only [Act.put, List.setIfInBounds_toArray, List.set_cons_zero, List.set_cons_succ, i64_w, i32_w]
         rfl
        refine pure_ (i := 9) (N := some 83) (v := ?_) (a' := ?_) #[true, true, true, true, true, true, true, true, true, true, false, false, false, false, false, false, false, false, false, false, false, false, false, false, false, false] rfl rfl (by kernel_rfl) (fun _ _ _ h => h) (Or.inl ⟨by rfl, ?_⟩) ?_ ?_
        rotate_left
        ·intro w'
         go_simp
         with_reducible rfl
        rotate_left
        ·simp only [Act.put, List.setIfInBounds_toArray, List.set_cons_zero, List.set_cons_succ, i64_w, i32_w]
         rfl
        refine pure_ (i := 11) (N := some 85) (v := ?_) (a' := ?_) #[true, true, true, true, true, true, true, true, true, true, false, true, false, false, false, false, false, false, false, false, false, false, false, false, false, false] rfl rfl (by kernel_rfl) (fun _ _ _ h => h) (Or.inl ⟨by rfl, ?_⟩) ?_ ?_
        rotate_left
        ·intro w'
         go_simp
         with_reducible rfl
        rotate_left
        ·simp only [Act.put, List.setIfInBounds_toArray, List.set_cons_zero, List.set_cons_succ, i64_w, i32_w]
         rfl
        refine pure_ (i := 12) (N := some 86) (v := ?_) (a' := ?_) #[true, true, true, true, true, true, true, true, true, true, false, true, true, false, false, false, false, false, false, false, false, false, false, false, false, false] rfl rfl (by kernel_rfl) (fun _ _ _ h => h) (Or.inl ⟨by rfl, ?_⟩) ?_ ?_
        rotate_left
        ·intro w'
         go_simp
         with_reducible rfl
        rotate_left
        ·simp only [Act.put, List.setIfInBounds_toArray, List.set_cons_zero, List.set_cons_succ, i64_w, i32_w]
         rfl
        refine pure_ (i := 13) (N := some 87) (v := ?_) (a' := ?_) #[true, true, true, true, true, true, true, true, true, true, false, true, true, true, false, false, false, false, false, false, false, false, false, false, false, false] rfl rfl (by kernel_rfl) (fun _ _ _ h => h) (Or.inl ⟨by rfl, ?_⟩) ?_ ?_
        rotate_left
        ·intro w'
         go_simp
         with_reducible rfl
        rotate_left
        ·simp only [Act.put, List.setIfInBounds_toArray, List.set_cons_zero, List.set_cons_succ, i64_w, i32_w]
         rfl
        refine pure_ (i := 14) (N := some 88) (v := ?_) (a' := ?_) #[true, true, true, true, true, true, true, true, true, true, false, true, true, true, true, false, false, false, false, false, false, false, false, false, false, false] rfl rfl (by kernel_rfl) (fun _ _ _ h => h) (Or.inl ⟨by rfl, ?_⟩) ?_ ?_
        rotate_left
        ·intro w'
         go_simp
         with_reducible rfl
        rotate_left
        ·simp only [Act.put, List.setIfInBounds_toArray, List.set_cons_zero, List.set_cons_succ, i64_w, i32_w]
         rfl
        refine pure_ (i := 17) (N := some 91) (v := ?_) (a' := ?_) #[true, true, true, true, true, true, true, true, true, true, false, true, true, true, true, false, false, true, false, false, false, false, false, false, false, false] rfl rfl (by kernel_rfl) (fun _ _ _ h => h) (Or.inl ⟨by rfl, ?_⟩) ?_ ?_
        rotate_left
        ·intro w'
         go_simp
         with_reducible rfl
        rotate_left
        ·simp only [Act.put, List.setIfInBounds_toArray, List.set_cons_zero, List.set_cons_succ, i64_w, i32_w]
         rfl
        refine pure_ (i := 18) (N := some 92) (v := ?_) (a' := ?_) #[true, true, true, true, true, true, true, true, true, true, false, true, true, true, true, false, false, true, true, false, false, false, false, false, false, false] rfl rfl (by kernel_rfl) (fun _ _ _ h => h) (Or.inl ⟨by rfl, ?_⟩) ?_ ?_
        rotate_left
        ·intro w'
         go_simp
         with_reducible rfl
        rotate_left
        ·simp only [Act.put, List.setIfInBounds_toArray, List.set_cons_zero, List.set_cons_succ, i64_w, i32_w]
         rfl
        refine pure_ (i := 19) (N := some 93) (v := ?_) (a' := ?_) #[true, true, true, true, true, true, true, true, true, true, false, true, true, true, true, false, false, true, true, true, false, false, false, false, false, false] rfl rfl (by kernel_rfl) (fun _ _ _ h => h) (Or.inl ⟨by rfl, ?_⟩) ?_ ?_
        rotate_left
        ·intro w'
         go_simp
         with_reducible rfl
        rotate_left
        ·simp only [Act.put, List.setIfInBounds_toArray, List.set_cons_zero, List.set_cons_succ, i64_w, i32_w]
         rfl
        refine pure_ (i := 21) (N := some 95) (v := ?_) (a' := ?_) #[true, true, true, true, true, true, true, true, true, true, false, true, true, true, true, false, false, true, true, true, false, true, false, false, false, false] rfl rfl (by kernel_rfl) (fun _ _ _ h => h) (Or.inl ⟨by rfl, ?_⟩) ?_ ?_
        rotate_left
        ·intro w'
         go_simp
         with_reducible rfl
        rotate_left
        ·simp only [Act.put, List.setIfInBounds_toArray, List.set_cons_zero, List.set_cons_succ, i64_w, i32_w]
         rfl
        refine take_ (i := 10) (N := some 84) (v := .slice (some ad) m.length cm) (a' := ?_) #[true, true, true, true, true, true, true, true, true, true, true, true, true, true, true, false, false, true, true, true, false, true, false, false, false, false] rfl rfl (by kernel_rfl) (fun _ _ _ h => h) (Or.inl ⟨by rfl, ?_⟩) hHeld ?_ ?_
        ·intro w' s0
         exact y_cell (by rfl) (by rfl) oneMean (s0.read c0r)
        rotate_left
        ·simp only [Act.put, List.setIfInBounds_toArray, List.set_cons_zero, List.set_cons_succ, i64_w, i32_w]
         rfl
        refine pure_ (i := 15) (N := some 89) (v := ?_) (a' := ?_) #[true, true, true, true, true, true, true, true, true, true, true, true, true, true, true, true, false, true, true, true, false, true, false, false, false, false] rfl rfl (by kernel_rfl) (fun _ _ _ h => h) (Or.inl ⟨by rfl, ?_⟩) ?_ ?_
        rotate_left
        ·intro w'
         go_simp
         with_reducible rfl
        rotate_left
        ·simp only [Act.put, List.setIfInBounds_toArray, List.set_cons_zero, List.set_cons_succ, i64_w, i32_w]
         rfl
        refine take_ (i := 16) (N := some 90) (v := .int .i8 y) (a' := ?_) #[true, true, true, true, true, true, true, true, true, true, true, true, true, true, true, true, true, true, true, true, false, true, false, false, false, false] rfl rfl (by kernel_rfl) (fun _ _ _ h => h) (Or.inl ⟨by rfl, ?_⟩) hHeld ?_ ?_
        ·intro w' s0
         exact y_cell (by rfl) (by rfl) oneI8 (s0.read hca)
        rotate_left
        ·simp only [Act.put, List.setIfInBounds_toArray, List.set_cons_zero, List.set_cons_succ, i64_w, i32_w]
         rfl
        refine take_ (i := 20) (N := some 94) (v := .slice (some ad) m.length cm) (a' := ?_) #[true, true, true, true, true, true, true, true, true, true, true, true, true, true, true, true, true, true, true, true, true, true, false, false, false, false] rfl rfl (by kernel_rfl) (fun _ _ _ h => h) (Or.inl ⟨by rfl, ?_⟩) hHeld ?_ ?_
        ·intro w' s0
         exact y_cell (by rfl) (by rfl) oneMean (s0.read c0r)
        rotate_left
        ·simp only [Act.put, List.setIfInBounds_toArray, List.set_cons_zero, List.set_cons_succ, i64_w, i32_w]
         rfl
        refine pure_ (i := 22) (N := some 96) (v := ?_) (a' := ?_) #[true, true, true, true, true, true, true, true, true, true, true, true, true, true, true, true, true, true, true, true, true, true, true, false, false, false] rfl rfl (by kernel_rfl) (fun _ _ _ h => h) (Or.inl ⟨by rfl, ?_⟩) ?_ ?_
        rotate_left
        ·intro w'
         go_simp
         with_reducible rfl
        rotate_left
        ·simp only [Act.put, List.setIfInBounds_toArray, List.set_cons_zero, List.set_cons_succ, i64_w, i32_w]
         rfl
        refine take_ (i := 23) (N := some 97) (v := .int .i8 x) (a' := ?_) #[true, true, true, true, true, true, true, true, true, true, true, true, true, true, true, true, true, true, true, true, true, true, true, true, false, false] rfl rfl (by kernel_rfl) (fun _ _ _ h => h) (Or.inl ⟨by rfl, ?_⟩) hHeld ?_ ?_
        ·intro w' s0
         exact y_cell (by rfl) (by rfl) oneI8 (s0.read hcxr)
        rotate_left
        ·simp only [Act.put, List.setIfInBounds_toArray, List.set_cons_zero, List.set_cons_succ, i64_w, i32_w]
         rfl
        refine pure_ (i := 24) (N := some 98) (v := ?_) (a' := ?_) #[true, true, true, true, true, true, true, true, true, true, true, true, true, true, true, true, true, true, true, true, true, true, true, true, true, false] rfl rfl (by kernel_rfl) (fun _ _ _ h => h) (Or.inl ⟨by rfl, ?_⟩) ?_ ?_
        rotate_left
        ·intro w'
         go_simp
         with_reducible rfl
        rotate_left
        ·simp only [Act.put, List.setIfInBounds_toArray, List.set_cons_zero, List.set_cons_succ, i64_w, i32_w]
         rfl
        refine pure_ (i := 25) (N := some 99) (v := ?_) (a' := ?_) #[true, true, true, true, true, true, true, true, true, true, true, true, true, true, true, true, true, true, true, true, true, true, true, true, true, true] rfl rfl (by kernel_rfl) (fun _ _ _ h => h) (Or.inl ⟨by rfl, ?_⟩) ?_ ?_
        rotate_left
        ·intro w'
         go_simp
         with_reducible rfl
        rotate_left
        ·simp only [Act.put, List.setIfInBounds_toArray, List.set_cons_zero, List.set_cons_succ, i64_w, i32_w]
         rfl
        refine done_ (by kernel_rfl) ?_
        skip
        have HW0 := Aside0.mk hHeld
        go_wp2_with fail
        go_roundw
        case rel => exact ⟨i + 1, l2, by omega, HNX.out, ⟨by rw [← HL2.out, HRK.out]⟩, ⟨HIr.out.later HW0.out⟩, ⟨HFr.out.trans (HW0.out.mono (by simp))⟩⟩
        case measure => first | exact HMS.out | (simp [intOf]; done)
      ·have hge1 : decide ((h.length : Int) ≤ g + n - 1) = true := decide_eq_true (by omega)
       have hge2 : decide ((h.length : Int) < g + n) = true := decide_eq_true (by omega)
       have hge3 : (h.length : Int) < g + n := by omega
       have HRK := Aside0.mk (show restO m h.length g subs x i = restO m h.length g subs x (i + 1) by rw [HR0.out, if_neg (by rw [HSO.out, decide_eq_false (fun e => hat e.1)]; simp)]; rfl)
       go_wp2_with fail
       refine start_ (n := 26) (S := fun w' => FrB [] wr w') (ds := []) #[false, false, false, false, false, false, false, false, false, false, false, false, false, false, false, false, false, false, false, false, false, false, false, false, false, false] (by kernel_rfl) rfl rfl (FrB.below (below_drew (Below.refl _ _))) (fun hHeld => ?_)
       refine pure_ (i := 0) (N := some 74) (v := ?_) (a' := ?_) #[true, false, false, false, false, false, false, false, false, false, false, false, false, false, false, false, false, false, false, false, false, false, false, false, false, false] rfl rfl (by kernel_rfl) (fun _ _ _ h => h) (Or.inl ⟨by rfl, ?_⟩) ?_ ?_
       rotate_left
       ·intro w'
        go_simp
        with_reducible rfl
       rotate_left
       ·simp only [Act.put, List.setIfInBounds_toArray, List.set_cons_zero, List.set_cons_succ, i64_w, i32_w]
        rfl
       refine pure_ (i := 1) (N := some 75) (v := ?_) (a' := ?_) #[true, true, false, false, false, false, false, false, false, false, false, false, false, false, false, false, false, false, false, false, false, false, false, false, false, false] rfl rfl (by kernel_rfl) (fun _ _ _ h => h) (Or.inl ⟨by rfl, ?_⟩) ?_ ?_
       rotate_left
       ·intro w'
        go_simp
        with_reducible rfl
       rotate_left
       ·simp only [Act.put, List.setIfInBounds_toArray, List.set_cons_zero, List.set_cons_succ, i64_w, i32_w]
        rfl
       refine pure_ (i := 2) (N := some 76) (v := ?_) (a' := ?_) #[true, true, true, false, false, false, false, false, false, false, false, false, false, false, false, false, false, false, false, false, false, false, false, false, false, false] rfl rfl (by kernel_rfl) (fun _ _ _ h => h) (Or.inl ⟨by rfl, ?_⟩) ?_ ?_
       rotate_left
       ·intro w'
        go_simp
        with_reducible rfl
       rotate_left
       ·simp only [Act.put, List.setIfInBounds_toArray, List.set_cons_zero, List.set_cons_succ, i64_w, i32_w]
        rfl
       refine pure_ (i := 3) (N := some 77) (v := ?_) (a' := ?_) #[true, true, true, true, false, false, false, false, false, false, false, false, false, false, false, false, false, false, false, false, false, false, false, false, false, false] rfl rfl (by kernel_rfl) (fun _ _ _ h => h) (Or.inl ⟨by rfl, ?_⟩) ?_ ?_
       rotate_left
       ·intro w'
        go_simp
        with_reducible rfl
       rotate_left
       ·simp only [Act.put, List.setIfInBounds_toArray, List.set_cons_zero, List.set_cons_succ, i64_w, i32_w]
        rfl
       refine pure_ (i := 4) (N := some 78) (v := ?_) (a' := ?_) #[true, true, true, true, true, false, false, false, false, false, false, false, false, false, false, false, false, false, false, false, false, false, false, false, false, false] rfl rfl (by kernel_rfl) (fun _ _ _ h => h) (Or.inl ⟨by rfl, ?_⟩) ?_ ?_
       rotate_left
       ·intro w'
        go_simp
        with_reducible rfl
       rotate_left
       ·simp only [Act.put, List.setIfInBounds_toArray, List.set_cons_zero, List.set_cons_succ, i64_w, i32_w]
        rfl
       refine pure_ (i := 5) (N := some 79) (v := ?_) (a' := ?_) #[true, true, true, true, true, true, false, false, false, false, false, false, false, false, false, false, false, false, false, false, false, false, false, false, false, false] rfl rfl (by kernel_rfl) (fun _ _ _ h => h) (Or.inl ⟨by rfl, ?_⟩) ?_ ?_
       rotate_left
       ·intro w'
        go_simp
        with_reducible rfl
       rotate_left
       ·simp only [Act.put, List.setIfInBounds_toArray, List.set_cons_zero, List.set_cons_succ, i64_w, i32_w]
        rfl
       refine pure_ (i := 6) (N := some 80) (v := ?_) (a' := ?_) #[true, true, true, true, true, true, true, false, false, false, false, false, false, false, false, false, false, false, false, false, false, false, false, false, false, false] rfl rfl (by kernel_rfl) (fun _ _ _ h => h) (Or.inl ⟨by rfl, ?_⟩) ?_ ?_
       rotate_left
       ·intro w'
        go_simp
        with_reducible rfl
       rotate_left
       ·simp only [Act.put, List.setIfInBounds_toArray, List.set_cons_zero, List.set_cons_succ, i64_w, i32_w]
        rfl
       refine pure_ (i := 7) (N := some 81) (v := undef) (a' := ?_) #[true, true, true, true, true, true, true, true, false, false, false, false, false, false, false, false, false, false, false, false, false, false, false, false, false, false] rfl rfl (by kernel_rfl) (fun _ _ _ h => h) (Or.inr ⟨by rfl, rfl⟩) ?_ ?_
       rotate_left
       ·simp only [Act.put, List.setIfInBounds_toArray, List.set_cons_zero, List.set_cons_succ, i64_w, i32_w]
        rfl
       refine pure_ (i := 8) (N := some 82) (v := undef) (a' := ?_) #[true, true, true, true, true, true, true, true, true, false, false, false, false, false, false, false, false, false, false, false, false, false, false, false, false, false] rfl rfl (by kernel_rfl) (fun _ _ _ h => h) (Or.inr ⟨by rfl, rfl⟩) ?_ ?_
       rotate_left
       ·simp only [Act.put, List.setIfInBounds_toArray, List.set_cons_zero, List.set_cons_succ, i64_w, i32_w]
        rfl
       refine pure_ (i := 9) (N := some 83) (v := undef) (a' := ?_) #[true, true, true, true, true, true, true, true, true, true, false, false, false, false, false, false, false, false, false, false, false, false, false, false, false, false] rfl rfl (by kernel_rfl) (fun _ _ _ h => h) (Or.inr ⟨by rfl, rfl⟩) ?_ ?_
       rotate_left
       ·simp only [Act.put, List.setIfInBounds_toArray, List.set_cons_zero, List.set_cons_succ, i64_w, i32_w]
        rfl
       refine pure_ (i := 10) (N := some 84) (v := undef) (a' := ?_) #[true, true, true, true, true, true, true, true, true, true, true, false, false, false, false, false, false, false, false, false, false, false, false, false, false, false] rfl rfl (by kernel_rfl) (fun _ _ _ h => h) (Or.inr ⟨by rfl, rfl⟩) ?_ ?_
       rotate_left
       ·simp only [Act.put, List.setIfInBounds_toArray, List.set_cons_zero, List.set_cons_succ, i64_w, i32_w]
        rfl
       refine pure_ (i := 11) (N := some 85) (v := undef) (a' := ?_) #[true, true, true, true, true, true, true, true, true, true, true, true, false, false, false, false, false, false, false, false, false, false, false, false, false, false] rfl rfl (by kernel_rfl) (fun _ _ _ h => h) (Or.inr ⟨by rfl, rfl⟩) ?_ ?_
       rotate_left
       ·simp only [Act.put, List.setIfInBounds_toArray, List.set_cons_zero, List.set_cons_succ, i64_w, i32_w]
        rfl
       refine pure_ (i := 12) (N := some 86) (v := undef) (a' := ?_) #[true, true, true, true, true, true, true, true, true, true, true, true, true, false, false, false, false, false, false, false, false, false, false, false, false, false] rfl rfl (by kernel_rfl) (fun _ _ _ h => h) (Or.inr ⟨by rfl, rfl⟩) ?_ ?_
       rotate_left
       ·simp only [Act.put, List.setIfInBounds_toArray, List.set_cons_zero, List.set_cons_succ, i64_w, i32_w]
        rfl
       refine pure_ (i := 13) (N := some 87) (v := undef) (a' := ?_) #[true, true, true, true, true, true, true, true, true, true, true, true, true, true, false, false, false, false, false, false, false, false, false, false, false, false] rfl rfl (by kernel_rfl) (fun _ _ _ h => h) (Or.inr ⟨by rfl, rfl⟩) ?_ ?_
       rotate_left
       ·simp only [Act.put, List.setIfInBounds_toArray, List.set_cons_zero, List.set_cons_succ, i64_w, i32_w]
        rfl
       refine pure_ (i := 14) (N := some 88) (v := undef) (a' := ?_) #[true, true, true, true, true, true, true, true, true, true, true, true, true, true, true, false, false, false, false, false, false, false, false, false, false, false] rfl rfl (by kernel_rfl) (fun _ _ _ h => h) (Or.inr ⟨by rfl, rfl⟩) ?_ ?_
       rotate_left
       ·simp only [Act.put, List.setIfInBounds_toArray, List.set_cons_zero, List.set_cons_succ, i64_w, i32_w]
        rfl
       refine pure_ (i := 15) (N := some 89) (v := undef) (a' := ?_) #[true, true, true, true, true, true, true, true, true, true, true, true, true, true, true, true, false, false, false, false, false, false, false, false, false, false] rfl rfl (by kernel_rfl) (fun _ _ _ h => h) (Or.inr ⟨by rfl, rfl⟩) ?_ ?_
       rotate_left
       ·simp only [Act.put, List.setIfInBounds_toArray, List.set_cons_zero, List.set_cons_succ, i64_w, i32_w]
        rfl
       refine pure_ (i := 16) (N := some 90) (v := undef) (a' := ?_) #[true, true, true, true, true, true, true, true, true, true, true, true, true, true, true, true, true, false, false, false, false, false, false, false, false, false] rfl rfl (by kernel_rfl) (fun _ _ _ h => h) (Or.inr ⟨by rfl, rfl⟩) ?_ ?_
       rotate_left
       ·simp only [Act.put, List.setIfInBounds_toArray, List.set_cons_zero, List.set_cons_succ, i64_w, i32_w]
        rfl
       refine pure_ (i := 17) (N := some 91) (v := undef) (a' := ?_) #[true, true, true, true, true, true, true, true, true, true, true, true, true, true, true, true, true, true, false, false, false, false, false, false, false, false] rfl rfl (by kernel_rfl) (fun _ _ _ h => h) (Or.inr ⟨by rfl, rfl⟩) ?_ ?_
       rotate_left
       ·simp only [Act.put, List.setIfInBounds_toArray, List.set_cons_zero, List.set_cons_succ, i64_w, i32_w]
        rfl
       refine pure_ (i := 18) (N := some 92) (v := undef) (a' := ?_) #[true, true, true, true, true, true, true, true, true, true, true, true, true, true, true, true, true, true, true, false, false, false, false, false, false, false] rfl rfl (by kernel_rfl) (fun _ _ _ h => h) (Or.inr ⟨by rfl, rfl⟩) ?_ ?_
       rotate_left
       ·simp only [Act.put, List.setIfInBounds_toArray, List.set_cons_zero, List.set_cons_succ, i64_w, i32_w]
        rfl
       refine pure_ (i := 19) (N := some 93) (v := undef) (a' := ?_) #[true, true, true, true, true, true, true, true, true, true, true, true, true, true, true, true, true, true, true, true, false, false, false, false, false, false] rfl rfl (by kernel_rfl) (fun _ _ _ h => h) (Or.inr ⟨by rfl, rfl⟩) ?_ ?_
       rotate_left
       ·simp only [Act.put, List.setIfInBounds_toArray, List.set_cons_zero, List.set_cons_succ, i64_w, i32_w]
        rfl
       refine pure_ (i := 20) (N := some 94) (v := undef) (a' := ?_) #[true, true, true, true, true, true, true, true, true, true, true, true, true, true, true, true, true, true, true, true, true, false, false, false, false, false] rfl rfl (by kernel_rfl) (fun _ _ _ h => h) (Or.inr ⟨by rfl, rfl⟩) ?_ ?_
       rotate_left
       ·simp only [Act.put, List.setIfInBounds_toArray, List.set_cons_zero, List.set_cons_succ, i64_w, i32_w]
        rfl
       refine pure_ (i := 21) (N := some 95) (v := undef) (a' := ?_) #[true, true, true, true, true, true, true, true, true, true, true, true, true, true, true, true, true, true, true, true, true, true, false, false, false, false] rfl rfl (by kernel_rfl) (fun _ _ _ h => h) (Or.inr ⟨by rfl, rfl⟩) ?_ ?_
       rotate_left
       ·simp only [Act.put, List.setIfInBounds_toArray, List.set_cons_zero, List.set_cons_succ, i64_w, i32_w]
        rfl
       refine pure_ (i := 22) (N := some 96) (v := undef) (a' := ?_) #[true, true, true, true, true, true, true, true, true, true, true, true, true, true, true, true, true, true, true, true, true, true, true, false, false, false] rfl rfl (by kernel_rfl) (fun _ _ _ h => h) (Or.inr ⟨by rfl, rfl⟩) ?_ ?_
       rotate_left
       ·simp only [Act.put, List.setIfInBounds_toArray, List.set_cons_zero, List.set_cons_succ, i64_w, i32_w]
        rfl
       refine pure_ (i := 23) (N := some 97) (v := undef) (a' := ?_) #[true, true, true, true, true, true, true, true, true, true, true, true, true, true, true, true, true, true, true, true, true, true, true, true, false, false] rfl rfl (by kernel_rfl) (fun _ _ _ h => h) (Or.inr ⟨by rfl, rfl⟩) ?_ ?_
       rotate_left
       ·simp only [Act.put, List.setIfInBounds_toArray, List.set_cons_zero, List.set_cons_succ, i64_w, i32_w]
        rfl
       refine pure_ (i := 24) (N := some 98) (v := undef) (a' := ?_) #[true, true, true, true, true, true, true, true, true, true, true, true, true, true, true, true, true, true, true, true, true, true, true, true, true, false] rfl rfl (by kernel_rfl) (fun _ _ _ h => h) (Or.inr ⟨by rfl, rfl⟩) ?_ ?_
       rotate_left
       ·simp only [Act.put, List.setIfInBounds_toArray, List.set_cons_zero, List.set_cons_succ, i64_w, i32_w]
        rfl
       refine pure_ (i := 25) (N := some 99) (v := ?_) (a' := ?_) #[true, true, true, true, true, true, true, true, true, true, true, true, true, true, true, true, true, true, true, true, true, true, true, true, true, true] rfl rfl (by kernel_rfl) (fun _ _ _ h => h) (Or.inl ⟨by rfl, ?_⟩) ?_ ?_
       rotate_left
       ·intro w'
        go_simp
        with_reducible rfl
       rotate_left
       ·simp only [Act.put, List.setIfInBounds_toArray, List.set_cons_zero, List.set_cons_succ, i64_w, i32_w]
        rfl
       refine done_ (by kernel_rfl) ?_
       skip
       have HW0 := Aside0.mk hHeld
       go_wp2_with fail
       go_roundw
       case rel => exact ⟨i + 1, l2, by omega, HNX.out, ⟨by rw [← HL2.out, HRK.out]⟩, ⟨HIr.out.later HW0.out⟩, ⟨HFr.out.trans (HW0.out.mono (by simp))⟩⟩
       case measure => first | exact HMS.out | (simp [intOf]; done)
    ·have hnn : (subs : Int) - i < 0 := by omega
     have HE := Aside0.mk (show l2 = goesS m sets subs d h g (opts m h.length g subs) by
      have h1 := HL2.out
      unfold restO at h1
      rw [if_neg hlt] at h1
      simpa [goesS] using h1)
     go_wp2_with fail
     refine bodyPost_end (results_none rfl _ _ _) rfl ?_
     exact ⟨rfl, by rw [← HE.out]; exact HIr.out, HFr.out⟩
end
end Go.Proofs.Ytfdjgomocbniaaa.Arr
namespace Go.Proofs.Ytfdjgomocbniaaa.Arr
open Go.RowKit Go.Proofs.YtfdjgomocbniaaaW.PrintWords Go.Proofs.YtfdjgomocbniaaaW.PrintLast Go.Proofs.YtfdjgomocbniaaaW.PrintMore Go.Proofs.Ytfdjgomocbniaaa.U Go.Proofs.Ytfdjgomocbniaaa.K
set_option linter.unusedVariables false
set_option linter.unusedSimpArgs false
theorem oneFn : OneTy Try.prog 75 := ⟨by kernel_rfl, by kernel_rfl⟩
theorem seek_enters (a : Array Value) (W : World) : (callFunc 40 a).run Try.prog W = .ok (.enter 40 a) W := by kernel_rfl
theorem s_lit1 {P : Program} {o : Oper} {a : Act} {w : World} {ops : Array Oper} {N : Option Tmp} {K : Act → World → Prop} {Q : Exit → Act → World → Prop} {t e : TypeId} {x : Operand} {k : IntKind} {z : Int} (hw : Region.wanted o (yielded ops a.tmps) = true) (hN : o.dst = N) (ho : o.op = .buildSlice t 1 #[(0, x)]) (hx : a.eval x = .int k z) (hu : P.underlying t = some (.slice e)) (he : OneTy P e) (hz : ZeroTy P e (vals k [0]))
  (h : ∀ g w1, w1.heap[g]? = some (.cells (vals k [z]) e (0, 0)) → FrB [] w w1 → K (a.put N (.slice (some ⟨g, 0, none⟩) 1 1)) w1) : if Region.wanted o (yielded ops a.tmps) = true then Oper.wp P o a w K Q else K (a.put N undef) w :=
 value_ hw hN (run_lit1 ho hx hu he hz) (h _ _ (Go.heap_alloc_new w _) ((FrB.refl [] w).alloc _))
theorem callC_ {P : Program} {oi : Oper} {N : Option Tmp} {a : Act} {w : World} {ops : Array Oper} {K : Act → World → Prop} {Q : Exit → Act → World → Prop} (f : FuncId) (caps args all : Array Value) (hall : args ++ caps = all) (hw : Region.wanted oi (yielded ops a.tmps) = true) (hN : oi.dst = N)
  {x : Operand} {bs : Array Operand} {ts : Array TypeId} (ho : oi.op = .call { callee := .value x, args := bs, argTypes := ts }) (hx : a.eval x = .func (.func f) #[] caps) (hargs : bs.map a.eval = args) (hg : (callFunc f (args ++ caps)).run P w = .ok (.enter f (args ++ caps)) w)
  (h : Calls P f all w fun e w' => ∃ v, e = .returned v ∧ K (a.put N v) w') : if Region.wanted oi (yielded ops a.tmps) = true then Oper.wp P oi a w K Q else K (a.put N undef) w := by
 subst hall
 exact call_ f _ hw hN (enterC ho hx hargs hg) h
section
variable {σ : Type} {step : σ → List Int → σ × Bool} {I : σ → World → Prop} {Q : List Int → Prop} {fe : FuncId} {capE : Array Value} {B : List Nat} {wS : World} {gm gh ge gc : Nat} {Am : Option Addr} {cm : Nat} {m : List Int} {H : List Int} {tm th te tc : TypeId}
set_option maxHeartbeats 8000000 in
set_option maxRecDepth 100000 in
theorem seek_calls (hge : ∀ (a : Array Value) (W : World), (callFunc fe a).run Try.prog W = .ok (.enter fe a) W)
  (hcm : wS.heap[gm]? = some (.cells #[.slice Am m.length cm] tm (0, 0))) (hce : wS.heap[ge]? = some (.cells #[.func (.func fe) #[] capE] te (0, 0)))
  (hcc : wS.heap[gc]? = some (.cells #[.func (.func 40) #[] #[.pointer (some ⟨gm, 0, none⟩), .pointer (some ⟨ge, 0, none⟩), .pointer (some ⟨gc, 0, none⟩), .pointer (some ⟨gh, 0, none⟩)]] tc (0, 0)))
  (hgm : gm ∉ gh :: B) (hgem : ge ∉ gh :: B) (hgc : gc ∉ gh :: B) (hgh : gh ∉ B) (hlt : ∀ b ∈ gh :: B, b < wS.heap.size)
  (hM : ∀ W, FrB (gh :: B) wS W → Kd.C (Kd.int .i8) W Am m.length m) (hmc : m.length ≤ cm) (hm : ∀ x ∈ m, PlainN x) (hml : m.length ≤ 1000) (hHl : H.length = 44) (hHb : ∀ j : Nat, j < 44 → 0 ≤ rd H (j : Int) ∧ rd H (j : Int) ≤ 1000000)
  (hcall : ∀ (s : σ) (h : List Int) (v : Value) (w : World), Q h → I s w → Own wS.heap.size w v h → FrB (gh :: B) wS w → Calls Try.prog fe (#[v] ++ capE) w fun e w' => e = .returned (.bool (step s h).2) ∧ I (step s h).1 w' ∧ FrB B w w')
  (hstab : ∀ (s : σ) (w w' : World), I s w → FrB [gh] w w' → I s w') : ∀ (d : Nat) (h : List Int) (g : Int) (v : Value) (s : σ) (w : World), h.length + d = m.length → 0 ≤ g → g ≤ h.length → FrB (gh :: B) wS w → w.heap[gh]? = some (.cells (vals .i64 (pile H h (-1) h.length)) 50 (0, 0)) → I s w → Own wS.heap.size w v h → (∀ x ∈ leaves m 4 (enough H) d h g, Q x) →
  Calls Try.prog 40 #[v, .int .i64 g, .pointer (some ⟨gm, 0, none⟩), .pointer (some ⟨ge, 0, none⟩), .pointer (some ⟨gc, 0, none⟩), .pointer (some ⟨gh, 0, none⟩)] w fun e w' =>
   ∃ s' on, e = .returned (.bool on) ∧ runL step s (leaves m 4 (enough H) d h g) = (s', on) ∧ I s' w' ∧ FrB B w w' := by
 intro d
 induction d with
 | zero =>
  intro h g v s w hd hg0 hg1 hf hh hI ho hQ
  have hcell := cell1 (hf.row hcm hgm)
  have hcel2 := cell1 (hf.row hce hgem)
  have hlen : h.length = m.length := by omega
  have HC := Aside0.mk (hcall s h v w (hQ h (by rw [leaves]; simp)) hI ho hf)
  have hv := Kd.R_slice ho
  obtain ⟨A, c, rfl⟩ := hv
  rw [hlen] at HC ⊢
  have HR : Aside0 (runL step s (leaves m 4 (enough H) 0 h g) = ((step s h).1, (step s h).2)) := ⟨by
   rw [leaves, runL]
   cases hs : (step s h).2 <;> rfl⟩
  clear hcm hce hcc hgm hgem hgc hgh hlt hM hmc hm hHl hHb hcall hstab hd hg0 hg1 hf hh hI ho hQ
  generalize (step s h).2 = on at *
  generalize (step s h).1 = s1 at *
  go_enter Try.func40, Try.ntmps40
  go_wp2_with (refine HC.out.mono ?_; rintro e w1 ⟨rfl, hI1, hb1⟩; have HI1 := Aside0.mk hI1; have HB1 := Aside0.mk hb1; clear hI1 hb1)
  go_ret
  exact ⟨_, _, rfl, HR.out, HI1.out, HB1.out⟩
 | succ d ih =>
  intro h g v s w hd hg0 hg1 hf hh hI ho hQ
  have hcell := cell1 (hf.row hcm hgm)
  have hlm : h.length < m.length := by omega
  have HCC := Aside0.mk (hf.row hcc hgc)
  obtain ⟨ad, rfl, hcx⟩ := Kd.at_int (hM w hf) (h.length : Int) (by omega) (by omega)
  rw [Int.toNat_natCast] at hcx
  have hx := hm _ (by rw [rd_get m h.length hlm]; exact List.getElem_mem _ : rd m (h.length : Int) ∈ m)
  obtain ⟨A, c, rfl⟩ := Kd.R_slice ho
  have hHc := (Kd.R_reads' ho).2.1
  have HO := Aside0.mk ho
  by_cases hb : rd m (h.length : Int) = -10
  ·rw [leaves_stop m (enough H) d h g hb]
   have HIH : Aside0 (∀ (v2 : Value) (w2 : World), Own wS.heap.size w2 v2 (h ++ [-10]) → FrB [] w w2 → Calls Try.prog 40 #[v2, .int .i64 ((h.length : Int) + 1), .pointer (some ⟨gm, 0, none⟩), .pointer (some ⟨ge, 0, none⟩), .pointer (some ⟨gc, 0, none⟩), .pointer (some ⟨gh, 0, none⟩)] w2 fun e w' =>
     ∃ s' on, e = .returned (.bool on) ∧ runL step s (leaves m 4 (enough H) d (h ++ [-10]) ((h.length : Int) + 1)) = (s', on) ∧ I s' w' ∧ FrB B w2 w') := ⟨fun v2 w2 ho2 hf2 => by
    refine ih (h ++ [-10]) ((h.length : Int) + 1) v2 s w2 (by simp; omega) (by omega) (by simp) (hf.trans (hf2.mono (by simp))) ?_ (hstab s w w2 hI (hf2.mono (by simp))) ho2 (fun x hx => hQ x (by rw [leaves_stop m (enough H) d h g hb]; exact hx))
    rw [pile_snoc, bump, if_pos rfl]
    exact hf2.row hh (by simp)⟩
   have hSz := hf.size
   have hsw : wrap64 ((h.length : Int) + 1) = (h.length : Int) + 1 := w64 (by omega) (by omega)
   rw [hb] at hcx
   clear hcm hce hcc hgm hgem hgc hM hmc hm hHl hHb hcall hstab ih hx hge hf hI ho hh hQ
   go_enter Try.func40, Try.ntmps40
   go_wp2_with fail
   refine start_ (n := 9) (S := fun w' => FrB [] w w') (ds := [7]) #[false, false, false, false, false, false, false, false, false] (by kernel_rfl) rfl rfl (FrB.below (below_drew (Below.refl _ _))) (fun hHeld => ?_)
   refine pure_ (i := 1) (N := some 31) (v := ?_) (a' := ?_) #[false, true, false, false, false, false, false, false, false] rfl rfl (by kernel_rfl) (fun _ _ _ h => h) (Or.inl ⟨by rfl, ?_⟩) ?_ ?_
   rotate_left
   ·intro w'
    go_simp
    with_reducible rfl
   rotate_left
   ·simp only [Act.put, List.setIfInBounds_toArray, List.set_cons_zero, List.set_cons_succ, i64_w, i32_w]
    rfl
   refine pure_ (i := 5) (N := some 35) (v := ?_) (a' := ?_) #[false, true, false, false, false, true, false, false, false] rfl rfl (by kernel_rfl) (fun _ _ _ h => h) (Or.inl ⟨by rfl, ?_⟩) ?_ ?_
   rotate_left
   ·intro w'
    go_simp
    with_reducible rfl
   rotate_left
   ·simp only [Act.put, List.setIfInBounds_toArray, List.set_cons_zero, List.set_cons_succ, i64_w, i32_w]
    rfl
   refine pure_ (i := 6) (N := some 36) (v := ?_) (a' := ?_) #[false, true, false, false, false, true, true, false, false] rfl rfl (by kernel_rfl) (fun _ _ _ h => h) (Or.inl ⟨by rfl, ?_⟩) ?_ ?_
   rotate_left
   ·intro w'
    go_simp
    with_reducible rfl
   rotate_left
   ·simp only [Act.put, List.setIfInBounds_toArray, List.set_cons_zero, List.set_cons_succ, i64_w, i32_w]
    rfl
   refine take_ (i := 0) (N := some 30) (v := .func (.func 40) #[] #[.pointer (some ⟨gm, 0, none⟩), .pointer (some ⟨ge, 0, none⟩), .pointer (some ⟨gc, 0, none⟩), .pointer (some ⟨gh, 0, none⟩)]) (a' := ?_) #[true, true, false, false, false, true, true, false, false] rfl rfl (by kernel_rfl) (fun _ _ _ h => h) (Or.inl ⟨by rfl, ?_⟩) hHeld ?_ ?_
   ·intro w' s0
    exact y_cell (by rfl) (by rfl) oneFn (cell1 (s0.row HCC.out (by simp)))
   rotate_left
   ·simp only [Act.put, List.setIfInBounds_toArray, List.set_cons_zero, List.set_cons_succ, i64_w, i32_w]
    rfl
   refine two_ (i := 2) (j := 3) (Ni := some 32) (Nj := some 33) #[true, true, true, false, false, true, true, false, false] #[true, true, false, true, false, true, true, false, false] rfl rfl rfl rfl (by kernel_rfl) (by decide) (by decide) (fun K hK => ?_) (fun K hK => ?_)
   ·skip
    refine goes_ Try.func41 (by kernel_rfl) rfl #[.slice A h.length c] (by rfl) rfl rfl (by simp only [List.map_toArray, List.map_cons, List.map_nil]; rfl) ?_
    refine (cloneH_calls A c h _ (Kd.R_reads' (own_later HO.out hHeld (by simp))).2.2 hHc (by omega)).mono ?_
    rintro e w3 ⟨v1, rfl, HO1, hb1⟩
    refine ⟨_, rfl, ?_⟩
    (try replace hgb := (hb1.block _ (lt_of_some hgb)).trans hgb)
    replace HO1 := own_lower HO1 hHeld.size
    refine hK.out _ _ (hHeld.trans (FrB.below hb1)) (fun hHeld => ?_)
    clear hK K
    refine norm_ (a' := ?_) ?_ ?_
    rotate_left
    ·show Act.put _ (some 32) _ = _
     simp only [Act.put, List.setIfInBounds_toArray, List.set_cons_zero, List.set_cons_succ, i64_w, i32_w]
     rfl
    refine one_ (i := 3) (N := some 33) #[true, true, true, true, false, true, true, false, false] rfl rfl (by kernel_rfl) (by decide) (fun K hK => ?_)
    refine s_lit1 (z := -10) (by rfl) rfl rfl rfl Try.underlying28 oneI8 zeroI8 ?_
    intro gb w4 hgb hfb
    (try replace HO1 := own_later HO1 hfb (by simp))
    refine hK.out _ _ (hHeld.trans hfb) (fun hHeld => ?_)
    clear hK K
    refine norm_ (a' := ?_) ?_ ?_
    rotate_left
    ·show Act.put _ (some 33) _ = _
     simp only [Act.put, List.setIfInBounds_toArray, List.set_cons_zero, List.set_cons_succ, i64_w, i32_w]
     rfl
    refine one_ (i := 4) (N := some 34) #[true, true, true, true, true, true, true, false, false] rfl rfl (by kernel_rfl) (by decide) (fun K hK => ?_)
    refine Kd.R_append_rows_step (Kd.int .i8) (w0 := _) w.heap.size (by rfl) (.tmp 32) (.tmp 33) 28 64 (.int .i8 0) 1 rfl Try.underlying28 infoI8 rfl (by decide) (by omega) v1 h [-10] (some ⟨gb, 0, none⟩) 1 1 (fun _ => True) (fun _ => False) rfl rfl HO1 (row1 hgb) (fun _ _ h => h) (fun _ h => h.elim) (fun _ _ => trivial) (Below.refl _ _) hHeld.size (by omega) ?_
    intro v2 w5 HO2 hb5 hg5 hat5
    refine hK.out _ _ (hHeld.grown hg5 (fun k hk => Kd.R_base HO1 k hk)) (fun hHeld => ?_)
    clear hK K
    refine norm_ (a' := ?_) ?_ ?_
    rotate_left
    ·show Act.put _ (some 34) _ = _
     simp only [Act.put, List.setIfInBounds_toArray, List.set_cons_zero, List.set_cons_succ, i64_w, i32_w]
     rfl
    refine last_ (i := 7) (N := some 37) #[true, true, true, true, true, true, true, true, false] rfl rfl (by kernel_rfl) (by decide) (fun K hK => ?_)
    refine callC_ 40 #[.pointer (some ⟨gm, 0, none⟩), .pointer (some ⟨ge, 0, none⟩), .pointer (some ⟨gc, 0, none⟩), .pointer (some ⟨gh, 0, none⟩)] #[v2, .int .i64 ((h.length : Int) + 1)] #[v2, .int .i64 ((h.length : Int) + 1), .pointer (some ⟨gm, 0, none⟩), .pointer (some ⟨ge, 0, none⟩), .pointer (some ⟨gc, 0, none⟩), .pointer (some ⟨gh, 0, none⟩)] (by simp) (by rfl) rfl (by rfl) (by rfl) (by simp only [List.map_toArray, List.map_cons, List.map_nil, hsw]; rfl) (seek_enters _ _) ?_
    refine (HIH.out v2 _ (own_lower HO2 hSz) hHeld).mono ?_
    rintro e w6 ⟨s1, on, rfl, hrun, hI6, hf6⟩
    refine ⟨_, rfl, ?_⟩
    refine hK.out _ _ ?_
    clear hK K
    refine norm_ (a' := ?_) ?_ ?_
    rotate_left
    ·show Act.put _ (some 37) _ = _
     simp only [Act.put, List.setIfInBounds_toArray, List.set_cons_zero, List.set_cons_succ, i64_w, i32_w]
     rfl
    refine pure_ (i := 8) (N := some 8) (v := ?_) (a' := ?_) #[true, true, true, true, true, true, true, true, true] rfl rfl (by kernel_rfl) (fun _ _ _ h => h) (Or.inl ⟨by rfl, ?_⟩) ?_ ?_
    rotate_left
    ·intro w'
     go_simp
     with_reducible rfl
    rotate_left
    ·simp only [Act.put, List.setIfInBounds_toArray, List.set_cons_zero, List.set_cons_succ, i64_w, i32_w]
     rfl
    refine done_ (by kernel_rfl) ?_
    go_wp2_with fail
    go_ret
    exact ⟨s1, on, rfl, hrun, hI6, (hHeld.mono (by simp)).trans hf6⟩
   ·skip
    refine s_lit1 (z := -10) (by rfl) rfl rfl rfl Try.underlying28 oneI8 zeroI8 ?_
    intro gb w4 hgb hfb
    (try replace HO1 := own_later HO1 hfb (by simp))
    refine hK.out _ _ (hHeld.trans hfb) (fun hHeld => ?_)
    clear hK K
    refine norm_ (a' := ?_) ?_ ?_
    rotate_left
    ·show Act.put _ (some 33) _ = _
     simp only [Act.put, List.setIfInBounds_toArray, List.set_cons_zero, List.set_cons_succ, i64_w, i32_w]
     rfl
    refine one_ (i := 2) (N := some 32) #[true, true, true, true, false, true, true, false, false] rfl rfl (by kernel_rfl) (by decide) (fun K hK => ?_)
    refine goes_ Try.func41 (by kernel_rfl) rfl #[.slice A h.length c] (by rfl) rfl rfl (by simp only [List.map_toArray, List.map_cons, List.map_nil]; rfl) ?_
    refine (cloneH_calls A c h _ (Kd.R_reads' (own_later HO.out hHeld (by simp))).2.2 hHc (by omega)).mono ?_
    rintro e w3 ⟨v1, rfl, HO1, hb1⟩
    refine ⟨_, rfl, ?_⟩
    (try replace hgb := (hb1.block _ (lt_of_some hgb)).trans hgb)
    replace HO1 := own_lower HO1 hHeld.size
    refine hK.out _ _ (hHeld.trans (FrB.below hb1)) (fun hHeld => ?_)
    clear hK K
    refine norm_ (a' := ?_) ?_ ?_
    rotate_left
    ·show Act.put _ (some 32) _ = _
     simp only [Act.put, List.setIfInBounds_toArray, List.set_cons_zero, List.set_cons_succ, i64_w, i32_w]
     rfl
    refine one_ (i := 4) (N := some 34) #[true, true, true, true, true, true, true, false, false] rfl rfl (by kernel_rfl) (by decide) (fun K hK => ?_)
    refine Kd.R_append_rows_step (Kd.int .i8) (w0 := _) w.heap.size (by rfl) (.tmp 32) (.tmp 33) 28 64 (.int .i8 0) 1 rfl Try.underlying28 infoI8 rfl (by decide) (by omega) v1 h [-10] (some ⟨gb, 0, none⟩) 1 1 (fun _ => True) (fun _ => False) rfl rfl HO1 (row1 hgb) (fun _ _ h => h) (fun _ h => h.elim) (fun _ _ => trivial) (Below.refl _ _) hHeld.size (by omega) ?_
    intro v2 w5 HO2 hb5 hg5 hat5
    refine hK.out _ _ (hHeld.grown hg5 (fun k hk => Kd.R_base HO1 k hk)) (fun hHeld => ?_)
    clear hK K
    refine norm_ (a' := ?_) ?_ ?_
    rotate_left
    ·show Act.put _ (some 34) _ = _
     simp only [Act.put, List.setIfInBounds_toArray, List.set_cons_zero, List.set_cons_succ, i64_w, i32_w]
     rfl
    refine last_ (i := 7) (N := some 37) #[true, true, true, true, true, true, true, true, false] rfl rfl (by kernel_rfl) (by decide) (fun K hK => ?_)
    refine callC_ 40 #[.pointer (some ⟨gm, 0, none⟩), .pointer (some ⟨ge, 0, none⟩), .pointer (some ⟨gc, 0, none⟩), .pointer (some ⟨gh, 0, none⟩)] #[v2, .int .i64 ((h.length : Int) + 1)] #[v2, .int .i64 ((h.length : Int) + 1), .pointer (some ⟨gm, 0, none⟩), .pointer (some ⟨ge, 0, none⟩), .pointer (some ⟨gc, 0, none⟩), .pointer (some ⟨gh, 0, none⟩)] (by simp) (by rfl) rfl (by rfl) (by rfl) (by simp only [List.map_toArray, List.map_cons, List.map_nil, hsw]; rfl) (seek_enters _ _) ?_
    refine (HIH.out v2 _ (own_lower HO2 hSz) hHeld).mono ?_
    rintro e w6 ⟨s1, on, rfl, hrun, hI6, hf6⟩
    refine ⟨_, rfl, ?_⟩
    refine hK.out _ _ ?_
    clear hK K
    refine norm_ (a' := ?_) ?_ ?_
    rotate_left
    ·show Act.put _ (some 37) _ = _
     simp only [Act.put, List.setIfInBounds_toArray, List.set_cons_zero, List.set_cons_succ, i64_w, i32_w]
     rfl
    refine pure_ (i := 8) (N := some 8) (v := ?_) (a' := ?_) #[true, true, true, true, true, true, true, true, true] rfl rfl (by kernel_rfl) (fun _ _ _ h => h) (Or.inl ⟨by rfl, ?_⟩) ?_ ?_
    rotate_left
    ·intro w'
     go_simp
     with_reducible rfl
    rotate_left
    ·simp only [Act.put, List.setIfInBounds_toArray, List.set_cons_zero, List.set_cons_succ, i64_w, i32_w]
     rfl
    refine done_ (by kernel_rfl) ?_
    go_wp2_with fail
    go_ret
    exact ⟨s1, on, rfl, hrun, hI6, (hHeld.mono (by simp)).trans hf6⟩
  ·rw [leaves_go m (enough H) d h g hb]
   have hHc44 := (pile_length H h (-1) h.length).trans hHl
   have HIH : Aside0 (∀ (n : Int) (v2 : Value) (s2 : σ) (w2 : World), NumH n → (∀ x ∈ leaves m 4 (enough H) d (h ++ [n]) g, Q x) → Own wS.heap.size w2 v2 (h ++ [n]) → FrB (gh :: B) wS w2 → w2.heap[gh]? = some (.cells (vals .i64 (bump (pile H h (-1) h.length) n (-1))) 50 (0, 0)) → I s2 w2 → Calls Try.prog 40 #[v2, .int .i64 g, .pointer (some ⟨gm, 0, none⟩), .pointer (some ⟨ge, 0, none⟩), .pointer (some ⟨gc, 0, none⟩), .pointer (some ⟨gh, 0, none⟩)] w2 fun e w' =>
     ∃ s' on, e = .returned (.bool on) ∧ runL step s2 (leaves m 4 (enough H) d (h ++ [n]) g) = (s', on) ∧ I s' w' ∧ FrB B w2 w') := ⟨fun n v2 s2 w2 hn hq2 ho2 hf2 hh2 hI2 => by
    refine ih (h ++ [n]) g v2 s2 w2 (by simp; omega) hg0 (by simp; omega) hf2 ?_ hI2 ho2 hq2
    rw [pile_snoc]
    exact hh2⟩
   have HQ := Aside0.mk (fun (n : Int) (hk : enough H h n = true) (ho : n ∈ opts m h.length g 4) (x : List Int) (hx : x ∈ leaves m 4 (enough H) d (h ++ [n]) g) => hQ x (by rw [leaves_go m (enough H) d h g hb]; unfold goes; exact List.mem_flatMap.2 ⟨n, ho, by rw [if_pos hk]; exact hx⟩))
   have HM := Aside0.mk hM
   have HF := Aside0.mk hf
   have HH := Aside0.mk hh
   have HI := Aside0.mk hI
   have HST := Aside0.mk hstab
   have HCM := Aside0.mk (hf.row hcm hgm)
   have HGM := Aside0.mk hgm
   have HGC := Aside0.mk hgc
   have HGH := Aside0.mk hgh
   have HLT := Aside0.mk hlt
   have HON := Aside0.mk (opts_num hm (k := h.length) (g := g) hlm hb)
   have HEN : Aside0 (∀ n : Int, enough H h n = decide (rd (pile H h (-1) h.length) (slot n : Nat) ≠ 0)) := ⟨fun n => rfl⟩
   have HPB := Aside0.mk (pile_b H h hHl 1000000 hHb h.length)
   have hSz := hf.size
   clear hcm hce hcc hgm hgem hgc hM hmc hm hHl hHb hcall hstab ih hx hge hf hI ho hh hgh hlt hQ
   generalize hHc : pile H h (-1) h.length = Hc at *
   clear hHc
   generalize hxv : rd m (h.length : Int) = x at *
   go_enter Try.func40, Try.ntmps40
   go_wp2_with ((with_reducible refine gate_dst (N := 38) rfl ?_); refine Kd.R_lit (Kd.int .i8) _ 64 ?hg (N := 38) ?hd (xs := ([] : List Int)) (inner := []) (ok := fun _ => True) (okp := fun _ => True) ?hr ?hp (fun _ hk => hk) trivial (Below.refl _ _) (Nat.le_refl _) (by simp) ?_; (case hd => rfl); (case hg => rfl); (case hr => first | (go_simp; done) | (go_simp; rfl)); (case hp => exact (Reps.none _ _)); intro v1 w1 ho1 hb1 _ _; have HO1 := Aside0.mk ho1; have HF1 := Aside0.mk (FrB.below (B := []) hb1); clear ho1 hb1)
   go_loopw [10, 11, 12] (fun v10 v11 v12 wr => ∃ (i : Nat) (xs : List Int), i ≤ 4 ∧ v11 = .int .i8 ((i : Int) - 4) ∧ Aside0 (xs ++ subsTo m h.length g (4 - i) = subsTo m h.length g 4) ∧ Aside0 (Own w.heap.size wr v10 xs) ∧ Aside0 (FrB [] w wr)) (fun _ v11 _ _ => (-(intOf v11)).toNat)
   case atStart => exact ⟨0, [], by omega, by simp, ⟨rfl⟩, HO1, HF1⟩
   case round =>
    clear HO1 HF1
    obtain ⟨i, xs, hi, rfl, HX, HO1, HF1⟩ := hrel
    have hcellr := cell1 (HF1.out.row HCM.out (by simp))
    have hcxr := (Kd.at_int (HM.out _ (HF.out.trans (HF1.out.mono (by simp)))) (h.length : Int) (by omega) (by omega))
    rw [Int.toNat_natCast, hxv] at hcxr
    obtain ⟨ad1, e1, hcxr⟩ := hcxr
    cases e1
    by_cases hlt : i < 4
    ·have HSS := Aside0.mk (subsTo_step m h.length g i hlt)
     have HNX : Aside0 (((i + 1 : Nat) : Int) - 4 = ((i : Int) - 4) + 1) := ⟨by omega⟩
     have hq1 : -4 ≤ (i : Int) - 4 := by omega
     have hq2 : (i : Int) - 4 < 0 := by omega
     have HMS := Aside0.mk (show (-((((i : Int) - 4) + 1))).toNat < (-((i : Int) - 4)).toNat by omega)
     generalize (i : Int) - 4 = q at *
     have hw1 : wrap64 q = q := w64 (by omega) (by omega)
     have hw2 : wrap64 (g - q) = g - q := w64 (by omega) (by omega)
     obtain ⟨p, hp⟩ : ∃ p, g - q - 1 = p := ⟨_, rfl⟩
     have hw3 : wrap64 (g - q - 1) = g - q - 1 := w64 (by omega) (by omega)
     have HPE := Aside0.mk hp
     have hat0 : 0 ≤ p := by omega
     have HSO : Aside0 (subOk m h.length g q = decide (p < (h.length : Int) ∧ rd m p = x)) := ⟨by rw [← hxv, ← hp]; rfl⟩
     clear hp
     have hw4 : IntKind.i8.wrap (q + 1) = q + 1 := i8w (by omega) (by omega)
     by_cases hat : p < (h.length : Int)
     ·obtain ⟨ad2, e2, hca⟩ := Kd.at_int (HM.out _ (HF.out.trans (HF1.out.mono (by simp)))) p (by omega) (by omega)
      cases e2
      have hat1 : p < (m.length : Int) := by omega
      have hat2 := decide_eq_true hat
      generalize rd m p = y at *
      by_cases heq : y = x
      ·subst heq
       have HXS := Aside0.mk (show subsTo m h.length g (4 - i) = [q] ++ subsTo m h.length g (4 - (i + 1)) by rw [HSS.out, if_pos (by rw [HSO.out]; exact decide_eq_true ⟨hat, rfl⟩)])
       have HLX := Aside0.mk (show xs.length ≤ 4 by have h1 := congrArg List.length HX.out; rw [List.length_append] at h1; have := subsTo_len m h.length g 4; omega)
       clear HSS HSO
       go_wp2_with fail
       rw [HPE.out]
       refine start_ (n := 14) (S := fun w' => FrB [] wr w') (ds := []) #[false, false, false, false, false, false, false, false, false, false, false, false, false, false] (by kernel_rfl) rfl rfl (FrB.below (below_drew (Below.refl _ _))) (fun hHeld => ?_)
       refine pure_ (i := 0) (N := some 48) (v := ?_) (a' := ?_) #[true, false, false, false, false, false, false, false, false, false, false, false, false, false] rfl rfl (by kernel_rfl) (fun _ _ _ h => h) (Or.inl ⟨by rfl, ?_⟩) ?_ ?_
       rotate_left
       ·intro w'
        go_simp
        with_reducible rfl
       rotate_left
       ·simp only [Act.put, List.setIfInBounds_toArray, List.set_cons_zero, List.set_cons_succ, i64_w, i32_w]
        rfl
       refine pure_ (i := 1) (N := some 49) (v := ?_) (a' := ?_) #[true, true, false, false, false, false, false, false, false, false, false, false, false, false] rfl rfl (by kernel_rfl) (fun _ _ _ h => h) (Or.inl ⟨by rfl, ?_⟩) ?_ ?_
       rotate_left
       ·intro w'
        go_simp
        with_reducible rfl
       rotate_left
       ·simp only [Act.put, List.setIfInBounds_toArray, List.set_cons_zero, List.set_cons_succ, i64_w, i32_w]
        rfl
       refine pure_ (i := 2) (N := some 50) (v := ?_) (a' := ?_) #[true, true, true, false, false, false, false, false, false, false, false, false, false, false] rfl rfl (by kernel_rfl) (fun _ _ _ h => h) (Or.inl ⟨by rfl, ?_⟩) ?_ ?_
       rotate_left
       ·intro w'
        go_simp
        with_reducible rfl
       rotate_left
       ·simp only [Act.put, List.setIfInBounds_toArray, List.set_cons_zero, List.set_cons_succ, i64_w, i32_w]
        rfl
       refine pure_ (i := 3) (N := some 51) (v := ?_) (a' := ?_) #[true, true, true, true, false, false, false, false, false, false, false, false, false, false] rfl rfl (by kernel_rfl) (fun _ _ _ h => h) (Or.inl ⟨by rfl, ?_⟩) ?_ ?_
       rotate_left
       ·intro w'
        go_simp
        with_reducible rfl
       rotate_left
       ·simp only [Act.put, List.setIfInBounds_toArray, List.set_cons_zero, List.set_cons_succ, i64_w, i32_w]
        rfl
       refine pure_ (i := 5) (N := some 53) (v := ?_) (a' := ?_) #[true, true, true, true, false, true, false, false, false, false, false, false, false, false] rfl rfl (by kernel_rfl) (fun _ _ _ h => h) (Or.inl ⟨by rfl, ?_⟩) ?_ ?_
       rotate_left
       ·intro w'
        go_simp
        with_reducible rfl
       rotate_left
       ·simp only [Act.put, List.setIfInBounds_toArray, List.set_cons_zero, List.set_cons_succ, i64_w, i32_w]
        rfl
       refine pure_ (i := 9) (N := some 57) (v := ?_) (a' := ?_) #[true, true, true, true, false, true, false, false, false, true, false, false, false, false] rfl rfl (by kernel_rfl) (fun _ _ _ h => h) (Or.inl ⟨by rfl, ?_⟩) ?_ ?_
       rotate_left
       ·intro w'
        go_simp
        with_reducible rfl
       rotate_left
       ·simp only [Act.put, List.setIfInBounds_toArray, List.set_cons_zero, List.set_cons_succ, i64_w, i32_w]
        rfl
       refine take_ (i := 4) (N := some 52) (v := .slice (some ad) m.length cm) (a' := ?_) #[true, true, true, true, true, true, false, false, false, true, false, false, false, false] rfl rfl (by kernel_rfl) (fun _ _ _ h => h) (Or.inl ⟨by rfl, ?_⟩) hHeld ?_ ?_
       ·intro w' s0
        exact y_cell (by rfl) (by rfl) oneMean (s0.read hcellr)
       rotate_left
       ·simp only [Act.put, List.setIfInBounds_toArray, List.set_cons_zero, List.set_cons_succ, i64_w, i32_w]
        rfl
       refine pure_ (i := 6) (N := some 54) (v := ?_) (a' := ?_) #[true, true, true, true, true, true, true, false, false, true, false, false, false, false] rfl rfl (by kernel_rfl) (fun _ _ _ h => h) (Or.inl ⟨by rfl, ?_⟩) ?_ ?_
       rotate_left
       ·intro w'
        go_simp
        with_reducible rfl
       rotate_left
       ·simp only [Act.put, List.setIfInBounds_toArray, List.set_cons_zero, List.set_cons_succ, i64_w, i32_w]
        rfl
       refine take_ (i := 7) (N := some 55) (v := .int .i8 y) (a' := ?_) #[true, true, true, true, true, true, true, true, false, true, false, false, false, false] rfl rfl (by kernel_rfl) (fun _ _ _ h => h) (Or.inl ⟨by rfl, ?_⟩) hHeld ?_ ?_
       ·intro w' s0
        exact y_cell (by rfl) (by rfl) oneI8 (s0.read hca)
       rotate_left
       ·simp only [Act.put, List.setIfInBounds_toArray, List.set_cons_zero, List.set_cons_succ, i64_w, i32_w]
        rfl
       refine take_ (i := 8) (N := some 56) (v := .slice (some ad) m.length cm) (a' := ?_) #[true, true, true, true, true, true, true, true, true, true, false, false, false, false] rfl rfl (by kernel_rfl) (fun _ _ _ h => h) (Or.inl ⟨by rfl, ?_⟩) hHeld ?_ ?_
       ·intro w' s0
        exact y_cell (by rfl) (by rfl) oneMean (s0.read hcellr)
       rotate_left
       ·simp only [Act.put, List.setIfInBounds_toArray, List.set_cons_zero, List.set_cons_succ, i64_w, i32_w]
        rfl
       refine pure_ (i := 10) (N := some 58) (v := ?_) (a' := ?_) #[true, true, true, true, true, true, true, true, true, true, true, false, false, false] rfl rfl (by kernel_rfl) (fun _ _ _ h => h) (Or.inl ⟨by rfl, ?_⟩) ?_ ?_
       rotate_left
       ·intro w'
        go_simp
        with_reducible rfl
       rotate_left
       ·simp only [Act.put, List.setIfInBounds_toArray, List.set_cons_zero, List.set_cons_succ, i64_w, i32_w]
        rfl
       refine take_ (i := 11) (N := some 59) (v := .int .i8 y) (a' := ?_) #[true, true, true, true, true, true, true, true, true, true, true, true, false, false] rfl rfl (by kernel_rfl) (fun _ _ _ h => h) (Or.inl ⟨by rfl, ?_⟩) hHeld ?_ ?_
       ·intro w' s0
        exact y_cell (by rfl) (by rfl) oneI8 (s0.read hcxr)
       rotate_left
       ·simp only [Act.put, List.setIfInBounds_toArray, List.set_cons_zero, List.set_cons_succ, i64_w, i32_w]
        rfl
       refine pure_ (i := 12) (N := some 60) (v := ?_) (a' := ?_) #[true, true, true, true, true, true, true, true, true, true, true, true, true, false] rfl rfl (by kernel_rfl) (fun _ _ _ h => h) (Or.inl ⟨by rfl, ?_⟩) ?_ ?_
       rotate_left
       ·intro w'
        go_simp
        with_reducible rfl
       rotate_left
       ·simp only [Act.put, List.setIfInBounds_toArray, List.set_cons_zero, List.set_cons_succ, i64_w, i32_w]
        rfl
       refine pure_ (i := 13) (N := some 61) (v := ?_) (a' := ?_) #[true, true, true, true, true, true, true, true, true, true, true, true, true, true] rfl rfl (by kernel_rfl) (fun _ _ _ h => h) (Or.inl ⟨by rfl, ?_⟩) ?_ ?_
       rotate_left
       ·intro w'
        go_simp
        with_reducible rfl
       rotate_left
       ·simp only [Act.put, List.setIfInBounds_toArray, List.set_cons_zero, List.set_cons_succ, i64_w, i32_w]
        rfl
       refine done_ (by kernel_rfl) ?_
       skip
       have HOq := Aside0.mk (Kd.R_drew HO1.out)
       have HFq := Aside0.mk (HF1.out.trans hHeld)
       generalize wr.drew = wq at *
       go_wp2_with ((with_reducible refine gate_builtin (b := .append) (xs := #[.tmp 62, .tmp 64]) rfl ?_); (try (refine gate_guard (by rfl) ?_; dsimp only)); at_builtin; refine Kd.R_append (Kd.int .i8) (w0 := wq) w.heap.size rfl (.tmp 62) (.tmp 64) 24 64 (.int .i8 0) 1 rfl Try.underlying24 infoI8 rfl (by decide) (by omega) _ xs q [.int .i8 q] (fun _ => True) (fun _ => False) rfl rfl rfl (fun _ hk => hk.elim) (fun _ _ => trivial) HOq.out (Below.refl _ _) HFq.out.size (by have := HLX.out; omega) ?_; intro v2 w2 ho2 hb2 hg2 hat2; have HO2 := Aside0.mk ho2; have HF2 := Aside0.mk (HFq.out.grown hg2 (fun k hk => Kd.R_base HOq.out k hk)); clear ho2 hb2 hg2 hat2)
       go_roundw
       case rel => exact ⟨i + 1, xs ++ [q], by omega, by rw [HNX.out], ⟨by rw [List.append_assoc, ← HXS.out]; exact HX.out⟩, HO2, HF2⟩
       case measure => simp only [intOf]; exact HMS.out
      ·have HXS := Aside0.mk (show subsTo m h.length g (4 - i) = subsTo m h.length g (4 - (i + 1)) by rw [HSS.out, if_neg (by rw [HSO.out, decide_eq_false (fun e => heq e.2)]; simp)]; rfl)
       clear HSS HSO
       have hne := Aside0.mk (show (y == x) = false by simpa using heq)
       go_wp2_with fail
       rw [HPE.out]
       refine start_ (n := 14) (S := fun w' => FrB [] wr w') (ds := []) #[false, false, false, false, false, false, false, false, false, false, false, false, false, false] (by kernel_rfl) rfl rfl (FrB.below (below_drew (Below.refl _ _))) (fun hHeld => ?_)
       refine pure_ (i := 0) (N := some 48) (v := ?_) (a' := ?_) #[true, false, false, false, false, false, false, false, false, false, false, false, false, false] rfl rfl (by kernel_rfl) (fun _ _ _ h => h) (Or.inl ⟨by rfl, ?_⟩) ?_ ?_
       rotate_left
       ·intro w'
        go_simp
        with_reducible rfl
       rotate_left
       ·simp only [Act.put, List.setIfInBounds_toArray, List.set_cons_zero, List.set_cons_succ, i64_w, i32_w]
        rfl
       refine pure_ (i := 1) (N := some 49) (v := ?_) (a' := ?_) #[true, true, false, false, false, false, false, false, false, false, false, false, false, false] rfl rfl (by kernel_rfl) (fun _ _ _ h => h) (Or.inl ⟨by rfl, ?_⟩) ?_ ?_
       rotate_left
       ·intro w'
        go_simp
        with_reducible rfl
       rotate_left
       ·simp only [Act.put, List.setIfInBounds_toArray, List.set_cons_zero, List.set_cons_succ, i64_w, i32_w]
        rfl
       refine pure_ (i := 2) (N := some 50) (v := ?_) (a' := ?_) #[true, true, true, false, false, false, false, false, false, false, false, false, false, false] rfl rfl (by kernel_rfl) (fun _ _ _ h => h) (Or.inl ⟨by rfl, ?_⟩) ?_ ?_
       rotate_left
       ·intro w'
        go_simp
        with_reducible rfl
       rotate_left
       ·simp only [Act.put, List.setIfInBounds_toArray, List.set_cons_zero, List.set_cons_succ, i64_w, i32_w]
        rfl
       refine pure_ (i := 3) (N := some 51) (v := ?_) (a' := ?_) #[true, true, true, true, false, false, false, false, false, false, false, false, false, false] rfl rfl (by kernel_rfl) (fun _ _ _ h => h) (Or.inl ⟨by rfl, ?_⟩) ?_ ?_
       rotate_left
       ·intro w'
        go_simp
        with_reducible rfl
       rotate_left
       ·simp only [Act.put, List.setIfInBounds_toArray, List.set_cons_zero, List.set_cons_succ, i64_w, i32_w]
        rfl
       refine pure_ (i := 5) (N := some 53) (v := ?_) (a' := ?_) #[true, true, true, true, false, true, false, false, false, false, false, false, false, false] rfl rfl (by kernel_rfl) (fun _ _ _ h => h) (Or.inl ⟨by rfl, ?_⟩) ?_ ?_
       rotate_left
       ·intro w'
        go_simp
        with_reducible rfl
       rotate_left
       ·simp only [Act.put, List.setIfInBounds_toArray, List.set_cons_zero, List.set_cons_succ, i64_w, i32_w]
        rfl
       refine pure_ (i := 9) (N := some 57) (v := ?_) (a' := ?_) #[true, true, true, true, false, true, false, false, false, true, false, false, false, false] rfl rfl (by kernel_rfl) (fun _ _ _ h => h) (Or.inl ⟨by rfl, ?_⟩) ?_ ?_
       rotate_left
       ·intro w'
        go_simp
        with_reducible rfl
       rotate_left
       ·simp only [Act.put, List.setIfInBounds_toArray, List.set_cons_zero, List.set_cons_succ, i64_w, i32_w]
        rfl
       refine take_ (i := 4) (N := some 52) (v := .slice (some ad) m.length cm) (a' := ?_) #[true, true, true, true, true, true, false, false, false, true, false, false, false, false] rfl rfl (by kernel_rfl) (fun _ _ _ h => h) (Or.inl ⟨by rfl, ?_⟩) hHeld ?_ ?_
       ·intro w' s0
        exact y_cell (by rfl) (by rfl) oneMean (s0.read hcellr)
       rotate_left
       ·simp only [Act.put, List.setIfInBounds_toArray, List.set_cons_zero, List.set_cons_succ, i64_w, i32_w]
        rfl
       refine pure_ (i := 6) (N := some 54) (v := ?_) (a' := ?_) #[true, true, true, true, true, true, true, false, false, true, false, false, false, false] rfl rfl (by kernel_rfl) (fun _ _ _ h => h) (Or.inl ⟨by rfl, ?_⟩) ?_ ?_
       rotate_left
       ·intro w'
        go_simp
        with_reducible rfl
       rotate_left
       ·simp only [Act.put, List.setIfInBounds_toArray, List.set_cons_zero, List.set_cons_succ, i64_w, i32_w]
        rfl
       refine take_ (i := 7) (N := some 55) (v := .int .i8 y) (a' := ?_) #[true, true, true, true, true, true, true, true, false, true, false, false, false, false] rfl rfl (by kernel_rfl) (fun _ _ _ h => h) (Or.inl ⟨by rfl, ?_⟩) hHeld ?_ ?_
       ·intro w' s0
        exact y_cell (by rfl) (by rfl) oneI8 (s0.read hca)
       rotate_left
       ·simp only [Act.put, List.setIfInBounds_toArray, List.set_cons_zero, List.set_cons_succ, i64_w, i32_w]
        rfl
       refine take_ (i := 8) (N := some 56) (v := .slice (some ad) m.length cm) (a' := ?_) #[true, true, true, true, true, true, true, true, true, true, false, false, false, false] rfl rfl (by kernel_rfl) (fun _ _ _ h => h) (Or.inl ⟨by rfl, ?_⟩) hHeld ?_ ?_
       ·intro w' s0
        exact y_cell (by rfl) (by rfl) oneMean (s0.read hcellr)
       rotate_left
       ·simp only [Act.put, List.setIfInBounds_toArray, List.set_cons_zero, List.set_cons_succ, i64_w, i32_w]
        rfl
       refine pure_ (i := 10) (N := some 58) (v := ?_) (a' := ?_) #[true, true, true, true, true, true, true, true, true, true, true, false, false, false] rfl rfl (by kernel_rfl) (fun _ _ _ h => h) (Or.inl ⟨by rfl, ?_⟩) ?_ ?_
       rotate_left
       ·intro w'
        go_simp
        with_reducible rfl
       rotate_left
       ·simp only [Act.put, List.setIfInBounds_toArray, List.set_cons_zero, List.set_cons_succ, i64_w, i32_w]
        rfl
       refine take_ (i := 11) (N := some 59) (v := .int .i8 x) (a' := ?_) #[true, true, true, true, true, true, true, true, true, true, true, true, false, false] rfl rfl (by kernel_rfl) (fun _ _ _ h => h) (Or.inl ⟨by rfl, ?_⟩) hHeld ?_ ?_
       ·intro w' s0
        exact y_cell (by rfl) (by rfl) oneI8 (s0.read hcxr)
       rotate_left
       ·simp only [Act.put, List.setIfInBounds_toArray, List.set_cons_zero, List.set_cons_succ, i64_w, i32_w]
        rfl
       refine pure_ (i := 12) (N := some 60) (v := ?_) (a' := ?_) #[true, true, true, true, true, true, true, true, true, true, true, true, true, false] rfl rfl (by kernel_rfl) (fun _ _ _ h => h) (Or.inl ⟨by rfl, ?_⟩) ?_ ?_
       rotate_left
       ·intro w'
        go_simp
        with_reducible rfl
       rotate_left
       ·simp only [Act.put, List.setIfInBounds_toArray, List.set_cons_zero, List.set_cons_succ, i64_w, i32_w]
        rfl
       refine pure_ (i := 13) (N := some 61) (v := ?_) (a' := ?_) #[true, true, true, true, true, true, true, true, true, true, true, true, true, true] rfl rfl (by kernel_rfl) (fun _ _ _ h => h) (Or.inl ⟨by rfl, ?_⟩) ?_ ?_
       rotate_left
       ·intro w'
        go_simp
        with_reducible rfl
       rotate_left
       ·simp only [Act.put, List.setIfInBounds_toArray, List.set_cons_zero, List.set_cons_succ, i64_w, i32_w]
        rfl
       refine done_ (by kernel_rfl) ?_
       skip
       have HOq := Aside0.mk (Kd.R_drew HO1.out)
       have HFq := Aside0.mk (HF1.out.trans hHeld)
       (try rw [hne.out])
       go_wp2_with fail
       go_roundw
       case rel => exact ⟨i + 1, xs, by omega, by rw [HNX.out], ⟨by rw [← HXS.out]; exact HX.out⟩, HOq, HFq⟩
       case measure => simp only [intOf]; exact HMS.out
     ·have HXS := Aside0.mk (show subsTo m h.length g (4 - i) = subsTo m h.length g (4 - (i + 1)) by rw [HSS.out, if_neg (by rw [HSO.out, decide_eq_false (fun e => hat e.1)]; simp)]; rfl)
      clear HSS HSO
      have hat1 := eq_false hat
      have hat2 := decide_eq_false hat
      go_wp2_with fail
      rw [HPE.out]
      refine start_ (n := 14) (S := fun w' => FrB [] wr w') (ds := []) #[false, false, false, false, false, false, false, false, false, false, false, false, false, false] (by kernel_rfl) rfl rfl (FrB.below (below_drew (Below.refl _ _))) (fun hHeld => ?_)
      refine pure_ (i := 0) (N := some 48) (v := ?_) (a' := ?_) #[true, false, false, false, false, false, false, false, false, false, false, false, false, false] rfl rfl (by kernel_rfl) (fun _ _ _ h => h) (Or.inl ⟨by rfl, ?_⟩) ?_ ?_
      rotate_left
      ·intro w'
       go_simp
       with_reducible rfl
      rotate_left
      ·simp only [Act.put, List.setIfInBounds_toArray, List.set_cons_zero, List.set_cons_succ, i64_w, i32_w]
       rfl
      refine pure_ (i := 1) (N := some 49) (v := ?_) (a' := ?_) #[true, true, false, false, false, false, false, false, false, false, false, false, false, false] rfl rfl (by kernel_rfl) (fun _ _ _ h => h) (Or.inl ⟨by rfl, ?_⟩) ?_ ?_
      rotate_left
      ·intro w'
       go_simp
       with_reducible rfl
      rotate_left
      ·simp only [Act.put, List.setIfInBounds_toArray, List.set_cons_zero, List.set_cons_succ, i64_w, i32_w]
       rfl
      refine pure_ (i := 2) (N := some 50) (v := ?_) (a' := ?_) #[true, true, true, false, false, false, false, false, false, false, false, false, false, false] rfl rfl (by kernel_rfl) (fun _ _ _ h => h) (Or.inl ⟨by rfl, ?_⟩) ?_ ?_
      rotate_left
      ·intro w'
       go_simp
       with_reducible rfl
      rotate_left
      ·simp only [Act.put, List.setIfInBounds_toArray, List.set_cons_zero, List.set_cons_succ, i64_w, i32_w]
       rfl
      refine pure_ (i := 3) (N := some 51) (v := ?_) (a' := ?_) #[true, true, true, true, false, false, false, false, false, false, false, false, false, false] rfl rfl (by kernel_rfl) (fun _ _ _ h => h) (Or.inl ⟨by rfl, ?_⟩) ?_ ?_
      rotate_left
      ·intro w'
       go_simp
       with_reducible rfl
      rotate_left
      ·simp only [Act.put, List.setIfInBounds_toArray, List.set_cons_zero, List.set_cons_succ, i64_w, i32_w]
       rfl
      refine pure_ (i := 4) (N := some 52) (v := undef) (a' := ?_) #[true, true, true, true, true, false, false, false, false, false, false, false, false, false] rfl rfl (by kernel_rfl) (fun _ _ _ h => h) (Or.inr ⟨by rfl, rfl⟩) ?_ ?_
      rotate_left
      ·simp only [Act.put, List.setIfInBounds_toArray, List.set_cons_zero, List.set_cons_succ, i64_w, i32_w]
       rfl
      refine pure_ (i := 5) (N := some 53) (v := undef) (a' := ?_) #[true, true, true, true, true, true, false, false, false, false, false, false, false, false] rfl rfl (by kernel_rfl) (fun _ _ _ h => h) (Or.inr ⟨by rfl, rfl⟩) ?_ ?_
      rotate_left
      ·simp only [Act.put, List.setIfInBounds_toArray, List.set_cons_zero, List.set_cons_succ, i64_w, i32_w]
       rfl
      refine pure_ (i := 6) (N := some 54) (v := undef) (a' := ?_) #[true, true, true, true, true, true, true, false, false, false, false, false, false, false] rfl rfl (by kernel_rfl) (fun _ _ _ h => h) (Or.inr ⟨by rfl, rfl⟩) ?_ ?_
      rotate_left
      ·simp only [Act.put, List.setIfInBounds_toArray, List.set_cons_zero, List.set_cons_succ, i64_w, i32_w]
       rfl
      refine pure_ (i := 7) (N := some 55) (v := undef) (a' := ?_) #[true, true, true, true, true, true, true, true, false, false, false, false, false, false] rfl rfl (by kernel_rfl) (fun _ _ _ h => h) (Or.inr ⟨by rfl, rfl⟩) ?_ ?_
      rotate_left
      ·simp only [Act.put, List.setIfInBounds_toArray, List.set_cons_zero, List.set_cons_succ, i64_w, i32_w]
       rfl
      refine pure_ (i := 8) (N := some 56) (v := undef) (a' := ?_) #[true, true, true, true, true, true, true, true, true, false, false, false, false, false] rfl rfl (by kernel_rfl) (fun _ _ _ h => h) (Or.inr ⟨by rfl, rfl⟩) ?_ ?_
      rotate_left
      ·simp only [Act.put, List.setIfInBounds_toArray, List.set_cons_zero, List.set_cons_succ, i64_w, i32_w]
       rfl
      refine pure_ (i := 9) (N := some 57) (v := undef) (a' := ?_) #[true, true, true, true, true, true, true, true, true, true, false, false, false, false] rfl rfl (by kernel_rfl) (fun _ _ _ h => h) (Or.inr ⟨by rfl, rfl⟩) ?_ ?_
      rotate_left
      ·simp only [Act.put, List.setIfInBounds_toArray, List.set_cons_zero, List.set_cons_succ, i64_w, i32_w]
       rfl
      refine pure_ (i := 10) (N := some 58) (v := undef) (a' := ?_) #[true, true, true, true, true, true, true, true, true, true, true, false, false, false] rfl rfl (by kernel_rfl) (fun _ _ _ h => h) (Or.inr ⟨by rfl, rfl⟩) ?_ ?_
      rotate_left
      ·simp only [Act.put, List.setIfInBounds_toArray, List.set_cons_zero, List.set_cons_succ, i64_w, i32_w]
       rfl
      refine pure_ (i := 11) (N := some 59) (v := undef) (a' := ?_) #[true, true, true, true, true, true, true, true, true, true, true, true, false, false] rfl rfl (by kernel_rfl) (fun _ _ _ h => h) (Or.inr ⟨by rfl, rfl⟩) ?_ ?_
      rotate_left
      ·simp only [Act.put, List.setIfInBounds_toArray, List.set_cons_zero, List.set_cons_succ, i64_w, i32_w]
       rfl
      refine pure_ (i := 12) (N := some 60) (v := undef) (a' := ?_) #[true, true, true, true, true, true, true, true, true, true, true, true, true, false] rfl rfl (by kernel_rfl) (fun _ _ _ h => h) (Or.inr ⟨by rfl, rfl⟩) ?_ ?_
      rotate_left
      ·simp only [Act.put, List.setIfInBounds_toArray, List.set_cons_zero, List.set_cons_succ, i64_w, i32_w]
       rfl
      refine pure_ (i := 13) (N := some 61) (v := ?_) (a' := ?_) #[true, true, true, true, true, true, true, true, true, true, true, true, true, true] rfl rfl (by kernel_rfl) (fun _ _ _ h => h) (Or.inl ⟨by rfl, ?_⟩) ?_ ?_
      rotate_left
      ·intro w'
       go_simp
       with_reducible rfl
      rotate_left
      ·simp only [Act.put, List.setIfInBounds_toArray, List.set_cons_zero, List.set_cons_succ, i64_w, i32_w]
       rfl
      refine done_ (by kernel_rfl) ?_
      skip
      have HOq := Aside0.mk (Kd.R_drew HO1.out)
      have HFq := Aside0.mk (HF1.out.trans hHeld)
      go_wp2_with fail
      go_roundw
      case rel => exact ⟨i + 1, xs, by omega, by rw [HNX.out], ⟨by rw [← HXS.out]; exact HX.out⟩, HOq, HFq⟩
      case measure => simp only [intOf]; exact HMS.out
    ·have hq : ¬ ((i : Int) - 4 < 0) := by omega
     have HXE := Aside0.mk (show xs = subsTo m h.length g 4 by
      have h1 := HX.out
      rw [show 4 - i = 0 by omega] at h1
      simpa [subsTo] using h1)
     have HLX := Aside0.mk (show xs.length ≤ 4 by rw [HXE.out]; exact subsTo_len m h.length g 4)
     go_wp2_with ((with_reducible refine gate_builtin (b := .append) (xs := #[.tmp 66, .tmp 71]) rfl ?_); (try (refine gate_guard (by rfl) ?_; dsimp only)); at_builtin; refine Kd.R_append (Kd.int .i8) (w0 := wr) w.heap.size rfl (.tmp 66) (.tmp 71) 24 64 (.int .i8 0) 1 rfl Try.underlying24 infoI8 rfl (by decide) (by omega) _ xs x [.int .i8 x] (fun _ => True) (fun _ => False) rfl rfl rfl (fun _ hk => hk.elim) (fun _ _ => trivial) HO1.out (Below.refl _ _) HF1.out.size (by have := HLX.out; omega) ?_; intro v2 w2 ho2 hb2 hg2 hat2; generalize hO : xs ++ [x] = O at ho2; have HOX := Aside0.mk hO; clear hO; obtain ⟨A2, c2, rfl⟩ := Kd.R_slice ho2; have HO2 := Aside0.mk ho2; have HF2 := Aside0.mk (HF1.out.grown hg2 (fun k hk => Kd.R_base HO1.out k hk)); clear ho2 hb2 hg2 hat2)
     have HOE := Aside0.mk (show opts m h.length g 4 = O by unfold opts; rw [hxv, ← HXE.out]; exact HOX.out)
     have hOl : O.length ≤ 5 := by have := HLX.out; rw [← HOX.out]; simp; omega
     clear HX HO1 HF1 HXE HLX HOX
     go_loopw [74, 14, 15] (fun v74 v14 v15 wr => ∃ (j : Nat) (s1 : σ), j ≤ O.length ∧ v74 = .int .i64 j ∧ Aside0 (runL step s (goes m (enough H) d h g (O.take j)) = (s1, true)) ∧ Aside0 (I s1 wr) ∧ Aside0 (FrB B w2 wr)) (fun v74 _ _ _ => O.length - (intOf v74).toNat)
     case atStart => exact ⟨0, s, by omega, rfl, ⟨rfl⟩, ⟨HST.out s w w2 HI.out (HF2.out.mono (by simp))⟩, ⟨FrB.refl B w2⟩⟩
     case round =>
      obtain ⟨j, s1, hj, rfl, HRj, HIj, HFj⟩ := hrel
      have HHj := Aside0.mk (HFj.out.row (HF2.out.row HH.out (by simp)) HGH.out)
      have HFw : Aside0 (FrB (gh :: B) wS wr) := ⟨(HF.out.trans (HF2.out.mono (by simp))).trans (HFj.out.mono (by simp +contextual))⟩
      by_cases hlt2 : j < O.length
      ·obtain ⟨ad2, rfl, hcn⟩ := Kd.at_int (Kd.R_reads' (own_later HO2.out HFj.out (fun b hb => Nat.lt_of_lt_of_le (HLT.out b (by simp [hb])) hSz))).2.2 (j : Int) (by omega) (by omega)
       rw [Int.toNat_natCast] at hcn
       have HTK := Aside0.mk (show O.take (j + 1) = O.take j ++ [rd O (j : Int)] by rw [rd_get O j hlt2, List.take_succ_eq_append_getElem hlt2])
       have HMEM := Aside0.mk (show rd O (j : Int) ∈ opts m h.length g 4 by rw [HOE.out, rd_get O j hlt2]; exact List.getElem_mem _)
       have hn := HON.out (rd O (j : Int)) (by rw [HOE.out, rd_get O j hlt2]; exact List.getElem_mem _)
       generalize rd O (j : Int) = n at *
       have hnn := hn.1
       have hnN := hn.2
       have hE := HEN.out n
       have HOF := Aside0.mk (fun W hW => of_calls gh Hc n W hW hHc44 hnN hnn)
       have HAD := Aside0.mk (fun W hW => add_calls gh Hc n (-1) W hW hHc44 hnN (fun j hj => by have := HPB.out j hj; omega) (by omega))
       have HAB := Aside0.mk (fun W hW => add_calls gh (bump Hc n (-1)) n 1 W hW (by rw [bump_length]; exact hHc44) hnN (fun j hj => by have := HPB.out j hj; rw [rd_bump _ _ _ j (by omega)]; split <;> omega) (by omega))
       have HBB := Aside0.mk (bump_back Hc n hHc44)
       generalize rd Hc (slot n : Nat) = y at *
       clear hn
       by_cases hy : y = 0
       ·have HSK := Aside0.mk (show enough H h n = false by rw [hE]; simp [hy])
        subst hy
        clear hE
        go_wp2_with (go_at_call 42; refine (HOF.out _ HHj.out).mono ?_; rintro e wa ⟨rfl, hwa⟩; obtain rfl := hwa.symm)
        go_roundw
        case rel => exact ⟨j + 1, s1, by omega, by go_num, ⟨by rw [HTK.out]; exact run_skip HRj.out HSK.out⟩, HIj, HFj⟩
        case measure => simp [intOf]; omega
       ·have HSK := Aside0.mk (show enough H h n = true by rw [hE]; simp [hy])
        have hy0 : (y == 0) = false := by simpa using hy
        clear hE
        go_wp2_with (first
         | (go_at_call 42; refine (HOF.out _ HHj.out).mono ?_; rintro e wa ⟨rfl, hwa⟩; obtain rfl := hwa.symm)
         | (go_at_call 43; refine (HAD.out _ HHj.out).mono ?_; rintro e wb ⟨rfl, hfa⟩; have HFA := Aside0.mk hfa; clear hfa))
        have HFb : Aside0 (FrB (gh :: B) wS wb) := ⟨HFw.out.trans (FrB.fr1 HFA.out (by simp))⟩
        have HCB := Aside0.mk ((FrB.fr1 (B := [gh]) HFA.out (by simp)).row ((HFj.out.mono (B' := gh :: B) (by simp +contextual)).row ((HF2.out.mono (B' := gh :: B) (by simp)).row HCC.out HGC.out) HGC.out) (by have := HGC.out; simp at this ⊢; exact this.1))
        have HOB := Aside0.mk (own_later HO.out (((HF2.out.mono (B' := gh :: B) (by simp)).trans (HFj.out.mono (by simp +contextual))).trans (FrB.fr1 HFA.out (by simp))) (fun b hb => HLT.out b hb))
        have HSB := Aside0.mk (HFb.out.size)
        have HIB := Aside0.mk (HST.out s1 wr wb HIj.out (FrB.fr1 HFA.out (by simp)))
        have HEND : Aside0 (∀ w5 w6 w7 : World, FrB [] wb w5 → FrB B w5 w6 → Fr1 gh (vals .i64 (bump (bump Hc n (-1)) n 1)) 50 w6 w7 → FrB B wr w7) := ⟨fun w5 w6 w7 h5 h6 h7 => by
         refine FrB.same (g := gh) ((((FrB.fr1 HFA.out (by simp)).trans (h5.mono (by simp))).trans (h6.mono (by simp +contextual))).trans (FrB.fr1 h7 (by simp))) ?_
         rw [h7.now, HBB.out, HHj.out]⟩
        have HADV := Aside0.mk (fun w5 w6 (h5 : FrB [] wb w5) (h6 : FrB B w5 w6) => HAB.out w6 (h6.row (h5.row HFA.out.now (by simp)) HGH.out))
        have HREC := Aside0.mk (fun v2 w5 (ho : Own wS.heap.size w5 v2 (h ++ [n])) (h5 : FrB [] wb w5) => HIH.out n v2 s1 w5 hnN (HQ.out n HSK.out HMEM.out) ho (HFb.out.trans (h5.mono (by simp))) (h5.row HFA.out.now (by simp)) (HST.out s1 wb w5 HIB.out (h5.mono (by simp))))
        clear HAB HIH HAD HOF HHj HBB hy0
        refine start_ (n := 9) (S := fun w' => FrB [] wb w') (ds := [7]) #[false, false, false, false, false, false, false, false, false] (by kernel_rfl) rfl rfl (FrB.below (below_drew (Below.refl _ _))) (fun hHeld => ?_)
        refine pure_ (i := 1) (N := some 84) (v := ?_) (a' := ?_) #[false, true, false, false, false, false, false, false, false] rfl rfl (by kernel_rfl) (fun _ _ _ h => h) (Or.inl ⟨by rfl, ?_⟩) ?_ ?_
        rotate_left
        ·intro w'
         go_simp
         with_reducible rfl
        rotate_left
        ·simp only [Act.put, List.setIfInBounds_toArray, List.set_cons_zero, List.set_cons_succ, i64_w, i32_w]
         rfl
        refine pure_ (i := 3) (N := some 86) (v := ?_) (a' := ?_) #[false, true, false, true, false, false, false, false, false] rfl rfl (by kernel_rfl) (fun _ _ _ h => h) (Or.inl ⟨by rfl, ?_⟩) ?_ ?_
        rotate_left
        ·intro w'
         go_simp
         with_reducible rfl
        rotate_left
        ·simp only [Act.put, List.setIfInBounds_toArray, List.set_cons_zero, List.set_cons_succ, i64_w, i32_w]
         rfl
        refine pure_ (i := 6) (N := some 89) (v := ?_) (a' := ?_) #[false, true, false, true, false, false, true, false, false] rfl rfl (by kernel_rfl) (fun _ _ _ h => h) (Or.inl ⟨by rfl, ?_⟩) ?_ ?_
        rotate_left
        ·intro w'
         go_simp
         with_reducible rfl
        rotate_left
        ·simp only [Act.put, List.setIfInBounds_toArray, List.set_cons_zero, List.set_cons_succ, i64_w, i32_w]
         rfl
        refine take_ (i := 0) (N := some 83) (v := .func (.func 40) #[] #[.pointer (some ⟨gm, 0, none⟩), .pointer (some ⟨ge, 0, none⟩), .pointer (some ⟨gc, 0, none⟩), .pointer (some ⟨gh, 0, none⟩)]) (a' := ?_) #[true, true, false, true, false, false, true, false, false] rfl rfl (by kernel_rfl) (fun _ _ _ h => h) (Or.inl ⟨by rfl, ?_⟩) hHeld ?_ ?_
        ·intro w' s0
         exact y_cell (by rfl) (by rfl) oneFn (cell1 (s0.row HCB.out (by simp)))
        rotate_left
        ·simp only [Act.put, List.setIfInBounds_toArray, List.set_cons_zero, List.set_cons_succ, i64_w, i32_w]
         rfl
        refine two_ (i := 2) (j := 4) (Ni := some 85) (Nj := some 87) #[true, true, true, true, false, false, true, false, false] #[true, true, false, true, true, false, true, false, false] rfl rfl rfl rfl (by kernel_rfl) (by decide) (by decide) (fun K hK => ?_) (fun K hK => ?_)
        ·skip
         refine goes_ Try.func41 (by kernel_rfl) rfl #[.slice A h.length c] (by rfl) rfl rfl (by simp only [List.map_toArray, List.map_cons, List.map_nil]; rfl) ?_
         refine (cloneH_calls A c h _ (Kd.R_reads' (own_later HOB.out hHeld (by simp))).2.2 hHc (by omega)).mono ?_
         rintro e w3 ⟨v1, rfl, HO1, hb1⟩
         refine ⟨_, rfl, ?_⟩
         (try replace hgb := (hb1.block _ (lt_of_some hgb)).trans hgb)
         replace HO1 := own_lower HO1 hHeld.size
         refine hK.out _ _ (hHeld.trans (FrB.below hb1)) (fun hHeld => ?_)
         clear hK K
         refine norm_ (a' := ?_) ?_ ?_
         rotate_left
         ·show Act.put _ (some 85) _ = _
          simp only [Act.put, List.setIfInBounds_toArray, List.set_cons_zero, List.set_cons_succ, i64_w, i32_w]
          rfl
         refine one_ (i := 4) (N := some 87) #[true, true, true, true, true, false, true, false, false] rfl rfl (by kernel_rfl) (by decide) (fun K hK => ?_)
         refine s_lit1 (z := n) (by rfl) rfl rfl rfl Try.underlying28 oneI8 zeroI8 ?_
         intro gb w4 hgb hfb
         (try replace HO1 := own_later HO1 hfb (by simp))
         refine hK.out _ _ (hHeld.trans hfb) (fun hHeld => ?_)
         clear hK K
         refine norm_ (a' := ?_) ?_ ?_
         rotate_left
         ·show Act.put _ (some 87) _ = _
          simp only [Act.put, List.setIfInBounds_toArray, List.set_cons_zero, List.set_cons_succ, i64_w, i32_w]
          rfl
         refine one_ (i := 5) (N := some 88) #[true, true, true, true, true, true, true, false, false] rfl rfl (by kernel_rfl) (by decide) (fun K hK => ?_)
         refine Kd.R_append_rows_step (Kd.int .i8) (w0 := _) wb.heap.size (by rfl) (.tmp 85) (.tmp 87) 28 64 (.int .i8 0) 1 rfl Try.underlying28 infoI8 rfl (by decide) (by omega) v1 h [n] (some ⟨gb, 0, none⟩) 1 1 (fun _ => True) (fun _ => False) rfl rfl HO1 (row1 hgb) (fun _ _ h => h) (fun _ h => h.elim) (fun _ _ => trivial) (Below.refl _ _) hHeld.size (by omega) ?_
         intro v3 w5 HO2 hb5 hg5 hat5
         refine hK.out _ _ (hHeld.grown hg5 (fun k hk => Kd.R_base HO1 k hk)) (fun hHeld => ?_)
         clear hK K
         refine norm_ (a' := ?_) ?_ ?_
         rotate_left
         ·show Act.put _ (some 88) _ = _
          simp only [Act.put, List.setIfInBounds_toArray, List.set_cons_zero, List.set_cons_succ, i64_w, i32_w]
          rfl
         refine last_ (i := 7) (N := some 90) #[true, true, true, true, true, true, true, true, false] rfl rfl (by kernel_rfl) (by decide) (fun K hK => ?_)
         refine callC_ 40 #[.pointer (some ⟨gm, 0, none⟩), .pointer (some ⟨ge, 0, none⟩), .pointer (some ⟨gc, 0, none⟩), .pointer (some ⟨gh, 0, none⟩)] #[v3, .int .i64 g] #[v3, .int .i64 g, .pointer (some ⟨gm, 0, none⟩), .pointer (some ⟨ge, 0, none⟩), .pointer (some ⟨gc, 0, none⟩), .pointer (some ⟨gh, 0, none⟩)] (by simp) (by rfl) rfl (by rfl) (by rfl) (by simp only [List.map_toArray, List.map_cons, List.map_nil]; rfl) (seek_enters _ _) ?_
         refine (HREC.out v3 _ (own_lower HO2 HSB.out) hHeld).mono ?_
         rintro e w6 ⟨s2, on, rfl, hrun, hI6, hf6⟩
         refine ⟨_, rfl, ?_⟩
         refine hK.out _ _ ?_
         clear hK K
         refine norm_ (a' := ?_) ?_ ?_
         rotate_left
         ·show Act.put _ (some 90) _ = _
          simp only [Act.put, List.setIfInBounds_toArray, List.set_cons_zero, List.set_cons_succ, i64_w, i32_w]
          rfl
         refine pure_ (i := 8) (N := some 15) (v := ?_) (a' := ?_) #[true, true, true, true, true, true, true, true, true] rfl rfl (by kernel_rfl) (fun _ _ _ h => h) (Or.inl ⟨by rfl, ?_⟩) ?_ ?_
         rotate_left
         ·intro w'
          go_simp
          with_reducible rfl
         rotate_left
         ·simp only [Act.put, List.setIfInBounds_toArray, List.set_cons_zero, List.set_cons_succ, i64_w, i32_w]
          rfl
         refine done_ (by kernel_rfl) ?_
         have HRUN := Aside0.mk hrun
         have HI6 := Aside0.mk hI6
         have HF6 := Aside0.mk hf6
         have HAV := Aside0.mk (HADV.out _ _ hHeld hf6)
         have HH5 := Aside0.mk hHeld
         clear hrun hI6 hf6 hHeld hb1 hb5 hg5 hat5
         cases on
         ·go_wp2_with (go_at_call 43; refine HAV.out.mono ?_; rintro e w7 ⟨rfl, hfb7⟩; have HFB := Aside0.mk hfb7; clear hfb7)
          go_ret
          have hfin : runL step s (goes m (enough H) d h g (opts m h.length g 4)) = (s2, false) := by rw [HOE.out, ← List.take_append_drop (j + 1) O]; exact run_end (by rw [HTK.out, run_more HRj.out HSK.out]; exact HRUN.out)
          have hfr := (HF2.out.mono (by simp)).trans (HFj.out.trans (HEND.out _ _ _ HH5.out HF6.out HFB.out))
          have hst := HST.out s2 _ _ HI6.out (FrB.fr1 (B := [gh]) HFB.out (by simp))
          first
           | exact ⟨s2, Or.inl ⟨rfl, hfin, hst, hfr⟩⟩
           | exact ⟨s2, false, rfl, hfin, hst, hfr⟩
         ·go_wp2_with (go_at_call 43; refine HAV.out.mono ?_; rintro e w7 ⟨rfl, hfb7⟩; have HFB := Aside0.mk hfb7; clear hfb7)
          go_roundw
          case rel => exact ⟨j + 1, s2, by omega, by go_num, ⟨by rw [HTK.out, run_more HRj.out HSK.out]; exact HRUN.out⟩, ⟨HST.out s2 _ _ HI6.out (FrB.fr1 (B := [gh]) HFB.out (by simp))⟩, ⟨HFj.out.trans (HEND.out _ _ _ HH5.out HF6.out HFB.out)⟩⟩
          case measure => simp [intOf]; omega
        ·skip
         refine s_lit1 (z := n) (by rfl) rfl rfl rfl Try.underlying28 oneI8 zeroI8 ?_
         intro gb w4 hgb hfb
         (try replace HO1 := own_later HO1 hfb (by simp))
         refine hK.out _ _ (hHeld.trans hfb) (fun hHeld => ?_)
         clear hK K
         refine norm_ (a' := ?_) ?_ ?_
         rotate_left
         ·show Act.put _ (some 87) _ = _
          simp only [Act.put, List.setIfInBounds_toArray, List.set_cons_zero, List.set_cons_succ, i64_w, i32_w]
          rfl
         refine one_ (i := 2) (N := some 85) #[true, true, true, true, true, false, true, false, false] rfl rfl (by kernel_rfl) (by decide) (fun K hK => ?_)
         refine goes_ Try.func41 (by kernel_rfl) rfl #[.slice A h.length c] (by rfl) rfl rfl (by simp only [List.map_toArray, List.map_cons, List.map_nil]; rfl) ?_
         refine (cloneH_calls A c h _ (Kd.R_reads' (own_later HOB.out hHeld (by simp))).2.2 hHc (by omega)).mono ?_
         rintro e w3 ⟨v1, rfl, HO1, hb1⟩
         refine ⟨_, rfl, ?_⟩
         (try replace hgb := (hb1.block _ (lt_of_some hgb)).trans hgb)
         replace HO1 := own_lower HO1 hHeld.size
         refine hK.out _ _ (hHeld.trans (FrB.below hb1)) (fun hHeld => ?_)
         clear hK K
         refine norm_ (a' := ?_) ?_ ?_
         rotate_left
         ·show Act.put _ (some 85) _ = _
          simp only [Act.put, List.setIfInBounds_toArray, List.set_cons_zero, List.set_cons_succ, i64_w, i32_w]
          rfl
         refine one_ (i := 5) (N := some 88) #[true, true, true, true, true, true, true, false, false] rfl rfl (by kernel_rfl) (by decide) (fun K hK => ?_)
         refine Kd.R_append_rows_step (Kd.int .i8) (w0 := _) wb.heap.size (by rfl) (.tmp 85) (.tmp 87) 28 64 (.int .i8 0) 1 rfl Try.underlying28 infoI8 rfl (by decide) (by omega) v1 h [n] (some ⟨gb, 0, none⟩) 1 1 (fun _ => True) (fun _ => False) rfl rfl HO1 (row1 hgb) (fun _ _ h => h) (fun _ h => h.elim) (fun _ _ => trivial) (Below.refl _ _) hHeld.size (by omega) ?_
         intro v3 w5 HO2 hb5 hg5 hat5
         refine hK.out _ _ (hHeld.grown hg5 (fun k hk => Kd.R_base HO1 k hk)) (fun hHeld => ?_)
         clear hK K
         refine norm_ (a' := ?_) ?_ ?_
         rotate_left
         ·show Act.put _ (some 88) _ = _
          simp only [Act.put, List.setIfInBounds_toArray, List.set_cons_zero, List.set_cons_succ, i64_w, i32_w]
          rfl
         refine last_ (i := 7) (N := some 90) #[true, true, true, true, true, true, true, true, false] rfl rfl (by kernel_rfl) (by decide) (fun K hK => ?_)
         refine callC_ 40 #[.pointer (some ⟨gm, 0, none⟩), .pointer (some ⟨ge, 0, none⟩), .pointer (some ⟨gc, 0, none⟩), .pointer (some ⟨gh, 0, none⟩)] #[v3, .int .i64 g] #[v3, .int .i64 g, .pointer (some ⟨gm, 0, none⟩), .pointer (some ⟨ge, 0, none⟩), .pointer (some ⟨gc, 0, none⟩), .pointer (some ⟨gh, 0, none⟩)] (by simp) (by rfl) rfl (by rfl) (by rfl) (by simp only [List.map_toArray, List.map_cons, List.map_nil]; rfl) (seek_enters _ _) ?_
         refine (HREC.out v3 _ (own_lower HO2 HSB.out) hHeld).mono ?_
         rintro e w6 ⟨s2, on, rfl, hrun, hI6, hf6⟩
         refine ⟨_, rfl, ?_⟩
         refine hK.out _ _ ?_
         clear hK K
         refine norm_ (a' := ?_) ?_ ?_
         rotate_left
         ·show Act.put _ (some 90) _ = _
          simp only [Act.put, List.setIfInBounds_toArray, List.set_cons_zero, List.set_cons_succ, i64_w, i32_w]
          rfl
         refine pure_ (i := 8) (N := some 15) (v := ?_) (a' := ?_) #[true, true, true, true, true, true, true, true, true] rfl rfl (by kernel_rfl) (fun _ _ _ h => h) (Or.inl ⟨by rfl, ?_⟩) ?_ ?_
         rotate_left
         ·intro w'
          go_simp
          with_reducible rfl
         rotate_left
         ·simp only [Act.put, List.setIfInBounds_toArray, List.set_cons_zero, List.set_cons_succ, i64_w, i32_w]
          rfl
         refine done_ (by kernel_rfl) ?_
         have HRUN := Aside0.mk hrun
         have HI6 := Aside0.mk hI6
         have HF6 := Aside0.mk hf6
         have HAV := Aside0.mk (HADV.out _ _ hHeld hf6)
         have HH5 := Aside0.mk hHeld
         clear hrun hI6 hf6 hHeld hb1 hb5 hg5 hat5
         cases on
         ·go_wp2_with (go_at_call 43; refine HAV.out.mono ?_; rintro e w7 ⟨rfl, hfb7⟩; have HFB := Aside0.mk hfb7; clear hfb7)
          go_ret
          have hfin : runL step s (goes m (enough H) d h g (opts m h.length g 4)) = (s2, false) := by rw [HOE.out, ← List.take_append_drop (j + 1) O]; exact run_end (by rw [HTK.out, run_more HRj.out HSK.out]; exact HRUN.out)
          have hfr := (HF2.out.mono (by simp)).trans (HFj.out.trans (HEND.out _ _ _ HH5.out HF6.out HFB.out))
          have hst := HST.out s2 _ _ HI6.out (FrB.fr1 (B := [gh]) HFB.out (by simp))
          first
           | exact ⟨s2, Or.inl ⟨rfl, hfin, hst, hfr⟩⟩
           | exact ⟨s2, false, rfl, hfin, hst, hfr⟩
         ·go_wp2_with (go_at_call 43; refine HAV.out.mono ?_; rintro e w7 ⟨rfl, hfb7⟩; have HFB := Aside0.mk hfb7; clear hfb7)
          go_roundw
          case rel => exact ⟨j + 1, s2, by omega, by go_num, ⟨by rw [HTK.out, run_more HRj.out HSK.out]; exact HRUN.out⟩, ⟨HST.out s2 _ _ HI6.out (FrB.fr1 (B := [gh]) HFB.out (by simp))⟩, ⟨HFj.out.trans (HEND.out _ _ _ HH5.out HF6.out HFB.out)⟩⟩
          case measure => simp [intOf]; omega
      ·have HJ := Aside0.mk (show O.take j = O by rw [List.take_of_length_le (by omega)])
       have hjn : ¬ ((j : Int) < (O.length : Int)) := by omega
       go_wp2_with fail
       go_ret
       have hfin : runL step s (goes m (enough H) d h g (opts m h.length g 4)) = (s1, true) := by rw [HOE.out, ← HJ.out]; exact HRj.out
       first
        | exact ⟨s1, Or.inr ⟨rfl, hfin, HIj.out, (HF2.out.mono (by simp)).trans HFj.out⟩⟩
        | exact ⟨s1, true, rfl, hfin, HIj.out, (HF2.out.mono (by simp)).trans HFj.out⟩
end
end Go.Proofs.Ytfdjgomocbniaaa.Arr
namespace Go.Proofs.Ytfdjgomocbniaaa.Arr
open Go.RowKit Go.Proofs.YtfdjgomocbniaaaW.PrintWords Go.Proofs.YtfdjgomocbniaaaW.PrintLast Go.Proofs.YtfdjgomocbniaaaW.PrintMore Go.Proofs.Ytfdjgomocbniaaa.U Go.Proofs.Ytfdjgomocbniaaa.K
set_option linter.unusedVariables false
set_option linter.unusedSimpArgs false
theorem zeroFn : ZeroTy Try.prog 75 #[.nilFunc] := ⟨.nilFunc, by kernel_rfl, rfl⟩
section
variable {P : Program} {ops : Array Oper} {rest : List Oper} {o : Oper} {a : Act} {w0 w : World} {M : List Ent} {Q : Exit → Act → World → Prop}
theorem st_one (hgd : o.guard = none) (ty : TypeId) (x y : Operand) (ho : o.op = .store ty x y) (hm : Mem w0 w M) {g : Nat} {v : Value} (hx : a.eval x = .pointer (some ⟨g, 0, none⟩)) (hy : a.eval y = v)
  (n : Nat) {u : Value} {t : TypeId} {own : Bool} (hn : M[n]? = some ⟨g, #[u], t, own⟩) (h1 : OneTy P ty) (hv : v.cells = #[v]) (hv1 : v.oneCell' = true)
  (h : ∀ w1, Mem w0 w1 (M.set n ⟨g, #[v], t, own⟩) → wpList P ops Q rest (a.put o.dst undef) w1) : wpList P ops Q (o :: rest) a w := by
 refine wpList_plain hgd fun K hK => ?_
 unfold Oper.wp execOp
 have hst : (storeVar ty ⟨g, 0, none⟩ v).run P w = .ok () (w.setCell ⟨g, 0, none⟩ v) := run_store1 h1.2 hv ((hm.cell hn 0).trans rfl) (hm.frozen hn 0) hv1
 simp only [ho, hx, hy, Instr.storeAt, Instr.sureAddr, Sem.run_bind, Sem.run_pure, Result.andThen_ok, hst]
 exact hK _ _ (h _ (hm.set hn 0 v))
theorem st_cell (hgd : o.guard = none) (ty : TypeId) (x : Operand) (ho : o.op = .load ty x) (hm : Mem w0 w M) {g : Nat} (hx : a.eval x = .pointer (some ⟨g, 0, none⟩))
  (n : Nat) {v : Value} {t : TypeId} {own : Bool} (hn : M[n]? = some ⟨g, #[v], t, own⟩) (h1 : OneTy P ty)
  (h : wpList P ops Q rest (a.put o.dst v) w) : wpList P ops Q (o :: rest) a w := by
 refine wpList_plain hgd fun K hK => ?_
 unfold Oper.wp
 rw [y_cell ho hx h1 (cell1 (hm.mem hn))]
 exact hK _ _ h
end
theorem Mem.own_ge {w0 w : World} {M : List Ent} (h : Mem w0 w M) (n : Nat) {g : Nat} {cs : Array Value} {t : TypeId} (hn : M[n]? = some ⟨g, cs, t, true⟩) : w0.heap.size ≤ g := (h.ent _ (List.mem_of_getElem? hn)).2 rfl
theorem Mem.ne {w0 w : World} {M : List Ent} (h : Mem w0 w M) (m n : Nat) (hmn : m ≠ n) {g g' : Nat} {cs cs' : Array Value} {t t' : TypeId} {o o' : Bool} (hm : M[m]? = some ⟨g, cs, t, o⟩) (hn : M[n]? = some ⟨g', cs', t', o'⟩) : g ≠ g' := fun e => hmn (h.apart m n _ _ hm hn e)
theorem not_in {g g' b : Nat} {B : List Nat} (h : g ≠ g') (hB : ∀ k ∈ B, k < b) (hg : b ≤ g) : g ∉ g' :: B := fun hm => by
 rcases List.mem_cons.1 hm with e | e
 ·exact h e
 ·have := hB g e; omega
theorem FrB.over {B : List Nat} {w w1 w2 : World} {g : Nat} (h : FrB [] w w1) (h2 : FrB (g :: B) w1 w2) (hg : w.heap.size ≤ g) : FrB B w w2 :=
 ⟨h2.os.trans h.os, h2.tape.trans h.tape, h2.output.trans h.output, Nat.le_trans h.size h2.size, fun k hk hn => (h2.other k (Nat.lt_of_lt_of_le hk h.size) (fun hm => by
  rcases List.mem_cons.1 hm with e | e
  ·omega
  ·exact hn e)).trans (h.other k hk (by simp))⟩
theorem FrB.past {B : List Nat} {w w1 w2 : World} (h : FrB [] w w1) (h2 : FrB B w1 w2) (hB : ∀ b ∈ B, w.heap.size ≤ b) : FrB [] w w2 :=
 ⟨h2.os.trans h.os, h2.tape.trans h.tape, h2.output.trans h.output, Nat.le_trans h.size h2.size, fun k hk _ => (h2.other k (Nat.lt_of_lt_of_le hk h.size) (fun hm => by have := hB k hm; omega)).trans (h.other k hk (by simp))⟩
set_option maxHeartbeats 8000000 in
set_option maxRecDepth 100000 in
theorem hoistsQ_calls {σ : Type} (step : σ → List Int → σ × Bool) (I : Nat → σ → World → Prop) (Q : List Int → Prop) (fe : FuncId) (capE : Array Value) (B : List Nat) (s : σ) (Am : Option Addr) (cm : Nat) (m H : List Int) (w : World)
  (hge : ∀ (a : Array Value) (W : World), (callFunc fe a).run Try.prog W = .ok (.enter fe a) W) (hB : ∀ b ∈ B, b < w.heap.size) (hM : ∀ W, FrB B w W → Kd.C (Kd.int .i8) W Am m.length m) (hmc : m.length ≤ cm)
  (hm0 : ∀ x ∈ m, PlainN x) (hml : m.length ≤ 1000) (hHl : H.length = 44) (hHb : ∀ j : Nat, j < 44 → 0 ≤ rd H (j : Int) ∧ rd H (j : Int) ≤ 1000000)
  (hI : ∀ w1, FrB [] w w1 → I w1.heap.size s w1)
  (hQ : ∀ x ∈ leaves m 4 (enough H) m.length [] 0, Q x)
  (hcall : ∀ (base : Nat) (s : σ) (h : List Int) (v : Value) (w1 : World), Q h → I base s w1 → Own base w1 v h → (∀ b ∈ B, b < base) → w.heap.size ≤ base → base ≤ w1.heap.size → Calls Try.prog fe (#[v] ++ capE) w1 fun e w' => e = .returned (.bool (step s h).2) ∧ I base (step s h).1 w' ∧ FrB B w1 w')
  (hstab : ∀ (base : Nat) (s : σ) (gh : Nat) (w1 w2 : World), I base s w1 → gh < base → gh ∉ B → w.heap.size ≤ gh → FrB [gh] w1 w2 → I base s w2) :
  Calls Try.prog 23 #[.slice Am m.length cm, .agg (vals .i64 H), .func (.func fe) #[] capE] w fun e w' =>
   ∃ base s' on, e = .returned (.bool on) ∧ runL step s (leaves m 4 (enough H) m.length [] 0) = (s', on) ∧ w.heap.size ≤ base ∧ base ≤ w'.heap.size ∧ I base s' w' ∧ FrB B w w' := by
 have hm := Mem.start w
 have hse := seek_enters
 have HGE := Aside0.mk hge
 have HB := Aside0.mk hB
 have HM := Aside0.mk hM
 have HP := Aside0.mk hm0
 have HHB := Aside0.mk hHb
 have HI := Aside0.mk hI
 have HCA := Aside0.mk hcall
 have HQL := Aside0.mk hQ
 have HST := Aside0.mk hstab
 clear hge hB hM hm0 hHb hI hcall hstab hQ
 have HFIN : Aside0 (∀ P : Prop, P → P) := ⟨fun _ h => h⟩
 go_enter Try.func23, Try.ntmps23
 go_wp2_with (first
  | ((with_reducible refine gt_alloc 7 75 ?_); refine st_alloc rfl 7 rfl 75 rfl hm zeroFn ?_; clear hm; intro g7 w7 hm)
  | ((with_reducible refine gt_store 75 ?_); refine st_one rfl 75 _ _ rfl hm rfl rfl 0 rfl oneFn rfl rfl ?_; clear hm; intro ws hm; simp only [List.set_cons_zero] at hm)
  | ((with_reducible refine gt_load 75 ?_); refine st_cell rfl 75 _ rfl hm rfl 0 rfl oneFn ?_)
  | (first | fail | ((with_reducible refine gt_box 3 25 ?_); refine st_box rfl 3 rfl 25 _ rfl hm rfl rfl ?_; clear hm; intro g3 w3 hm) | ((with_reducible refine gt_box 4 50 ?_); refine st_box rfl 4 rfl 50 _ rfl hm (v := .agg (vals _ _)) rfl (cs := vals _ _) rfl ?_; clear hm; intro g4 w4 hm) | ((with_reducible refine gt_box 5 57 ?_); refine st_box rfl 5 rfl 57 _ rfl hm rfl rfl ?_; clear hm; intro g5 w5 hm)))
 have o3 := hm.own_ge 3 rfl
 have o4 := hm.own_ge 2 rfl
 have o5 := hm.own_ge 1 rfl
 have o7 := hm.own_ge 0 rfl
 have n34 := hm.ne 3 2 (by decide) rfl rfl
 have n54 := hm.ne 1 2 (by decide) rfl rfl
 have n74 := hm.ne 0 2 (by decide) rfl rfl
 have h3 := hm.mem (n := 3) rfl
 have h4 := hm.mem (n := 2) rfl
 have h5 := hm.mem (n := 1) rfl
 have h7 := hm.mem (n := 0) rfl
 have hsz := hm.size
 have hf0 : FrB [] w ws := FrB.below (hm.done rfl)
 have l4 := lt_of_some h4
 have hlt : ∀ b ∈ g4 :: B, b < ws.heap.size := fun b hb => by
  rcases List.mem_cons.1 hb with e | e
  ·omega
  ·have := HB.out b e; omega
 refine (seek_calls (step := step) (I := I ws.heap.size) (Q := Q) (fe := fe) (capE := capE) (B := B) (wS := ws) (gm := g3) (gh := g4) (ge := g5) (gc := g7) (H := H) HGE.out h3 h5 h7 (not_in n34 HB.out o3) (not_in n54 HB.out o5) (not_in n74 HB.out o7) (fun hb => by have := HB.out g4 hb; omega) hlt
  (fun W hW => HM.out W (hf0.over hW o4)) hmc HP.out hml hHl HHB.out (fun s h v w1 hq hI1 ho hf => HCA.out ws.heap.size s h v w1 hq hI1 ho (fun b hb => hlt b (List.mem_cons_of_mem _ hb)) hsz hf.size)
  (fun s w1 w2 hI1 hf => HST.out ws.heap.size s g4 w1 w2 hI1 l4 (fun hb => by have := HB.out g4 hb; omega) o4 hf) m.length [] 0 (.slice none 0 0) s ws (by simp) (by omega) (by simp) (FrB.refl _ _) h4 (HI.out ws hf0) (Kd.R_nil _ _ _ _ _) HQL.out).mono ?_
 rintro e w6 ⟨s', on, rfl, hrun, hI6, hf6⟩
 have HRUN := Aside0.mk hrun
 have HI6 := Aside0.mk hI6
 have HF6 := Aside0.mk ((hf0.mono (B' := B) (by simp)).trans hf6)
 have hs6 := hf6.size
 clear hrun hI6 hf6
 have HW := Aside0.mk (Nat.le_trans hsz (Nat.le_refl ws.heap.size))
 go_wp2_with fail
 go_ret
 exact ⟨ws.heap.size, s', on, rfl, HRUN.out, HW.out, hs6, HI6.out, HF6.out⟩
theorem hoists_calls {σ : Type} (step : σ → List Int → σ × Bool) (I : Nat → σ → World → Prop) (fe : FuncId) (capE : Array Value) (B : List Nat) (s : σ) (Am : Option Addr) (cm : Nat) (m H : List Int) (w : World)
  (hge : ∀ (a : Array Value) (W : World), (callFunc fe a).run Try.prog W = .ok (.enter fe a) W) (hB : ∀ b ∈ B, b < w.heap.size) (hM : ∀ W, FrB B w W → Kd.C (Kd.int .i8) W Am m.length m) (hmc : m.length ≤ cm)
  (hm0 : ∀ x ∈ m, PlainN x) (hml : m.length ≤ 1000) (hHl : H.length = 44) (hHb : ∀ j : Nat, j < 44 → 0 ≤ rd H (j : Int) ∧ rd H (j : Int) ≤ 1000000)
  (hI : ∀ w1, FrB [] w w1 → I w1.heap.size s w1)
  (hcall : ∀ (base : Nat) (s : σ) (h : List Int) (v : Value) (w1 : World), I base s w1 → Own base w1 v h → (∀ b ∈ B, b < base) → w.heap.size ≤ base → base ≤ w1.heap.size → Calls Try.prog fe (#[v] ++ capE) w1 fun e w' => e = .returned (.bool (step s h).2) ∧ I base (step s h).1 w' ∧ FrB B w1 w')
  (hstab : ∀ (base : Nat) (s : σ) (gh : Nat) (w1 w2 : World), I base s w1 → gh < base → gh ∉ B → w.heap.size ≤ gh → FrB [gh] w1 w2 → I base s w2) :
  Calls Try.prog 23 #[.slice Am m.length cm, .agg (vals .i64 H), .func (.func fe) #[] capE] w fun e w' =>
   ∃ base s' on, e = .returned (.bool on) ∧ runL step s (leaves m 4 (enough H) m.length [] 0) = (s', on) ∧ w.heap.size ≤ base ∧ base ≤ w'.heap.size ∧ I base s' w' ∧ FrB B w w' :=
 hoistsQ_calls step I (fun _ => True) fe capE B s Am cm m H w hge hB hM hmc hm0 hml hHl hHb hI (fun _ _ => trivial) (fun base s h v w1 _ => hcall base s h v w1) hstab
end Go.Proofs.Ytfdjgomocbniaaa.Arr
namespace Go.Proofs.Ytfdjgomocbniaaa.Arr
open Go.RowKit Go.Proofs.YtfdjgomocbniaaaW.PrintWords Go.Proofs.YtfdjgomocbniaaaW.PrintLast Go.Proofs.YtfdjgomocbniaaaW.PrintMore Go.Proofs.Ytfdjgomocbniaaa.U Go.Proofs.Ytfdjgomocbniaaa.K
set_option linter.unusedVariables false
set_option linter.unusedSimpArgs false
theorem oneHoist : OneTy Try.prog 28 := ⟨by kernel_rfl, by kernel_rfl⟩
theorem oneBool : OneTy Try.prog 4 := ⟨by kernel_rfl, by kernel_rfl⟩
theorem zeroHoist : ZeroTy Try.prog 28 #[.slice none 0 0] := ⟨.slice none 0 0, by kernel_rfl, rfl⟩
theorem zeroBool : ZeroTy Try.prog 4 #[.bool false] := ⟨.bool false, by kernel_rfl, rfl⟩
theorem Mem.frB {w0 w : World} {M : List Ent} (h : Mem w0 w M) : FrB (M.map (·.g)) w0 w := ⟨h.os, h.tape, h.output, h.size, fun k hk hn => h.block k hk fun e he hg => hn (by rw [← hg]; exact List.mem_map_of_mem he)⟩
def FoundI (g6 g7 : Nat) (base : Nat) (s : Option (List Int)) (w : World) : Prop := ∃ (v : Value) (b : Bool), w.heap[g6]? = some (.cells #[v] 28 (0, 0)) ∧ w.heap[g7]? = some (.cells #[.bool b] 4 (0, 0)) ∧
 (match s with | none => v = .slice none 0 0 ∧ b = false | some h => b = true ∧ Own base w v h)
def foundStep (_ : Option (List Int)) (h : List Int) : Option (List Int) × Bool := (some h, false)
theorem runL_found (l : List (List Int)) : runL foundStep none l = (l.head?, l.isEmpty) := by
 cases l <;> rfl
theorem first1_enters (a : Array Value) (W : World) : (callFunc 36 a).run Try.prog W = .ok (.enter 36 a) W := by kernel_rfl
set_option maxHeartbeats 4000000 in
set_option maxRecDepth 100000 in
theorem first1_calls (g6 g7 base : Nat) (s : Option (List Int)) (h : List Int) (v : Value) (w : World) (hI : FoundI g6 g7 base s w) (ho : Own base w v h) (h6 : g6 < base) (h7 : g7 < base) (hne : g6 ≠ g7) :
  Calls Try.prog 36 (#[v] ++ #[.pointer (some ⟨g6, 0, none⟩), .pointer (some ⟨g7, 0, none⟩)]) w fun e w' => e = .returned (.bool (foundStep s h).2) ∧ FoundI g6 g7 base (foundStep s h).1 w' ∧ FrB [g6, g7] w w' := by
 obtain ⟨v0, b0, c6, c7, _⟩ := hI
 have hm := Mem.given2 c6 c7 hne
 have HO := Aside0.mk ho
 obtain ⟨A, c, rfl⟩ := Kd.R_slice ho
 clear ho c6 c7
 show Calls Try.prog 36 #[.slice A h.length c, .pointer (some ⟨g6, 0, none⟩), .pointer (some ⟨g7, 0, none⟩)] w _
 unfold FoundI foundStep
 go_enter Try.func36, Try.ntmps36
 go_wp2_with (first
  | ((with_reducible refine gt_store 28 ?_); refine st_one rfl 28 _ _ rfl hm rfl rfl 0 rfl oneHoist rfl rfl ?_; clear hm; intro w1 hm; simp only [List.set_cons_zero, List.set_cons_succ] at hm)
  | ((with_reducible refine gt_store 4 ?_); refine st_one rfl 4 _ _ rfl hm rfl rfl 1 rfl oneBool rfl rfl ?_; clear hm; intro w2 hm; simp only [List.set_cons_zero, List.set_cons_succ] at hm))
 go_ret
 exact ⟨rfl, ⟨_, _, hm.mem (n := 0) rfl, hm.mem (n := 1) rfl, rfl, own_later HO.out hm.frB (by simp; omega)⟩, hm.frB⟩
def FirstRes (base : Nat) (s : Option (List Int)) (v : Value) (b : Bool) (w : World) : Prop := match s with | none => v = .slice none 0 0 ∧ b = false | some h => b = true ∧ Own base w v h
set_option maxHeartbeats 8000000 in
set_option maxRecDepth 100000 in
theorem first_calls (Am : Option Addr) (cm : Nat) (m H : List Int) (w : World) (hr : Kd.C (Kd.int .i8) w Am m.length m) (hmc : m.length ≤ cm) (hm0 : ∀ x ∈ m, PlainN x) (hml : m.length ≤ 1000) (hHl : H.length = 44) (hHb : ∀ j : Nat, j < 44 → 0 ≤ rd H (j : Int) ∧ rd H (j : Int) ≤ 1000000) :
  Calls Try.prog 19 #[.slice Am m.length cm, .agg (vals .i64 H)] w fun e w' => ∃ (v : Value) (b : Bool), e = .returned (.tuple #[v, .bool b]) ∧
   FirstRes w.heap.size (leaves m 4 (enough H) m.length [] 0).head? v b w' ∧ Below w.heap.size w w' := by
 have hm := Mem.start w
 have HR := Aside0.mk hr
 have HP := Aside0.mk hm0
 have HHB := Aside0.mk hHb
 clear hr hm0 hHb
 go_enter Try.func19, Try.ntmps19
 go_wp2_with (first
  | ((with_reducible refine gt_alloc 6 28 ?_); refine st_alloc rfl 6 rfl 28 rfl hm zeroHoist ?_; clear hm; intro g6 w6 hm)
  | ((with_reducible refine gt_alloc 7 4 ?_); refine st_alloc rfl 7 rfl 4 rfl hm zeroBool ?_; clear hm; intro g7 w7 hm)
  | ((with_reducible refine gt_store 28 ?_); refine st_one rfl 28 _ _ rfl hm rfl rfl 1 rfl oneHoist rfl rfl ?_; clear hm; intro w1 hm; simp only [List.set_cons_zero, List.set_cons_succ] at hm)
  | ((with_reducible refine gt_store 4 ?_); refine st_one rfl 4 _ _ rfl hm rfl rfl 0 rfl oneBool rfl rfl ?_; clear hm; intro w2 hm; simp only [List.set_cons_zero, List.set_cons_succ] at hm)
  | (first | fail | ((with_reducible refine gt_box 3 50 ?_); refine st_box rfl 3 rfl 50 _ rfl hm (v := .agg (vals _ _)) rfl (cs := vals _ _) rfl ?_; clear hm; intro g3 w3 hm) | ((with_reducible refine gt_load 50 ?_); (first | (refine st_load rfl 50 _ rfl hm rfl 0 rfl agg50 (by first | omega | assumption | (simp only [lens]; first | omega | assumption) | (simp [lens]; done) | (simp [lens]; omega)) ?_) | (refine st_load rfl 50 _ rfl hm rfl 1 rfl agg50 (by first | omega | assumption | (simp only [lens]; first | omega | assumption) | (simp [lens]; done) | (simp [lens]; omega)) ?_) | (refine st_load rfl 50 _ rfl hm rfl 2 rfl agg50 (by first | omega | assumption | (simp only [lens]; first | omega | assumption) | (simp [lens]; done) | (simp [lens]; omega)) ?_) | (refine st_load rfl 50 _ rfl hm rfl 3 rfl agg50 (by first | omega | assumption | (simp only [lens]; first | omega | assumption) | (simp [lens]; done) | (simp [lens]; omega)) ?_) | (refine st_load rfl 50 _ rfl hm rfl 4 rfl agg50 (by first | omega | assumption | (simp only [lens]; first | omega | assumption) | (simp [lens]; done) | (simp [lens]; omega)) ?_)))))
 replace hm : Mem w w2 [⟨g7, #[.bool false], 4, true⟩, ⟨g6, #[.slice none 0 0], 28, true⟩, ⟨g3, vals .i64 H, 50, true⟩] := hm
 have o6 := hm.own_ge 1 rfl
 have o7 := hm.own_ge 0 rfl
 have h6 := hm.mem (n := 1) rfl
 have h7 := hm.mem (n := 0) rfl
 have l6 := lt_of_some h6
 have l7 := lt_of_some h7
 have n67 := hm.ne 1 0 (by decide) rfl rfl
 have hf0 : FrB [] w w2 := FrB.below (hm.done rfl)
 have HF0 := Aside0.mk hf0
 have hpast : ∀ W, FrB [g6, g7] w2 W → FrB [] w W := fun W hW => hf0.past hW (fun b hb => by
  simp only [List.mem_cons, List.not_mem_nil, or_false] at hb
  rcases hb with rfl | rfl
  ·exact o6
  ·exact o7)
 refine (hoists_calls foundStep (FoundI g6 g7) 36 #[.pointer (some ⟨g6, 0, none⟩), .pointer (some ⟨g7, 0, none⟩)] [g6, g7] none Am cm m H w2 first1_enters
  (fun b hb => by
   simp only [List.mem_cons, List.not_mem_nil, or_false] at hb
   rcases hb with rfl | rfl
   ·exact l6
   ·exact l7) (fun W hW => Kd.C_below HR.out (hpast W hW).to_below) hmc HP.out hml hHl HHB.out
  (fun w1 hf => ⟨.slice none 0 0, false, hf.row h6 (by simp), hf.row h7 (by simp), rfl, rfl⟩)
  (fun base s h v w1 hI ho hB _ _ => first1_calls g6 g7 base s h v w1 hI ho (hB g6 (by simp)) (hB g7 (by simp)) n67)
  (fun base s gh w1 w3 hI hlt hni hge hf => by
   obtain ⟨v, b, c6, c7, hs⟩ := hI
   simp only [List.mem_cons, List.not_mem_nil, or_false, not_or] at hni
   refine ⟨v, b, hf.row c6 (by simp; exact fun e => hni.1 e.symm), hf.row c7 (by simp; exact fun e => hni.2 e.symm), ?_⟩
   cases s with
   | none => exact hs
   | some h => exact ⟨hs.1, own_later hs.2 hf (by simpa using hlt)⟩)).mono ?_
 rintro e wh ⟨base, s', on, rfl, hrun, hb0, hb1, hI6, hf6⟩
 rw [runL_found] at hrun
 injection hrun with hs hon
 obtain ⟨v, b, c6, c7, hres⟩ := hI6
 have HC6 := Aside0.mk (cell1 c6)
 have HC7 := Aside0.mk (cell1 c7)
 have HFW := Aside0.mk (hpast wh hf6)
 have hbase : w.heap.size ≤ base := Nat.le_trans hm.size hb0
 have HRES : Aside0 (∀ W, FrB [] wh W → FirstRes w.heap.size (leaves m 4 (enough H) m.length [] 0).head? v b W) := ⟨fun W hW => by
  rw [hs]
  unfold FirstRes
  cases s' with
  | none => exact hres
  | some h => exact ⟨hres.1, own_lower (own_later hres.2 hW (by simp)) hbase⟩⟩
 clear hs hres hf6 hm hpast hf0 c6 c7 h6 h7
 go_wp2_with fail
 refine start_ (n := 4) (S := fun w' => FrB [] wh w') (ds := []) #[false, false, false, false] (by kernel_rfl) rfl rfl (FrB.below (below_drew (Below.refl _ _))) (fun hHeld => ?_)
 refine take_ (i := 0) (N := some 12) (v := v) (a' := ?_) #[true, false, false, false] rfl rfl (by kernel_rfl) (fun _ _ _ h => h) (Or.inl ⟨by rfl, ?_⟩) hHeld ?_ ?_
 ·intro w' s0
  exact y_cell (by rfl) (by rfl) oneHoist (s0.read HC6.out)
 rotate_left
 ·simp only [Act.put, List.setIfInBounds_toArray, List.set_cons_zero, List.set_cons_succ, i64_w, i32_w]
  rfl
 refine pure_ (i := 2) (N := some 4) (v := ?_) (a' := ?_) #[true, false, true, false] rfl rfl (by kernel_rfl) (fun _ _ _ h => h) (Or.inl ⟨by rfl, ?_⟩) ?_ ?_
 rotate_left
 ·intro w'
  go_simp
  with_reducible rfl
 rotate_left
 ·simp only [Act.put, List.setIfInBounds_toArray, List.set_cons_zero, List.set_cons_succ, i64_w, i32_w]
  rfl
 refine take_ (i := 1) (N := some 13) (v := .bool b) (a' := ?_) #[true, true, true, false] rfl rfl (by kernel_rfl) (fun _ _ _ h => h) (Or.inl ⟨by rfl, ?_⟩) hHeld ?_ ?_
 ·intro w' s0
  exact y_cell (by rfl) (by rfl) oneBool (s0.read HC7.out)
 rotate_left
 ·simp only [Act.put, List.setIfInBounds_toArray, List.set_cons_zero, List.set_cons_succ, i64_w, i32_w]
  rfl
 refine pure_ (i := 3) (N := some 5) (v := ?_) (a' := ?_) #[true, true, true, true] rfl rfl (by kernel_rfl) (fun _ _ _ h => h) (Or.inl ⟨by rfl, ?_⟩) ?_ ?_
 rotate_left
 ·intro w'
  go_simp
  with_reducible rfl
 rotate_left
 ·simp only [Act.put, List.setIfInBounds_toArray, List.set_cons_zero, List.set_cons_succ, i64_w, i32_w]
  rfl
 refine done_ (by kernel_rfl) ?_
 skip
 go_wp2_with fail
 go_ret2
 exact ⟨v, b, rfl, HRES.out _ hHeld, (HFW.out.trans hHeld).to_below⟩
end Go.Proofs.Ytfdjgomocbniaaa.Arr
namespace Go.Proofs.Ytfdjgomocbniaaa.Arr
open Go.RowKit Go.Proofs.YtfdjgomocbniaaaW.PrintWords Go.Proofs.YtfdjgomocbniaaaW.PrintLast Go.Proofs.YtfdjgomocbniaaaW.PrintMore Go.Proofs.Ytfdjgomocbniaaa.U Go.Proofs.Ytfdjgomocbniaaa.K
set_option linter.unusedVariables false
set_option linter.unusedSimpArgs false
def findL (m : List Int) (sets : Int) (subs : Nat) : List (List Int) := leaves m subs (within sets) m.length [] 0
theorem own_lit0 (W : World) (base : Nat) (hb : base ≤ W.heap.size) : Own base (W.alloc (.cells #[] 64)) (.slice (some ⟨W.heap.size, 0, none⟩) 0 0) [] := by
 refine ⟨fun k hk => trivial, [], ?_, Reps.none _ _⟩
 have h2 := World.ownsRow_lit (base := base) (e := 64) (size := 1) W #[] 0 hb (by simp [maxLen]) (by simp)
 have h3 : (W.alloc (.cells #[] 64)).ownsRow base 64 1 (.slice (some ⟨W.heap.size, 0, none⟩) 0 0) 0 [] := by simpa using h2
 exact h3
set_option maxHeartbeats 8000000 in
set_option maxRecDepth 100000 in
theorem l02Find_calls (Am : Option Addr) (cm : Nat) (m : List Int) (sets : Int) (subs : Nat) (w : World) (hr : Kd.C (Kd.int .i8) w Am m.length m) (hmc : m.length ≤ cm) (hm0 : ∀ x ∈ m, PlainN x) (hml : m.length ≤ 8) (hs4 : subs ≤ 4) :
  Calls Try.prog 22 #[.slice Am m.length cm, .int .i64 sets, .int .i64 subs] w fun e w' => ∃ (g : Nat) (vf : Value), e = .returned (.pointer (some ⟨g, 0, none⟩)) ∧
   w'.heap[g]? = some (.cells (cs5 Am cm m sets subs ((findL m sets subs).length : Int) vf) 55 (0, 0)) ∧ (∀ x, (findL m sets subs).head? = some x → Own w.heap.size w' vf x) ∧ Below w.heap.size w w' := by
 have hpow : 5 ^ m.length ≤ 390625 := Nat.le_trans (Nat.pow_le_pow_right (by omega) hml) (by decide)
 have hnew := heap_alloc_new w (.cells (cs5 Am cm m sets subs 0 (.slice none 0 0)) 55)
 have hsz : (w.alloc (.cells (cs5 Am cm m sets subs 0 (.slice none 0 0)) 55)).heap.size = w.heap.size + 1 := by simp
 have hbel := below_alloc (Below.refl w.heap.size w) (.cells (cs5 Am cm m sets subs 0 (.slice none 0 0)) 55)
 have hM : ∀ W, FrB [w.heap.size] (w.alloc (.cells (cs5 Am cm m sets subs 0 (.slice none 0 0)) 55)) W → Below w.heap.size w W := fun W hW =>
  ((FrB.below (B := []) hbel).over hW (Nat.le_refl _)).to_below
 have hf1 := FrB.below (B := []) (below_alloc (Below.refl (w.alloc (.cells (cs5 Am cm m sets subs 0 (.slice none 0 0)) 55)).heap.size _) (.cells #[] 64))
 have hf2 := FrB.below (B := [w.heap.size]) (below_alloc (Below.refl (w.alloc (.cells (cs5 Am cm m sets subs 0 (.slice none 0 0)) 55)).heap.size _) (.cells #[] 64))
 have hown := own_lit0 (w.alloc (.cells (cs5 Am cm m sets subs 0 (.slice none 0 0)) 55)) _ (Nat.le_refl _)
 have hlook := look_calls (gs := w.heap.size) (Am := Am) (cm := cm) (m := m) (sets := sets) (subs := subs) (ts := 55) (by omega) (fun W hW => Kd.C_below hr (hM W hW)) hmc hm0 (by omega) hs4 m.length [] 0 _ _ [] _ (by simp) (by omega) (by simp) hf2 ⟨_, hf1.row hnew (by simp), fun x hx => by cases hx⟩ hown (fun x hx => by cases hx) (by simp; omega)
 rw [hsz] at hlook
 have HL := Aside0.mk hlook
 have HM := Aside0.mk hM
 have HF2 := Aside0.mk hf2
 clear hr hm0 hlook hM hf1 hf2 hown hnew hbel
 go_enter Try.func22, Try.ntmps22
 go_wp2_with (go_at_call 39; refine HL.out.mono ?_; rintro e w1 ⟨rfl, ⟨vf, hc, ho⟩, hf⟩; have HC := Aside0.mk hc; have HO := Aside0.mk ho; have HF := Aside0.mk hf; clear hc ho hf)
 go_ret
 exact ⟨w.heap.size, vf, rfl, HC.out, fun x hx => own_lower (HO.out x hx) (by omega), HM.out _ (HF2.out.trans HF.out)⟩
end Go.Proofs.Ytfdjgomocbniaaa.Arr
namespace Go.Proofs.Ytfdjgomocbniaaa.Arr
open Go.RowKit Go.Proofs.YtfdjgomocbniaaaW.PrintWords Go.Proofs.YtfdjgomocbniaaaW.PrintLast Go.Proofs.YtfdjgomocbniaaaW.PrintMore Go.Proofs.Ytfdjgomocbniaaa.U Go.Proofs.Ytfdjgomocbniaaa.K
set_option linter.unusedVariables false
set_option linter.unusedSimpArgs false
set_option maxHeartbeats 4000000 in
set_option maxRecDepth 100000 in
theorem even_calls (sets subs : Int) (w : World) (h : subs ≤ 4) (h0 : 0 ≤ subs) : Calls Try.prog 20 #[.int .i64 sets, .int .i64 subs] w fun e w' =>
  e = .returned (.agg (vals .i64 (fillTo (fillTo (zs 44) 0 40 sets) 40 subs.toNat sets))) ∧ Below w.heap.size w w' := by
 have hm := Mem.start w
 go_enter Try.func20, Try.ntmps20
 go_wp2_with (first | fail | ((with_reducible refine gt_alloc 4 50 ?_); refine st_alloc rfl 4 rfl 50 rfl hm zero50 ?_; clear hm; intro g4 w4 hm) | ((with_reducible refine gt_build 50 ?_); refine st_zero rfl 50 rfl built50 ?_) | ((with_reducible refine gt_alloc 5 50 ?_); refine st_alloc rfl 5 rfl 50 rfl hm zero50 ?_; clear hm; intro g5 w5 hm) | ((with_reducible refine gt_store 50 ?_); (first | (refine st_full rfl 50 _ _ rfl hm rfl rfl 0 rfl agg50 (by first | omega | assumption | (simp only [lens]; first | omega | assumption) | (simp [lens]; done) | (simp [lens]; omega)) (by first | omega | assumption | (simp only [lens]; first | omega | assumption) | (simp [lens]; done) | (simp [lens]; omega)) ?_) | (refine st_full rfl 50 _ _ rfl hm rfl rfl 1 rfl agg50 (by first | omega | assumption | (simp only [lens]; first | omega | assumption) | (simp [lens]; done) | (simp [lens]; omega)) (by first | omega | assumption | (simp only [lens]; first | omega | assumption) | (simp [lens]; done) | (simp [lens]; omega)) ?_) | (refine st_full rfl 50 _ _ rfl hm rfl rfl 2 rfl agg50 (by first | omega | assumption | (simp only [lens]; first | omega | assumption) | (simp [lens]; done) | (simp [lens]; omega)) (by first | omega | assumption | (simp only [lens]; first | omega | assumption) | (simp [lens]; done) | (simp [lens]; omega)) ?_) | (refine st_full rfl 50 _ _ rfl hm rfl rfl 3 rfl agg50 (by first | omega | assumption | (simp only [lens]; first | omega | assumption) | (simp [lens]; done) | (simp [lens]; omega)) (by first | omega | assumption | (simp only [lens]; first | omega | assumption) | (simp [lens]; done) | (simp [lens]; omega)) ?_)); clear hm; intro ws hm; simp only [List.set_cons_zero, List.set_cons_succ] at hm) | ((with_reducible refine gt_field 50 0 ?_); refine st_field rfl 50 _ 0 rfl rfl field50_0 ?_) | ((with_reducible refine gt_elem 47 ?_); refine st_elem rfl 47 _ _ rfl rfl rfl arr47 (by first | omega | assumption | (simp only [lens]; first | omega | assumption) | (simp [lens]; done) | (simp [lens]; omega)) (by first | omega | assumption | (simp only [lens]; first | omega | assumption) | (simp [lens]; done) | (simp [lens]; omega)) ?_) | ((with_reducible refine gt_store 3 ?_); (first | (refine st_set rfl 3 _ _ rfl hm rfl rfl 0 rfl one3 (by first | omega | assumption | (simp only [lens]; first | omega | assumption) | (simp [lens]; done) | (simp [lens]; omega)) ?_) | (refine st_set rfl 3 _ _ rfl hm rfl rfl 1 rfl one3 (by first | omega | assumption | (simp only [lens]; first | omega | assumption) | (simp [lens]; done) | (simp [lens]; omega)) ?_) | (refine st_set rfl 3 _ _ rfl hm rfl rfl 2 rfl one3 (by first | omega | assumption | (simp only [lens]; first | omega | assumption) | (simp [lens]; done) | (simp [lens]; omega)) ?_) | (refine st_set rfl 3 _ _ rfl hm rfl rfl 3 rfl one3 (by first | omega | assumption | (simp only [lens]; first | omega | assumption) | (simp [lens]; done) | (simp [lens]; omega)) ?_)); clear hm; intro ws hm; simp only [List.set_cons_zero, List.set_cons_succ] at hm) | ((with_reducible refine gt_field 50 1 ?_); refine st_field rfl 50 _ 1 rfl rfl field50_1 ?_) | ((with_reducible refine gt_elem 48 ?_); refine st_elem rfl 48 _ _ rfl rfl rfl arr48 (by first | omega | assumption | (simp only [lens]; first | omega | assumption) | (simp [lens]; done) | (simp [lens]; omega)) (by first | omega | assumption | (simp only [lens]; first | omega | assumption) | (simp [lens]; done) | (simp [lens]; omega)) ?_) | ((with_reducible refine gt_load 50 ?_); (first | (refine st_load rfl 50 _ rfl hm rfl 0 rfl agg50 (by first | omega | assumption | (simp only [lens]; first | omega | assumption) | (simp [lens]; done) | (simp [lens]; omega)) ?_) | (refine st_load rfl 50 _ rfl hm rfl 1 rfl agg50 (by first | omega | assumption | (simp only [lens]; first | omega | assumption) | (simp [lens]; done) | (simp [lens]; omega)) ?_) | (refine st_load rfl 50 _ rfl hm rfl 2 rfl agg50 (by first | omega | assumption | (simp only [lens]; first | omega | assumption) | (simp [lens]; done) | (simp [lens]; omega)) ?_) | (refine st_load rfl 50 _ rfl hm rfl 3 rfl agg50 (by first | omega | assumption | (simp only [lens]; first | omega | assumption) | (simp [lens]; done) | (simp [lens]; omega)) ?_))))
 go_loopw [9, 6] (fun v9 v6 wr => ∃ i : Nat, i ≤ 40 ∧ v9 = .int .i64 i ∧ Mem w wr [⟨g5, vals .i64 (fillTo (zs 44) 0 i sets), 50, true⟩, ⟨g4, vals .i64 (zs 44), 50, true⟩]) (fun v9 _ _ => 40 - (intOf v9).toNat)
 case atStart => exact ⟨0, by omega, rfl, by rw [fillTo_zero]; exact hm⟩
 case round =>
  obtain ⟨i, hi, rfl, hm⟩ := hrel
  by_cases hlt : i < 40
  ·have hl := fillTo_length (zs 44) 0 i sets (by rw [zs_length]; omega)
   rw [zs_length] at hl
   go_wp2_with (first | fail | ((with_reducible refine gt_alloc 4 50 ?_); refine st_alloc rfl 4 rfl 50 rfl hm zero50 ?_; clear hm; intro g4 w4 hm) | ((with_reducible refine gt_build 50 ?_); refine st_zero rfl 50 rfl built50 ?_) | ((with_reducible refine gt_alloc 5 50 ?_); refine st_alloc rfl 5 rfl 50 rfl hm zero50 ?_; clear hm; intro g5 w5 hm) | ((with_reducible refine gt_store 50 ?_); (first | (refine st_full rfl 50 _ _ rfl hm rfl rfl 0 rfl agg50 (by first | omega | assumption | (simp only [lens]; first | omega | assumption) | (simp [lens]; done) | (simp [lens]; omega)) (by first | omega | assumption | (simp only [lens]; first | omega | assumption) | (simp [lens]; done) | (simp [lens]; omega)) ?_) | (refine st_full rfl 50 _ _ rfl hm rfl rfl 1 rfl agg50 (by first | omega | assumption | (simp only [lens]; first | omega | assumption) | (simp [lens]; done) | (simp [lens]; omega)) (by first | omega | assumption | (simp only [lens]; first | omega | assumption) | (simp [lens]; done) | (simp [lens]; omega)) ?_) | (refine st_full rfl 50 _ _ rfl hm rfl rfl 2 rfl agg50 (by first | omega | assumption | (simp only [lens]; first | omega | assumption) | (simp [lens]; done) | (simp [lens]; omega)) (by first | omega | assumption | (simp only [lens]; first | omega | assumption) | (simp [lens]; done) | (simp [lens]; omega)) ?_) | (refine st_full rfl 50 _ _ rfl hm rfl rfl 3 rfl agg50 (by first | omega | assumption | (simp only [lens]; first | omega | assumption) | (simp [lens]; done) | (simp [lens]; omega)) (by first | omega | assumption | (simp only [lens]; first | omega | assumption) | (simp [lens]; done) | (simp [lens]; omega)) ?_)); clear hm; intro ws hm; simp only [List.set_cons_zero, List.set_cons_succ] at hm) | ((with_reducible refine gt_field 50 0 ?_); refine st_field rfl 50 _ 0 rfl rfl field50_0 ?_) | ((with_reducible refine gt_elem 47 ?_); refine st_elem rfl 47 _ _ rfl rfl rfl arr47 (by first | omega | assumption | (simp only [lens]; first | omega | assumption) | (simp [lens]; done) | (simp [lens]; omega)) (by first | omega | assumption | (simp only [lens]; first | omega | assumption) | (simp [lens]; done) | (simp [lens]; omega)) ?_) | ((with_reducible refine gt_store 3 ?_); (first | (refine st_set rfl 3 _ _ rfl hm rfl rfl 0 rfl one3 (by first | omega | assumption | (simp only [lens]; first | omega | assumption) | (simp [lens]; done) | (simp [lens]; omega)) ?_) | (refine st_set rfl 3 _ _ rfl hm rfl rfl 1 rfl one3 (by first | omega | assumption | (simp only [lens]; first | omega | assumption) | (simp [lens]; done) | (simp [lens]; omega)) ?_) | (refine st_set rfl 3 _ _ rfl hm rfl rfl 2 rfl one3 (by first | omega | assumption | (simp only [lens]; first | omega | assumption) | (simp [lens]; done) | (simp [lens]; omega)) ?_) | (refine st_set rfl 3 _ _ rfl hm rfl rfl 3 rfl one3 (by first | omega | assumption | (simp only [lens]; first | omega | assumption) | (simp [lens]; done) | (simp [lens]; omega)) ?_)); clear hm; intro ws hm; simp only [List.set_cons_zero, List.set_cons_succ] at hm) | ((with_reducible refine gt_field 50 1 ?_); refine st_field rfl 50 _ 1 rfl rfl field50_1 ?_) | ((with_reducible refine gt_elem 48 ?_); refine st_elem rfl 48 _ _ rfl rfl rfl arr48 (by first | omega | assumption | (simp only [lens]; first | omega | assumption) | (simp [lens]; done) | (simp [lens]; omega)) (by first | omega | assumption | (simp only [lens]; first | omega | assumption) | (simp [lens]; done) | (simp [lens]; omega)) ?_) | ((with_reducible refine gt_load 50 ?_); (first | (refine st_load rfl 50 _ rfl hm rfl 0 rfl agg50 (by first | omega | assumption | (simp only [lens]; first | omega | assumption) | (simp [lens]; done) | (simp [lens]; omega)) ?_) | (refine st_load rfl 50 _ rfl hm rfl 1 rfl agg50 (by first | omega | assumption | (simp only [lens]; first | omega | assumption) | (simp [lens]; done) | (simp [lens]; omega)) ?_) | (refine st_load rfl 50 _ rfl hm rfl 2 rfl agg50 (by first | omega | assumption | (simp only [lens]; first | omega | assumption) | (simp [lens]; done) | (simp [lens]; omega)) ?_) | (refine st_load rfl 50 _ rfl hm rfl 3 rfl agg50 (by first | omega | assumption | (simp only [lens]; first | omega | assumption) | (simp [lens]; done) | (simp [lens]; omega)) ?_))))
   go_roundw
   case rel =>
    refine ⟨i + 1, by omega, by go_num, ?_⟩
    rw [← fillTo_succ _ _ _ _ (by rw [zs_length]; omega)]
    simpa using hm
   case measure => simp [intOf]; omega
  ·have HI := Aside0.mk (show i = 40 by omega)
   have hl := fillTo_length (zs 44) 0 i sets (by rw [zs_length]; omega)
   rw [zs_length] at hl
   generalize hF : fillTo (zs 44) 0 i sets = F at *
   have HF := Aside0.mk hF
   clear hF
   go_wp2_with (first | fail | ((with_reducible refine gt_alloc 4 50 ?_); refine st_alloc rfl 4 rfl 50 rfl hm zero50 ?_; clear hm; intro g4 w4 hm) | ((with_reducible refine gt_build 50 ?_); refine st_zero rfl 50 rfl built50 ?_) | ((with_reducible refine gt_alloc 5 50 ?_); refine st_alloc rfl 5 rfl 50 rfl hm zero50 ?_; clear hm; intro g5 w5 hm) | ((with_reducible refine gt_store 50 ?_); (first | (refine st_full rfl 50 _ _ rfl hm rfl rfl 0 rfl agg50 (by first | omega | assumption | (simp only [lens]; first | omega | assumption) | (simp [lens]; done) | (simp [lens]; omega)) (by first | omega | assumption | (simp only [lens]; first | omega | assumption) | (simp [lens]; done) | (simp [lens]; omega)) ?_) | (refine st_full rfl 50 _ _ rfl hm rfl rfl 1 rfl agg50 (by first | omega | assumption | (simp only [lens]; first | omega | assumption) | (simp [lens]; done) | (simp [lens]; omega)) (by first | omega | assumption | (simp only [lens]; first | omega | assumption) | (simp [lens]; done) | (simp [lens]; omega)) ?_) | (refine st_full rfl 50 _ _ rfl hm rfl rfl 2 rfl agg50 (by first | omega | assumption | (simp only [lens]; first | omega | assumption) | (simp [lens]; done) | (simp [lens]; omega)) (by first | omega | assumption | (simp only [lens]; first | omega | assumption) | (simp [lens]; done) | (simp [lens]; omega)) ?_) | (refine st_full rfl 50 _ _ rfl hm rfl rfl 3 rfl agg50 (by first | omega | assumption | (simp only [lens]; first | omega | assumption) | (simp [lens]; done) | (simp [lens]; omega)) (by first | omega | assumption | (simp only [lens]; first | omega | assumption) | (simp [lens]; done) | (simp [lens]; omega)) ?_)); clear hm; intro ws hm; simp only [List.set_cons_zero, List.set_cons_succ] at hm) | ((with_reducible refine gt_field 50 0 ?_); refine st_field rfl 50 _ 0 rfl rfl field50_0 ?_) | ((with_reducible refine gt_elem 47 ?_); refine st_elem rfl 47 _ _ rfl rfl rfl arr47 (by first | omega | assumption | (simp only [lens]; first | omega | assumption) | (simp [lens]; done) | (simp [lens]; omega)) (by first | omega | assumption | (simp only [lens]; first | omega | assumption) | (simp [lens]; done) | (simp [lens]; omega)) ?_) | ((with_reducible refine gt_store 3 ?_); (first | (refine st_set rfl 3 _ _ rfl hm rfl rfl 0 rfl one3 (by first | omega | assumption | (simp only [lens]; first | omega | assumption) | (simp [lens]; done) | (simp [lens]; omega)) ?_) | (refine st_set rfl 3 _ _ rfl hm rfl rfl 1 rfl one3 (by first | omega | assumption | (simp only [lens]; first | omega | assumption) | (simp [lens]; done) | (simp [lens]; omega)) ?_) | (refine st_set rfl 3 _ _ rfl hm rfl rfl 2 rfl one3 (by first | omega | assumption | (simp only [lens]; first | omega | assumption) | (simp [lens]; done) | (simp [lens]; omega)) ?_) | (refine st_set rfl 3 _ _ rfl hm rfl rfl 3 rfl one3 (by first | omega | assumption | (simp only [lens]; first | omega | assumption) | (simp [lens]; done) | (simp [lens]; omega)) ?_)); clear hm; intro ws hm; simp only [List.set_cons_zero, List.set_cons_succ] at hm) | ((with_reducible refine gt_field 50 1 ?_); refine st_field rfl 50 _ 1 rfl rfl field50_1 ?_) | ((with_reducible refine gt_elem 48 ?_); refine st_elem rfl 48 _ _ rfl rfl rfl arr48 (by first | omega | assumption | (simp only [lens]; first | omega | assumption) | (simp [lens]; done) | (simp [lens]; omega)) (by first | omega | assumption | (simp only [lens]; first | omega | assumption) | (simp [lens]; done) | (simp [lens]; omega)) ?_) | ((with_reducible refine gt_load 50 ?_); (first | (refine st_load rfl 50 _ rfl hm rfl 0 rfl agg50 (by first | omega | assumption | (simp only [lens]; first | omega | assumption) | (simp [lens]; done) | (simp [lens]; omega)) ?_) | (refine st_load rfl 50 _ rfl hm rfl 1 rfl agg50 (by first | omega | assumption | (simp only [lens]; first | omega | assumption) | (simp [lens]; done) | (simp [lens]; omega)) ?_) | (refine st_load rfl 50 _ rfl hm rfl 2 rfl agg50 (by first | omega | assumption | (simp only [lens]; first | omega | assumption) | (simp [lens]; done) | (simp [lens]; omega)) ?_) | (refine st_load rfl 50 _ rfl hm rfl 3 rfl agg50 (by first | omega | assumption | (simp only [lens]; first | omega | assumption) | (simp [lens]; done) | (simp [lens]; omega)) ?_))))
   go_loopw [18, 7] (fun v18 v7 wr => ∃ i : Nat, (i : Int) ≤ subs ∧ v18 = .int .i64 i ∧ Mem w wr [⟨g5, vals .i64 (fillTo F 40 i sets), 50, true⟩, ⟨g4, vals .i64 (zs 44), 50, true⟩]) (fun v18 _ _ => subs.toNat - (intOf v18).toNat)
   case atStart => exact ⟨0, by omega, rfl, by rw [fillTo_zero]; exact hm⟩
   case round =>
    obtain ⟨i, hi, rfl, hm⟩ := hrel
    have hl2 := fillTo_length F 40 i sets (by omega)
    by_cases hlt : (i : Int) < subs
    ·go_wp2_with (first | fail | ((with_reducible refine gt_alloc 4 50 ?_); refine st_alloc rfl 4 rfl 50 rfl hm zero50 ?_; clear hm; intro g4 w4 hm) | ((with_reducible refine gt_build 50 ?_); refine st_zero rfl 50 rfl built50 ?_) | ((with_reducible refine gt_alloc 5 50 ?_); refine st_alloc rfl 5 rfl 50 rfl hm zero50 ?_; clear hm; intro g5 w5 hm) | ((with_reducible refine gt_store 50 ?_); (first | (refine st_full rfl 50 _ _ rfl hm rfl rfl 0 rfl agg50 (by first | omega | assumption | (simp only [lens]; first | omega | assumption) | (simp [lens]; done) | (simp [lens]; omega)) (by first | omega | assumption | (simp only [lens]; first | omega | assumption) | (simp [lens]; done) | (simp [lens]; omega)) ?_) | (refine st_full rfl 50 _ _ rfl hm rfl rfl 1 rfl agg50 (by first | omega | assumption | (simp only [lens]; first | omega | assumption) | (simp [lens]; done) | (simp [lens]; omega)) (by first | omega | assumption | (simp only [lens]; first | omega | assumption) | (simp [lens]; done) | (simp [lens]; omega)) ?_) | (refine st_full rfl 50 _ _ rfl hm rfl rfl 2 rfl agg50 (by first | omega | assumption | (simp only [lens]; first | omega | assumption) | (simp [lens]; done) | (simp [lens]; omega)) (by first | omega | assumption | (simp only [lens]; first | omega | assumption) | (simp [lens]; done) | (simp [lens]; omega)) ?_) | (refine st_full rfl 50 _ _ rfl hm rfl rfl 3 rfl agg50 (by first | omega | assumption | (simp only [lens]; first | omega | assumption) | (simp [lens]; done) | (simp [lens]; omega)) (by first | omega | assumption | (simp only [lens]; first | omega | assumption) | (simp [lens]; done) | (simp [lens]; omega)) ?_)); clear hm; intro ws hm; simp only [List.set_cons_zero, List.set_cons_succ] at hm) | ((with_reducible refine gt_field 50 0 ?_); refine st_field rfl 50 _ 0 rfl rfl field50_0 ?_) | ((with_reducible refine gt_elem 47 ?_); refine st_elem rfl 47 _ _ rfl rfl rfl arr47 (by first | omega | assumption | (simp only [lens]; first | omega | assumption) | (simp [lens]; done) | (simp [lens]; omega)) (by first | omega | assumption | (simp only [lens]; first | omega | assumption) | (simp [lens]; done) | (simp [lens]; omega)) ?_) | ((with_reducible refine gt_store 3 ?_); (first | (refine st_set rfl 3 _ _ rfl hm rfl rfl 0 rfl one3 (by first | omega | assumption | (simp only [lens]; first | omega | assumption) | (simp [lens]; done) | (simp [lens]; omega)) ?_) | (refine st_set rfl 3 _ _ rfl hm rfl rfl 1 rfl one3 (by first | omega | assumption | (simp only [lens]; first | omega | assumption) | (simp [lens]; done) | (simp [lens]; omega)) ?_) | (refine st_set rfl 3 _ _ rfl hm rfl rfl 2 rfl one3 (by first | omega | assumption | (simp only [lens]; first | omega | assumption) | (simp [lens]; done) | (simp [lens]; omega)) ?_) | (refine st_set rfl 3 _ _ rfl hm rfl rfl 3 rfl one3 (by first | omega | assumption | (simp only [lens]; first | omega | assumption) | (simp [lens]; done) | (simp [lens]; omega)) ?_)); clear hm; intro ws hm; simp only [List.set_cons_zero, List.set_cons_succ] at hm) | ((with_reducible refine gt_field 50 1 ?_); refine st_field rfl 50 _ 1 rfl rfl field50_1 ?_) | ((with_reducible refine gt_elem 48 ?_); refine st_elem rfl 48 _ _ rfl rfl rfl arr48 (by first | omega | assumption | (simp only [lens]; first | omega | assumption) | (simp [lens]; done) | (simp [lens]; omega)) (by first | omega | assumption | (simp only [lens]; first | omega | assumption) | (simp [lens]; done) | (simp [lens]; omega)) ?_) | ((with_reducible refine gt_load 50 ?_); (first | (refine st_load rfl 50 _ rfl hm rfl 0 rfl agg50 (by first | omega | assumption | (simp only [lens]; first | omega | assumption) | (simp [lens]; done) | (simp [lens]; omega)) ?_) | (refine st_load rfl 50 _ rfl hm rfl 1 rfl agg50 (by first | omega | assumption | (simp only [lens]; first | omega | assumption) | (simp [lens]; done) | (simp [lens]; omega)) ?_) | (refine st_load rfl 50 _ rfl hm rfl 2 rfl agg50 (by first | omega | assumption | (simp only [lens]; first | omega | assumption) | (simp [lens]; done) | (simp [lens]; omega)) ?_) | (refine st_load rfl 50 _ rfl hm rfl 3 rfl agg50 (by first | omega | assumption | (simp only [lens]; first | omega | assumption) | (simp [lens]; done) | (simp [lens]; omega)) ?_))))
     go_roundw
     case rel =>
      refine ⟨i + 1, by omega, by go_num, ?_⟩
      rw [← fillTo_succ _ _ _ _ (by omega)]
      simpa using hm
     case measure => simp [intOf]; omega
    ·have HI2 := Aside0.mk (show subs.toNat = i by omega)
     go_wp2_with (first | fail | ((with_reducible refine gt_alloc 4 50 ?_); refine st_alloc rfl 4 rfl 50 rfl hm zero50 ?_; clear hm; intro g4 w4 hm) | ((with_reducible refine gt_build 50 ?_); refine st_zero rfl 50 rfl built50 ?_) | ((with_reducible refine gt_alloc 5 50 ?_); refine st_alloc rfl 5 rfl 50 rfl hm zero50 ?_; clear hm; intro g5 w5 hm) | ((with_reducible refine gt_store 50 ?_); (first | (refine st_full rfl 50 _ _ rfl hm rfl rfl 0 rfl agg50 (by first | omega | assumption | (simp only [lens]; first | omega | assumption) | (simp [lens]; done) | (simp [lens]; omega)) (by first | omega | assumption | (simp only [lens]; first | omega | assumption) | (simp [lens]; done) | (simp [lens]; omega)) ?_) | (refine st_full rfl 50 _ _ rfl hm rfl rfl 1 rfl agg50 (by first | omega | assumption | (simp only [lens]; first | omega | assumption) | (simp [lens]; done) | (simp [lens]; omega)) (by first | omega | assumption | (simp only [lens]; first | omega | assumption) | (simp [lens]; done) | (simp [lens]; omega)) ?_) | (refine st_full rfl 50 _ _ rfl hm rfl rfl 2 rfl agg50 (by first | omega | assumption | (simp only [lens]; first | omega | assumption) | (simp [lens]; done) | (simp [lens]; omega)) (by first | omega | assumption | (simp only [lens]; first | omega | assumption) | (simp [lens]; done) | (simp [lens]; omega)) ?_) | (refine st_full rfl 50 _ _ rfl hm rfl rfl 3 rfl agg50 (by first | omega | assumption | (simp only [lens]; first | omega | assumption) | (simp [lens]; done) | (simp [lens]; omega)) (by first | omega | assumption | (simp only [lens]; first | omega | assumption) | (simp [lens]; done) | (simp [lens]; omega)) ?_)); clear hm; intro ws hm; simp only [List.set_cons_zero, List.set_cons_succ] at hm) | ((with_reducible refine gt_field 50 0 ?_); refine st_field rfl 50 _ 0 rfl rfl field50_0 ?_) | ((with_reducible refine gt_elem 47 ?_); refine st_elem rfl 47 _ _ rfl rfl rfl arr47 (by first | omega | assumption | (simp only [lens]; first | omega | assumption) | (simp [lens]; done) | (simp [lens]; omega)) (by first | omega | assumption | (simp only [lens]; first | omega | assumption) | (simp [lens]; done) | (simp [lens]; omega)) ?_) | ((with_reducible refine gt_store 3 ?_); (first | (refine st_set rfl 3 _ _ rfl hm rfl rfl 0 rfl one3 (by first | omega | assumption | (simp only [lens]; first | omega | assumption) | (simp [lens]; done) | (simp [lens]; omega)) ?_) | (refine st_set rfl 3 _ _ rfl hm rfl rfl 1 rfl one3 (by first | omega | assumption | (simp only [lens]; first | omega | assumption) | (simp [lens]; done) | (simp [lens]; omega)) ?_) | (refine st_set rfl 3 _ _ rfl hm rfl rfl 2 rfl one3 (by first | omega | assumption | (simp only [lens]; first | omega | assumption) | (simp [lens]; done) | (simp [lens]; omega)) ?_) | (refine st_set rfl 3 _ _ rfl hm rfl rfl 3 rfl one3 (by first | omega | assumption | (simp only [lens]; first | omega | assumption) | (simp [lens]; done) | (simp [lens]; omega)) ?_)); clear hm; intro ws hm; simp only [List.set_cons_zero, List.set_cons_succ] at hm) | ((with_reducible refine gt_field 50 1 ?_); refine st_field rfl 50 _ 1 rfl rfl field50_1 ?_) | ((with_reducible refine gt_elem 48 ?_); refine st_elem rfl 48 _ _ rfl rfl rfl arr48 (by first | omega | assumption | (simp only [lens]; first | omega | assumption) | (simp [lens]; done) | (simp [lens]; omega)) (by first | omega | assumption | (simp only [lens]; first | omega | assumption) | (simp [lens]; done) | (simp [lens]; omega)) ?_) | ((with_reducible refine gt_load 50 ?_); (first | (refine st_load rfl 50 _ rfl hm rfl 0 rfl agg50 (by first | omega | assumption | (simp only [lens]; first | omega | assumption) | (simp [lens]; done) | (simp [lens]; omega)) ?_) | (refine st_load rfl 50 _ rfl hm rfl 1 rfl agg50 (by first | omega | assumption | (simp only [lens]; first | omega | assumption) | (simp [lens]; done) | (simp [lens]; omega)) ?_) | (refine st_load rfl 50 _ rfl hm rfl 2 rfl agg50 (by first | omega | assumption | (simp only [lens]; first | omega | assumption) | (simp [lens]; done) | (simp [lens]; omega)) ?_) | (refine st_load rfl 50 _ rfl hm rfl 3 rfl agg50 (by first | omega | assumption | (simp only [lens]; first | omega | assumption) | (simp [lens]; done) | (simp [lens]; omega)) ?_))))
     ((try simp only [Exit.inBlock, Exit.then]); (first | (refine ret_cell hm rfl rfl 1 rfl agg50 (by first | omega | assumption | (simp only [lens]; first | omega | assumption) | (simp [lens]; done) | (simp [lens]; omega)) rfl ?_) | (refine ret_cell_tmp hm rfl rfl 1 rfl agg50 (by first | omega | assumption | (simp only [lens]; first | omega | assumption) | (simp [lens]; done) | (simp [lens]; omega)) rfl ?_)))
     exact ⟨by rw [HI2.out, ← HF.out, HI.out], hm.done rfl⟩
def w16 (x : Int) : Int := IntKind.i16.wrap x
end Go.Proofs.Ytfdjgomocbniaaa.Arr
