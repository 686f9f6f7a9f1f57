/- The texts that the statement FnExactBookText needs, part 3: contracts of the program's functions and plain laws, without what it does not reach. No condition beyond what each theorem says. -/
import Derived.Shelf.Strconv.Itoa4
import Derived.Test.YtdgecgfgekmhcaaDoorProg
import Derived.KernelRfl
import Derived.Below
import Derived.Deep.Draws
import Derived.Deep.AppendLies
import Derived.Maps.AppendAt
import Derived.OwnWalk
import Derived.Laws.BytesArg
import Derived.Laws.MakeOwn
import Derived.Laws.OwnMore
import Derived.Deep.OwnRows
import Derived.Tactics
import Derived.Lib.ConvBytes
import Derived.Laws.Slices
import Derived.WalkKit
import Derived.RowKit3
import Derived.Deep.LoopGhost
import Derived.Deep.QuietTactic
import Derived.BigQuiet
import Derived.WideLaws
import Derived.Deep.DeepCutAuto
import Derived.Deep.CutBlock
import Derived.Deep.RegionHeld3
import Derived.Laws.Rows
import Derived.Lib.AppendStr
import Derived.ArgAppend
import Derived.Laws.IdiomCopy
import Derived.RowKit
import Derived.OrdersHeld
import Derived.Laws.BitsLemmas
import Derived.Laws.StructEq
import Derived.Laws.Tables
import Derived.BigFrame
import Derived.Laws.CopyRow
import Derived.Laws.ResultCell
import Derived.WalkSpells
import Derived.Lib.SplitLaws
import Derived.Lib.Join
import Derived.Lib.ParseIntB
import Derived.Lib.CountLaws
import Derived.Shelf.Strings.SplitShaped
import Derived.Shelf.Strings.Shaped
import Derived.Shelf.Small.Wraps
import Derived.Shelf.Strconv.ErrVarParseInt
import Derived.Lib.SmallJoins
import Derived.Lib.AppendIntMem
import Derived.Lib.ParseIntBTie
import Derived.StillTailTactics
import Derived.ProofKit
import Derived.OpenShut
import Derived.Deep.Slices
import Derived.Test.YtdgecgfgekmhcaaDoorRows
import Derived.LaidMore
import Derived.Stop.Joined
import Derived.ShutString
import Derived.ChangeOld
import Derived.SizedLaws
import Derived.Test.YtdgecgfgekmhcaaDoorCards
import Derived.Test.YtdgecgfgekmhcaaDoorTie
import Derived.SevenTiedAt
import Derived.Test.YtdgecgfgekmhcaaDoorZFnExactBookText2
namespace Go.Proofs.YtdgecgfgekmhcaaDoor.Arr
open Go.RowKit Go.Proofs.YtdgecgfgekmhcaaDoorW.PrintWords Go.Proofs.YtdgecgfgekmhcaaDoorW.PrintLast Go.Proofs.YtdgecgfgekmhcaaDoorW.PrintMore Go.Proofs.YtdgecgfgekmhcaaDoor.U Go.Proofs.YtdgecgfgekmhcaaDoor.J
set_option linter.unusedVariables false
set_option linter.unusedSimpArgs false
set_option maxHeartbeats 1000000 in
set_option maxRecDepth 100000 in
theorem cloneM_calls (A0 : Option Addr) (c0 : Nat) (l0 : List Int) (w : World) (hr0 : Kd.C (Kd.int .i8) w A0 l0.length l0) (hc0 : l0.length ≤ c0) (hl : l0.length < 140737488355328) :
  Calls Tryd.prog 66 #[.slice A0 l0.length c0] w fun e w' => ∃ v0 : Value, e = .returned v0 ∧ Own w.heap.size w' v0 l0 ∧ Below w.heap.size w w' := by
 have HR0 := Aside0.mk hr0
 have hm := Kd.C_max hr0
 have HL := Aside0.mk hl
 clear hr0 hl
 have heq := fun (W : World) (n c : Nat) => Lib.run_eql_slice_nil (P := Tryd.prog) W 53 22 A0 n c 0 0 Tryd.underlying53
 cases A0 with
 | none =>
  have h0 : l0 = [] := by
   rcases Nat.eq_zero_or_pos l0.length with h | h
   ·exact List.eq_nil_of_length_eq_zero h
   ·obtain ⟨ad, e, _⟩ := HR0.out.2.2 h; cases e
  go_enter Tryd.func66, Tryd.ntmps66
  go_wp2_with fail
  go_ret
  exact ⟨_, rfl, by rw [h0]; exact Kd.R_nil _ _ _ _ _, Below.refl _ _⟩
 | some ad =>
  go_enter Tryd.func66, Tryd.ntmps66
  go_wp2_with (first
   | ((with_reducible refine gate_dst (N := 5) rfl ?_); refine Kd.R_lit (Kd.int .i8) _ 22 ?hg (N := 5) ?hd (xs := ([] : List Int)) (inner := []) (ok := fun _ => True) (okp := fun _ => True) ?hr ?hp (fun _ hk => hk) trivial (Below.refl _ _) (Nat.le_refl _) (by simp) ?_; (case hd => rfl); (case hg => rfl); (case hr => first | (go_simp; done) | (go_simp; rfl)); (case hp => exact (Reps.none _ _)); intro v1 w1 ho hb _ _; have HO := Aside0.mk ho; have HB := Aside0.mk hb; clear ho hb)
   | ((with_reducible refine gate_builtin (b := .append) (xs := #[.tmp 5, .tmp 6]) rfl ?_); at_builtin; refine Kd.R_append_rows (Kd.int .i8) (w0 := w) w.heap.size rfl (.tmp 5) (.tmp 6) 53 22 (.int .i8 0) 1 rfl Tryd.underlying53 infoI8 rfl (by decide) (by omega) v1 [] l0 _ _ _ (fun _ => True) (fun _ => False) rfl rfl ?aO ?aR (fun _ _ h => h) (fun _ h => h.elim) (fun _ _ => trivial) ?aB ?aS ?aL ?_; (case aR => exact Kd.C_below HR0.out HB.out); (case aB => exact HB.out); (case aO => exact HO.out); (case aS => exact HB.out.size); (case aL => have := HL.out; simp; omega); intro v2 w2 ho hb _ _; have HO2 := Aside0.mk ho; have HB2 := Aside0.mk hb; clear ho hb))
  go_ret
  exact ⟨_, rfl, HO2.out, HB2.out⟩
theorem goodFirst_calls (A : Option Addr) (c : Nat) (m : List Int) (S : Nat) (W : World) (hr : Kd.C (Kd.int .i8) W A m.length m) (hc : m.length ≤ c) (hm : ∀ x ∈ m, PlainN x) (hl : m.length ≤ 1000) (hS : S ≤ 4) :
  Calls Tryd.prog 62 #[.slice A m.length c, .agg (vals .i64 (evenL 1 S))] W fun e w' => ∃ v, e = .returned (.tuple #[v, .bool (goodM S m)]) ∧ Below W.heap.size W w' := by
 refine (first_calls A c m (evenL 1 S) W hr hc hm hl (evenL_length 1 S (by omega)) (evenL_b 1 S (by omega) (by omega) (by omega))).mono ?_
 rintro e w' ⟨v, b, rfl, hf, hb⟩
 rw [find_even hm 1 S (by omega) (by omega) (by omega), Int.toNat_natCast] at hf
 refine ⟨v, ?_, hb⟩
 unfold goodM
 cases hL : findL m 1 S with
 | nil => rw [hL] at hf; rw [hf.2]; rfl
 | cons h r => rw [hL] at hf; rw [hf.1]; rfl
theorem snoc_len (m : List Int) (y : Int) : (m ++ [y]).length = m.length + 1 := by simp
theorem plain_snoc {m : List Int} {K q : Nat} (hm : ∀ y ∈ m, 0 ≤ y ∧ y < (K : Int)) (hK : K ≤ 10) (hq : q < K) : ∀ y ∈ m ++ [(q : Int)], PlainN y := fun y hy => by
 rcases List.mem_append.1 hy with hy | hy
 ·have := hm y hy; exact Or.inr (by omega)
 ·rw [List.mem_singleton] at hy; subst hy; exact Or.inr (by omega)
theorem lit_none2 (w : World) (base : Nat) (hb : base ≤ w.heap.size) : LsR base (w.alloc (.cells #[] 53)) (.slice (some ⟨w.heap.size, 0, none⟩) 0 0) [] := by
 refine ⟨[], rfl, ⟨fun k hk => trivial, [], ?_, Reps.none _ _⟩, fun j x hj => by simp at hj⟩
 have h2 := World.ownsRow_lit (base := base) (e := 53) (size := 1) w #[] 0 hb (by simp [maxLen]) (by simp)
 have h3 : (w.alloc (.cells #[] 53)).ownsRow base 53 1 (.slice (some ⟨w.heap.size, 0, none⟩) 0 0) 0 [] := by simpa using h2
 exact h3
structure Rows2 (w : World) (Bx : List (Nat × Array Value × TypeId)) (wr : World) (vo vl : Value) (outs ls : List (List Int)) : Prop where
 out : Kd.S kM 53 wr w.heap.size (fun k => some k ≠ vl.ownBlock ∧ k < wr.heap.size) vo outs
 last : LsR w.heap.size wr vl ls
 box : ∀ b ∈ Bx, wr.heap[b.1]? = some (.cells b.2.1 b.2.2 (0, 0)) ∧ b.2.2 ≠ 53
 bel : Below w.heap.size w wr
theorem Rows.two {w wr : World} {N : Nat} {Bx : List (Nat × Array Value × TypeId)} {vo vl vn : Value} {outs ls ns : List (List Int)} (h : Rows w N Bx wr vo vl vn outs ls ns) : Rows2 w Bx wr vo vn outs ns :=
 ⟨Kd.S_mono (Kd.S_bound h.out) fun k hk => ⟨hk.1.2, hk.2.2.1⟩, h.next, h.box, h.bel⟩
theorem Rows2.three {w wr : World} {Bx : List (Nat × Array Value × TypeId)} {vo vl : Value} {outs ls : List (List Int)} (h : Rows2 w Bx wr vo vl outs ls) : Rows w wr.heap.size Bx (wr.alloc (.cells #[] 53)) vo vl (.slice (some ⟨wr.heap.size, 0, none⟩) 0 0) outs ls [] := by
 have hb := below_alloc (Below.refl wr.heap.size wr) (.cells #[] 53)
 have hsz : (wr.alloc (.cells #[] 53)).heap.size = wr.heap.size + 1 := by simp
 have hlt := Rows.typed_lt h.last.typed
 refine ⟨Kd.S_below (Kd.S_mono h.out fun k hk => ⟨⟨hk.1, hk.2⟩, fun e => ?_⟩) hb, h.last.below hb, lit_none2 wr _ h.bel.size, fun k hk e => ?_, fun b hm => ⟨(hb.block b.1 (lt_of_some (h.box b hm).1)).trans (h.box b hm).1, (h.box b hm).2⟩, by omega, h.bel.trans (hb.mono h.bel.size)⟩
 ·have : k = wr.heap.size := by simpa [Value.ownBlock] using e
  have := hk.2; omega
 ·have h1 := hlt k hk
  have : wr.heap.size = k := by simpa [Value.ownBlock] using e
  omega
theorem Rows2.cell {w wr : World} {Bx : List (Nat × Array Value × TypeId)} {vo vl : Value} {outs ls : List (List Int)} (h : Rows2 w Bx wr vo vl outs ls) {g : Nat} {cs : Array Value} {t : TypeId} (hb : (g, cs, t) ∈ Bx) (i : Nat) : wr.cell? ⟨g, i, none⟩ = cs[i]? := cell_of_row wr g i cs t (0, 0) (h.box _ hb).1
theorem Rows2.row {w wr : World} {Bx : List (Nat × Array Value × TypeId)} {vo vl : Value} {outs ls : List (List Int)} (h : Rows2 w Bx wr vo vl outs ls) {g : Nat} {cs : Array Value} {t : TypeId} (hb : (g, cs, t) ∈ Bx) : wr.heap[g]? = some (.cells cs t (0, 0)) := (h.box _ hb).1
theorem Rows.row {w wr : World} {N : Nat} {Bx : List (Nat × Array Value × TypeId)} {vo vl vn : Value} {outs ls ns : List (List Int)} (h : Rows w N Bx wr vo vl vn outs ls ns) {g : Nat} {cs : Array Value} {t : TypeId} (hb : (g, cs, t) ∈ Bx) : wr.heap[g]? = some (.cells cs t (0, 0)) := (h.box _ hb).1
section
variable {P : Program} {ops : Array Oper} {rest : List Oper} {o : Oper} {a : Act} {w0 w : World} {M : List Ent} {Q : Exit → Act → World → Prop}
theorem st_litv (hgd : o.guard = none) {N n : Nat} (hd : o.dst = some N) (hm : Mem w0 w M) {cs : Array Value} {e : TypeId} (hrun : (execOp a.eval o).run P w = .ok (.value (.slice (some ⟨w.heap.size, 0, none⟩) n n)) (w.alloc (.cells cs e)))
  (h : ∀ g w1, Mem w0 w1 (⟨g, cs, e, true⟩ :: M) → wpList P ops Q rest (a.put (some N) (.slice (some ⟨g, 0, none⟩) n n)) w1) : wpList P ops Q (o :: rest) a w := by
 refine Kd.event_run hgd hrun ?_
 rw [hd]
 exact h _ _ (hm.new cs e)
theorem st_loadRow (hgd : o.guard = none) (ty : TypeId) (x : Operand) (ho : o.op = .load ty x) {g : Nat} (hx : a.eval x = .pointer (some ⟨g, 0, none⟩)) {k : IntKind} {L : List Int} {m : Nat} {t : TypeId}
  (hc : w.heap[g]? = some (.cells (vals k L) t (0, 0))) (hi2 : AggTy P ty m) (hl : L.length = m) (h : wpList P ops Q rest (a.put o.dst (.agg (vals k L))) w) : wpList P ops Q (o :: rest) a w := by
 obtain ⟨hd, hi0⟩ := hi2
 have hi : (P.info? ty).map (·.size) = some (vals k L).size := by rw [vals_size, hl]; exact hi0
 cases hu : P.underlying ty with
 | none => simp [hu] at hd
 | some d =>
  refine wpList_load_row hgd ty x ho g hx t (vals k L) (0, 0) d hc hu ?_ hi h
  cases d <;> simp_all
end
theorem S_block0 {w : World} {g base : Nat} {ok : Nat → Prop} (h : w.heap[g]? = some (.cells #[] 53 (0, 0))) (hb : base ≤ g) (hk : ok g) : Kd.S kM 53 w base ok (.slice (some ⟨g, 0, none⟩) 0 0) [] := by
 refine ⟨fun _ => 0, fun k hk2 => ?_, [], ⟨rfl, Or.inr ⟨g, 0, #[], rfl, hb, h, Nat.le_refl _, by simp [maxLen], rfl, rfl⟩⟩, Reps.none _ _⟩
 have : g = k := by simpa [Value.ownBlock] using hk2
 subst this; exact hk
theorem Ls_block1 {w : World} {g base : Nat} {A : Option Addr} {c : Nat} (h : w.heap[g]? = some (.cells #[.slice A 0 c] 53 (0, 0))) (hb : base ≤ g) : LsR base w (.slice (some ⟨g, 0, none⟩) 1 1) [[]] := by
 refine ⟨[(A, 0, c)], rfl, ⟨fun k hk => trivial, [.slice A 0 c], ⟨rfl, Or.inr ⟨g, 1, #[.slice A 0 c], rfl, hb, h, Nat.le_refl _, by simp [maxLen], rfl, rfl⟩⟩, ⟨rfl, fun j p hj => ?_⟩⟩, fun j x hj => ?_⟩
 ·rcases j with _ | j
  ·cases hj; rfl
  ·simp at hj
 ·rcases j with _ | j
  ·cases hj; exact ⟨A, c, rfl, Nat.zero_le _, RdI.nil⟩
  ·simp at hj
theorem filter_snoc (p : List Int → Bool) (l : List (List Int)) (x : List Int) : (l ++ [x]).filter p = l.filter p ++ (if p x = true then [x] else []) := by
 rw [List.filter_append]; cases h : p x <;> simp [h]
theorem ne27 : 28 ≠ 53 := by decide
theorem ne105 : 89 ≠ 53 := by decide
end Go.Proofs.YtdgecgfgekmhcaaDoor.Arr
namespace Go.Proofs.YtdgecgfgekmhcaaDoor.Arr
open Go.RowKit Go.Proofs.YtdgecgfgekmhcaaDoorW.PrintWords Go.Proofs.YtdgecgfgekmhcaaDoorW.PrintLast Go.Proofs.YtdgecgfgekmhcaaDoorW.PrintMore Go.Proofs.YtdgecgfgekmhcaaDoor.U Go.Proofs.YtdgecgfgekmhcaaDoor.J
set_option linter.unusedVariables false
set_option linter.unusedSimpArgs false
set_option maxHeartbeats 16000000 in
set_option maxRecDepth 100000 in
theorem implMeanings_calls (K L S : Nat) (A3 : Option Addr) (n3 c3 : Nat) (w : World) (hK0 : 1 ≤ K) (hK : K ≤ 10) (hL : L ≤ 3) (hS : S ≤ 4) :
  Calls Tryd.prog 51 #[.agg #[.int .i8 (K : Int), .int .i8 (L : Int), .int .i8 (S : Int), .slice A3 n3 c3]] w fun e w' => ∃ v, e = .returned v ∧ Kd.S kM 53 w' w.heap.size (fun _ => True) v (outL K S L) ∧ Below w.heap.size w w' := by
 have hm := Mem.start w
 have HEV : Aside0 (∀ W, Calls Tryd.prog 63 #[.int .i64 1, .int .i64 (S : Int)] W fun e w' => e = .returned (.agg (vals .i64 (evenL 1 S))) ∧ Below W.heap.size W w') := ⟨fun W => even_calls 1 (S : Int) W (by omega) (by omega)⟩
 have hwS : wrap64 (S : Int) = (S : Int) := w64 (by omega) (by omega)
 have hEL := Aside0.mk (evenL_length 1 (S : Int) (by omega))
 go_enter Tryd.func51, Tryd.ntmps51
 go_wp2_with (first
  | ((with_reducible refine gt_box 1 28 ?_); refine st_box rfl 1 rfl 28 _ rfl hm rfl (cs := #[.int .i8 (K : Int), .int .i8 (L : Int), .int .i8 (S : Int), .slice A3 n3 c3]) rfl ?_; clear hm; intro g1 w1 hm)
  | (((with_reducible refine gate_dst (N := 13) rfl ?_); refine st_litv rfl (N := 13) (n := 0) rfl hm (cs := #[]) (e := 53) ?hr13 ?_; (case hr13 => first | (go_simp; done) | (go_simp; rfl)); clear hm; intro g13 w13 hm); have hc2 := hm.cell (n := 1) rfl 2; simp only [List.getElem?_toArray, List.getElem?_cons_zero, List.getElem?_cons_succ] at hc2)
  | (go_at_call 63; refine (HEV.out _).mono ?_; rintro e w17 ⟨rfl, hb17⟩; replace hm := hm.after hb17; clear hb17 hc2)
  | ((with_reducible refine gt_alloc 4 89 ?_); refine st_alloc rfl 4 rfl 89 rfl hm zero89 ?_; clear hm; intro g4 w4 hm)
  | ((with_reducible refine gt_store 89 ?_); refine st_full rfl 89 _ _ rfl hm rfl rfl 0 rfl agg89 hEL.out zs_length ?_; clear hm; intro ws hm; simp only [List.set_cons_zero] at hm)
  | ((with_reducible refine gate_dst (N := 18) rfl ?_); refine st_litv rfl (N := 18) (n := 0) rfl hm (cs := #[]) (e := 22) ?hr18 ?_; (case hr18 => first | (go_simp; done) | (go_simp; rfl)); clear hm; intro g18 w18 hm)
  | (((with_reducible refine gate_dst (N := 19) rfl ?_); refine st_litv rfl (N := 19) (n := 1) rfl hm (cs := #[.slice (some ⟨g18, 0, none⟩) 0 0]) (e := 53) ?hr19 ?_; (case hr19 => first | (go_simp; done) | (go_simp; rfl)); clear hm; intro g19 w19 hm; have hc1 := hm.cell (n := 4) rfl 1; simp only [List.getElem?_toArray, List.getElem?_cons_zero, List.getElem?_cons_succ] at hc1)))
 have h1 := hm.mem (n := 4) rfl
 have h13 := hm.mem (n := 3) rfl
 have h4 := hm.mem (n := 2) rfl
 have h19 := hm.mem (n := 0) rfl
 have o13 := hm.own_ge 3 rfl
 have o19 := hm.own_ge 0 rfl
 have n13 := hm.ne 3 0 (by decide) rfl rfl
 have HR0 : Aside0 (Rows2 w [(g1, #[.int .i8 (K : Int), .int .i8 (L : Int), .int .i8 (S : Int), .slice A3 n3 c3], 28), (g4, vals .i64 (evenL 1 S), 89)] w19 (.slice (some ⟨g13, 0, none⟩) 0 0) (.slice (some ⟨g19, 0, none⟩) 1 1) [] [[]]) := ⟨S_block0 h13 o13 ⟨by simp [Value.ownBlock]; exact n13, lt_of_some h13⟩, Ls_block1 h19 o19, fun b hb => by
  simp only [List.mem_cons, List.not_mem_nil, or_false] at hb
  rcases hb with rfl | rfl
  ·exact ⟨h1, ne27⟩
  ·exact ⟨h4, ne105⟩, hm.done rfl⟩
 clear h1 h13 h4 h19 o13 o19 n13 hm hc1
 go_loopw [22, 3, 5, 6, 8, 9, 10, 11, 12] (fun v22 v3 v5 _ _ _ _ _ _ wr => ∃ i : Nat, i ≤ L ∧ v22 = .int .i8 (i : Int) ∧ Aside0 (Rows2 w [(g1, #[.int .i8 (K : Int), .int .i8 (L : Int), .int .i8 (S : Int), .slice A3 n3 c3], 28), (g4, vals .i64 (evenL 1 S), 89)] wr v3 v5 (outL K S i) (lastL K i))) (fun v22 _ _ _ _ _ _ _ _ _ => L + 1 - (intOf v22).toNat)
 case atStart => exact ⟨0, by omega, rfl, HR0⟩
 case round =>
  clear HR0
  obtain ⟨i, hi, rfl, HR2⟩ := hrel
  obtain ⟨wo, rfl⟩ : ∃ wo : World, wo = wr := ⟨_, rfl⟩
  by_cases hlt : i < L
  ·have HMEM := Aside0.mk (lastL_mem K i)
   have hll := lastL_le2 K hK i (by omega)
   have HOL := Aside0.mk (outL_le K S hK i (by omega))
   have HOS := Aside0.mk (show outL K S (i + 1) = outL K S i ++ (lastL K (i + 1)).filter (goodM S) from rfl)
   have HLS := Aside0.mk (show lastL K (i + 1) = (lastL K i).flatMap (fun m => kidsTo m K) from rfl)
   have HR3 := Aside0.mk HR2.out.three.renew
   obtain ⟨A5, c5, rfl, hc5⟩ := HR2.out.last.slice
   have hwi : IntKind.i8.wrap ((i : Int) + 1) = (i : Int) + 1 := i8w (by omega) (by omega)
   generalize lastL K i = ls at *
   generalize outL K S i = os at *
   go_wp2_with fail
   go_loopw [27, 3, 6, 8, 9, 10, 11, 12] (fun v27 v3 v6 _ _ _ _ _ wr => ∃ p : Nat, p ≤ ls.length ∧ v27 = .int .i64 p ∧ Aside0 (Rows w wr.heap.size [(g1, #[.int .i8 (K : Int), .int .i8 (L : Int), .int .i8 (S : Int), .slice A3 n3 c3], 28), (g4, vals .i64 (evenL 1 S), 89)] wr v3 (.slice A5 ls.length c5) v6 (os ++ ((ls.take p).flatMap (fun m => kidsTo m K)).filter (goodM S)) ls ((ls.take p).flatMap (fun m => kidsTo m K)))) (fun v27 _ _ _ _ _ _ _ _ => ls.length - (intOf v27).toNat)
   case atStart => exact ⟨0, by omega, rfl, ⟨by simpa using HR3.out⟩⟩
   case round =>
    clear HR3
    obtain ⟨p, hp, rfl, HRM⟩ := hrel
    obtain ⟨wm, rfl⟩ : ∃ wm : World, wm = wr := ⟨_, rfl⟩
    by_cases hlt2 : p < ls.length
    ·obtain ⟨ad, c6, Am, cm, e5, hcell, hcm, hrd⟩ := HRM.out.last.at_ p hlt2
     cases e5
     have hcK := HRM.out.cell (g := g1) (List.mem_cons_self ..) 0
     simp only [List.getElem?_toArray, List.getElem?_cons_zero] at hcK
     have HPS := Aside0.mk (flat_take_succ ls K p hlt2)
     have hpl := flat_len K (ls.take p)
     have HMX := Aside0.mk (HMEM.out ls[p] (List.getElem_mem hlt2))
     have hml : ls[p].length = i := HMX.out.1
     have HPL : Aside0 (((ls.take p).flatMap fun m => kidsTo m K).length ≤ 1000) := ⟨by
      rw [hpl, List.length_take]
      have : min p ls.length * K ≤ 100 * 10 := Nat.mul_le_mul (by omega) hK
      omega⟩
     clear hpl
     have hml2 : ls[p].length ≤ 3 := by omega
     clear hml
     generalize ls[p] = m at *
     generalize (ls.take p).flatMap (fun m => kidsTo m K) = pre at *
     have HMc := Aside0.mk hcm
     have HRD := Aside0.mk hrd
     clear hcm hrd
     go_wp2_with fail
     go_loopw [33, 3, 6, 9, 10, 11, 12] (fun v33 v3 v6 _ _ _ _ wr => ∃ q : Nat, q ≤ K ∧ v33 = .int .i8 q ∧ Aside0 (Rows w wr.heap.size [(g1, #[.int .i8 (K : Int), .int .i8 (L : Int), .int .i8 (S : Int), .slice A3 n3 c3], 28), (g4, vals .i64 (evenL 1 S), 89)] wr v3 (.slice (some ad) ls.length c5) v6 (os ++ (pre ++ kidsTo m q).filter (goodM S)) ls (pre ++ kidsTo m q)) ∧ Aside0 (RdI wr Am m)) (fun v33 _ _ _ _ _ _ _ => K - (intOf v33).toNat)
     case atStart => exact ⟨0, by omega, rfl, ⟨by simpa [kidsTo] using HRM.out⟩, HRD⟩
     case round =>
      clear HRM HRD
      obtain ⟨q, hq, rfl, HRQ, HMm⟩ := hrel
      by_cases hlt3 : q < K
      ·have hwq : IntKind.i8.wrap ((q : Int) + 1) = (q : Int) + 1 := i8w (by omega) (by omega)
       have HKS := Aside0.mk (kidsTo_succ m q)
       have HLN : Aside0 ((pre ++ kidsTo m q).length ≤ 1010) := ⟨by rw [List.length_append, kidsTo_len]; have := HPL.out; omega⟩
       have HLO : Aside0 ((os ++ (pre ++ kidsTo m q).filter (goodM S)).length ≤ 4010) := ⟨by rw [List.length_append]; have := List.length_filter_le (goodM S) (pre ++ kidsTo m q); have := HLN.out; have := HOL.out; omega⟩
       have HPN := Aside0.mk (plain_snoc HMX.out.2 hK hlt3)
       have HWN := Aside0.mk HRQ.out.bel.size
       have hxl : (m ++ [(q : Int)]).length ≤ 4 := by rw [snoc_len]; omega
       generalize hx : m ++ [(q : Int)] = x at *
       have HX := Aside0.mk hx
       clear hx
       cases hg : goodM S x with
       | true =>
        have HGD := Aside0.mk hg
        have HFS := Aside0.mk (filter_snoc (goodM S) (pre ++ kidsTo m q) x)
        clear hg
        go_wp2_with (first
         | (go_at_call 66; refine (cloneM_calls Am cm m _ HMm.out.C HMc.out (by omega)).mono ?_; rintro e w1 ⟨v1, rfl, ho1, hb1⟩; have HO1 := Aside0.mk ho1; have HB1 := Aside0.mk hb1; clear ho1 hb1)
         | ((with_reducible refine gate_builtin (b := .append) (xs := #[.tmp 37, .tmp 39]) rfl ?_); at_builtin; refine Kd.R_append (Kd.int .i8) (w0 := wr) wr.heap.size rfl (.tmp 37) (.tmp 39) 53 22 (.int .i8 0) 1 rfl Tryd.underlying53 infoI8 rfl (by decide) (by omega) v1 m (q : Int) [.int .i8 (q : Int)] (fun _ => True) (fun _ => False) rfl rfl rfl (fun _ hk => hk.elim) (fun _ _ => trivial) HO1.out HB1.out HB1.out.size (by omega) ?_; intro v2 w2 ho2 hb2 hg2 hat2; rw [HX.out] at ho2; obtain ⟨A2, c2, rfl, hc2, hrd2⟩ := RdI.of_own ho2 (by omega); have HO2 := Aside0.mk ho2; have HB2 := Aside0.mk hb2; have HC2 := Aside0.mk hc2; have HRD2 := Aside0.mk hrd2; clear ho2 hb2 hg2 hat2 hc2 hrd2)
         | ((with_reducible refine gate_builtin (b := .append) (xs := #[.tmp 41, .tmp 43]) rfl ?_); at_builtin; obtain ⟨ss, hs1, hs2, hs3⟩ := (HRQ.out.below HB2.out).next; refine Kd.R_append kdH (w0 := w) w.heap.size rfl (.tmp 41) (.tmp 43) 70 53 (.slice none 0 0) 24 rfl Tryd.underlying70 infoM rfl (by decide) (by decide) u6 ss (A2, x.length, c2) [.slice A2 x.length c2] (fun _ => True) (fun _ => False) rfl rfl rfl (fun _ hk => hk.elim) (fun _ _ => trivial) hs2 (HRQ.out.bel.trans (HB2.out.mono HRQ.out.bel.size)) (Nat.le_trans HRQ.out.bel.size HB2.out.size) (by rw [hs1]; have := HLN.out; omega) ?_; intro v6n w3 ho3 hb3 hg3 hat3; have hrw2 := HRQ.out.below HB2.out; have HRW3 := Aside0.mk (hrw2.pushNext hs1 hs2 hs3 hg3 hat3 hb3 HC2.out HRD2.out ho3); have HRD3 := Aside0.mk (HRD2.out.grown hg3 hrw2.next.typed); have HM3 := Aside0.mk ((HMm.out.below HB2.out).grown hg3 hrw2.next.typed); have HO3 := Aside0.mk (Kd.R_over' HO2.out hrw2.next.typed (fun q hq => by simp [Kd.int, Kd.scalar] at hq; subst hq; decide) hg3); clear hs1 hs2 hs3 ho3 hb3 hg3 hat3 hrw2)
         | ((with_reducible refine gt_load 89 ?_); refine st_loadRow rfl 89 _ rfl rfl (HRW3.out.row (g := g4) (List.mem_cons_of_mem _ (List.mem_cons_self ..))) agg89 (evenL_length 1 (S : Int) (by omega)) ?_)
         | (go_at_call 62; refine (goodFirst_calls A2 c2 x S _ HRD3.out.C HC2.out HPN.out (by omega) (by omega)).mono ?_; rw [HGD.out]; rintro e w4 ⟨v4, rfl, hb4⟩; have HB4 := Aside0.mk hb4; clear hb4)
         | ((with_reducible refine gate_builtin (b := .append) (xs := #[.tmp 52, .tmp 54]) rfl ?_); at_builtin; obtain ⟨hp1, hp2, hp3, hp4⟩ := (HRW3.out.below HB4.out).give (own_later HO3.out (FrB.below (B := []) HB4.out) (by simp)) HWN.out; refine Kd.S_append kM (w0 := w) w.heap.size rfl (.tmp 52) (.tmp 54) 70 53 (.slice none 0 0) 24 rfl Tryd.underlying70 infoM rfl (by decide) (by decide) u3 _ x [.slice A2 x.length c2] _ _ rfl rfl hp1 hp2 hp3 hp4 (HRW3.out.below HB4.out).bel (HRW3.out.below HB4.out).bel.size (by have := HLO.out; omega) ?_; intro v3n w5 ho5 hb5 hg5 hat5; have HRW5 := Aside0.mk ((HRW3.out.below HB4.out).pushOut hg5 hb5 ho5); have HM5 := Aside0.mk ((HM3.out.below HB4.out).grown hg5 (Kd.S_typed (HRW3.out.below HB4.out).out)); clear hp1 hp2 hp3 hp4 ho5 hb5 hg5 hat5))
        go_roundw
        case rel => exact ⟨q + 1, by omega, by go_num, ⟨by
         have h9 := HRW5.out
         rw [HKS.out, ← List.append_assoc, HFS.out, HGD.out, if_pos rfl, ← List.append_assoc]
         exact h9⟩, HM5⟩
        case measure => simp [intOf]; omega
       | false =>
        have HGD := Aside0.mk hg
        have HFS := Aside0.mk (filter_snoc (goodM S) (pre ++ kidsTo m q) x)
        clear hg
        go_wp2_with (first
         | (go_at_call 66; refine (cloneM_calls Am cm m _ HMm.out.C HMc.out (by omega)).mono ?_; rintro e w1 ⟨v1, rfl, ho1, hb1⟩; have HO1 := Aside0.mk ho1; have HB1 := Aside0.mk hb1; clear ho1 hb1)
         | ((with_reducible refine gate_builtin (b := .append) (xs := #[.tmp 37, .tmp 39]) rfl ?_); at_builtin; refine Kd.R_append (Kd.int .i8) (w0 := wr) wr.heap.size rfl (.tmp 37) (.tmp 39) 53 22 (.int .i8 0) 1 rfl Tryd.underlying53 infoI8 rfl (by decide) (by omega) v1 m (q : Int) [.int .i8 (q : Int)] (fun _ => True) (fun _ => False) rfl rfl rfl (fun _ hk => hk.elim) (fun _ _ => trivial) HO1.out HB1.out HB1.out.size (by omega) ?_; intro v2 w2 ho2 hb2 hg2 hat2; rw [HX.out] at ho2; obtain ⟨A2, c2, rfl, hc2, hrd2⟩ := RdI.of_own ho2 (by omega); have HO2 := Aside0.mk ho2; have HB2 := Aside0.mk hb2; have HC2 := Aside0.mk hc2; have HRD2 := Aside0.mk hrd2; clear ho2 hb2 hg2 hat2 hc2 hrd2)
         | ((with_reducible refine gate_builtin (b := .append) (xs := #[.tmp 41, .tmp 43]) rfl ?_); at_builtin; obtain ⟨ss, hs1, hs2, hs3⟩ := (HRQ.out.below HB2.out).next; refine Kd.R_append kdH (w0 := w) w.heap.size rfl (.tmp 41) (.tmp 43) 70 53 (.slice none 0 0) 24 rfl Tryd.underlying70 infoM rfl (by decide) (by decide) u6 ss (A2, x.length, c2) [.slice A2 x.length c2] (fun _ => True) (fun _ => False) rfl rfl rfl (fun _ hk => hk.elim) (fun _ _ => trivial) hs2 (HRQ.out.bel.trans (HB2.out.mono HRQ.out.bel.size)) (Nat.le_trans HRQ.out.bel.size HB2.out.size) (by rw [hs1]; have := HLN.out; omega) ?_; intro v6n w3 ho3 hb3 hg3 hat3; have hrw2 := HRQ.out.below HB2.out; have HRW3 := Aside0.mk (hrw2.pushNext hs1 hs2 hs3 hg3 hat3 hb3 HC2.out HRD2.out ho3); have HRD3 := Aside0.mk (HRD2.out.grown hg3 hrw2.next.typed); have HM3 := Aside0.mk ((HMm.out.below HB2.out).grown hg3 hrw2.next.typed); have HO3 := Aside0.mk (Kd.R_over' HO2.out hrw2.next.typed (fun q hq => by simp [Kd.int, Kd.scalar] at hq; subst hq; decide) hg3); clear hs1 hs2 hs3 ho3 hb3 hg3 hat3 hrw2)
         | ((with_reducible refine gt_load 89 ?_); refine st_loadRow rfl 89 _ rfl rfl (HRW3.out.row (g := g4) (List.mem_cons_of_mem _ (List.mem_cons_self ..))) agg89 (evenL_length 1 (S : Int) (by omega)) ?_)
         | (go_at_call 62; refine (goodFirst_calls A2 c2 x S _ HRD3.out.C HC2.out HPN.out (by omega) (by omega)).mono ?_; rw [HGD.out]; rintro e w4 ⟨v4, rfl, hb4⟩; have HB4 := Aside0.mk hb4; clear hb4))
        go_roundw
        case rel => exact ⟨q + 1, by omega, by go_num, ⟨by
         have h9 := (HRW3.out.below HB4.out).renew
         rw [HKS.out, ← List.append_assoc, HFS.out, HGD.out, if_neg (by simp), List.append_nil]
         exact h9⟩, ⟨HM3.out.below HB4.out⟩⟩
        case measure => simp [intOf]; omega
      ·have HQ := Aside0.mk (show q = K by omega)
       go_wp2_with fail
       go_roundw
       case rel => exact ⟨p + 1, by omega, by go_num, ⟨by
        have h9 := HRQ.out
        rw [HQ.out, ← HPS.out] at h9
        exact h9⟩⟩
       case measure => simp [intOf]; omega
    ·have HP := Aside0.mk (show p = ls.length by omega)
     go_wp2_with fail
     go_roundw
     case rel => exact ⟨i + 1, by omega, by go_num, ⟨by
      have h9 := HRM.out.two
      rw [HP.out, List.take_length, ← HLS.out, ← HOS.out] at h9
      exact h9⟩⟩
     case measure => simp [intOf]; omega
  ·have HI := Aside0.mk (show i = L by omega)
   go_wp2_with fail
   go_ret
   exact ⟨_, rfl, by rw [← HI.out]; exact Kd.S_mono HR2.out.out fun _ _ => trivial, HR2.out.bel⟩
end Go.Proofs.YtdgecgfgekmhcaaDoor.Arr
namespace Go.Proofs.YtdgecgfgekmhcaaDoor.Arr
open Go.RowKit Go.Proofs.YtdgecgfgekmhcaaDoorW.PrintWords Go.Proofs.YtdgecgfgekmhcaaDoorW.PrintLast Go.Proofs.YtdgecgfgekmhcaaDoorW.PrintMore Go.Proofs.YtdgecgfgekmhcaaDoor.U Go.Proofs.YtdgecgfgekmhcaaDoor.J
set_option linter.unusedVariables false
set_option linter.unusedSimpArgs false
set_option maxHeartbeats 16000000 in
set_option maxRecDepth 100000 in
theorem specMeanings_calls (K L S : Nat) (A3 : Option Addr) (n3 c3 g1 : Nat) (w : World) (hbk : w.heap[g1]? = some (.cells #[.int .i8 (K : Int), .int .i8 (L : Int), .int .i8 (S : Int), .slice A3 n3 c3] 28 (0, 0))) (hK0 : 1 ≤ K) (hK : K ≤ 10) (hL : L ≤ 3) (hS : S ≤ 4) :
  Calls Tryd.prog 48 #[.pointer (some ⟨g1, 0, none⟩)] w fun e w' => ∃ v, e = .returned v ∧ Kd.S kM 53 w' w.heap.size (fun _ => True) v (outL K S L) ∧ Below w.heap.size w w' := by
 have hm := Mem.start w
 have hwS : wrap64 (S : Int) = (S : Int) := w64 (by omega) (by omega)
 have HBK := Aside0.mk hbk
 clear hbk
 go_enter Tryd.func48, Tryd.ntmps48
 go_wp2_with (first
  | ((with_reducible refine gate_dst (N := 12) rfl ?_); refine st_litv rfl (N := 12) (n := 0) rfl hm (cs := #[]) (e := 53) ?hr12 ?_; (case hr12 => first | (go_simp; done) | (go_simp; rfl)); clear hm; intro g12 w12 hm)
  | ((with_reducible refine gate_dst (N := 13) rfl ?_); refine st_litv rfl (N := 13) (n := 0) rfl hm (cs := #[]) (e := 22) ?hr13 ?_; (case hr13 => first | (go_simp; done) | (go_simp; rfl)); clear hm; intro g13 w13 hm)
  | ((with_reducible refine gate_dst (N := 14) rfl ?_); refine st_litv rfl (N := 14) (n := 1) rfl hm (cs := #[.slice (some ⟨g13, 0, none⟩) 0 0]) (e := 53) ?hr14 ?_; (case hr14 => first | (go_simp; done) | (go_simp; rfl)); clear hm; intro g14 w14 hm))
 have h12 := hm.mem (n := 2) rfl
 have h14 := hm.mem (n := 0) rfl
 have o12 := hm.own_ge 2 rfl
 have o14 := hm.own_ge 0 rfl
 have n12 := hm.ne 2 0 (by decide) rfl rfl
 have HR0 : Aside0 (Rows2 w [(g1, #[.int .i8 (K : Int), .int .i8 (L : Int), .int .i8 (S : Int), .slice A3 n3 c3], 28)] w14 (.slice (some ⟨g12, 0, none⟩) 0 0) (.slice (some ⟨g14, 0, none⟩) 1 1) [] [[]]) := ⟨S_block0 h12 o12 ⟨by simp [Value.ownBlock]; exact n12, lt_of_some h12⟩, Ls_block1 h14 o14, fun b hb => by
  rw [List.mem_singleton] at hb
  subst hb
  exact ⟨((hm.done rfl).block _ (lt_of_some HBK.out)).trans HBK.out, ne27⟩, hm.done rfl⟩
 clear h12 h14 o12 o14 n12 hm
 go_loopw [5, 3, 4, 6, 7, 8, 9, 10, 11] (fun v5 v3 v4 _ _ _ _ _ _ wr => ∃ i : Nat, i ≤ L ∧ v5 = .int .i8 ((i : Int) + 1) ∧ Aside0 (Rows2 w [(g1, #[.int .i8 (K : Int), .int .i8 (L : Int), .int .i8 (S : Int), .slice A3 n3 c3], 28)] wr v3 v4 (outL K S i) (lastL K i))) (fun v5 _ _ _ _ _ _ _ _ _ => L + 1 - (intOf v5).toNat)
 case atStart => exact ⟨0, by omega, by simp, HR0⟩
 case round =>
  clear HR0
  obtain ⟨i, hi, rfl, HR2⟩ := hrel
  obtain ⟨wo, rfl⟩ : ∃ wo : World, wo = wr := ⟨_, rfl⟩
  have hcL := HR2.out.cell (g := g1) (List.mem_cons_self ..) 1
  simp only [List.getElem?_toArray, List.getElem?_cons_zero, List.getElem?_cons_succ] at hcL
  by_cases hlt : i < L
  ·have HMEM := Aside0.mk (lastL_mem K i)
   have hll := lastL_le2 K hK i (by omega)
   have hdL := decide_eq_true (show (i : Int) + 1 ≤ (L : Int) by omega)
   have HOL := Aside0.mk (outL_le K S hK i (by omega))
   have HOS := Aside0.mk (show outL K S (i + 1) = outL K S i ++ (lastL K (i + 1)).filter (goodM S) from rfl)
   have HLS := Aside0.mk (show lastL K (i + 1) = (lastL K i).flatMap (fun m => kidsTo m K) from rfl)
   have HR3 := Aside0.mk HR2.out.three.renew
   obtain ⟨A5, c5, rfl, hc5⟩ := HR2.out.last.slice
   have hwi : IntKind.i8.wrap (((i : Int) + 1) + 1) = ((i : Int) + 1) + 1 := i8w (by omega) (by omega)
   generalize lastL K i = ls at *
   generalize outL K S i = os at *
   go_wp2_with fail
   go_loopw [7, 3, 6, 8, 9, 10, 11] (fun v7 v3 v6 _ _ _ _ wr => ∃ p : Nat, p ≤ ls.length ∧ v7 = .int .i64 p ∧ Aside0 (Rows w wr.heap.size [(g1, #[.int .i8 (K : Int), .int .i8 (L : Int), .int .i8 (S : Int), .slice A3 n3 c3], 28)] wr v3 (.slice A5 ls.length c5) v6 (os ++ ((ls.take p).flatMap (fun m => kidsTo m K)).filter (goodM S)) ls ((ls.take p).flatMap (fun m => kidsTo m K)))) (fun v7 _ _ _ _ _ _ _ => ls.length - (intOf v7).toNat)
   case atStart => exact ⟨0, by omega, rfl, ⟨by simpa using HR3.out⟩⟩
   case round =>
    clear HR3
    obtain ⟨p, hp, rfl, HRM⟩ := hrel
    obtain ⟨wm, rfl⟩ : ∃ wm : World, wm = wr := ⟨_, rfl⟩
    by_cases hlt2 : p < ls.length
    ·have HPS := Aside0.mk (flat_take_succ ls K p hlt2)
     have hpl := flat_len K (ls.take p)
     have HMX := Aside0.mk (HMEM.out ls[p] (List.getElem_mem hlt2))
     have hml : ls[p].length = i := HMX.out.1
     have HPL : Aside0 (((ls.take p).flatMap fun m => kidsTo m K).length ≤ 1000) := ⟨by
      rw [hpl, List.length_take]
      have : min p ls.length * K ≤ 100 * 10 := Nat.mul_le_mul (by omega) hK
      omega⟩
     clear hpl
     have hml2 : ls[p].length ≤ 3 := by omega
     clear hml
     generalize hmq : ls[p] = m at *
     have HMQ := Aside0.mk hmq
     clear hmq
     generalize (ls.take p).flatMap (fun m => kidsTo m K) = pre at *
     go_wp2_with fail
     go_loopw [8, 3, 6, 9, 10, 11] (fun v8 v3 v6 _ _ _ wr => ∃ q : Nat, q ≤ K ∧ v8 = .int .i8 q ∧ Aside0 (Rows w wr.heap.size [(g1, #[.int .i8 (K : Int), .int .i8 (L : Int), .int .i8 (S : Int), .slice A3 n3 c3], 28)] wr v3 (.slice A5 ls.length c5) v6 (os ++ (pre ++ kidsTo m q).filter (goodM S)) ls (pre ++ kidsTo m q))) (fun v8 _ _ _ _ _ _ => K - (intOf v8).toNat)
     case atStart => exact ⟨0, by omega, rfl, ⟨by simpa [kidsTo] using HRM.out⟩⟩
     case round =>
      clear HRM
      obtain ⟨q, hq, rfl, HRQ⟩ := hrel
      have hcKq := HRQ.out.cell (g := g1) (List.mem_cons_self ..) 0
      simp only [List.getElem?_toArray, List.getElem?_cons_zero, List.getElem?_cons_succ] at hcKq
      obtain ⟨ad, c6, Am, cm, e5, hcell, hcm, hrd⟩ := HRQ.out.last.at_ p hlt2
      cases e5
      rw [HMQ.out] at hcell hcm hrd
      have HMm := Aside0.mk hrd
      have HMc := Aside0.mk hcm
      have HCELL := Aside0.mk hcell
      have HKB := Aside0.mk (HRQ.out.row (g := g1) (List.mem_cons_self ..))
      clear hcell hcm hrd
      by_cases hlt3 : q < K
      ·have hwq : IntKind.i8.wrap ((q : Int) + 1) = (q : Int) + 1 := i8w (by omega) (by omega)
       have HKS := Aside0.mk (kidsTo_succ m q)
       have HLN : Aside0 ((pre ++ kidsTo m q).length ≤ 1010) := ⟨by rw [List.length_append, kidsTo_len]; have := HPL.out; omega⟩
       have HLO : Aside0 ((os ++ (pre ++ kidsTo m q).filter (goodM S)).length ≤ 4010) := ⟨by rw [List.length_append]; have := List.length_filter_le (goodM S) (pre ++ kidsTo m q); have := HLN.out; have := HOL.out; omega⟩
       have HPN := Aside0.mk (plain_snoc HMX.out.2 hK hlt3)
       have HWN := Aside0.mk HRQ.out.bel.size
       have HSM : Aside0 (Small8 (m ++ [(q : Int)])) := ⟨by rw [snoc_len]; omega, fun y hy => by have := HPN.out y hy; unfold PlainN at this; omega⟩
       have HCC := Aside0.mk (hoistW_flags S (flags_snoc HMX.out.2 hK hlt3) (by rw [snoc_len]; omega) (by rw [snoc_len]; omega) hS)
       have hxl : (m ++ [(q : Int)]).length ≤ 4 := by rw [snoc_len]; omega
       generalize hx : m ++ [(q : Int)] = x at *
       have HX := Aside0.mk hx
       clear hx
       cases hg : goodM S x with
       | true =>
        have HGD := Aside0.mk hg
        rw [hg] at HCC
        have HCD : Aside0 ((hoistW x 1 (S : Int)).2 = 0) := ⟨HCC.out⟩
        have HFS := Aside0.mk (filter_snoc (goodM S) (pre ++ kidsTo m q) x)
        clear hg
        go_wp2_with (first
         | ((with_reducible refine gate_dst (N := 38) rfl ?_); refine Kd.R_lit (Kd.int .i8) wr.heap.size 22 ?hg (N := 38) ?hd (xs := ([] : List Int)) (inner := []) (ok := fun _ => True) (okp := fun _ => True) ?hr ?hp (fun _ hk => hk) trivial (Below.refl _ _) (Nat.le_refl _) (by simp) ?_; (case hd => rfl); (case hg => rfl); (case hr => first | (go_simp; done) | (go_simp; rfl)); (case hp => exact (Reps.none _ _)); intro v0 w0 ho0 hb0 _ _; have HO0 := Aside0.mk ho0; have HB0 := Aside0.mk hb0; have hcA := (hb0.cell (World.block_lt_of_cell? wr _ HCELL.out)).trans HCELL.out; clear ho0 hb0)
         | ((with_reducible refine gate_builtin (b := .append) (xs := #[.tmp 38, .tmp 42]) rfl ?_); at_builtin; refine Kd.R_append_rows (Kd.int .i8) (w0 := wr) wr.heap.size rfl (.tmp 38) (.tmp 42) 53 22 (.int .i8 0) 1 rfl Tryd.underlying53 infoI8 rfl (by decide) (by omega) v0 [] m Am m.length cm (fun _ => True) (fun _ => False) rfl rfl HO0.out (HMm.out.below HB0.out).C (fun _ _ h => h) (fun _ h => h.elim) (fun _ _ => trivial) HB0.out HB0.out.size (by simp; omega) ?_; intro v1 w1 ho1 hb1 _ _; have HO1 := Aside0.mk ho1; have HB1 := Aside0.mk hb1; clear ho1 hb1)
         | ((with_reducible refine gate_builtin (b := .append) (xs := #[.tmp 43, .tmp 45]) rfl ?_); at_builtin; refine Kd.R_append (Kd.int .i8) (w0 := wr) wr.heap.size rfl (.tmp 43) (.tmp 45) 53 22 (.int .i8 0) 1 rfl Tryd.underlying53 infoI8 rfl (by decide) (by omega) v1 m (q : Int) [.int .i8 (q : Int)] (fun _ => True) (fun _ => False) rfl rfl rfl (fun _ hk => hk.elim) (fun _ _ => trivial) HO1.out HB1.out HB1.out.size (by omega) ?_; intro v2 w2 ho2 hb2 hg2 hat2; rw [HX.out] at ho2; obtain ⟨A2, c2, rfl, hc2, hrd2⟩ := RdI.of_own ho2 (by omega); have HO2 := Aside0.mk ho2; have HB2 := Aside0.mk hb2; have HC2 := Aside0.mk hc2; have HRD2 := Aside0.mk hrd2; clear ho2 hb2 hg2 hat2 hc2 hrd2)
         | (((with_reducible refine gate_builtin (b := .append) (xs := #[.tmp 47, .tmp 49]) rfl ?_); at_builtin; obtain ⟨ss, hs1, hs2, hs3⟩ := (HRQ.out.below HB2.out).next; refine Kd.R_append kdH (w0 := w) w.heap.size rfl (.tmp 47) (.tmp 49) 70 53 (.slice none 0 0) 24 rfl Tryd.underlying70 infoM rfl (by decide) (by decide) u6 ss (A2, x.length, c2) [.slice A2 x.length c2] (fun _ => True) (fun _ => False) rfl rfl rfl (fun _ hk => hk.elim) (fun _ _ => trivial) hs2 (HRQ.out.bel.trans (HB2.out.mono HRQ.out.bel.size)) (Nat.le_trans HRQ.out.bel.size HB2.out.size) (by rw [hs1]; have := HLN.out; omega) ?_; intro v6n w3 ho3 hb3 hg3 hat3; have hrw2 := HRQ.out.below HB2.out; have HRW3 := Aside0.mk (hrw2.pushNext hs1 hs2 hs3 hg3 hat3 hb3 HC2.out HRD2.out ho3); have HRD3 := Aside0.mk (HRD2.out.grown hg3 hrw2.next.typed); have HM3 := Aside0.mk ((HMm.out.below HB2.out).grown hg3 hrw2.next.typed); have HO3 := Aside0.mk (Kd.R_over' HO2.out hrw2.next.typed (fun q hq => by simp [Kd.int, Kd.scalar] at hq; subst hq; decide) hg3); clear hs1 hs2 hs3 ho3 hb3 hg3 hat3 hrw2); have hcS := HRW3.out.cell (g := g1) (List.mem_cons_self ..) 2; simp only [List.getElem?_toArray, List.getElem?_cons_zero, List.getElem?_cons_succ] at hcS)
         | (go_at_call 31; refine (specHoistFor_calls A2 c2 x 1 (S : Int) _ HRD3.out.C HC2.out HSM.out).mono ?_; rw [HCD.out]; rintro e w4 ⟨v4, rfl, _, hb4⟩; have HB4 := Aside0.mk hb4; clear hb4)
         | ((with_reducible refine gate_builtin (b := .append) (xs := #[.tmp 63, .tmp 65]) rfl ?_); at_builtin; obtain ⟨hp1, hp2, hp3, hp4⟩ := (HRW3.out.below HB4.out).give (own_later HO3.out (FrB.below (B := []) HB4.out) (by simp)) HWN.out; refine Kd.S_append kM (w0 := w) w.heap.size rfl (.tmp 63) (.tmp 65) 70 53 (.slice none 0 0) 24 rfl Tryd.underlying70 infoM rfl (by decide) (by decide) u3 _ x [.slice A2 x.length c2] _ _ rfl rfl hp1 hp2 hp3 hp4 (HRW3.out.below HB4.out).bel (HRW3.out.below HB4.out).bel.size (by have := HLO.out; omega) ?_; intro v3n w5 ho5 hb5 hg5 hat5; have HRW5 := Aside0.mk ((HRW3.out.below HB4.out).pushOut hg5 hb5 ho5); have HM5 := Aside0.mk ((HM3.out.below HB4.out).grown hg5 (Kd.S_typed (HRW3.out.below HB4.out).out)); clear hp1 hp2 hp3 hp4 ho5 hb5 hg5 hat5))
        go_roundw
        case rel => exact ⟨q + 1, by omega, by go_num, ⟨by
         have h9 := HRW5.out
         rw [HKS.out, ← List.append_assoc, HFS.out, HGD.out, if_pos rfl, ← List.append_assoc]
         exact h9⟩⟩
        case measure => simp [intOf]; omega
       | false =>
        have HGD := Aside0.mk hg
        rw [hg] at HCC
        have HCD : Aside0 ((hoistW x 1 (S : Int)).2 = 6) := ⟨HCC.out⟩
        have HFS := Aside0.mk (filter_snoc (goodM S) (pre ++ kidsTo m q) x)
        clear hg
        go_wp2_with (first
         | ((with_reducible refine gate_dst (N := 38) rfl ?_); refine Kd.R_lit (Kd.int .i8) wr.heap.size 22 ?hg (N := 38) ?hd (xs := ([] : List Int)) (inner := []) (ok := fun _ => True) (okp := fun _ => True) ?hr ?hp (fun _ hk => hk) trivial (Below.refl _ _) (Nat.le_refl _) (by simp) ?_; (case hd => rfl); (case hg => rfl); (case hr => first | (go_simp; done) | (go_simp; rfl)); (case hp => exact (Reps.none _ _)); intro v0 w0 ho0 hb0 _ _; have HO0 := Aside0.mk ho0; have HB0 := Aside0.mk hb0; have hcA := (hb0.cell (World.block_lt_of_cell? wr _ HCELL.out)).trans HCELL.out; clear ho0 hb0)
         | ((with_reducible refine gate_builtin (b := .append) (xs := #[.tmp 38, .tmp 42]) rfl ?_); at_builtin; refine Kd.R_append_rows (Kd.int .i8) (w0 := wr) wr.heap.size rfl (.tmp 38) (.tmp 42) 53 22 (.int .i8 0) 1 rfl Tryd.underlying53 infoI8 rfl (by decide) (by omega) v0 [] m Am m.length cm (fun _ => True) (fun _ => False) rfl rfl HO0.out (HMm.out.below HB0.out).C (fun _ _ h => h) (fun _ h => h.elim) (fun _ _ => trivial) HB0.out HB0.out.size (by simp; omega) ?_; intro v1 w1 ho1 hb1 _ _; have HO1 := Aside0.mk ho1; have HB1 := Aside0.mk hb1; clear ho1 hb1)
         | ((with_reducible refine gate_builtin (b := .append) (xs := #[.tmp 43, .tmp 45]) rfl ?_); at_builtin; refine Kd.R_append (Kd.int .i8) (w0 := wr) wr.heap.size rfl (.tmp 43) (.tmp 45) 53 22 (.int .i8 0) 1 rfl Tryd.underlying53 infoI8 rfl (by decide) (by omega) v1 m (q : Int) [.int .i8 (q : Int)] (fun _ => True) (fun _ => False) rfl rfl rfl (fun _ hk => hk.elim) (fun _ _ => trivial) HO1.out HB1.out HB1.out.size (by omega) ?_; intro v2 w2 ho2 hb2 hg2 hat2; rw [HX.out] at ho2; obtain ⟨A2, c2, rfl, hc2, hrd2⟩ := RdI.of_own ho2 (by omega); have HO2 := Aside0.mk ho2; have HB2 := Aside0.mk hb2; have HC2 := Aside0.mk hc2; have HRD2 := Aside0.mk hrd2; clear ho2 hb2 hg2 hat2 hc2 hrd2)
         | (((with_reducible refine gate_builtin (b := .append) (xs := #[.tmp 47, .tmp 49]) rfl ?_); at_builtin; obtain ⟨ss, hs1, hs2, hs3⟩ := (HRQ.out.below HB2.out).next; refine Kd.R_append kdH (w0 := w) w.heap.size rfl (.tmp 47) (.tmp 49) 70 53 (.slice none 0 0) 24 rfl Tryd.underlying70 infoM rfl (by decide) (by decide) u6 ss (A2, x.length, c2) [.slice A2 x.length c2] (fun _ => True) (fun _ => False) rfl rfl rfl (fun _ hk => hk.elim) (fun _ _ => trivial) hs2 (HRQ.out.bel.trans (HB2.out.mono HRQ.out.bel.size)) (Nat.le_trans HRQ.out.bel.size HB2.out.size) (by rw [hs1]; have := HLN.out; omega) ?_; intro v6n w3 ho3 hb3 hg3 hat3; have hrw2 := HRQ.out.below HB2.out; have HRW3 := Aside0.mk (hrw2.pushNext hs1 hs2 hs3 hg3 hat3 hb3 HC2.out HRD2.out ho3); have HRD3 := Aside0.mk (HRD2.out.grown hg3 hrw2.next.typed); have HM3 := Aside0.mk ((HMm.out.below HB2.out).grown hg3 hrw2.next.typed); have HO3 := Aside0.mk (Kd.R_over' HO2.out hrw2.next.typed (fun q hq => by simp [Kd.int, Kd.scalar] at hq; subst hq; decide) hg3); clear hs1 hs2 hs3 ho3 hb3 hg3 hat3 hrw2); have hcS := HRW3.out.cell (g := g1) (List.mem_cons_self ..) 2; simp only [List.getElem?_toArray, List.getElem?_cons_zero, List.getElem?_cons_succ] at hcS)
         | (go_at_call 31; refine (specHoistFor_calls A2 c2 x 1 (S : Int) _ HRD3.out.C HC2.out HSM.out).mono ?_; rw [HCD.out]; rintro e w4 ⟨v4, rfl, _, hb4⟩; have HB4 := Aside0.mk hb4; clear hb4))
        go_roundw
        case rel => exact ⟨q + 1, by omega, by go_num, ⟨by
         have h9 := (HRW3.out.below HB4.out).renew
         rw [HKS.out, ← List.append_assoc, HFS.out, HGD.out, if_neg (by simp), List.append_nil]
         exact h9⟩⟩
        case measure => simp [intOf]; omega
      ·have HQ := Aside0.mk (show q = K by omega)
       go_wp2_with fail
       go_roundw
       case rel => exact ⟨p + 1, by omega, by go_num, ⟨by
        have h9 := HRQ.out
        rw [HQ.out, ← HPS.out] at h9
        exact h9⟩⟩
       case measure => simp [intOf]; omega
    ·have HP := Aside0.mk (show p = ls.length by omega)
     go_wp2_with fail
     go_roundw
     case rel => exact ⟨i + 1, by omega, by go_num, ⟨by
      have h9 := HRM.out.two
      rw [HP.out, List.take_length, ← HLS.out, ← HOS.out] at h9
      exact h9⟩⟩
     case measure => simp [intOf]; omega
  ·have HI := Aside0.mk (show i = L by omega)
   go_wp2_with fail
   go_ret
   exact ⟨_, rfl, by rw [← HI.out]; exact Kd.S_mono HR2.out.out fun _ _ => trivial, HR2.out.bel⟩
end Go.Proofs.YtdgecgfgekmhcaaDoor.Arr
namespace Go.Proofs.YtdgecgfgekmhcaaDoor.J
open Go.RowKit Go.Proofs.YtdgecgfgekmhcaaDoorW.PrintWords Go.Proofs.YtdgecgfgekmhcaaDoorW.PrintLast Go.Proofs.YtdgecgfgekmhcaaDoorW.PrintMore
attribute [local go_sem] max2_int min2_int max_two min_two max_three min_three max_four min_four
set_option linter.unusedVariables false
set_option linter.unusedSimpArgs false
def IsS28 (w0 W : World) (g : Nat) (f0 : Int) (f1 : Int) (f2 : Int) (f3 : List ByteArray) : Prop := ∃ A3 c3, W.heap[g]? = some (.cells #[.int .i8 f0, .int .i8 f1, .int .i8 f2, .slice A3 f3.length c3] 28 (0, 0)) ∧ w0.heap.size ≤ g ∧ Kd.C Kd.string w0 A3 f3.length f3
theorem IsS28.grown {w0 W : World} {g : Nat} {f0 : Int} {f1 : Int} {f2 : Int} {f3 : List ByteArray} {W1 : World} {row : Option Nat} (h : IsS28 w0 W g f0 f1 f2 f3) (hw : W.grownBy W1 row) (hne : some g ≠ row) : IsS28 w0 W1 g f0 f1 f2 f3 := by
 obtain ⟨A3, c3, hb, hg, hr3⟩ := h
 exact ⟨A3, c3, blk_grown hb hw hne, hg, hr3⟩
theorem IsS28.below {w0 W : World} {g : Nat} {f0 : Int} {f1 : Int} {f2 : Int} {f3 : List ByteArray} {W1 : World} (h : IsS28 w0 W g f0 f1 f2 f3) (hw : Below W.heap.size W W1) : IsS28 w0 W1 g f0 f1 f2 f3 := h.grown (grown_of_below hw none) (by simp)
theorem IsS28.drewN {w0 W : World} {g : Nat} {f0 : Int} {f1 : Int} {f2 : Int} {f3 : List ByteArray} (h : IsS28 w0 W g f0 f1 f2 f3) (m : Nat) : IsS28 w0 (W.drewN m) g f0 f1 f2 f3 := h
theorem IsS28.drew {w0 W : World} {g : Nat} {f0 : Int} {f1 : Int} {f2 : Int} {f3 : List ByteArray} (h : IsS28 w0 W g f0 f1 f2 f3) : IsS28 w0 W.drew g f0 f1 f2 f3 := h
theorem cellS28_0 {W : World} {g : Nat} {A3 : Option Addr} {c3 : Nat} {f0 : Int} {f1 : Int} {f2 : Int} {f3 : List ByteArray} (h : W.heap[g]? = some (.cells #[.int .i8 f0, .int .i8 f1, .int .i8 f2, .slice A3 f3.length c3] 28 (0, 0))) : W.cell? ⟨g, 0, none⟩ = some (.int .i8 f0) := (blk_cell h 0).trans rfl
theorem cellS28_1 {W : World} {g : Nat} {A3 : Option Addr} {c3 : Nat} {f0 : Int} {f1 : Int} {f2 : Int} {f3 : List ByteArray} (h : W.heap[g]? = some (.cells #[.int .i8 f0, .int .i8 f1, .int .i8 f2, .slice A3 f3.length c3] 28 (0, 0))) : W.cell? ⟨g, 1, none⟩ = some (.int .i8 f1) := (blk_cell h 1).trans rfl
theorem cellS28_2 {W : World} {g : Nat} {A3 : Option Addr} {c3 : Nat} {f0 : Int} {f1 : Int} {f2 : Int} {f3 : List ByteArray} (h : W.heap[g]? = some (.cells #[.int .i8 f0, .int .i8 f1, .int .i8 f2, .slice A3 f3.length c3] 28 (0, 0))) : W.cell? ⟨g, 2, none⟩ = some (.int .i8 f2) := (blk_cell h 2).trans rfl
theorem cellS28_3 {W : World} {g : Nat} {A3 : Option Addr} {c3 : Nat} {f0 : Int} {f1 : Int} {f2 : Int} {f3 : List ByteArray} (h : W.heap[g]? = some (.cells #[.int .i8 f0, .int .i8 f1, .int .i8 f2, .slice A3 f3.length c3] 28 (0, 0))) : W.cell? ⟨g, 3, none⟩ = some (.slice A3 f3.length c3) := (blk_cell h 3).trans rfl
theorem IsS28.new (w0 W : World) (A3 : Option Addr) (c3 : Nat) (f0 : Int) (f1 : Int) (f2 : Int) (f3 : List ByteArray) (hB : Below w0.heap.size w0 W) (hr3 : Kd.C Kd.string w0 A3 f3.length f3) : IsS28 w0 (W.alloc (.cells #[.int .i8 f0, .int .i8 f1, .int .i8 f2, .slice A3 f3.length c3] 28)) W.heap.size f0 f1 f2 f3 := ⟨A3, c3, by simpa using heap_alloc_new W _, hB.size, hr3⟩
def spec_l03Find.l0 : Nat → ByteArray → Int → Int → Int → Int → List ByteArray → Option (Int × Int × Int × Int)
 | 0, _, _, _, _, _, _ => none
 | k + 1, x1, x5, x1000, x1001, x1002, x1003 => if x5 < (x1003.length : Int) then (if 0 ≤ x5 then (if (rdOf ByteArray.empty x1003 x5).toList = x1.toList then (some (x5, x1000, x1001, x1002)) else (spec_l03Find.l0 k x1 (wrap64 (x5 + 1)) x1000 x1001 x1002 x1003)) else (none)) else (some ((-1), x1000, x1001, x1002))
def spec_l03Find.f (k : Nat) (s0_0 : Int) (s0_1 : Int) (s0_2 : Int) (s0_3 : List ByteArray) (a1 : ByteArray) : Option (Int × Int × Int × Int) := spec_l03Find.l0 k a1 0 s0_0 s0_1 s0_2 s0_3
set_option maxHeartbeats 8000000 in
set_option maxRecDepth 100000 in
theorem spec_l03Find.calls (k : Nat) (g : Nat) (s0_0 : Int) (s0_1 : Int) (s0_2 : Int) (s0_3 : List ByteArray) (a1 : ByteArray) (r1 : Int) (r2 : Int) (r3 : Int) (r4 : Int) (w0 w : World) (hI : IsS28 w0 w g s0_0 s0_1 s0_2 s0_3) (hB : Below w0.heap.size w0 w) (h : spec_l03Find.f k s0_0 s0_1 s0_2 s0_3 a1 = some (r1, r2, r3, r4)) :
  Calls Tryd.prog 47 #[.pointer (some ⟨g, 0, none⟩), .string a1] w fun e w' => e = .returned (.int .i64 r1) ∧ IsS28 w0 w' g r2 r3 r4 s0_3 ∧ Below w0.heap.size w0 w' ∧ KeepBut w w' g none := by
 have HI0 := Aside0.mk hI
 have HK := Aside0.mk (KeepBut.refl w g none)
 have HL := Aside0.mk hB.size
 clear hI
 have HW0 := Aside0.mk hB.size
 have HB := Aside0.mk hB
 clear hB
 have H : (spec_l03Find.l0 k a1 0 s0_0 s0_1 s0_2 s0_3) = some (r1, r2, r3, r4) := h
 clear h
 have H' := Aside0.mk H
 clear H
 go_enter Tryd.func47, Tryd.ntmps47
 go_wp2
 go_loopg [5] k (fun kq v5 w' => ∃ (x5_1 : Int), v5 = .int .i64 x5_1 ∧ Aside0 (spec_l03Find.l0 kq a1 x5_1 s0_0 s0_1 s0_2 s0_3 = some (r1, r2, r3, r4)) ∧ Aside0 (kq ≤ k) ∧ Aside0 (IsS28 w0 w' g s0_0 s0_1 s0_2 s0_3) ∧ Aside0 (KeepBut w w' g none) ∧ Aside0 (Below w0.heap.size w0 w'))
 case atStart => exact ⟨(0), (by first | rfl | (simp; done) | (simp [*]; done)), H', ⟨Nat.le_refl _⟩, ⟨by repeat (first | (with_reducible first | exact HI0.out | apply IsS28.alloc | apply IsS28.drewN | apply IsS28.drew | apply IsS28.set_0 | apply IsS28.set_1 | apply IsS28.set_2) | exact HI0.out)⟩, ⟨by repeat (first | (with_reducible first | exact HK.out | apply KeepBut.set_ | apply keep_drewN | apply keep_drew | apply keep_alloc) | exact HK.out)⟩, ⟨by repeat (first | (with_reducible first | exact HB.out | apply below_alloc | apply pw_below_drewN | apply below_drew1 | refine below_set ?_ (IsS28.ge HI0.out)) | exact HB.out)⟩⟩
 case round =>
  clear H'
  try clear p2
  obtain ⟨x5_1, rfl, HA, HK1, HI0, HK, HB⟩ := hrel
  cases gk with
  | zero => exact absurd HA.out (by simp [spec_l03Find.l0])
  | succ k1 =>
   have H := HA.out
   clear HA
   simp only [spec_l03Find.l0] at H
   by_cases c3 : x5_1 < (s0_3.length : Int)
   ·rw [if_pos c3] at H
    have c3b0 : decide (x5_1 < (s0_3.length : Int)) = true := decide_eq_true c3
    clear c3
    by_cases c4 : 0 ≤ x5_1
    ·rw [if_pos c4] at H
     have c4b0 : decide (0 ≤ x5_1) = true := decide_eq_true c4
     clear c4
     by_cases c5 : (rdOf ByteArray.empty s0_3 x5_1).toList = a1.toList
     ·rw [if_pos c5] at H
      have c5b0 : ((rdOf ByteArray.empty s0_3 x5_1).toList == a1.toList) = true := beq_iff_eq.mpr c5
      have c5b1 : ((rdOf ByteArray.empty s0_3 x5_1).toList != a1.toList) = false := bne_eq_false_iff_eq.mpr c5
      clear c5
      simp only [Option.some.injEq, Prod.mk.injEq] at H
      obtain ⟨rfl, rfl, rfl, rfl⟩ := H
      obtain ⟨ASz6_3, cSz6_3, HGz6, hgz6, HSz6_3⟩ := HI0.out
      have hcz6_0 := cellS28_0 HGz6
      have hcz6_1 := cellS28_1 HGz6
      have hcz6_2 := cellS28_2 HGz6
      have hcz6_3 := cellS28_3 HGz6
      have hfz6_0 := blk_frozen HGz6 0
      have hfz6_1 := blk_frozen HGz6 1
      have hfz6_2 := blk_frozen HGz6 2
      clear HGz6 hgz6
      have p166 : 0 ≤ (x5_1 : Int) := of_decide_eq_true (by first | (with_reducible assumption) | assumption)
      have q166 : x5_1 < (s0_3.length : Int) := of_decide_eq_true (by first | (with_reducible assumption) | assumption)
      obtain ⟨ad166, e166, hx166_0⟩ := Kd.at_string HSz6_3 x5_1 p166 q166
      cases e166
      replace hx166_0 := pw_cell_below HB.out hx166_0
      replace p166 := eq_true p166
      replace q166 := eq_true q166
      go_wp2
      go_ret
      exact ⟨by first | rfl | (simp [errW_none, errW_some] <;> rfl) | (simp [*, errW_none, errW_some] <;> rfl), by repeat (first | (with_reducible first | exact HI0.out | apply IsS28.alloc | apply IsS28.drewN | apply IsS28.drew | apply IsS28.set_0 | apply IsS28.set_1 | apply IsS28.set_2) | exact HI0.out), by repeat (first | (with_reducible first | exact HB.out | apply below_alloc | apply pw_below_drewN | apply below_drew1 | refine below_set ?_ (IsS28.ge HI0.out)) | exact HB.out), by repeat (first | (with_reducible first | exact HK.out | apply KeepBut.set_ | apply keep_drewN | apply keep_drew | apply keep_alloc) | exact HK.out)⟩
     ·rw [if_neg c5] at H
      have c5b0 : ((rdOf ByteArray.empty s0_3 x5_1).toList == a1.toList) = false := beq_eq_false_iff_ne.mpr c5
      have c5b1 : ((rdOf ByteArray.empty s0_3 x5_1).toList != a1.toList) = true := bne_iff_ne.mpr c5
      have H' := Aside0.mk H
      clear H
      obtain ⟨ASz7_3, cSz7_3, HGz7, hgz7, HSz7_3⟩ := HI0.out
      have hcz7_0 := cellS28_0 HGz7
      have hcz7_1 := cellS28_1 HGz7
      have hcz7_2 := cellS28_2 HGz7
      have hcz7_3 := cellS28_3 HGz7
      have hfz7_0 := blk_frozen HGz7 0
      have hfz7_1 := blk_frozen HGz7 1
      have hfz7_2 := blk_frozen HGz7 2
      clear HGz7 hgz7
      have p166 : 0 ≤ (x5_1 : Int) := of_decide_eq_true (by first | (with_reducible assumption) | assumption)
      have q166 : x5_1 < (s0_3.length : Int) := of_decide_eq_true (by first | (with_reducible assumption) | assumption)
      obtain ⟨ad166, e166, hx166_0⟩ := Kd.at_string HSz7_3 x5_1 p166 q166
      cases e166
      replace hx166_0 := pw_cell_below HB.out hx166_0
      replace p166 := eq_true p166
      replace q166 := eq_true q166
      go_wp2
      go_roundg k1
      case measure => have := HK1.out; omega
      case rel => exact ⟨(wrap64 (x5_1 + 1)), (by first | rfl | (simp; done) | (simp [*]; done)), H', ⟨by have := HK1.out; omega⟩, ⟨by repeat (first | (with_reducible first | exact HI0.out | apply IsS28.alloc | apply IsS28.drewN | apply IsS28.drew | apply IsS28.set_0 | apply IsS28.set_1 | apply IsS28.set_2) | exact HI0.out)⟩, ⟨by repeat (first | (with_reducible first | exact HK.out | apply KeepBut.set_ | apply keep_drewN | apply keep_drew | apply keep_alloc) | exact HK.out)⟩, ⟨by repeat (first | (with_reducible first | exact HB.out | apply below_alloc | apply pw_below_drewN | apply below_drew1 | refine below_set ?_ (IsS28.ge HI0.out)) | exact HB.out)⟩⟩
    ·rw [if_neg c4] at H
     exact absurd H (by simp)
   ·rw [if_neg c3] at H
    have c3b0 : decide (x5_1 < (s0_3.length : Int)) = false := decide_eq_false c3
    clear c3
    simp only [Option.some.injEq, Prod.mk.injEq] at H
    obtain ⟨rfl, rfl, rfl, rfl⟩ := H
    obtain ⟨ASz8_3, cSz8_3, HGz8, hgz8, HSz8_3⟩ := HI0.out
    have hcz8_0 := cellS28_0 HGz8
    have hcz8_1 := cellS28_1 HGz8
    have hcz8_2 := cellS28_2 HGz8
    have hcz8_3 := cellS28_3 HGz8
    have hfz8_0 := blk_frozen HGz8 0
    have hfz8_1 := blk_frozen HGz8 1
    have hfz8_2 := blk_frozen HGz8 2
    clear HGz8 hgz8
    go_wp2
    go_ret
    exact ⟨by first | rfl | (simp [errW_none, errW_some] <;> rfl) | (simp [*, errW_none, errW_some] <;> rfl), by repeat (first | (with_reducible first | exact HI0.out | apply IsS28.alloc | apply IsS28.drewN | apply IsS28.drew | apply IsS28.set_0 | apply IsS28.set_1 | apply IsS28.set_2) | exact HI0.out), by repeat (first | (with_reducible first | exact HB.out | apply below_alloc | apply pw_below_drewN | apply below_drew1 | refine below_set ?_ (IsS28.ge HI0.out)) | exact HB.out), by repeat (first | (with_reducible first | exact HK.out | apply KeepBut.set_ | apply keep_drewN | apply keep_drew | apply keep_alloc) | exact HK.out)⟩
def spec_l03Sized.f (s0_0 : Int) (s0_1 : Int) (s0_2 : Int) (s0_3 : List ByteArray) : Option (Bool × Int × Int × Int) := (spec_l00In.f (wrap64 (s0_0)) 1 10).bind fun t167 => (if t167 = true then ((spec_l00In.f (wrap64 (s0_1)) 1 3).bind fun t168 => (if t168 = true then ((spec_l00In.f (wrap64 (s0_2)) 0 4).bind fun t169 => (some (t169, s0_0, s0_1, s0_2))) else (some (false, s0_0, s0_1, s0_2)))) else (some (false, s0_0, s0_1, s0_2)))
set_option maxHeartbeats 8000000 in
set_option maxRecDepth 100000 in
theorem spec_l03Sized.calls (g : Nat) (s0_0 : Int) (s0_1 : Int) (s0_2 : Int) (s0_3 : List ByteArray) (r1 : Bool) (r2 : Int) (r3 : Int) (r4 : Int) (w0 w : World) (hI : IsS28 w0 w g s0_0 s0_1 s0_2 s0_3) (hB : Below w0.heap.size w0 w) (h : spec_l03Sized.f s0_0 s0_1 s0_2 s0_3 = some (r1, r2, r3, r4)) :
  Calls Tryd.prog 45 #[.pointer (some ⟨g, 0, none⟩)] w fun e w' => e = .returned (.bool r1) ∧ IsS28 w0 w' g r2 r3 r4 s0_3 ∧ Below w0.heap.size w0 w' ∧ KeepBut w w' g none := by
 have HI0 := Aside0.mk hI
 have HK := Aside0.mk (KeepBut.refl w g none)
 have HL := Aside0.mk hB.size
 clear hI
 have HW0 := Aside0.mk hB.size
 have HB := Aside0.mk hB
 clear hB
 have H : ((spec_l00In.f (wrap64 (s0_0)) 1 10).bind fun t167 => (if t167 = true then ((spec_l00In.f (wrap64 (s0_1)) 1 3).bind fun t168 => (if t168 = true then ((spec_l00In.f (wrap64 (s0_2)) 0 4).bind fun t169 => (some (t169, s0_0, s0_1, s0_2))) else (some (false, s0_0, s0_1, s0_2)))) else (some (false, s0_0, s0_1, s0_2)))) = some (r1, r2, r3, r4) := h
 clear h
 replace H := Option.bind_eq_some_iff.mp H
 obtain ⟨t167, A20, H⟩ := H
 replace H : (if t167 = true then ((spec_l00In.f (wrap64 (s0_1)) 1 3).bind fun t168 => (if t168 = true then ((spec_l00In.f (wrap64 (s0_2)) 0 4).bind fun t169 => (some (t169, s0_0, s0_1, s0_2))) else (some (false, s0_0, s0_1, s0_2)))) else (some (false, s0_0, s0_1, s0_2))) = some (r1, r2, r3, r4) := H
 have A2 := Aside0.mk A20
 clear A20
 by_cases c3 : t167 = true
 ·subst c3
  have H1 : ((spec_l00In.f (wrap64 (s0_1)) 1 3).bind fun t168 => (if t168 = true then ((spec_l00In.f (wrap64 (s0_2)) 0 4).bind fun t169 => (some (t169, s0_0, s0_1, s0_2))) else (some (false, s0_0, s0_1, s0_2)))) = some (r1, r2, r3, r4) := by rw [if_pos rfl] at H; exact H
  clear H
  have H := H1
  clear H1
  replace H := Option.bind_eq_some_iff.mp H
  obtain ⟨t168, A40, H⟩ := H
  replace H : (if t168 = true then ((spec_l00In.f (wrap64 (s0_2)) 0 4).bind fun t169 => (some (t169, s0_0, s0_1, s0_2))) else (some (false, s0_0, s0_1, s0_2))) = some (r1, r2, r3, r4) := H
  have A4 := Aside0.mk A40
  clear A40
  by_cases c5 : t168 = true
  ·subst c5
   have H1 : ((spec_l00In.f (wrap64 (s0_2)) 0 4).bind fun t169 => (some (t169, s0_0, s0_1, s0_2))) = some (r1, r2, r3, r4) := by rw [if_pos rfl] at H; exact H
   clear H
   have H := H1
   clear H1
   replace H := Option.bind_eq_some_iff.mp H
   obtain ⟨t169, A60, H⟩ := H
   replace H : (some (t169, s0_0, s0_1, s0_2)) = some (r1, r2, r3, r4) := H
   have A6 := Aside0.mk A60
   clear A60
   simp only [Option.some.injEq, Prod.mk.injEq] at H
   obtain ⟨rfl, rfl, rfl, rfl⟩ := H
   obtain ⟨ASz7_3, cSz7_3, HGz7, hgz7, HSz7_3⟩ := HI0.out
   have hcz7_0 := cellS28_0 HGz7
   have hcz7_1 := cellS28_1 HGz7
   have hcz7_2 := cellS28_2 HGz7
   have hcz7_3 := cellS28_3 HGz7
   have hfz7_0 := blk_frozen HGz7 0
   have hfz7_1 := blk_frozen HGz7 1
   have hfz7_2 := blk_frozen HGz7 2
   clear HGz7 hgz7
   go_enter Tryd.func45, Tryd.ntmps45
   go_wp2_with (first | ((with_reducible refine gate_callee (f := 27) rfl ?_); refine goesL_ (some 8) rfl rfl Tryd.func27 (by kernel_rfl) rfl #[.int .i64 (wrap64 (s0_0)), .int .i64 1, .int .i64 10] rfl (by (try simp only [List.map_toArray, List.map_cons, List.map_nil]); first | done | rfl | (simp only [List.length_drop, List.length_take]; rfl)) ?_; (with_reducible refine (spec_l00In.calls (wrap64 (s0_0)) 1 10 true _ A2.out).mono ?_); rintro e w' ⟨rfl, ⟨nd, rfl⟩⟩; refine ⟨_, rfl, ?_⟩) | (go_at_call 27; (with_reducible refine (spec_l00In.calls (wrap64 (s0_1)) 1 3 true _ A4.out).mono ?_); rintro e w' ⟨rfl, ⟨nd, rfl⟩⟩) | (go_at_call 27; (with_reducible refine (spec_l00In.calls (wrap64 (s0_2)) 0 4 t169 _ A6.out).mono ?_); rintro e w' ⟨rfl, ⟨nd, rfl⟩⟩))
   go_ret
   exact ⟨by first | rfl | (simp [errW_none, errW_some] <;> rfl) | (simp [*, errW_none, errW_some] <;> rfl), by repeat (first | (with_reducible first | exact HI0.out | apply IsS28.alloc | apply IsS28.drewN | apply IsS28.drew | apply IsS28.set_0 | apply IsS28.set_1 | apply IsS28.set_2) | exact HI0.out), by repeat (first | (with_reducible first | exact HB.out | apply below_alloc | apply pw_below_drewN | apply below_drew1 | refine below_set ?_ (IsS28.ge HI0.out)) | exact HB.out), by repeat (first | (with_reducible first | exact HK.out | apply KeepBut.set_ | apply keep_drewN | apply keep_drew | apply keep_alloc) | exact HK.out)⟩
  ·replace c5 := Bool.eq_false_iff.mpr c5
   subst c5
   have H1 : (some (false, s0_0, s0_1, s0_2)) = some (r1, r2, r3, r4) := by rw [if_neg (show ¬ (false = true) by decide)] at H; exact H
   clear H
   have H := H1
   clear H1
   simp only [Option.some.injEq, Prod.mk.injEq] at H
   obtain ⟨rfl, rfl, rfl, rfl⟩ := H
   obtain ⟨ASz8_3, cSz8_3, HGz8, hgz8, HSz8_3⟩ := HI0.out
   have hcz8_0 := cellS28_0 HGz8
   have hcz8_1 := cellS28_1 HGz8
   have hcz8_2 := cellS28_2 HGz8
   have hcz8_3 := cellS28_3 HGz8
   have hfz8_0 := blk_frozen HGz8 0
   have hfz8_1 := blk_frozen HGz8 1
   have hfz8_2 := blk_frozen HGz8 2
   clear HGz8 hgz8
   go_enter Tryd.func45, Tryd.ntmps45
   go_wp2_with (first | ((with_reducible refine gate_callee (f := 27) rfl ?_); refine goesL_ (some 8) rfl rfl Tryd.func27 (by kernel_rfl) rfl #[.int .i64 (wrap64 (s0_0)), .int .i64 1, .int .i64 10] rfl (by (try simp only [List.map_toArray, List.map_cons, List.map_nil]); first | done | rfl | (simp only [List.length_drop, List.length_take]; rfl)) ?_; (with_reducible refine (spec_l00In.calls (wrap64 (s0_0)) 1 10 true _ A2.out).mono ?_); rintro e w' ⟨rfl, ⟨nd, rfl⟩⟩; refine ⟨_, rfl, ?_⟩) | (go_at_call 27; (with_reducible refine (spec_l00In.calls (wrap64 (s0_1)) 1 3 false _ A4.out).mono ?_); rintro e w' ⟨rfl, ⟨nd, rfl⟩⟩))
   go_ret
   exact ⟨by first | rfl | (simp [errW_none, errW_some] <;> rfl) | (simp [*, errW_none, errW_some] <;> rfl), by repeat (first | (with_reducible first | exact HI0.out | apply IsS28.alloc | apply IsS28.drewN | apply IsS28.drew | apply IsS28.set_0 | apply IsS28.set_1 | apply IsS28.set_2) | exact HI0.out), by repeat (first | (with_reducible first | exact HB.out | apply below_alloc | apply pw_below_drewN | apply below_drew1 | refine below_set ?_ (IsS28.ge HI0.out)) | exact HB.out), by repeat (first | (with_reducible first | exact HK.out | apply KeepBut.set_ | apply keep_drewN | apply keep_drew | apply keep_alloc) | exact HK.out)⟩
 ·replace c3 := Bool.eq_false_iff.mpr c3
  subst c3
  have H1 : (some (false, s0_0, s0_1, s0_2)) = some (r1, r2, r3, r4) := by rw [if_neg (show ¬ (false = true) by decide)] at H; exact H
  clear H
  have H := H1
  clear H1
  simp only [Option.some.injEq, Prod.mk.injEq] at H
  obtain ⟨rfl, rfl, rfl, rfl⟩ := H
  obtain ⟨ASz9_3, cSz9_3, HGz9, hgz9, HSz9_3⟩ := HI0.out
  have hcz9_0 := cellS28_0 HGz9
  have hcz9_1 := cellS28_1 HGz9
  have hcz9_2 := cellS28_2 HGz9
  have hcz9_3 := cellS28_3 HGz9
  have hfz9_0 := blk_frozen HGz9 0
  have hfz9_1 := blk_frozen HGz9 1
  have hfz9_2 := blk_frozen HGz9 2
  clear HGz9 hgz9
  go_enter Tryd.func45, Tryd.ntmps45
  go_wp2_with (first | ((with_reducible refine gate_callee (f := 27) rfl ?_); refine goesL_ (some 8) rfl rfl Tryd.func27 (by kernel_rfl) rfl #[.int .i64 (wrap64 (s0_0)), .int .i64 1, .int .i64 10] rfl (by (try simp only [List.map_toArray, List.map_cons, List.map_nil]); first | done | rfl | (simp only [List.length_drop, List.length_take]; rfl)) ?_; (with_reducible refine (spec_l00In.calls (wrap64 (s0_0)) 1 10 false _ A2.out).mono ?_); rintro e w' ⟨rfl, ⟨nd, rfl⟩⟩; refine ⟨_, rfl, ?_⟩))
  go_ret
  exact ⟨by first | rfl | (simp [errW_none, errW_some] <;> rfl) | (simp [*, errW_none, errW_some] <;> rfl), by repeat (first | (with_reducible first | exact HI0.out | apply IsS28.alloc | apply IsS28.drewN | apply IsS28.drew | apply IsS28.set_0 | apply IsS28.set_1 | apply IsS28.set_2) | exact HI0.out), by repeat (first | (with_reducible first | exact HB.out | apply below_alloc | apply pw_below_drewN | apply below_drew1 | refine below_set ?_ (IsS28.ge HI0.out)) | exact HB.out), by repeat (first | (with_reducible first | exact HK.out | apply KeepBut.set_ | apply keep_drewN | apply keep_drew | apply keep_alloc) | exact HK.out)⟩
def impl_isPhrase.l0 : Nat → ByteArray → Int → Int → Option (Bool)
 | 0, _, _, _ => none
 | k + 1, x0, x5, x6 => if x6 < x5 then (if 0 ≤ x6 then (if x6 < (x0.size : Int) then (if (bt x0 x6) < 32 then (some false) else (if (bt x0 x6) > 126 then (some false) else (impl_isPhrase.l0 k x0 x5 (wrap64 (x6 + 1))))) else (none)) else (none)) else ((impl_within.f (x0.size : Int) 1 40).bind fun t170 => (some t170))
def impl_isPhrase.f (k : Nat) (a0 : ByteArray) : Option (Bool) := impl_isPhrase.l0 k a0 (a0.size : Int) 0
set_option maxHeartbeats 8000000 in
set_option maxRecDepth 100000 in
theorem impl_isPhrase.calls (k : Nat) (a0 : ByteArray) (r : Bool) (w : World) (h : impl_isPhrase.f k a0 = some r) :
  Calls Tryd.prog 52 #[.string a0] w fun e w' => e = .returned (.bool r) ∧ Drawn0 w w' := by
 have H : (impl_isPhrase.l0 k a0 (a0.size : Int) 0) = some r := h
 clear h
 have H' := Aside0.mk H
 clear H
 go_enter Tryd.func52, Tryd.ntmps52
 go_wp2
 go_loopg [6] k (fun kq v6 w' => ∃ (x6_1 : Int), v6 = .int .i64 x6_1 ∧ Aside0 (impl_isPhrase.l0 kq a0 (a0.size : Int) x6_1 = some r) ∧ Aside0 (kq ≤ k) ∧ Drawn0 w w')
 case atStart => exact ⟨(0), (by first | rfl | (simp; done) | (simp [*]; done)), H', ⟨Nat.le_refl _⟩, by repeat (first | exact Drawn0.refl _ | apply Drawn0.step)⟩
 case round =>
  clear H'
  obtain ⟨x6_1, rfl, HA, HK1, ⟨m1, rfl⟩⟩ := hrel
  cases gk with
  | zero => exact absurd HA.out (by simp [impl_isPhrase.l0])
  | succ k1 =>
   have H := HA.out
   clear HA
   simp only [impl_isPhrase.l0] at H
   by_cases c2 : x6_1 < (a0.size : Int)
   ·rw [if_pos c2] at H
    have c2b0 : decide (x6_1 < (a0.size : Int)) = true := decide_eq_true c2
    clear c2
    by_cases c3 : 0 ≤ x6_1
    ·rw [if_pos c3] at H
     have c3b0 : decide (0 ≤ x6_1) = true := decide_eq_true c3
     clear c3
     by_cases c4 : x6_1 < (a0.size : Int)
     ·rw [if_pos c4] at H
      have c4b0 : decide (x6_1 < (a0.size : Int)) = true := decide_eq_true c4
      clear c4
      by_cases c6 : (bt a0 x6_1) < 32
      ·rw [if_pos c6] at H
       have c6b0 : decide ((bt a0 x6_1) < 32) = true := decide_eq_true c6
       clear c6
       obtain rfl := Option.some.inj H
       have p5 : 0 ≤ (x6_1 : Int) := of_decide_eq_true (by first | (with_reducible assumption) | assumption)
       have q5 : x6_1 < (a0.size : Int) := of_decide_eq_true (by first | (with_reducible assumption) | assumption)
       have hx5 := bt_at a0 x6_1
       replace p5 := eq_true p5
       replace q5 := eq_true q5
       go_wp2
       go_ret
       exact ⟨by first | rfl | (simp; done) | (simp [*]; done), by repeat (first | exact Drawn0.refl _ | apply Drawn0.step)⟩
      ·rw [if_neg c6] at H
       have c6b0 : decide ((bt a0 x6_1) < 32) = false := decide_eq_false c6
       clear c6
       by_cases c8 : (bt a0 x6_1) > 126
       ·rw [if_pos c8] at H
        have c8b0 : decide (126 < (bt a0 x6_1)) = true := decide_eq_true c8
        clear c8
        obtain rfl := Option.some.inj H
        have p5 : 0 ≤ (x6_1 : Int) := of_decide_eq_true (by first | (with_reducible assumption) | assumption)
        have q5 : x6_1 < (a0.size : Int) := of_decide_eq_true (by first | (with_reducible assumption) | assumption)
        have hx5 := bt_at a0 x6_1
        replace p5 := eq_true p5
        replace q5 := eq_true q5
        have p7 : 0 ≤ (x6_1 : Int) := of_decide_eq_true (by first | (with_reducible assumption) | assumption)
        have q7 : x6_1 < (a0.size : Int) := of_decide_eq_true (by first | (with_reducible assumption) | assumption)
        have hx7 := bt_at a0 x6_1
        replace p7 := eq_true p7
        replace q7 := eq_true q7
        go_wp2
        go_ret
        exact ⟨by first | rfl | (simp; done) | (simp [*]; done), by repeat (first | exact Drawn0.refl _ | apply Drawn0.step)⟩
       ·rw [if_neg c8] at H
        have c8b0 : decide (126 < (bt a0 x6_1)) = false := decide_eq_false c8
        clear c8
        have H' := Aside0.mk H
        clear H
        have p5 : 0 ≤ (x6_1 : Int) := of_decide_eq_true (by first | (with_reducible assumption) | assumption)
        have q5 : x6_1 < (a0.size : Int) := of_decide_eq_true (by first | (with_reducible assumption) | assumption)
        have hx5 := bt_at a0 x6_1
        replace p5 := eq_true p5
        replace q5 := eq_true q5
        have p7 : 0 ≤ (x6_1 : Int) := of_decide_eq_true (by first | (with_reducible assumption) | assumption)
        have q7 : x6_1 < (a0.size : Int) := of_decide_eq_true (by first | (with_reducible assumption) | assumption)
        have hx7 := bt_at a0 x6_1
        replace p7 := eq_true p7
        replace q7 := eq_true q7
        go_wp2
        go_roundg k1
        case measure => have := HK1.out; omega
        case rel => exact ⟨(wrap64 (x6_1 + 1)), (by first | rfl | (simp; done) | (simp [*]; done)), H', ⟨by have := HK1.out; omega⟩, by repeat (first | exact Drawn0.refl _ | apply Drawn0.step)⟩
     ·rw [if_neg c4] at H
      exact absurd H (by simp)
    ·rw [if_neg c3] at H
     exact absurd H (by simp)
   ·rw [if_neg c2] at H
    have c2b0 : decide (x6_1 < (a0.size : Int)) = false := decide_eq_false c2
    clear c2
    replace H := Option.bind_eq_some_iff.mp H
    obtain ⟨t170, A90, H⟩ := H
    replace H : (some t170) = some r := H
    have A9 := Aside0.mk A90
    clear A90
    obtain rfl := Option.some.inj H
    go_wp2_with (first | ((with_reducible refine gate_callee (f := 32) rfl ?_); refine goesL_ (some 22) rfl rfl Tryd.func32 (by kernel_rfl) rfl #[.int .i64 (a0.size : Int), .int .i64 1, .int .i64 40] rfl (by (try simp only [List.map_toArray, List.map_cons, List.map_nil]); first | done | rfl | (simp only [List.length_drop, List.length_take]; rfl)) ?_; (with_reducible refine (impl_within.calls (a0.size : Int) 1 40 t170 _ A9.out).mono ?_); rintro e w' ⟨rfl, ⟨nd, rfl⟩⟩; refine ⟨_, rfl, ?_⟩))
    go_ret
    exact ⟨by first | rfl | (simp; done) | (simp [*]; done), by repeat (first | exact Drawn0.refl _ | apply Drawn0.step)⟩
def slices_Index_string_string.l0 : Nat → List ByteArray → ByteArray → Int → Int → Option (Int)
 | 0, _, _, _, _ => none
 | k + 1, x0, x1, x7, x8 => if x8 < x7 then (if 0 ≤ x8 then (if x8 < (x0.length : Int) then (if x1.toList = (rdOf ByteArray.empty x0 x8).toList then (some x8) else (slices_Index_string_string.l0 k x0 x1 x7 (wrap64 (x8 + 1)))) else (none)) else (none)) else (some (-1))
def slices_Index_string_string.f (k : Nat) (l0 : List ByteArray) (a1 : ByteArray) : Option (Int) := slices_Index_string_string.l0 k l0 a1 (l0.length : Int) 0
set_option maxHeartbeats 8000000 in
set_option maxRecDepth 100000 in
theorem slices_Index_string_string.calls (k : Nat) (A0 : Option Addr) (c0 : Nat) (l0 : List ByteArray) (a1 : ByteArray) (r : Int) (w : World) (hr0 : Kd.C Kd.string w A0 l0.length l0) (hc0 : l0.length ≤ c0) (h : slices_Index_string_string.f k l0 a1 = some r) :
  Calls Tryd.prog 67 #[.slice A0 l0.length c0, .string a1] w fun e w' => e = .returned (.int .i64 r) ∧ Drawn0 w w' := by
 have HR0 := Aside0.mk hr0
 have HC0 := Aside0.mk hc0
 clear hr0 hc0
 have H : (slices_Index_string_string.l0 k l0 a1 (l0.length : Int) 0) = some r := h
 clear h
 have H' := Aside0.mk H
 clear H
 go_enter Tryd.func67, Tryd.ntmps67
 go_wp2
 go_loopg [8] k (fun kq v8 w' => ∃ (x8_1 : Int), v8 = .int .i64 x8_1 ∧ Aside0 (slices_Index_string_string.l0 kq l0 a1 (l0.length : Int) x8_1 = some r) ∧ Aside0 (kq ≤ k) ∧ Drawn0 w w')
 case atStart => exact ⟨(0), (by first | rfl | (simp; done) | (simp [*]; done)), H', ⟨Nat.le_refl _⟩, by repeat (first | exact Drawn0.refl _ | apply Drawn0.step)⟩
 case round =>
  clear H'
  try clear p2
  obtain ⟨x8_1, rfl, HA, HK1, ⟨m1, rfl⟩⟩ := hrel
  cases gk with
  | zero => exact absurd HA.out (by simp [slices_Index_string_string.l0])
  | succ k1 =>
   have H := HA.out
   clear HA
   simp only [slices_Index_string_string.l0] at H
   by_cases c3 : x8_1 < (l0.length : Int)
   ·rw [if_pos c3] at H
    have c3b0 : decide (x8_1 < (l0.length : Int)) = true := decide_eq_true c3
    clear c3
    by_cases c4 : 0 ≤ x8_1
    ·rw [if_pos c4] at H
     have c4b0 : decide (0 ≤ x8_1) = true := decide_eq_true c4
     clear c4
     by_cases c5 : x8_1 < (l0.length : Int)
     ·rw [if_pos c5] at H
      have c5b0 : decide (x8_1 < (l0.length : Int)) = true := decide_eq_true c5
      clear c5
      by_cases c6 : a1.toList = (rdOf ByteArray.empty l0 x8_1).toList
      ·rw [if_pos c6] at H
       have c6b0 : (a1.toList == (rdOf ByteArray.empty l0 x8_1).toList) = true := beq_iff_eq.mpr c6
       have c6b1 : (a1.toList != (rdOf ByteArray.empty l0 x8_1).toList) = false := bne_eq_false_iff_eq.mpr c6
       clear c6
       obtain rfl := Option.some.inj H
       have p171 : 0 ≤ (x8_1 : Int) := of_decide_eq_true (by first | (with_reducible assumption) | assumption)
       have q171 : x8_1 < (l0.length : Int) := of_decide_eq_true (by first | (with_reducible assumption) | assumption)
       obtain ⟨ad171, e171, hx171_0⟩ := Kd.at_string HR0.out x8_1 p171 q171
       cases e171
       replace p171 := eq_true p171
       replace q171 := eq_true q171
       go_wp2
       go_ret
       exact ⟨by first | rfl | (simp; done) | (simp [*]; done), by repeat (first | exact Drawn0.refl _ | apply Drawn0.step)⟩
      ·rw [if_neg c6] at H
       have c6b0 : (a1.toList == (rdOf ByteArray.empty l0 x8_1).toList) = false := beq_eq_false_iff_ne.mpr c6
       have c6b1 : (a1.toList != (rdOf ByteArray.empty l0 x8_1).toList) = true := bne_iff_ne.mpr c6
       have H' := Aside0.mk H
       clear H
       have p171 : 0 ≤ (x8_1 : Int) := of_decide_eq_true (by first | (with_reducible assumption) | assumption)
       have q171 : x8_1 < (l0.length : Int) := of_decide_eq_true (by first | (with_reducible assumption) | assumption)
       obtain ⟨ad171, e171, hx171_0⟩ := Kd.at_string HR0.out x8_1 p171 q171
       cases e171
       replace p171 := eq_true p171
       replace q171 := eq_true q171
       go_wp2
       go_roundg k1
       case measure => have := HK1.out; omega
       case rel => exact ⟨(wrap64 (x8_1 + 1)), (by first | rfl | (simp; done) | (simp [*]; done)), H', ⟨by have := HK1.out; omega⟩, by repeat (first | exact Drawn0.refl _ | apply Drawn0.step)⟩
     ·rw [if_neg c5] at H
      exact absurd H (by simp)
    ·rw [if_neg c4] at H
     exact absurd H (by simp)
   ·rw [if_neg c3] at H
    have c3b0 : decide (x8_1 < (l0.length : Int)) = false := decide_eq_false c3
    clear c3
    obtain rfl := Option.some.inj H
    go_wp2
    go_ret
    exact ⟨by first | rfl | (simp; done) | (simp [*]; done), by repeat (first | exact Drawn0.refl _ | apply Drawn0.step)⟩
def slices_Contains_string_string.f (k : Nat) (l0 : List ByteArray) (a1 : ByteArray) : Option (Bool) := (slices_Index_string_string.f k l0 a1).bind fun t172 => (some (decide (t172 ≥ 0)))
set_option maxHeartbeats 8000000 in
set_option maxRecDepth 100000 in
theorem slices_Contains_string_string.calls (k : Nat) (A0 : Option Addr) (c0 : Nat) (l0 : List ByteArray) (a1 : ByteArray) (r : Bool) (w : World) (hr0 : Kd.C Kd.string w A0 l0.length l0) (hc0 : l0.length ≤ c0) (h : slices_Contains_string_string.f k l0 a1 = some r) :
  Calls Tryd.prog 53 #[.slice A0 l0.length c0, .string a1] w fun e w' => e = .returned (.bool r) ∧ Drawn0 w w' := by
 have HR0 := Aside0.mk hr0
 have HC0 := Aside0.mk hc0
 clear hr0 hc0
 have H : ((slices_Index_string_string.f k l0 a1).bind fun t172 => (some (decide (t172 ≥ 0)))) = some r := h
 clear h
 replace H := Option.bind_eq_some_iff.mp H
 obtain ⟨t172, A30, H⟩ := H
 replace H : (some (decide (t172 ≥ 0))) = some r := H
 have A3 := Aside0.mk A30
 clear A30
 obtain rfl := Option.some.inj H
 go_enter Tryd.func53, Tryd.ntmps53
 go_wp2_with (first | ((with_reducible refine gate_callee (f := 67) rfl ?_); refine goesL_ (some 7) rfl rfl Tryd.func67 (by kernel_rfl) rfl #[.slice A0 l0.length c0, .string a1] rfl (by (try simp only [List.map_toArray, List.map_cons, List.map_nil]); first | done | rfl | (simp only [List.length_drop, List.length_take]; rfl)) ?_; (with_reducible refine (slices_Index_string_string.calls k _ _ l0 a1 t172 _ ?side1 ?side2 A3.out).mono ?_); (case side1 => repeat (first | exact HR0.out | (with_reducible refine Kd.C_alloc ?_ _) | (with_reducible refine Kd.C_drewN ?_ _) | (with_reducible refine Kd.C_drew ?_))); (case side2 => exact HC0.out); rintro e w' ⟨rfl, ⟨nd, rfl⟩⟩; refine ⟨_, rfl, ?_⟩))
 go_ret
 exact ⟨by first | rfl | (simp; done) | (simp [*]; done), by repeat (first | exact Drawn0.refl _ | apply Drawn0.step)⟩
def impl_Book_isFrame.f (a0_0 : Int) (a0_1 : Int) (a0_2 : Int) (l0_3 : List ByteArray) : Option (Bool) := (impl_within.f (wrap64 (a0_0)) 1 10).bind fun t174 => (if t174 = true then ((impl_within.f (wrap64 (a0_1)) 1 3).bind fun t175 => (if t175 = true then ((impl_within.f (wrap64 (a0_2)) 0 4).bind fun t176 => (some t176)) else (some false))) else (some false))
set_option maxHeartbeats 8000000 in
set_option maxRecDepth 100000 in
theorem impl_Book_isFrame.calls (a0_0 : Int) (a0_1 : Int) (a0_2 : Int) (A0_3 : Option Addr) (c0_3 : Nat) (l0_3 : List ByteArray) (r : Bool) (w : World) (hr0_3 : Kd.C Kd.string w A0_3 l0_3.length l0_3) (hc0_3 : l0_3.length ≤ c0_3) (h : impl_Book_isFrame.f a0_0 a0_1 a0_2 l0_3 = some r) :
  Calls Tryd.prog 50 #[.agg #[.int .i8 a0_0, .int .i8 a0_1, .int .i8 a0_2, .slice A0_3 l0_3.length c0_3]] w fun e w' => e = .returned (.bool r) ∧ Below w.heap.size w w' := by
 have hu28 := Tryd.underlying28
 have HR0_3 := Aside0.mk hr0_3
 have HC0_3 := Aside0.mk hc0_3
 clear hr0_3 hc0_3
 have HB := Aside0.mk (Below.refl w.heap.size w)
 have H : ((impl_within.f (wrap64 (a0_0)) 1 10).bind fun t174 => (if t174 = true then ((impl_within.f (wrap64 (a0_1)) 1 3).bind fun t175 => (if t175 = true then ((impl_within.f (wrap64 (a0_2)) 0 4).bind fun t176 => (some t176)) else (some false))) else (some false))) = some r := h
 clear h
 replace H := Option.bind_eq_some_iff.mp H
 obtain ⟨t174, A20, H⟩ := H
 replace H : (if t174 = true then ((impl_within.f (wrap64 (a0_1)) 1 3).bind fun t175 => (if t175 = true then ((impl_within.f (wrap64 (a0_2)) 0 4).bind fun t176 => (some t176)) else (some false))) else (some false)) = some r := H
 have A2 := Aside0.mk A20
 clear A20
 by_cases c3 : t174 = true
 ·subst c3
  have H1 : ((impl_within.f (wrap64 (a0_1)) 1 3).bind fun t175 => (if t175 = true then ((impl_within.f (wrap64 (a0_2)) 0 4).bind fun t176 => (some t176)) else (some false))) = some r := by rw [if_pos rfl] at H; exact H
  clear H
  have H := H1
  clear H1
  replace H := Option.bind_eq_some_iff.mp H
  obtain ⟨t175, A40, H⟩ := H
  replace H : (if t175 = true then ((impl_within.f (wrap64 (a0_2)) 0 4).bind fun t176 => (some t176)) else (some false)) = some r := H
  have A4 := Aside0.mk A40
  clear A40
  by_cases c5 : t175 = true
  ·subst c5
   have H1 : ((impl_within.f (wrap64 (a0_2)) 0 4).bind fun t176 => (some t176)) = some r := by rw [if_pos rfl] at H; exact H
   clear H
   have H := H1
   clear H1
   replace H := Option.bind_eq_some_iff.mp H
   obtain ⟨t176, A60, H⟩ := H
   replace H : (some t176) = some r := H
   have A6 := Aside0.mk A60
   clear A60
   obtain rfl := Option.some.inj H
   go_enter Tryd.func50, Tryd.ntmps50
   go_wp2_with (first | ((with_reducible refine gate_dst (N := 1) rfl ?_); refine box_event ?hg (N := 1) ?hd (cs := #[.int .i8 a0_0, .int .i8 a0_1, .int .i8 a0_2, .slice A0_3 l0_3.length c0_3]) (t := 28) ?hr ?_; (case hd => rfl); (case hg => rfl); (case hr => first | (go_simp; done) | (go_simp; rfl)); intro gb173 hg w7 hbox hb; have n0_ := Aside0.mk (below_step (by repeat (first | (with_reducible first | exact HB.out | apply below_alloc | apply pw_below_drewN | apply below_drew1) | exact HB.out)) hb); have n1_ := Aside0.mk (hbox); have n2_ := Aside0.mk ((by rw [hg]; exact (below_size (by repeat (first | (with_reducible first | exact HB.out | apply below_alloc | apply pw_below_drewN | apply below_drew1) | exact HB.out))) : w.heap.size ≤ gb173)); have n3_ := Aside0.mk ((by rw [hg]; exact (below_size (by repeat (first | (with_reducible first | exact HB.out | apply below_alloc | apply pw_below_drewN | apply below_drew1) | exact HB.out))) : w.heap.size ≤ gb173)); clear HB; have HB := n0_; have BK173 := n1_; have GW173 := n2_; have GE173 := n3_; clear n0_ n1_ n2_ n3_; clear hb hbox hg; have hcz8_0 : w7.cell? ⟨gb173, 0, none⟩ = some (.int .i8 a0_0) := (blk_cell BK173.out 0).trans rfl; have hcz8_1 : w7.cell? ⟨gb173, 1, none⟩ = some (.int .i8 a0_1) := (blk_cell BK173.out 1).trans rfl; have hcz8_2 : w7.cell? ⟨gb173, 2, none⟩ = some (.int .i8 a0_2) := (blk_cell BK173.out 2).trans rfl; have hcz8_3 : w7.cell? ⟨gb173, 3, none⟩ = some (.slice A0_3 l0_3.length c0_3) := (blk_cell BK173.out 3).trans rfl; have hfz8_0 := blk_frozen BK173.out 0; have hfz8_1 := blk_frozen BK173.out 1; have hfz8_2 := blk_frozen BK173.out 2; have hfz8_3 := blk_frozen BK173.out 3) | ((with_reducible refine gate_callee (f := 32) rfl ?_); refine goesL_ (some 6) rfl rfl Tryd.func32 (by kernel_rfl) rfl #[.int .i64 (wrap64 (a0_0)), .int .i64 1, .int .i64 10] rfl (by (try simp only [List.map_toArray, List.map_cons, List.map_nil]); first | done | rfl | (simp only [List.length_drop, List.length_take]; rfl)) ?_; (with_reducible refine (impl_within.calls (wrap64 (a0_0)) 1 10 true _ A2.out).mono ?_); rintro e w' ⟨rfl, ⟨nd, rfl⟩⟩; refine ⟨_, rfl, ?_⟩) | (go_at_call 32; (with_reducible refine (impl_within.calls (wrap64 (a0_1)) 1 3 true _ A4.out).mono ?_); rintro e w' ⟨rfl, ⟨nd, rfl⟩⟩) | (go_at_call 32; (with_reducible refine (impl_within.calls (wrap64 (a0_2)) 0 4 t176 _ A6.out).mono ?_); rintro e w' ⟨rfl, ⟨nd, rfl⟩⟩))
   go_ret
   exact ⟨by first | rfl | (simp [errW_none, errW_some] <;> rfl) | (simp [*, errW_none, errW_some] <;> rfl), by repeat (first | (with_reducible first | exact HB.out | apply below_alloc | apply pw_below_drewN | apply below_drew1 | refine below_set ?_ GE173.out) | exact HB.out)⟩
  ·replace c5 := Bool.eq_false_iff.mpr c5
   subst c5
   have H1 : (some false) = some r := by rw [if_neg (show ¬ (false = true) by decide)] at H; exact H
   clear H
   have H := H1
   clear H1
   obtain rfl := Option.some.inj H
   go_enter Tryd.func50, Tryd.ntmps50
   go_wp2_with (first | ((with_reducible refine gate_dst (N := 1) rfl ?_); refine box_event ?hg (N := 1) ?hd (cs := #[.int .i8 a0_0, .int .i8 a0_1, .int .i8 a0_2, .slice A0_3 l0_3.length c0_3]) (t := 28) ?hr ?_; (case hd => rfl); (case hg => rfl); (case hr => first | (go_simp; done) | (go_simp; rfl)); intro gb173 hg w9 hbox hb; have n0_ := Aside0.mk (below_step (by repeat (first | (with_reducible first | exact HB.out | apply below_alloc | apply pw_below_drewN | apply below_drew1) | exact HB.out)) hb); have n1_ := Aside0.mk (hbox); have n2_ := Aside0.mk ((by rw [hg]; exact (below_size (by repeat (first | (with_reducible first | exact HB.out | apply below_alloc | apply pw_below_drewN | apply below_drew1) | exact HB.out))) : w.heap.size ≤ gb173)); have n3_ := Aside0.mk ((by rw [hg]; exact (below_size (by repeat (first | (with_reducible first | exact HB.out | apply below_alloc | apply pw_below_drewN | apply below_drew1) | exact HB.out))) : w.heap.size ≤ gb173)); clear HB; have HB := n0_; have BK173 := n1_; have GW173 := n2_; have GE173 := n3_; clear n0_ n1_ n2_ n3_; clear hb hbox hg; have hcz10_0 : w9.cell? ⟨gb173, 0, none⟩ = some (.int .i8 a0_0) := (blk_cell BK173.out 0).trans rfl; have hcz10_1 : w9.cell? ⟨gb173, 1, none⟩ = some (.int .i8 a0_1) := (blk_cell BK173.out 1).trans rfl; have hcz10_2 : w9.cell? ⟨gb173, 2, none⟩ = some (.int .i8 a0_2) := (blk_cell BK173.out 2).trans rfl; have hcz10_3 : w9.cell? ⟨gb173, 3, none⟩ = some (.slice A0_3 l0_3.length c0_3) := (blk_cell BK173.out 3).trans rfl; have hfz10_0 := blk_frozen BK173.out 0; have hfz10_1 := blk_frozen BK173.out 1; have hfz10_2 := blk_frozen BK173.out 2; have hfz10_3 := blk_frozen BK173.out 3) | ((with_reducible refine gate_callee (f := 32) rfl ?_); refine goesL_ (some 6) rfl rfl Tryd.func32 (by kernel_rfl) rfl #[.int .i64 (wrap64 (a0_0)), .int .i64 1, .int .i64 10] rfl (by (try simp only [List.map_toArray, List.map_cons, List.map_nil]); first | done | rfl | (simp only [List.length_drop, List.length_take]; rfl)) ?_; (with_reducible refine (impl_within.calls (wrap64 (a0_0)) 1 10 true _ A2.out).mono ?_); rintro e w' ⟨rfl, ⟨nd, rfl⟩⟩; refine ⟨_, rfl, ?_⟩) | (go_at_call 32; (with_reducible refine (impl_within.calls (wrap64 (a0_1)) 1 3 false _ A4.out).mono ?_); rintro e w' ⟨rfl, ⟨nd, rfl⟩⟩))
   go_ret
   exact ⟨by first | rfl | (simp [errW_none, errW_some] <;> rfl) | (simp [*, errW_none, errW_some] <;> rfl), by repeat (first | (with_reducible first | exact HB.out | apply below_alloc | apply pw_below_drewN | apply below_drew1 | refine below_set ?_ GE173.out) | exact HB.out)⟩
 ·replace c3 := Bool.eq_false_iff.mpr c3
  subst c3
  have H1 : (some false) = some r := by rw [if_neg (show ¬ (false = true) by decide)] at H; exact H
  clear H
  have H := H1
  clear H1
  obtain rfl := Option.some.inj H
  go_enter Tryd.func50, Tryd.ntmps50
  go_wp2_with (first | ((with_reducible refine gate_dst (N := 1) rfl ?_); refine box_event ?hg (N := 1) ?hd (cs := #[.int .i8 a0_0, .int .i8 a0_1, .int .i8 a0_2, .slice A0_3 l0_3.length c0_3]) (t := 28) ?hr ?_; (case hd => rfl); (case hg => rfl); (case hr => first | (go_simp; done) | (go_simp; rfl)); intro gb173 hg w11 hbox hb; have n0_ := Aside0.mk (below_step (by repeat (first | (with_reducible first | exact HB.out | apply below_alloc | apply pw_below_drewN | apply below_drew1) | exact HB.out)) hb); have n1_ := Aside0.mk (hbox); have n2_ := Aside0.mk ((by rw [hg]; exact (below_size (by repeat (first | (with_reducible first | exact HB.out | apply below_alloc | apply pw_below_drewN | apply below_drew1) | exact HB.out))) : w.heap.size ≤ gb173)); have n3_ := Aside0.mk ((by rw [hg]; exact (below_size (by repeat (first | (with_reducible first | exact HB.out | apply below_alloc | apply pw_below_drewN | apply below_drew1) | exact HB.out))) : w.heap.size ≤ gb173)); clear HB; have HB := n0_; have BK173 := n1_; have GW173 := n2_; have GE173 := n3_; clear n0_ n1_ n2_ n3_; clear hb hbox hg; have hcz12_0 : w11.cell? ⟨gb173, 0, none⟩ = some (.int .i8 a0_0) := (blk_cell BK173.out 0).trans rfl; have hcz12_1 : w11.cell? ⟨gb173, 1, none⟩ = some (.int .i8 a0_1) := (blk_cell BK173.out 1).trans rfl; have hcz12_2 : w11.cell? ⟨gb173, 2, none⟩ = some (.int .i8 a0_2) := (blk_cell BK173.out 2).trans rfl; have hcz12_3 : w11.cell? ⟨gb173, 3, none⟩ = some (.slice A0_3 l0_3.length c0_3) := (blk_cell BK173.out 3).trans rfl; have hfz12_0 := blk_frozen BK173.out 0; have hfz12_1 := blk_frozen BK173.out 1; have hfz12_2 := blk_frozen BK173.out 2; have hfz12_3 := blk_frozen BK173.out 3) | ((with_reducible refine gate_callee (f := 32) rfl ?_); refine goesL_ (some 6) rfl rfl Tryd.func32 (by kernel_rfl) rfl #[.int .i64 (wrap64 (a0_0)), .int .i64 1, .int .i64 10] rfl (by (try simp only [List.map_toArray, List.map_cons, List.map_nil]); first | done | rfl | (simp only [List.length_drop, List.length_take]; rfl)) ?_; (with_reducible refine (impl_within.calls (wrap64 (a0_0)) 1 10 false _ A2.out).mono ?_); rintro e w' ⟨rfl, ⟨nd, rfl⟩⟩; refine ⟨_, rfl, ?_⟩))
  go_ret
  exact ⟨by first | rfl | (simp [errW_none, errW_some] <;> rfl) | (simp [*, errW_none, errW_some] <;> rfl), by repeat (first | (with_reducible first | exact HB.out | apply below_alloc | apply pw_below_drewN | apply below_drew1 | refine below_set ?_ GE173.out) | exact HB.out)⟩
end Go.Proofs.YtdgecgfgekmhcaaDoor.J
namespace Go.Proofs.YtdgecgfgekmhcaaDoor.Arr
open Go.RowKit Go.Proofs.YtdgecgfgekmhcaaDoorW.PrintWords Go.Proofs.YtdgecgfgekmhcaaDoorW.PrintLast Go.Proofs.YtdgecgfgekmhcaaDoorW.PrintMore Go.Proofs.YtdgecgfgekmhcaaDoor.U Go.Proofs.YtdgecgfgekmhcaaDoor.J
set_option linter.unusedVariables false
set_option linter.unusedSimpArgs false
def phrB (s : ByteArray) : Bool := decide (∀ i : Nat, i < s.size → 32 ≤ bt s (i : Int) ∧ bt s (i : Int) ≤ 126) && decide (1 ≤ (s.size : Int) ∧ (s.size : Int) ≤ 40)
theorem l03Phrase_ev (s : ByteArray) (hs : s.size ≤ 140737488351232) : Ev (fun k => spec_l03Phrase.f k s) (phrB s) := by
 unfold spec_l03Phrase.f
 refine iter (F := fun k (x : Int) => spec_l03Phrase.l0 k s x) (fun i x => x = (i : Int) ∧ ∀ j : Nat, j < i → 32 ≤ bt s (j : Int) ∧ bt s (j : Int) ≤ 126) _ s.size ?_ ?_ 0 0 (by omega) ⟨rfl, fun j hj => absurd hj (by omega)⟩
 ·rintro i x hi ⟨rfl, hP⟩
  by_cases h1 : 32 ≤ bt s (i : Int) ∧ bt s (i : Int) ≤ 126
  ·refine .inl ⟨((i + 1 : Nat) : Int), ⟨rfl, fun j hj => ?_⟩, fun hgo => ?_⟩
   ·rcases Nat.lt_or_ge j i with h | h
    ·exact hP j h
    ·obtain rfl : j = i := by omega
     exact h1
   ·have hgo2 : Ev (fun k => spec_l03Phrase.l0 k s (wrap64 ((i : Int) + 1))) (phrB s) := by rw [w64 (by omega) (by omega)]; exact hgo
    refine Ev.step (fun k => by rw [spec_l03Phrase.l0]) ?_
    exact pos (by omega) (pos (by omega) (neg (by omega) (neg (by omega) hgo2)))
  ·refine .inr ?_
   have hf : phrB s = false := by
    unfold phrB
    rw [decide_eq_false (fun h => h1 (h i hi))]; rfl
   rw [hf]
   refine Ev.step (fun k => by rw [spec_l03Phrase.l0]) ?_
   refine pos (by omega) (pos (by omega) ?_)
   by_cases h2 : bt s (i : Int) < 32
   ·exact pos h2 (cons rfl)
   ·exact neg h2 (pos (by omega) (cons rfl))
 ·rintro x ⟨rfl, hP⟩
  refine Ev.step (fun k => by rw [spec_l03Phrase.l0]) ?_
  refine neg (by omega) (bindc (in_ev' _ _ _) (cons ?_))
  unfold phrB
  rw [decide_eq_true hP]; rfl
def fnd (ph : List ByteArray) (a : ByteArray) : Int := ixa (fun x => decide (x.toList = a.toList)) ph
theorem rdOf_get (ph : List ByteArray) (i : Nat) (hi : i < ph.length) : rdOf ByteArray.empty ph (i : Int) = ph[i] := by
 unfold rdOf; simp [List.getElem?_eq_getElem hi]
theorem l03Find_ev (K L S : Int) (ph : List ByteArray) (a : ByteArray) (hn : ph.length ≤ 140737488351232) : Ev (fun k => spec_l03Find.f k K L S ph a) (fnd ph a, K, L, S) := by
 unfold spec_l03Find.f
 refine iter (F := fun k (x : Int) => spec_l03Find.l0 k a x K L S ph) (fun i x => x = (i : Int) ∧ ∀ j : Nat, j < i → ∀ y, ph[j]? = some y → decide (y.toList = a.toList) = false) _ ph.length ?_ ?_ 0 0 (by omega) ⟨rfl, fun j hj => absurd hj (by omega)⟩
 ·rintro i x hi ⟨rfl, hP⟩
  have hg := rdOf_get ph i hi
  by_cases h1 : ph[i].toList = a.toList
  ·refine .inr ?_
   rw [show fnd ph a = (i : Int) from ixa_found _ ph i ph[i] (List.getElem?_eq_getElem hi) hP (decide_eq_true h1)]
   refine Ev.step (fun k => by rw [spec_l03Find.l0]) ?_
   exact pos (by omega) (pos (by omega) (pos (by rw [hg]; exact h1) (cons rfl)))
  ·refine .inl ⟨((i + 1 : Nat) : Int), ⟨rfl, fun j hj y hy => ?_⟩, fun hgo => ?_⟩
   ·rcases Nat.lt_or_ge j i with h | h
    ·exact hP j h y hy
    ·obtain rfl : j = i := by omega
     rw [List.getElem?_eq_getElem hi] at hy
     rw [← Option.some.inj hy]; exact decide_eq_false h1
   ·have hgo2 : Ev (fun k => spec_l03Find.l0 k a (wrap64 ((i : Int) + 1)) K L S ph) (fnd ph a, K, L, S) := by rw [w64 (by omega) (by omega)]; exact hgo
    refine Ev.step (fun k => by rw [spec_l03Find.l0]) ?_
    exact pos (by omega) (pos (by omega) (neg (by rw [hg]; exact h1) hgo2))
 ·rintro x ⟨rfl, hP⟩
  refine Ev.step (fun k => by rw [spec_l03Find.l0]) ?_
  exact neg (by omega) (cons (by rw [show fnd ph a = -1 from ixa_none _ ph hP]))
def sizedB (K L S : Int) : Bool := decide ((1 ≤ K ∧ K ≤ 10) ∧ (1 ≤ L ∧ L ≤ 3) ∧ (0 ≤ S ∧ S ≤ 4))
theorem l03Sized_f (K L S : Int) (ph : List ByteArray) (hK : -128 ≤ K ∧ K ≤ 127) (hL : -128 ≤ L ∧ L ≤ 127) (hS : -128 ≤ S ∧ S ≤ 127) : spec_l03Sized.f K L S ph = some (sizedB K L S, K, L, S) := by
 unfold spec_l03Sized.f sizedB
 rw [w64 (by omega) (by omega), w64 (by omega) (by omega), w64 (by omega) (by omega), in_ev', in_ev', in_ev']
 by_cases h1 : 1 ≤ K ∧ K ≤ 10 <;> by_cases h2 : 1 ≤ L ∧ L ≤ 3 <;> simp [h1, h2]
def phOk (ph : List ByteArray) (i : Nat) : Bool := phrB (rdOf ByteArray.empty ph (i : Int)) && decide (fnd ph (rdOf ByteArray.empty ph (i : Int)) = (i : Int))
def okBook (K L S : Int) (ph : List ByteArray) : Bool := sizedB K L S && decide (ph.length ≤ 100) && decide (∀ i : Nat, i < ph.length → phOk ph i = true) && decide (ph.length ≤ (outL K.toNat S.toNat L.toNat).length)
structure BkSt (w0 w : World) (g : Nat) (K L S : Int) (ph : List ByteArray) (w1 : World) : Prop where
 is : IsS28 w0 w1 g K L S ph
 bel : Below w0.heap.size w0 w1
 keep : KeepBut w w1 g none
theorem BkSt.drewN {w0 w w1 : World} {g : Nat} {K L S : Int} {ph : List ByteArray} (h : BkSt w0 w g K L S ph w1) (n : Nat) : BkSt w0 w g K L S ph (w1.drewN n) := ⟨IsS28.drewN h.is n, pw_below_drewN h.bel n, keep_drewN h.keep n⟩
theorem BkSt.drew {w0 w w1 : World} {g : Nat} {K L S : Int} {ph : List ByteArray} (h : BkSt w0 w g K L S ph w1) : BkSt w0 w g K L S ph w1.drew := ⟨IsS28.drew h.is, below_drew1 h.bel, keep_drew h.keep⟩
theorem BkSt.call {w0 w w1 w2 : World} {g : Nat} {K L S : Int} {ph : List ByteArray} (h : BkSt w0 w g K L S ph w1) (h1 : IsS28 w0 w2 g K L S ph) (h2 : Below w0.heap.size w0 w2) (h3 : KeepBut w1 w2 g none) : BkSt w0 w g K L S ph w2 := ⟨h1, h2, h.keep.trans h3 (Or.inl rfl)⟩
theorem BkSt.below {w0 w w1 w2 : World} {g : Nat} {K L S : Int} {ph : List ByteArray} (h : BkSt w0 w g K L S ph w1) (hb : Below w1.heap.size w1 w2) : BkSt w0 w g K L S ph w2 := ⟨IsS28.below h.is hb, h.bel.trans (hb.mono h.bel.size), h.keep.trans (KeepBut.of_below hb g none) (Or.inl rfl)⟩
theorem oneStrS : OneTy Tryd.prog 23 := ⟨by kernel_rfl, by kernel_rfl⟩
set_option maxHeartbeats 8000000 in
set_option maxRecDepth 100000 in
theorem l03Ok_calls (K L S : Int) (ph : List ByteArray) (g : Nat) (w0 w : World) (hI : IsS28 w0 w g K L S ph) (hB : Below w0.heap.size w0 w) (hK : -128 ≤ K ∧ K ≤ 127) (hL : -128 ≤ L ∧ L ≤ 127) (hS : -128 ≤ S ∧ S ≤ 127) (hn : ph.length ≤ 100000000) (hs : ∀ s ∈ ph, s.size ≤ 140737488351232) :
  Calls Tryd.prog 21 #[.pointer (some ⟨g, 0, none⟩)] w fun e w' => e = .returned (.bool (okBook K L S ph)) ∧ BkSt w0 w g K L S ph w' := by
 have HS := Aside0.mk (fun W h1 h2 => spec_l03Sized.calls g K L S ph _ _ _ _ w0 W h1 h2 (l03Sized_f K L S ph hK hL hS))
 have HB0 : Aside0 (BkSt w0 w g K L S ph w) := ⟨⟨hI, hB, KeepBut.refl w g none⟩⟩
 obtain ⟨A3, c3, hb, _, _⟩ := hI
 have hc3 := (blk_cell hb 3).trans rfl
 clear hb hB
 cases hz : sizedB K L S with
 | false =>
  have HF := Aside0.mk (show okBook K L S ph = false by unfold okBook; rw [hz]; rfl)
  rw [hz] at HS
  clear hz
  go_enter Tryd.func21, Tryd.ntmps21
  go_wp2_with (go_at_call 45; refine (HS.out _ HB0.out.is HB0.out.bel).mono ?_; rintro e w1 ⟨rfl, h1, h2, h3⟩; have HB1 := Aside0.mk (HB0.out.call h1 h2 h3); clear h1 h2 h3)
  go_ret
  exact ⟨by rw [HF.out]; rfl, HB1.out⟩
 | true =>
  have HZ := Aside0.mk hz
  have hzz := of_decide_eq_true hz
  rw [hz] at HS
  clear hz
  by_cases h100 : ph.length ≤ 100
  ·have hle : (ph.length : Int) ≤ 100 := by omega
   have hgt : ¬ (100 : Int) < (ph.length : Int) := by omega
   have hgt2 := decide_eq_false hgt
   have HH := Aside0.mk hs
   obtain ⟨K, rfl⟩ := Int.eq_ofNat_of_zero_le (show 0 ≤ K by omega)
   obtain ⟨L, rfl⟩ := Int.eq_ofNat_of_zero_le (show 0 ≤ L by omega)
   obtain ⟨S, rfl⟩ := Int.eq_ofNat_of_zero_le (show 0 ≤ S by omega)
   have HK4 : Aside0 ((1 ≤ K ∧ K ≤ 10) ∧ L ≤ 3 ∧ S ≤ 4) := ⟨by omega⟩
   clear hs hK hL hS hzz
   go_enter Tryd.func21, Tryd.ntmps21
   go_wp2_with (go_at_call 45; refine (HS.out _ HB0.out.is HB0.out.bel).mono ?_; rintro e w1 ⟨rfl, h1, h2, h3⟩; have HB1 := Aside0.mk (HB0.out.call h1 h2 h3); obtain ⟨A4, c4, hb4, _, _⟩ := h1; have hc4 := (blk_cell hb4 3).trans rfl; clear h2 h3 hb4)
   go_loopw [3] (fun v3 wr => ∃ i : Nat, i ≤ ph.length ∧ v3 = .int .i64 i ∧ Aside0 (BkSt w0 w g K L S ph wr) ∧ Aside0 (∀ j : Nat, j < i → phOk ph j = true)) (fun v3 _ => ph.length - (intOf v3).toNat)
   case atStart => exact ⟨0, by omega, rfl, HB1, ⟨fun j hj => absurd hj (by omega)⟩⟩
   case round =>
    clear HB1 hc4 hc3
    obtain ⟨i, hi, rfl, HB, HP⟩ := hrel
    obtain ⟨A5, c5, hb5, hg5, hr5⟩ := HB.out.is
    have hc5 := (blk_cell hb5 3).trans rfl
    by_cases hlt : i < ph.length
    ·obtain ⟨ad, rfl, hcs⟩ := Kd.at_string (Kd.C_below hr5 HB.out.bel) (i : Int) (by omega) (by omega)
     rw [Int.toNat_natCast] at hcs
     have HM : Aside0 (rdOf ByteArray.empty ph (i : Int) ∈ ph) := ⟨by rw [rdOf_get ph i hlt]; exact List.getElem_mem hlt⟩
     have HPD := Aside0.mk (show phOk ph i = (phrB (rdOf ByteArray.empty ph (i : Int)) && decide (fnd ph (rdOf ByteArray.empty ph (i : Int)) = (i : Int))) from rfl)
     clear hb5 hg5 hr5
     generalize rdOf ByteArray.empty ph (i : Int) = s at *
     obtain ⟨k1, hk1⟩ := (l03Phrase_ev s (HH.out s HM.out)).rounds
     have HPH := Aside0.mk hk1
     obtain ⟨k2, hk2⟩ := (l03Find_ev (K : Int) (L : Int) (S : Int) ph s (by omega)).rounds
     have HFI := Aside0.mk hk2
     clear hk1 hk2
     cases hp : phrB s with
     | false =>
      have HF := Aside0.mk (show okBook K L S ph = false by
       unfold okBook
       rw [decide_eq_false (p := ∀ i : Nat, i < ph.length → phOk ph i = true) (fun h => by have := h i hlt; rw [HPD.out, hp] at this; simp at this)]
       simp)
      rw [hp] at HPH
      clear hp HFI
      go_wp2_with (go_at_call 46; refine (spec_l03Phrase.calls k1 s false _ HPH.out).mono ?_; rintro e w2 ⟨rfl, ⟨n2, rfl⟩⟩)
      go_ret
      exact ⟨by rw [HF.out]; rfl, HB.out.drewN _⟩
     | true =>
      rw [hp] at HPH
      have HPT := Aside0.mk hp
      clear hp
      by_cases hf : fnd ph s = (i : Int)
      ·have HOK := Aside0.mk (show phOk ph i = true by rw [HPD.out, HPT.out, decide_eq_true hf]; rfl)
       rw [hf] at HFI
       clear hf
       go_wp2_with (first
        | (go_at_call 46; refine (spec_l03Phrase.calls k1 s true _ HPH.out).mono ?_; rintro e w2 ⟨rfl, ⟨n2, rfl⟩⟩)
        | (go_at_call 47; refine (spec_l03Find.calls k2 g K L S ph s _ _ _ _ w0 _ (HB.out.drewN n2).is (HB.out.drewN n2).bel HFI.out).mono ?_; rintro e w3 ⟨rfl, h1, h2, h3⟩; have HB3 := Aside0.mk ((HB.out.drewN n2).call h1 h2 h3); clear h1 h2 h3))
       go_roundw
       case rel => exact ⟨i + 1, by omega, by go_num, HB3, ⟨fun j hj => by
        rcases Nat.lt_or_ge j i with h | h
        ·exact HP.out j h
        ·obtain rfl : j = i := by omega
         exact HOK.out⟩⟩
       case measure => simp [intOf]; omega
      ·have HF := Aside0.mk (show okBook K L S ph = false by
        unfold okBook
        rw [decide_eq_false (p := ∀ i : Nat, i < ph.length → phOk ph i = true) (fun h => by have := h i hlt; rw [HPD.out, decide_eq_false hf] at this; simp at this)]
        simp)
       have hf1 : (fnd ph s != (i : Int)) = true := by rw [bne_iff_ne]; exact hf
       clear hf
       generalize fnd ph s = f at *
       go_wp2_with (first
        | (go_at_call 46; refine (spec_l03Phrase.calls k1 s true _ HPH.out).mono ?_; rintro e w2 ⟨rfl, ⟨n2, rfl⟩⟩)
        | (go_at_call 47; refine (spec_l03Find.calls k2 g K L S ph s _ _ _ _ w0 _ (HB.out.drewN n2).is (HB.out.drewN n2).bel HFI.out).mono ?_; rintro e w3 ⟨rfl, h1, h2, h3⟩; have HB3 := Aside0.mk ((HB.out.drewN n2).call h1 h2 h3); clear h1 h2 h3))
       go_ret
       exact ⟨by rw [HF.out]; rfl, HB3.out⟩
    ·have HI := Aside0.mk (show i = ph.length by omega)
     have HALL := Aside0.mk (show okBook K L S ph = decide (ph.length ≤ (outL K S L).length) by
      unfold okBook
      rw [HZ.out, decide_eq_true h100, decide_eq_true (p := ∀ i : Nat, i < ph.length → phOk ph i = true) (fun j hj => HP.out j (by rw [HI.out]; exact hj)), Int.toNat_natCast, Int.toNat_natCast, Int.toNat_natCast]
      simp)
     have HBL := Aside0.mk hb5
     have HME := Aside0.mk (fun W (hW : BkSt w0 w g K L S ph W) => by
      obtain ⟨A6, c6, hb6, _, _⟩ := hW.is
      exact specMeanings_calls K L S A6 ph.length c6 g W hb6 HK4.out.1.1 HK4.out.1.2 HK4.out.2.1 HK4.out.2.2)
     clear hb5 hg5 hr5
     go_wp2_with fail
     refine start_ (n := 10) (S := fun w' => BkSt w0 w g K L S ph w' ∧ w'.heap[g]? = some (.cells #[.int .i8 (K : Int), .int .i8 (L : Int), .int .i8 (S : Int), .slice A5 ph.length c5] 28 (0, 0))) (ds := []) #[false, false, false, false, false, false, false, false, false, false] (by kernel_rfl) rfl rfl (⟨HB.out.drew, HBL.out⟩) (fun hHeld => ?_)
     refine pure_ (i := 0) (N := some 46) (v := ?_) (a' := ?_) #[true, false, false, false, false, false, false, false, false, false] rfl rfl (by kernel_rfl) (fun _ _ _ h => h) (Or.inl ⟨by rfl, ?_⟩) ?_ ?_
     rotate_left
     ·intro w'
      go_simp
      with_reducible rfl
     rotate_left
     ·simp only [Act.put, List.setIfInBounds_toArray, List.set_cons_zero, List.set_cons_succ, i64_w, i32_w]
      rfl
     refine pure_ (i := 1) (N := some 47) (v := ?_) (a' := ?_) #[true, true, false, false, false, false, false, false, false, false] rfl rfl (by kernel_rfl) (fun _ _ _ h => h) (Or.inl ⟨by rfl, ?_⟩) ?_ ?_
     rotate_left
     ·intro w'
      go_simp
      with_reducible rfl
     rotate_left
     ·simp only [Act.put, List.setIfInBounds_toArray, List.set_cons_zero, List.set_cons_succ, i64_w, i32_w]
      rfl
     refine pure_ (i := 2) (N := some 48) (v := ?_) (a' := ?_) #[true, true, true, false, false, false, false, false, false, false] rfl rfl (by kernel_rfl) (fun _ _ _ h => h) (Or.inl ⟨by rfl, ?_⟩) ?_ ?_
     rotate_left
     ·intro w'
      go_simp
      with_reducible rfl
     rotate_left
     ·simp only [Act.put, List.setIfInBounds_toArray, List.set_cons_zero, List.set_cons_succ, i64_w, i32_w]
      rfl
     refine pure_ (i := 5) (N := some 51) (v := ?_) (a' := ?_) #[true, true, true, false, false, true, false, false, false, false] rfl rfl (by kernel_rfl) (fun _ _ _ h => h) (Or.inl ⟨by rfl, ?_⟩) ?_ ?_
     rotate_left
     ·intro w'
      go_simp
      with_reducible rfl
     rotate_left
     ·simp only [Act.put, List.setIfInBounds_toArray, List.set_cons_zero, List.set_cons_succ, i64_w, i32_w]
      rfl
     refine take_ (i := 3) (N := some 49) (v := .slice A5 ph.length c5) (a' := ?_) #[true, true, true, true, false, true, false, false, false, false] rfl rfl (by kernel_rfl) (fun _ _ _ h => h) (Or.inl ⟨by rfl, ?_⟩) hHeld ?_ ?_
     ·intro w' s0
      exact y_cell (by rfl) (by rfl) oneStrS ((blk_cell s0.2 3).trans rfl)
     rotate_left
     ·simp only [Act.put, List.setIfInBounds_toArray, List.set_cons_zero, List.set_cons_succ, i64_w, i32_w]
      rfl
     refine pure_ (i := 4) (N := some 50) (v := ?_) (a' := ?_) #[true, true, true, true, true, true, false, false, false, false] rfl rfl (by kernel_rfl) (fun _ _ _ h => h) (Or.inl ⟨by rfl, ?_⟩) ?_ ?_
     rotate_left
     ·intro w'
      go_simp
      with_reducible rfl
     rotate_left
     ·simp only [Act.put, List.setIfInBounds_toArray, List.set_cons_zero, List.set_cons_succ, i64_w, i32_w]
      rfl
     refine one_ (i := 6) (N := some 52) #[true, true, true, true, true, true, true, false, false, false] rfl rfl (by kernel_rfl) (by decide) (fun K hK => ?_)
     refine goes_ Tryd.func48 (by kernel_rfl) rfl #[.pointer (some ⟨g, 0, none⟩)] (by rfl) rfl rfl (by simp only [List.map_toArray, List.map_cons, List.map_nil]; rfl) ?_
     refine (HME.out _ hHeld.1).mono ?_
     rintro e w4 ⟨v, rfl, hsv, hb4⟩
     obtain ⟨A7, c7, rfl, _, _⟩ := Kd.S_reads hsv
     clear hsv
     refine ⟨_, rfl, ?_⟩
     refine hK.out _ _ (⟨hHeld.1.below hb4, (hb4.block g (lt_of_some hHeld.2)).trans hHeld.2⟩) (fun hHeld => ?_)
     clear hK K
     refine norm_ (a' := ?_) ?_ ?_
     rotate_left
     ·show Act.put _ (some 52) _ = _
      simp only [Act.put, List.setIfInBounds_toArray, List.set_cons_zero, List.set_cons_succ, i64_w, i32_w]
      rfl
     refine pure_ (i := 7) (N := some 53) (v := ?_) (a' := ?_) #[true, true, true, true, true, true, true, true, false, false] rfl rfl (by kernel_rfl) (fun _ _ _ h => h) (Or.inl ⟨by rfl, ?_⟩) ?_ ?_
     rotate_left
     ·intro w'
      go_simp
      with_reducible rfl
     rotate_left
     ·simp only [Act.put, List.setIfInBounds_toArray, List.set_cons_zero, List.set_cons_succ, i64_w, i32_w]
      rfl
     refine pure_ (i := 8) (N := some 54) (v := ?_) (a' := ?_) #[true, true, true, true, true, true, true, true, true, false] rfl rfl (by kernel_rfl) (fun _ _ _ h => h) (Or.inl ⟨by rfl, ?_⟩) ?_ ?_
     rotate_left
     ·intro w'
      go_simp
      with_reducible rfl
     rotate_left
     ·simp only [Act.put, List.setIfInBounds_toArray, List.set_cons_zero, List.set_cons_succ, i64_w, i32_w]
      rfl
     refine pure_ (i := 9) (N := some 2) (v := ?_) (a' := ?_) #[true, true, true, true, true, true, true, true, true, true] rfl rfl (by kernel_rfl) (fun _ _ _ h => h) (Or.inl ⟨by rfl, ?_⟩) ?_ ?_
     rotate_left
     ·intro w'
      go_simp
      with_reducible rfl
     rotate_left
     ·simp only [Act.put, List.setIfInBounds_toArray, List.set_cons_zero, List.set_cons_succ, i64_w, i32_w]
      rfl
     refine done_ (by kernel_rfl) ?_
     skip
     go_wp2_with fail
     go_ret
     exact ⟨by rw [HALL.out]; rfl, hHeld.1⟩
  ·have HF := Aside0.mk (show okBook K L S ph = false by unfold okBook; rw [decide_eq_false h100]; simp)
   have hgt : (100 : Int) < (ph.length : Int) := by omega
   have hgt2 := decide_eq_true hgt
   clear h100
   go_enter Tryd.func21, Tryd.ntmps21
   go_wp2_with (go_at_call 45; refine (HS.out _ HB0.out.is HB0.out.bel).mono ?_; rintro e w1 ⟨rfl, h1, h2, h3⟩; have HB1 := Aside0.mk (HB0.out.call h1 h2 h3); obtain ⟨A4, c4, hb4, _, _⟩ := h1; have hc4 := (blk_cell hb4 3).trans rfl; clear h2 h3 hb4)
   go_ret
   exact ⟨by rw [HF.out]; rfl, HB1.out⟩
end Go.Proofs.YtdgecgfgekmhcaaDoor.Arr
namespace Go.Proofs.YtdgecgfgekmhcaaDoor.Arr
open Go.RowKit Go.Proofs.YtdgecgfgekmhcaaDoorW.PrintWords Go.Proofs.YtdgecgfgekmhcaaDoorW.PrintLast Go.Proofs.YtdgecgfgekmhcaaDoorW.PrintMore Go.Proofs.YtdgecgfgekmhcaaDoor.U Go.Proofs.YtdgecgfgekmhcaaDoor.J
set_option linter.unusedVariables false
set_option linter.unusedSimpArgs false
theorem okBook_in {K L S : Int} {ph : List ByteArray} (h : okBook K L S ph = true) : ((1 ≤ K ∧ K ≤ 10) ∧ (1 ≤ L ∧ L ≤ 3) ∧ (0 ≤ S ∧ S ≤ 4)) ∧ ph.length ≤ 100 ∧ ph.length ≤ (outL K.toNat S.toNat L.toNat).length := by
 unfold okBook at h
 rw [Bool.and_eq_true, Bool.and_eq_true, Bool.and_eq_true] at h
 exact ⟨of_decide_eq_true h.1.1.1, of_decide_eq_true h.1.1.2, of_decide_eq_true h.2⟩
structure BookP (K L S : Int) (ph : List ByteArray) : Prop where
 k : -128 ≤ K ∧ K ≤ 127
 l : -128 ≤ L ∧ L ≤ 127
 s : -128 ≤ S ∧ S ≤ 127
 n : ph.length ≤ 100000000
 p : ∀ s ∈ ph, s.size ≤ 140737488351232
theorem okSt_calls {K L S : Int} {ph : List ByteArray} (hp : BookP K L S ph) {w0 w W : World} {g : Nat} (h : BkSt w0 w g K L S ph W) : Calls Tryd.prog 21 #[.pointer (some ⟨g, 0, none⟩)] W fun e w' => e = .returned (.bool (okBook K L S ph)) ∧ BkSt w0 w g K L S ph w' ∧ Below w0.heap.size w0 w' :=
 (l03Ok_calls K L S ph g w0 W h.is h.bel hp.k hp.l hp.s hp.n hp.p).mono fun e w' ⟨h1, h2⟩ => ⟨h1, ⟨h2.is, h2.bel, h.keep.trans h2.keep (Or.inl rfl)⟩, h2.bel⟩
theorem bk_new {K L S : Int} {ph : List ByteArray} {A3 : Option Addr} {c3 : Nat} {w : World} (hr3 : Kd.C Kd.string w A3 ph.length ph) : BkSt w (w.alloc (.cells #[.int .i8 K, .int .i8 L, .int .i8 S, .slice A3 ph.length c3] 28)) w.heap.size K L S ph (w.alloc (.cells #[.int .i8 K, .int .i8 L, .int .i8 S, .slice A3 ph.length c3] 28)) :=
 ⟨IsS28.new w w A3 c3 K L S ph (Below.refl _ _) hr3, below_alloc (Below.refl _ _) _, KeepBut.refl _ _ _⟩
end Go.Proofs.YtdgecgfgekmhcaaDoor.Arr
namespace Go.Proofs.YtdgecgfgekmhcaaDoor.Arr
open Go.RowKit Go.Proofs.YtdgecgfgekmhcaaDoorW.PrintWords Go.Proofs.YtdgecgfgekmhcaaDoorW.PrintLast Go.Proofs.YtdgecgfgekmhcaaDoorW.PrintMore Go.Proofs.YtdgecgfgekmhcaaDoor.U Go.Proofs.YtdgecgfgekmhcaaDoor.J
set_option linter.unusedVariables false
set_option linter.unusedSimpArgs false
abbrev BK := Int × Int × Int × List (List UInt8)
def okB (b : BK) : Bool := okBook b.1 b.2.1 b.2.2.1 (txs b.2.2.2)
def hdT (b : BK) : List UInt8 := dg b.1.toNat ++ 32 :: (dg b.2.1.toNat ++ 32 :: dg b.2.2.1.toNat)
def bookT (b : BK) : List UInt8 := hdT b ++ 10 :: (b.2.2.2.map (· ++ [10])).flatten
theorem ok_ranges {b : BK} (h : okB b = true) : ((1 ≤ b.1 ∧ b.1 ≤ 10) ∧ (1 ≤ b.2.1 ∧ b.2.1 ≤ 3) ∧ (0 ≤ b.2.2.1 ∧ b.2.2.1 ≤ 4)) ∧ b.2.2.2.length ≤ 100 := by
 have := okBook_in h
 rw [txs, List.length_map] at this
 exact ⟨this.1, this.2.1⟩
theorem phr_bytes {p : List UInt8} (h : phrB ⟨p.toArray⟩ = true) : (∀ x ∈ p, x ≠ 10) ∧ p.length ≤ 40 := by
 unfold phrB at h
 rw [Bool.and_eq_true, decide_eq_true_eq, decide_eq_true_eq, bs_size] at h
 refine ⟨fun x hx e => ?_, by omega⟩
 subst e
 obtain ⟨a, c, rfl⟩ := List.append_of_mem hx
 have := h.1 a.length (by simp)
 rw [bt_app a c 10] at this
 have : (UInt8.toNat 10) = 10 := rfl
 omega
theorem ok_phr {b : BK} (h : okB b = true) : ∀ p ∈ b.2.2.2, (∀ x ∈ p, x ≠ 10) ∧ p.length ≤ 40 := by
 intro p hp
 obtain ⟨i, hi, rfl⟩ := List.getElem_of_mem hp
 unfold okB okBook at h
 simp only [Bool.and_eq_true, decide_eq_true_eq] at h
 have h1 := h.1.2 i (by rw [txs, List.length_map]; exact hi)
 unfold phOk at h1
 rw [Bool.and_eq_true, rdOf_get _ i (by rw [txs, List.length_map]; exact hi)] at h1
 have h2 := h1.1
 simp only [txs, List.getElem_map] at h2
 exact phr_bytes h2
end Go.Proofs.YtdgecgfgekmhcaaDoor.Arr
namespace Go.Proofs.YtdgecgfgekmhcaaDoor.Arr
open Go.RowKit Go.Proofs.YtdgecgfgekmhcaaDoorW.PrintWords Go.Proofs.YtdgecgfgekmhcaaDoorW.PrintLast Go.Proofs.YtdgecgfgekmhcaaDoorW.PrintMore Go.Proofs.YtdgecgfgekmhcaaDoor.U Go.Proofs.YtdgecgfgekmhcaaDoor.J
set_option linter.unusedVariables false
set_option linter.unusedSimpArgs false
theorem isPhrase_ev (s : ByteArray) (hs : s.size ≤ 140737488351232) : Ev (fun k => impl_isPhrase.f k s) (phrB s) := by
 unfold impl_isPhrase.f
 refine iter (F := fun k (x : Int) => impl_isPhrase.l0 k s (s.size : Int) x) (fun i x => x = (i : Int) ∧ ∀ j : Nat, j < i → 32 ≤ bt s (j : Int) ∧ bt s (j : Int) ≤ 126) _ s.size ?_ ?_ 0 0 (by omega) ⟨rfl, fun j hj => absurd hj (by omega)⟩
 ·rintro i x hi ⟨rfl, hP⟩
  by_cases h1 : 32 ≤ bt s (i : Int) ∧ bt s (i : Int) ≤ 126
  ·refine .inl ⟨((i + 1 : Nat) : Int), ⟨rfl, fun j hj => ?_⟩, fun hgo => ?_⟩
   ·rcases Nat.lt_or_ge j i with h | h
    ·exact hP j h
    ·obtain rfl : j = i := by omega
     exact h1
   ·have hgo2 : Ev (fun k => impl_isPhrase.l0 k s (s.size : Int) (wrap64 ((i : Int) + 1))) (phrB s) := by rw [w64 (by omega) (by omega)]; exact hgo
    refine Ev.step (fun k => by rw [impl_isPhrase.l0]) ?_
    exact pos (by omega) (pos (by omega) (pos (by omega) (neg (by omega) (neg (by omega) hgo2))))
  ·refine .inr ?_
   have hf : phrB s = false := by
    unfold phrB
    rw [decide_eq_false (fun h => h1 (h i hi))]; rfl
   rw [hf]
   refine Ev.step (fun k => by rw [impl_isPhrase.l0]) ?_
   refine pos (by omega) (pos (by omega) (pos (by omega) ?_))
   by_cases h2 : bt s (i : Int) < 32
   ·exact pos h2 (cons rfl)
   ·exact neg h2 (pos (by omega) (cons rfl))
 ·rintro x ⟨rfl, hP⟩
  refine Ev.step (fun k => by rw [impl_isPhrase.l0]) ?_
  refine neg (by omega) (bindc (within_ev' _ _ _) (cons ?_))
  unfold phrB
  rw [decide_eq_true hP]; rfl
theorem index_ev (ph : List ByteArray) (a : ByteArray) (hn : ph.length ≤ 140737488351232) : Ev (fun k => slices_Index_string_string.f k ph a) (fnd ph a) := by
 unfold slices_Index_string_string.f
 refine iter (F := fun k (x : Int) => slices_Index_string_string.l0 k ph a (ph.length : Int) x) (fun i x => x = (i : Int) ∧ ∀ j : Nat, j < i → ∀ y, ph[j]? = some y → decide (y.toList = a.toList) = false) _ ph.length ?_ ?_ 0 0 (by omega) ⟨rfl, fun j hj => absurd hj (by omega)⟩
 ·rintro i x hi ⟨rfl, hP⟩
  have hg := rdOf_get ph i hi
  by_cases h1 : ph[i].toList = a.toList
  ·refine .inr ?_
   rw [show fnd ph a = (i : Int) from ixa_found _ ph i ph[i] (List.getElem?_eq_getElem hi) hP (decide_eq_true h1)]
   refine Ev.step (fun k => by rw [slices_Index_string_string.l0]) ?_
   exact pos (by omega) (pos (by omega) (pos (by omega) (pos (by rw [hg]; exact h1.symm) (cons rfl))))
  ·refine .inl ⟨((i + 1 : Nat) : Int), ⟨rfl, fun j hj y hy => ?_⟩, fun hgo => ?_⟩
   ·rcases Nat.lt_or_ge j i with h | h
    ·exact hP j h y hy
    ·obtain rfl : j = i := by omega
     rw [List.getElem?_eq_getElem hi] at hy
     rw [← Option.some.inj hy]; exact decide_eq_false h1
   ·have hgo2 : Ev (fun k => slices_Index_string_string.l0 k ph a (ph.length : Int) (wrap64 ((i : Int) + 1))) (fnd ph a) := by rw [w64 (by omega) (by omega)]; exact hgo
    refine Ev.step (fun k => by rw [slices_Index_string_string.l0]) ?_
    exact pos (by omega) (pos (by omega) (pos (by omega) (neg (by rw [hg]; exact fun e => h1 e.symm) hgo2)))
 ·rintro x ⟨rfl, hP⟩
  refine Ev.step (fun k => by rw [slices_Index_string_string.l0]) ?_
  exact neg (by omega) (cons (by rw [show fnd ph a = -1 from ixa_none _ ph hP]))
def hasP (ph : List ByteArray) (a : ByteArray) : Bool := decide (0 ≤ fnd ph a)
theorem contains_ev (ph : List ByteArray) (a : ByteArray) (hn : ph.length ≤ 140737488351232) : Ev (fun k => slices_Contains_string_string.f k ph a) (hasP ph a) := by
 unfold slices_Contains_string_string.f
 exact Ev.bind (index_ev ph a hn) (cons rfl)
theorem ixa_at {α : Type} (p : α → Bool) (l : List α) (i : Nat) (h : ixa p l = (i : Int)) : ∀ j, j < i → ∀ y, l[j]? = some y → p y = false := by
 unfold ixa at h
 cases hf : l.findIdx? p with
 | none => rw [hf] at h; simp at h
 | some k =>
  rw [hf] at h
  simp only [Int.natCast_inj] at h
  subst h
  rw [List.findIdx?_eq_some_iff_getElem] at hf
  obtain ⟨hk, _, hall⟩ := hf
  intro j hj y hy
  have := hall j hj
  rw [List.getElem?_eq_getElem (by omega)] at hy
  rw [← Option.some.inj hy]
  simpa using this
theorem hasP_take (ph : List ByteArray) (i : Nat) (hi : i < ph.length) : hasP (ph.take i) ph[i] = !decide (fnd ph ph[i] = (i : Int)) := by
 unfold hasP fnd
 rw [ixa_any]
 by_cases h : ixa (fun x : ByteArray => decide (x.toList = ph[i].toList)) ph = (i : Int)
 ·rw [decide_eq_true h]
  have hall := ixa_at _ ph i h
  rw [show (!true) = false from rfl, List.any_eq_false]
  intro y hy
  obtain ⟨j, hj, rfl⟩ := List.getElem_of_mem hy
  rw [List.length_take] at hj
  have := hall j (by omega) ph[j] (List.getElem?_eq_getElem (by omega))
  rw [List.getElem_take]
  simpa using this
 ·rw [decide_eq_false h]
  cases ha : (ph.take i).any fun x => decide (x.toList = ph[i].toList) with
  | true => rfl
  | false =>
   exfalso
   rw [List.any_eq_false] at ha
   refine h (ixa_found _ ph i ph[i] (List.getElem?_eq_getElem hi) (fun j hj y hy => ?_) (decide_eq_true rfl))
   have hy2 : y ∈ ph.take i := List.mem_of_getElem? (i := j) (by rw [List.getElem?_take, if_pos hj]; exact hy)
   have := ha y hy2
   simpa using this
theorem phOk_take (ph : List ByteArray) (i : Nat) (hi : i < ph.length) : phOk ph i = (phrB (rdOf ByteArray.empty ph (i : Int)) && !hasP (ph.take i) (rdOf ByteArray.empty ph (i : Int))) := by
 unfold phOk
 rw [rdOf_get ph i hi, hasP_take ph i hi, Bool.not_not]
theorem isFrame_f (K L S : Int) (ph : List ByteArray) (hK : -128 ≤ K ∧ K ≤ 127) (hL : -128 ≤ L ∧ L ≤ 127) (hS : -128 ≤ S ∧ S ≤ 127) : impl_Book_isFrame.f K L S ph = some (sizedB K L S) := by
 unfold impl_Book_isFrame.f sizedB
 rw [w64 (by omega) (by omega), w64 (by omega) (by omega), w64 (by omega) (by omega), within_ev', within_ev', within_ev']
 by_cases h1 : 1 ≤ K ∧ K ≤ 10 <;> by_cases h2 : 1 ≤ L ∧ L ≤ 3 <;> simp [h1, h2]
theorem C_takeS {w : World} {A : Option Addr} {n : Nat} {xs : List ByteArray} (h : Kd.C Kd.string w A n xs) (m : Nat) (hm : m ≤ n) : Kd.C Kd.string w A m (xs.take m) := by
 obtain ⟨h1, h2, h3⟩ := h
 refine ⟨by rw [List.length_take]; omega, by omega, fun h0 => ?_⟩
 obtain ⟨ad, e, hc⟩ := h3 (by omega)
 refine ⟨ad, e, fun j p hj => hc j p ?_⟩
 have hjm := (List.getElem?_eq_some_iff.1 hj).1
 rw [List.length_take] at hjm
 rwa [List.getElem?_take, if_pos (by omega)] at hj
section
variable {P : Program} {o : Oper} {a : Act}
theorem y_row {ty : TypeId} {x : Operand} (ho : o.op = .load ty x) {g m : Nat} (hx : a.eval x = .pointer (some ⟨g, 0, none⟩)) {cs : Array Value} {t : TypeId} {w' : World} (hc : w'.heap[g]? = some (.cells cs t (0, 0))) (hi2 : AggTy P ty m) (hl : cs.size = m) : (execOp a.eval o).run P w' = .ok (.value (.agg cs)) w' := by
 obtain ⟨hd, hi0⟩ := hi2
 have hi : (P.info? ty).map (·.size) = some cs.size := by rw [hl]; exact hi0
 cases hu : P.underlying ty with
 | none => simp [hu] at hd
 | some d =>
  have h := run_loadVar_row (P := P) w' g t ty cs (0, 0) d hc hu (by cases d <;> simp_all) hi
  unfold execOp
  simp only [ho, hx, Instr.loadAt, Instr.sureAddr, Sem.run_bind, Sem.run_pure, Result.andThen_ok, h]
end
theorem aggBook : AggTy Tryd.prog 28 4 := ⟨by kernel_rfl, by kernel_rfl⟩
def BkIn (w : World) (K L S : Int) (A3 : Option Addr) (n3 c3 : Nat) (w' : World) : Prop := Below w.heap.size w w' ∧ w'.heap[w.heap.size]? = some (.cells #[.int .i8 K, .int .i8 L, .int .i8 S, .slice A3 n3 c3] 28 (0, 0))
theorem BkIn.below {w w1 w2 : World} {K L S : Int} {A3 : Option Addr} {n3 c3 : Nat} (h : BkIn w K L S A3 n3 c3 w1) (hb : Below w1.heap.size w1 w2) : BkIn w K L S A3 n3 c3 w2 := ⟨h.1.trans (hb.mono h.1.size), (hb.block _ (lt_of_some h.2)).trans h.2⟩
theorem BkIn.drew {w w1 : World} {K L S : Int} {A3 : Option Addr} {n3 c3 : Nat} (h : BkIn w K L S A3 n3 c3 w1) : BkIn w K L S A3 n3 c3 w1.drew := ⟨below_drew1 h.1, h.2⟩
theorem bkIn_new (w : World) (K L S : Int) (A3 : Option Addr) (n3 c3 : Nat) : BkIn w K L S A3 n3 c3 (w.alloc (.cells #[.int .i8 K, .int .i8 L, .int .i8 S, .slice A3 n3 c3] 28)) := ⟨below_alloc (Below.refl _ _) _, heap_alloc_new w _⟩
set_option maxHeartbeats 8000000 in
set_option maxRecDepth 100000 in
theorem validBook_calls (bK bL bS : Int) (A3 : Option Addr) (c3 : Nat) (ph : List ByteArray) (w : World) (hp : BookP bK bL bS ph) (hr3 : Kd.C Kd.string w A3 ph.length ph) (hc3 : ph.length ≤ c3) :
  Calls Tryd.prog 24 #[.agg #[.int .i8 bK, .int .i8 bL, .int .i8 bS, .slice A3 ph.length c3]] w fun e w' => e = .returned (.bool (okBook bK bL bS ph)) ∧ Below w.heap.size w w' := by
 have HF := Aside0.mk (fun W (hW : Below w.heap.size w W) => impl_Book_isFrame.calls bK bL bS A3 c3 ph _ W (Kd.C_below hr3 hW) hc3 (isFrame_f bK bL bS ph hp.k hp.l hp.s))
 have HR3 := Aside0.mk hr3
 have hmx := Kd.C_max hr3
 have hn := hp.n
 have HB0 := Aside0.mk (bkIn_new w bK bL bS A3 ph.length c3)
 cases hz : sizedB bK bL bS with
 | false =>
  have HX := Aside0.mk (show okBook bK bL bS ph = false by unfold okBook; rw [hz]; rfl)
  rw [hz] at HF
  clear hz hr3 hp
  go_enter Tryd.func24, Tryd.ntmps24
  go_wp2_with fail
  refine start_ (n := 18) (S := fun w' => BkIn w bK bL bS A3 ph.length c3 w') (ds := []) #[false, false, false, false, false, false, false, false, false, false, false, false, false, false, false, false, false, false] (by kernel_rfl) rfl rfl (HB0.out.drew) (fun hHeld => ?_)
  refine take_ (i := 0) (N := some 5) (v := .agg #[.int .i8 bK, .int .i8 bL, .int .i8 bS, .slice A3 ph.length c3]) (a' := ?_) #[true, false, false, false, false, false, false, false, false, false, false, false, false, false, false, false, false, false] rfl rfl (by kernel_rfl) (fun _ _ _ h => h) (Or.inl ⟨by rfl, ?_⟩) hHeld ?_ ?_
  ·intro w' s0
   exact y_row (by rfl) (by rfl) s0.2 aggBook rfl
  rotate_left
  ·simp only [Act.put, List.setIfInBounds_toArray, List.set_cons_zero, List.set_cons_succ, i64_w, i32_w]
   rfl
  refine one_ (i := 1) (N := some 6) #[true, true, false, false, false, false, false, false, false, false, false, false, false, false, false, false, false, false] rfl rfl (by kernel_rfl) (by decide) (fun K hK => ?_)
  refine goes_ Tryd.func50 (by kernel_rfl) rfl #[.agg #[.int .i8 bK, .int .i8 bL, .int .i8 bS, .slice A3 ph.length c3]] (by rfl) rfl rfl (by simp only [List.map_toArray, List.map_cons, List.map_nil]; rfl) ?_
  refine (HF.out _ hHeld.1).mono ?_
  rintro e w1 ⟨rfl, hb1⟩
  refine ⟨_, rfl, ?_⟩
  refine hK.out _ _ (hHeld.below hb1) (fun hHeld => ?_)
  clear hK K
  refine norm_ (a' := ?_) ?_ ?_
  rotate_left
  ·show Act.put _ (some 6) _ = _
   simp only [Act.put, List.setIfInBounds_toArray, List.set_cons_zero, List.set_cons_succ, i64_w, i32_w]
   rfl
  refine pure_ (i := 2) (N := some 7) (v := ?_) (a' := ?_) #[true, true, true, false, false, false, false, false, false, false, false, false, false, false, false, false, false, false] rfl rfl (by kernel_rfl) (fun _ _ _ h => h) (Or.inl ⟨by rfl, ?_⟩) ?_ ?_
  rotate_left
  ·intro w'
   go_simp
   with_reducible rfl
  rotate_left
  ·simp only [Act.put, List.setIfInBounds_toArray, List.set_cons_zero, List.set_cons_succ, i64_w, i32_w]
   rfl
  refine pure_ (i := 3) (N := some 8) (v := ?_) (a' := ?_) #[true, true, true, true, false, false, false, false, false, false, false, false, false, false, false, false, false, false] rfl rfl (by kernel_rfl) (fun _ _ _ h => h) (Or.inl ⟨by rfl, ?_⟩) ?_ ?_
  rotate_left
  ·intro w'
   go_simp
   with_reducible rfl
  rotate_left
  ·simp only [Act.put, List.setIfInBounds_toArray, List.set_cons_zero, List.set_cons_succ, i64_w, i32_w]
   rfl
  refine pure_ (i := 4) (N := some 9) (v := undef) (a' := ?_) #[true, true, true, true, true, false, false, false, false, false, false, false, false, false, false, false, false, false] rfl rfl (by kernel_rfl) (fun _ _ _ h => h) (Or.inr ⟨by rfl, rfl⟩) ?_ ?_
  rotate_left
  ·simp only [Act.put, List.setIfInBounds_toArray, List.set_cons_zero, List.set_cons_succ, i64_w, i32_w]
   rfl
  refine pure_ (i := 5) (N := some 10) (v := undef) (a' := ?_) #[true, true, true, true, true, true, false, false, false, false, false, false, false, false, false, false, false, false] rfl rfl (by kernel_rfl) (fun _ _ _ h => h) (Or.inr ⟨by rfl, rfl⟩) ?_ ?_
  rotate_left
  ·simp only [Act.put, List.setIfInBounds_toArray, List.set_cons_zero, List.set_cons_succ, i64_w, i32_w]
   rfl
  refine pure_ (i := 6) (N := some 11) (v := undef) (a' := ?_) #[true, true, true, true, true, true, true, false, false, false, false, false, false, false, false, false, false, false] rfl rfl (by kernel_rfl) (fun _ _ _ h => h) (Or.inr ⟨by rfl, rfl⟩) ?_ ?_
  rotate_left
  ·simp only [Act.put, List.setIfInBounds_toArray, List.set_cons_zero, List.set_cons_succ, i64_w, i32_w]
   rfl
  refine pure_ (i := 7) (N := some 12) (v := undef) (a' := ?_) #[true, true, true, true, true, true, true, true, false, false, false, false, false, false, false, false, false, false] rfl rfl (by kernel_rfl) (fun _ _ _ h => h) (Or.inr ⟨by rfl, rfl⟩) ?_ ?_
  rotate_left
  ·simp only [Act.put, List.setIfInBounds_toArray, List.set_cons_zero, List.set_cons_succ, i64_w, i32_w]
   rfl
  refine pure_ (i := 8) (N := some 13) (v := ?_) (a' := ?_) #[true, true, true, true, true, true, true, true, true, false, false, false, false, false, false, false, false, false] rfl rfl (by kernel_rfl) (fun _ _ _ h => h) (Or.inl ⟨by rfl, ?_⟩) ?_ ?_
  rotate_left
  ·intro w'
   go_simp
   with_reducible rfl
  rotate_left
  ·simp only [Act.put, List.setIfInBounds_toArray, List.set_cons_zero, List.set_cons_succ, i64_w, i32_w]
   rfl
  refine pure_ (i := 9) (N := some 14) (v := ?_) (a' := ?_) #[true, true, true, true, true, true, true, true, true, true, false, false, false, false, false, false, false, false] rfl rfl (by kernel_rfl) (fun _ _ _ h => h) (Or.inl ⟨by rfl, ?_⟩) ?_ ?_
  rotate_left
  ·intro w'
   go_simp
   with_reducible rfl
  rotate_left
  ·simp only [Act.put, List.setIfInBounds_toArray, List.set_cons_zero, List.set_cons_succ, i64_w, i32_w]
   rfl
  refine pure_ (i := 10) (N := some 15) (v := undef) (a' := ?_) #[true, true, true, true, true, true, true, true, true, true, true, false, false, false, false, false, false, false] rfl rfl (by kernel_rfl) (fun _ _ _ h => h) (Or.inr ⟨by rfl, rfl⟩) ?_ ?_
  rotate_left
  ·simp only [Act.put, List.setIfInBounds_toArray, List.set_cons_zero, List.set_cons_succ, i64_w, i32_w]
   rfl
  refine pure_ (i := 11) (N := some 16) (v := undef) (a' := ?_) #[true, true, true, true, true, true, true, true, true, true, true, true, false, false, false, false, false, false] rfl rfl (by kernel_rfl) (fun _ _ _ h => h) (Or.inr ⟨by rfl, rfl⟩) ?_ ?_
  rotate_left
  ·simp only [Act.put, List.setIfInBounds_toArray, List.set_cons_zero, List.set_cons_succ, i64_w, i32_w]
   rfl
  refine pure_ (i := 12) (N := some 17) (v := undef) (a' := ?_) #[true, true, true, true, true, true, true, true, true, true, true, true, true, false, false, false, false, false] rfl rfl (by kernel_rfl) (fun _ _ _ h => h) (Or.inr ⟨by rfl, rfl⟩) ?_ ?_
  rotate_left
  ·simp only [Act.put, List.setIfInBounds_toArray, List.set_cons_zero, List.set_cons_succ, i64_w, i32_w]
   rfl
  refine pure_ (i := 13) (N := some 18) (v := undef) (a' := ?_) #[true, true, true, true, true, true, true, true, true, true, true, true, true, true, false, false, false, false] rfl rfl (by kernel_rfl) (fun _ _ _ h => h) (Or.inr ⟨by rfl, rfl⟩) ?_ ?_
  rotate_left
  ·simp only [Act.put, List.setIfInBounds_toArray, List.set_cons_zero, List.set_cons_succ, i64_w, i32_w]
   rfl
  refine pure_ (i := 14) (N := some 19) (v := undef) (a' := ?_) #[true, true, true, true, true, true, true, true, true, true, true, true, true, true, true, false, false, false] rfl rfl (by kernel_rfl) (fun _ _ _ h => h) (Or.inr ⟨by rfl, rfl⟩) ?_ ?_
  rotate_left
  ·simp only [Act.put, List.setIfInBounds_toArray, List.set_cons_zero, List.set_cons_succ, i64_w, i32_w]
   rfl
  refine pure_ (i := 15) (N := some 20) (v := undef) (a' := ?_) #[true, true, true, true, true, true, true, true, true, true, true, true, true, true, true, true, false, false] rfl rfl (by kernel_rfl) (fun _ _ _ h => h) (Or.inr ⟨by rfl, rfl⟩) ?_ ?_
  rotate_left
  ·simp only [Act.put, List.setIfInBounds_toArray, List.set_cons_zero, List.set_cons_succ, i64_w, i32_w]
   rfl
  refine pure_ (i := 16) (N := some 21) (v := undef) (a' := ?_) #[true, true, true, true, true, true, true, true, true, true, true, true, true, true, true, true, true, false] rfl rfl (by kernel_rfl) (fun _ _ _ h => h) (Or.inr ⟨by rfl, rfl⟩) ?_ ?_
  rotate_left
  ·simp only [Act.put, List.setIfInBounds_toArray, List.set_cons_zero, List.set_cons_succ, i64_w, i32_w]
   rfl
  refine pure_ (i := 17) (N := some 22) (v := ?_) (a' := ?_) #[true, true, true, true, true, true, true, true, true, true, true, true, true, true, true, true, true, true] rfl rfl (by kernel_rfl) (fun _ _ _ h => h) (Or.inl ⟨by rfl, ?_⟩) ?_ ?_
  rotate_left
  ·intro w'
   go_simp
   with_reducible rfl
  rotate_left
  ·simp only [Act.put, List.setIfInBounds_toArray, List.set_cons_zero, List.set_cons_succ, i64_w, i32_w]
   rfl
  refine done_ (by kernel_rfl) ?_
  skip
  go_wp2_with fail
  go_ret
  exact ⟨by rw [HX.out]; rfl, hHeld.1⟩
 | true =>
  have HZ := Aside0.mk hz
  have hzz := of_decide_eq_true hz
  rw [hz] at HF
  by_cases h100 : ph.length ≤ 100
  ·have hle : ¬ (100 : Int) < (ph.length : Int) := by omega
   have hle2 := decide_eq_false hle
   have HME : Aside0 (∀ W, Calls Tryd.prog 51 #[.agg #[.int .i8 bK, .int .i8 bL, .int .i8 bS, .slice A3 ph.length c3]] W fun e w' => ∃ A c, e = .returned (.slice A (outL bK.toNat bS.toNat bL.toNat).length c) ∧ Below W.heap.size W w') := ⟨fun W => by
    obtain ⟨bK, rfl⟩ := Int.eq_ofNat_of_zero_le (show 0 ≤ bK by omega)
    obtain ⟨bL, rfl⟩ := Int.eq_ofNat_of_zero_le (show 0 ≤ bL by omega)
    obtain ⟨bS, rfl⟩ := Int.eq_ofNat_of_zero_le (show 0 ≤ bS by omega)
    refine (implMeanings_calls bK bL bS A3 ph.length c3 W (by omega) (by omega) (by omega) (by omega)).mono ?_
    rintro e w' ⟨v, rfl, hs, hb⟩
    obtain ⟨A, c, rfl, _, _⟩ := Kd.S_reads hs
    exact ⟨A, c, rfl, hb⟩⟩
   have HOB := Aside0.mk (show okBook bK bL bS ph = (decide (∀ i : Nat, i < ph.length → phOk ph i = true) && decide (ph.length ≤ (outL bK.toNat bS.toNat bL.toNat).length)) by
    unfold okBook; rw [hz, decide_eq_true h100]; simp)
   have hle3 := outL_le bK.toNat bS.toNat (by omega) bL.toNat (by omega)
   have hout : (outL bK.toNat bS.toNat bL.toNat).length ≤ 3000 := by omega
   have HPS := Aside0.mk hp.p
   clear hz hr3 hzz hp hle3
   generalize outL bK.toNat bS.toNat bL.toNat = O at *
   by_cases hlo : ph.length ≤ O.length
   ·have hlo1 : ¬ ((O.length : Int) < (ph.length : Int)) := by omega
    have hlo2 := decide_eq_false hlo1
    have hlo3 := decide_eq_false (show ¬ O.length < ph.length by omega)
    have HOB2 := Aside0.mk (show okBook bK bL bS ph = decide (∀ i : Nat, i < ph.length → phOk ph i = true) by rw [HOB.out, decide_eq_true hlo]; simp)
    go_enter Tryd.func24, Tryd.ntmps24
    go_wp2_with fail
    refine start_ (n := 18) (S := fun w' => BkIn w bK bL bS A3 ph.length c3 w') (ds := []) #[false, false, false, false, false, false, false, false, false, false, false, false, false, false, false, false, false, false] (by kernel_rfl) rfl rfl (HB0.out.drew) (fun hHeld => ?_)
    refine take_ (i := 0) (N := some 5) (v := .agg #[.int .i8 bK, .int .i8 bL, .int .i8 bS, .slice A3 ph.length c3]) (a' := ?_) #[true, false, false, false, false, false, false, false, false, false, false, false, false, false, false, false, false, false] rfl rfl (by kernel_rfl) (fun _ _ _ h => h) (Or.inl ⟨by rfl, ?_⟩) hHeld ?_ ?_
    ·intro w' s0
     exact y_row (by rfl) (by rfl) s0.2 aggBook rfl
    rotate_left
    ·simp only [Act.put, List.setIfInBounds_toArray, List.set_cons_zero, List.set_cons_succ, i64_w, i32_w]
     rfl
    refine one_ (i := 1) (N := some 6) #[true, true, false, false, false, false, false, false, false, false, false, false, false, false, false, false, false, false] rfl rfl (by kernel_rfl) (by decide) (fun K hK => ?_)
    refine goes_ Tryd.func50 (by kernel_rfl) rfl #[.agg #[.int .i8 bK, .int .i8 bL, .int .i8 bS, .slice A3 ph.length c3]] (by rfl) rfl rfl (by simp only [List.map_toArray, List.map_cons, List.map_nil]; rfl) ?_
    refine (HF.out _ hHeld.1).mono ?_
    rintro e w1 ⟨rfl, hb1⟩
    refine ⟨_, rfl, ?_⟩
    refine hK.out _ _ (hHeld.below hb1) (fun hHeld => ?_)
    clear hK K
    refine norm_ (a' := ?_) ?_ ?_
    rotate_left
    ·show Act.put _ (some 6) _ = _
     simp only [Act.put, List.setIfInBounds_toArray, List.set_cons_zero, List.set_cons_succ, i64_w, i32_w]
     rfl
    refine pure_ (i := 2) (N := some 7) (v := ?_) (a' := ?_) #[true, true, true, false, false, false, false, false, false, false, false, false, false, false, false, false, false, false] rfl rfl (by kernel_rfl) (fun _ _ _ h => h) (Or.inl ⟨by rfl, ?_⟩) ?_ ?_
    rotate_left
    ·intro w'
     go_simp
     with_reducible rfl
    rotate_left
    ·simp only [Act.put, List.setIfInBounds_toArray, List.set_cons_zero, List.set_cons_succ, i64_w, i32_w]
     rfl
    refine pure_ (i := 3) (N := some 8) (v := ?_) (a' := ?_) #[true, true, true, true, false, false, false, false, false, false, false, false, false, false, false, false, false, false] rfl rfl (by kernel_rfl) (fun _ _ _ h => h) (Or.inl ⟨by rfl, ?_⟩) ?_ ?_
    rotate_left
    ·intro w'
     go_simp
     with_reducible rfl
    rotate_left
    ·simp only [Act.put, List.setIfInBounds_toArray, List.set_cons_zero, List.set_cons_succ, i64_w, i32_w]
     rfl
    refine pure_ (i := 4) (N := some 9) (v := ?_) (a' := ?_) #[true, true, true, true, true, false, false, false, false, false, false, false, false, false, false, false, false, false] rfl rfl (by kernel_rfl) (fun _ _ _ h => h) (Or.inl ⟨by rfl, ?_⟩) ?_ ?_
    rotate_left
    ·intro w'
     go_simp
     with_reducible rfl
    rotate_left
    ·simp only [Act.put, List.setIfInBounds_toArray, List.set_cons_zero, List.set_cons_succ, i64_w, i32_w]
     rfl
    refine take_ (i := 5) (N := some 10) (v := .slice A3 ph.length c3) (a' := ?_) #[true, true, true, true, true, true, false, false, false, false, false, false, false, false, false, false, false, false] rfl rfl (by kernel_rfl) (fun _ _ _ h => h) (Or.inl ⟨by rfl, ?_⟩) hHeld ?_ ?_
    ·intro w' s0
     exact y_cell (by rfl) (by rfl) oneStrS ((cell_of_row _ w.heap.size 3 _ _ (0, 0) s0.2).trans rfl)
    rotate_left
    ·simp only [Act.put, List.setIfInBounds_toArray, List.set_cons_zero, List.set_cons_succ, i64_w, i32_w]
     rfl
    refine pure_ (i := 6) (N := some 11) (v := ?_) (a' := ?_) #[true, true, true, true, true, true, true, false, false, false, false, false, false, false, false, false, false, false] rfl rfl (by kernel_rfl) (fun _ _ _ h => h) (Or.inl ⟨by rfl, ?_⟩) ?_ ?_
    rotate_left
    ·intro w'
     go_simp
     with_reducible rfl
    rotate_left
    ·simp only [Act.put, List.setIfInBounds_toArray, List.set_cons_zero, List.set_cons_succ, i64_w, i32_w]
     rfl
    refine pure_ (i := 7) (N := some 12) (v := ?_) (a' := ?_) #[true, true, true, true, true, true, true, true, false, false, false, false, false, false, false, false, false, false] rfl rfl (by kernel_rfl) (fun _ _ _ h => h) (Or.inl ⟨by rfl, ?_⟩) ?_ ?_
    rotate_left
    ·intro w'
     go_simp
     with_reducible rfl
    rotate_left
    ·simp only [Act.put, List.setIfInBounds_toArray, List.set_cons_zero, List.set_cons_succ, i64_w, i32_w]
     rfl
    refine pure_ (i := 8) (N := some 13) (v := ?_) (a' := ?_) #[true, true, true, true, true, true, true, true, true, false, false, false, false, false, false, false, false, false] rfl rfl (by kernel_rfl) (fun _ _ _ h => h) (Or.inl ⟨by rfl, ?_⟩) ?_ ?_
    rotate_left
    ·intro w'
     go_simp
     with_reducible rfl
    rotate_left
    ·simp only [Act.put, List.setIfInBounds_toArray, List.set_cons_zero, List.set_cons_succ, i64_w, i32_w]
     rfl
    refine pure_ (i := 9) (N := some 14) (v := ?_) (a' := ?_) #[true, true, true, true, true, true, true, true, true, true, false, false, false, false, false, false, false, false] rfl rfl (by kernel_rfl) (fun _ _ _ h => h) (Or.inl ⟨by rfl, ?_⟩) ?_ ?_
    rotate_left
    ·intro w'
     go_simp
     with_reducible rfl
    rotate_left
    ·simp only [Act.put, List.setIfInBounds_toArray, List.set_cons_zero, List.set_cons_succ, i64_w, i32_w]
     rfl
    refine pure_ (i := 10) (N := some 15) (v := ?_) (a' := ?_) #[true, true, true, true, true, true, true, true, true, true, true, false, false, false, false, false, false, false] rfl rfl (by kernel_rfl) (fun _ _ _ h => h) (Or.inl ⟨by rfl, ?_⟩) ?_ ?_
    rotate_left
    ·intro w'
     go_simp
     with_reducible rfl
    rotate_left
    ·simp only [Act.put, List.setIfInBounds_toArray, List.set_cons_zero, List.set_cons_succ, i64_w, i32_w]
     rfl
    refine take_ (i := 11) (N := some 16) (v := .slice A3 ph.length c3) (a' := ?_) #[true, true, true, true, true, true, true, true, true, true, true, true, false, false, false, false, false, false] rfl rfl (by kernel_rfl) (fun _ _ _ h => h) (Or.inl ⟨by rfl, ?_⟩) hHeld ?_ ?_
    ·intro w' s0
     exact y_cell (by rfl) (by rfl) oneStrS ((cell_of_row _ w.heap.size 3 _ _ (0, 0) s0.2).trans rfl)
    rotate_left
    ·simp only [Act.put, List.setIfInBounds_toArray, List.set_cons_zero, List.set_cons_succ, i64_w, i32_w]
     rfl
    refine pure_ (i := 12) (N := some 17) (v := ?_) (a' := ?_) #[true, true, true, true, true, true, true, true, true, true, true, true, true, false, false, false, false, false] rfl rfl (by kernel_rfl) (fun _ _ _ h => h) (Or.inl ⟨by rfl, ?_⟩) ?_ ?_
    rotate_left
    ·intro w'
     go_simp
     with_reducible rfl
    rotate_left
    ·simp only [Act.put, List.setIfInBounds_toArray, List.set_cons_zero, List.set_cons_succ, i64_w, i32_w]
     rfl
    refine take_ (i := 13) (N := some 18) (v := .agg #[.int .i8 bK, .int .i8 bL, .int .i8 bS, .slice A3 ph.length c3]) (a' := ?_) #[true, true, true, true, true, true, true, true, true, true, true, true, true, true, false, false, false, false] rfl rfl (by kernel_rfl) (fun _ _ _ h => h) (Or.inl ⟨by rfl, ?_⟩) hHeld ?_ ?_
    ·intro w' s0
     exact y_row (by rfl) (by rfl) s0.2 aggBook rfl
    rotate_left
    ·simp only [Act.put, List.setIfInBounds_toArray, List.set_cons_zero, List.set_cons_succ, i64_w, i32_w]
     rfl
    refine one_ (i := 14) (N := some 19) #[true, true, true, true, true, true, true, true, true, true, true, true, true, true, true, false, false, false] rfl rfl (by kernel_rfl) (by decide) (fun K hK => ?_)
    refine goes_ Tryd.func51 (by kernel_rfl) rfl #[.agg #[.int .i8 bK, .int .i8 bL, .int .i8 bS, .slice A3 ph.length c3]] (by rfl) rfl rfl (by simp only [List.map_toArray, List.map_cons, List.map_nil]; rfl) ?_
    refine (HME.out _).mono ?_
    rintro e w2 ⟨A7, c7, rfl, hb2⟩
    refine ⟨_, rfl, ?_⟩
    refine hK.out _ _ (hHeld.below hb2) (fun hHeld => ?_)
    clear hK K
    refine norm_ (a' := ?_) ?_ ?_
    rotate_left
    ·show Act.put _ (some 19) _ = _
     simp only [Act.put, List.setIfInBounds_toArray, List.set_cons_zero, List.set_cons_succ, i64_w, i32_w]
     rfl
    refine pure_ (i := 15) (N := some 20) (v := ?_) (a' := ?_) #[true, true, true, true, true, true, true, true, true, true, true, true, true, true, true, true, false, false] rfl rfl (by kernel_rfl) (fun _ _ _ h => h) (Or.inl ⟨by rfl, ?_⟩) ?_ ?_
    rotate_left
    ·intro w'
     go_simp
     with_reducible rfl
    rotate_left
    ·simp only [Act.put, List.setIfInBounds_toArray, List.set_cons_zero, List.set_cons_succ, i64_w, i32_w]
     rfl
    refine pure_ (i := 16) (N := some 21) (v := ?_) (a' := ?_) #[true, true, true, true, true, true, true, true, true, true, true, true, true, true, true, true, true, false] rfl rfl (by kernel_rfl) (fun _ _ _ h => h) (Or.inl ⟨by rfl, ?_⟩) ?_ ?_
    rotate_left
    ·intro w'
     go_simp
     with_reducible rfl
    rotate_left
    ·simp only [Act.put, List.setIfInBounds_toArray, List.set_cons_zero, List.set_cons_succ, i64_w, i32_w]
     rfl
    refine pure_ (i := 17) (N := some 22) (v := ?_) (a' := ?_) #[true, true, true, true, true, true, true, true, true, true, true, true, true, true, true, true, true, true] rfl rfl (by kernel_rfl) (fun _ _ _ h => h) (Or.inl ⟨by rfl, ?_⟩) ?_ ?_
    rotate_left
    ·intro w'
     go_simp
     with_reducible rfl
    rotate_left
    ·simp only [Act.put, List.setIfInBounds_toArray, List.set_cons_zero, List.set_cons_succ, i64_w, i32_w]
     rfl
    refine done_ (by kernel_rfl) ?_
    skip
    have HB2 := Aside0.mk hHeld.1
    have HG2 := Aside0.mk hHeld.2
    have hc23 := cell_of_row _ w.heap.size 3 _ _ (0, 0) hHeld.2
    clear hHeld
    go_wp2_with fail
    go_loopw [26, 3, 4] (fun v26 _ _ wr => ∃ i : Nat, i ≤ ph.length ∧ v26 = .int .i64 i ∧ Aside0 (Below w.heap.size w wr) ∧ Aside0 (wr.heap[w.heap.size]? = some (.cells #[.int .i8 bK, .int .i8 bL, .int .i8 bS, .slice A3 ph.length c3] 28 (0, 0))) ∧ Aside0 (∀ j : Nat, j < i → phOk ph j = true)) (fun v26 _ _ _ => ph.length - (intOf v26).toNat)
    case atStart => exact ⟨0, by omega, rfl, HB2, HG2, ⟨fun j hj => absurd hj (by omega)⟩⟩
    case round =>
     clear HB2 HG2 hc23
     obtain ⟨i, hi, rfl, HB, HG, HP⟩ := hrel
     by_cases hlt : i < ph.length
     ·have hcg := cell_of_row wr w.heap.size 3 _ _ (0, 0) HG.out
      obtain ⟨ad, rfl, hcs⟩ := Kd.at_string (Kd.C_below HR3.out HB.out) (i : Int) (by omega) (by omega)
      rw [Int.toNat_natCast] at hcs
      have HM : Aside0 (rdOf ByteArray.empty ph (i : Int) ∈ ph) := ⟨by rw [rdOf_get ph i hlt]; exact List.getElem_mem hlt⟩
      have HPD := Aside0.mk (phOk_take ph i hlt)
      generalize rdOf ByteArray.empty ph (i : Int) = s at *
      obtain ⟨k1, hk1⟩ := (isPhrase_ev s (HPS.out s HM.out)).rounds
      have HPH := Aside0.mk hk1
      obtain ⟨k2, hk2⟩ := (contains_ev (ph.take i) s (by rw [List.length_take]; omega)).rounds
      have HCN := Aside0.mk hk2
      have htl : (ph.take i).length = i := by rw [List.length_take]; omega
      have HCC : Aside0 (∀ W, Below w.heap.size w W → Calls Tryd.prog 53 #[.slice (some ad) i c3, .string s] W fun e w' => e = .returned (.bool (hasP (ph.take i) s)) ∧ Drawn0 W w') := ⟨fun W hW => by
       have := slices_Contains_string_string.calls k2 (some ad) c3 (ph.take i) s (hasP (ph.take i) s) W (by rw [htl]; exact C_takeS (Kd.C_below HR3.out hW) i (by omega)) (by omega) HCN.out
       rw [htl] at this
       exact this⟩
      clear hk1 hk2 htl HCN
      cases hph : phrB s with
      | false =>
       have HFX := Aside0.mk (show okBook bK bL bS ph = false by
        rw [HOB2.out, decide_eq_false (p := ∀ i : Nat, i < ph.length → phOk ph i = true) (fun h => by have := h i hlt; rw [HPD.out, hph] at this; simp at this)])
       rw [hph] at HPH
       clear hph
       go_wp2_with (go_at_call 52; refine (impl_isPhrase.calls k1 s false _ HPH.out).mono ?_; rintro e w5 ⟨rfl, ⟨n5, rfl⟩⟩)
       go_ret
       exact ⟨by rw [HFX.out]; rfl, pw_below_drewN HB.out _⟩
      | true =>
       rw [hph] at HPH
       have HPT := Aside0.mk hph
       clear hph
       have hic : i ≤ c3 := by omega
       have hic2 : (i : Int) ≤ (c3 : Int) := by omega
       cases hh : hasP (ph.take i) s with
       | true =>
        have HFX := Aside0.mk (show okBook bK bL bS ph = false by
         rw [HOB2.out, decide_eq_false (p := ∀ i : Nat, i < ph.length → phOk ph i = true) (fun h => by have := h i hlt; rw [HPD.out, hh] at this; simp at this)])
        rw [hh] at HCC
        clear hh
        go_wp2_with (first
         | (go_at_call 52; refine (impl_isPhrase.calls k1 s true _ HPH.out).mono ?_; rintro e w5 ⟨rfl, ⟨n5, rfl⟩⟩)
         | (go_at_call 53; refine (HCC.out _ (pw_below_drewN HB.out _)).mono ?_; rintro e w6 ⟨rfl, ⟨n6, rfl⟩⟩))
        go_ret
        exact ⟨by rw [HFX.out]; rfl, pw_below_drewN HB.out _⟩
       | false =>
        have HOKI := Aside0.mk (show phOk ph i = true by rw [HPD.out, HPT.out, hh]; rfl)
        rw [hh] at HCC
        clear hh
        go_wp2_with (first
         | (go_at_call 52; refine (impl_isPhrase.calls k1 s true _ HPH.out).mono ?_; rintro e w5 ⟨rfl, ⟨n5, rfl⟩⟩)
         | (go_at_call 53; refine (HCC.out _ (pw_below_drewN HB.out _)).mono ?_; rintro e w6 ⟨rfl, ⟨n6, rfl⟩⟩))
        go_roundw
        case rel => exact ⟨i + 1, by omega, by go_num, ⟨pw_below_drewN HB.out _⟩, HG, ⟨fun j hj => by
         rcases Nat.lt_or_ge j i with h | h
         ·exact HP.out j h
         ·obtain rfl : j = i := by omega
          exact HOKI.out⟩⟩
        case measure => simp [intOf]; omega
     ·have HI := Aside0.mk (show i = ph.length by omega)
      go_wp2_with fail
      go_ret
      exact ⟨by rw [HOB2.out, decide_eq_true (p := ∀ i : Nat, i < ph.length → phOk ph i = true) (fun j hj => HP.out j (by rw [HI.out]; exact hj))]; rfl, HB.out⟩
   ·have hlo1 : (O.length : Int) < (ph.length : Int) := by omega
    have hlo2 := decide_eq_true hlo1
    have hlo3 := decide_eq_true (show O.length < ph.length by omega)
    have HFX := Aside0.mk (show okBook bK bL bS ph = false by rw [HOB.out, decide_eq_false hlo]; simp)
    clear hlo
    go_enter Tryd.func24, Tryd.ntmps24
    go_wp2_with fail
    refine start_ (n := 18) (S := fun w' => BkIn w bK bL bS A3 ph.length c3 w') (ds := []) #[false, false, false, false, false, false, false, false, false, false, false, false, false, false, false, false, false, false] (by kernel_rfl) rfl rfl (HB0.out.drew) (fun hHeld => ?_)
    refine take_ (i := 0) (N := some 5) (v := .agg #[.int .i8 bK, .int .i8 bL, .int .i8 bS, .slice A3 ph.length c3]) (a' := ?_) #[true, false, false, false, false, false, false, false, false, false, false, false, false, false, false, false, false, false] rfl rfl (by kernel_rfl) (fun _ _ _ h => h) (Or.inl ⟨by rfl, ?_⟩) hHeld ?_ ?_
    ·intro w' s0
     exact y_row (by rfl) (by rfl) s0.2 aggBook rfl
    rotate_left
    ·simp only [Act.put, List.setIfInBounds_toArray, List.set_cons_zero, List.set_cons_succ, i64_w, i32_w]
     rfl
    refine one_ (i := 1) (N := some 6) #[true, true, false, false, false, false, false, false, false, false, false, false, false, false, false, false, false, false] rfl rfl (by kernel_rfl) (by decide) (fun K hK => ?_)
    refine goes_ Tryd.func50 (by kernel_rfl) rfl #[.agg #[.int .i8 bK, .int .i8 bL, .int .i8 bS, .slice A3 ph.length c3]] (by rfl) rfl rfl (by simp only [List.map_toArray, List.map_cons, List.map_nil]; rfl) ?_
    refine (HF.out _ hHeld.1).mono ?_
    rintro e w1 ⟨rfl, hb1⟩
    refine ⟨_, rfl, ?_⟩
    refine hK.out _ _ (hHeld.below hb1) (fun hHeld => ?_)
    clear hK K
    refine norm_ (a' := ?_) ?_ ?_
    rotate_left
    ·show Act.put _ (some 6) _ = _
     simp only [Act.put, List.setIfInBounds_toArray, List.set_cons_zero, List.set_cons_succ, i64_w, i32_w]
     rfl
    refine pure_ (i := 2) (N := some 7) (v := ?_) (a' := ?_) #[true, true, true, false, false, false, false, false, false, false, false, false, false, false, false, false, false, false] rfl rfl (by kernel_rfl) (fun _ _ _ h => h) (Or.inl ⟨by rfl, ?_⟩) ?_ ?_
    rotate_left
    ·intro w'
     go_simp
     with_reducible rfl
    rotate_left
    ·simp only [Act.put, List.setIfInBounds_toArray, List.set_cons_zero, List.set_cons_succ, i64_w, i32_w]
     rfl
    refine pure_ (i := 3) (N := some 8) (v := ?_) (a' := ?_) #[true, true, true, true, false, false, false, false, false, false, false, false, false, false, false, false, false, false] rfl rfl (by kernel_rfl) (fun _ _ _ h => h) (Or.inl ⟨by rfl, ?_⟩) ?_ ?_
    rotate_left
    ·intro w'
     go_simp
     with_reducible rfl
    rotate_left
    ·simp only [Act.put, List.setIfInBounds_toArray, List.set_cons_zero, List.set_cons_succ, i64_w, i32_w]
     rfl
    refine pure_ (i := 4) (N := some 9) (v := ?_) (a' := ?_) #[true, true, true, true, true, false, false, false, false, false, false, false, false, false, false, false, false, false] rfl rfl (by kernel_rfl) (fun _ _ _ h => h) (Or.inl ⟨by rfl, ?_⟩) ?_ ?_
    rotate_left
    ·intro w'
     go_simp
     with_reducible rfl
    rotate_left
    ·simp only [Act.put, List.setIfInBounds_toArray, List.set_cons_zero, List.set_cons_succ, i64_w, i32_w]
     rfl
    refine take_ (i := 5) (N := some 10) (v := .slice A3 ph.length c3) (a' := ?_) #[true, true, true, true, true, true, false, false, false, false, false, false, false, false, false, false, false, false] rfl rfl (by kernel_rfl) (fun _ _ _ h => h) (Or.inl ⟨by rfl, ?_⟩) hHeld ?_ ?_
    ·intro w' s0
     exact y_cell (by rfl) (by rfl) oneStrS ((cell_of_row _ w.heap.size 3 _ _ (0, 0) s0.2).trans rfl)
    rotate_left
    ·simp only [Act.put, List.setIfInBounds_toArray, List.set_cons_zero, List.set_cons_succ, i64_w, i32_w]
     rfl
    refine pure_ (i := 6) (N := some 11) (v := ?_) (a' := ?_) #[true, true, true, true, true, true, true, false, false, false, false, false, false, false, false, false, false, false] rfl rfl (by kernel_rfl) (fun _ _ _ h => h) (Or.inl ⟨by rfl, ?_⟩) ?_ ?_
    rotate_left
    ·intro w'
     go_simp
     with_reducible rfl
    rotate_left
    ·simp only [Act.put, List.setIfInBounds_toArray, List.set_cons_zero, List.set_cons_succ, i64_w, i32_w]
     rfl
    refine pure_ (i := 7) (N := some 12) (v := ?_) (a' := ?_) #[true, true, true, true, true, true, true, true, false, false, false, false, false, false, false, false, false, false] rfl rfl (by kernel_rfl) (fun _ _ _ h => h) (Or.inl ⟨by rfl, ?_⟩) ?_ ?_
    rotate_left
    ·intro w'
     go_simp
     with_reducible rfl
    rotate_left
    ·simp only [Act.put, List.setIfInBounds_toArray, List.set_cons_zero, List.set_cons_succ, i64_w, i32_w]
     rfl
    refine pure_ (i := 8) (N := some 13) (v := ?_) (a' := ?_) #[true, true, true, true, true, true, true, true, true, false, false, false, false, false, false, false, false, false] rfl rfl (by kernel_rfl) (fun _ _ _ h => h) (Or.inl ⟨by rfl, ?_⟩) ?_ ?_
    rotate_left
    ·intro w'
     go_simp
     with_reducible rfl
    rotate_left
    ·simp only [Act.put, List.setIfInBounds_toArray, List.set_cons_zero, List.set_cons_succ, i64_w, i32_w]
     rfl
    refine pure_ (i := 9) (N := some 14) (v := ?_) (a' := ?_) #[true, true, true, true, true, true, true, true, true, true, false, false, false, false, false, false, false, false] rfl rfl (by kernel_rfl) (fun _ _ _ h => h) (Or.inl ⟨by rfl, ?_⟩) ?_ ?_
    rotate_left
    ·intro w'
     go_simp
     with_reducible rfl
    rotate_left
    ·simp only [Act.put, List.setIfInBounds_toArray, List.set_cons_zero, List.set_cons_succ, i64_w, i32_w]
     rfl
    refine pure_ (i := 10) (N := some 15) (v := ?_) (a' := ?_) #[true, true, true, true, true, true, true, true, true, true, true, false, false, false, false, false, false, false] rfl rfl (by kernel_rfl) (fun _ _ _ h => h) (Or.inl ⟨by rfl, ?_⟩) ?_ ?_
    rotate_left
    ·intro w'
     go_simp
     with_reducible rfl
    rotate_left
    ·simp only [Act.put, List.setIfInBounds_toArray, List.set_cons_zero, List.set_cons_succ, i64_w, i32_w]
     rfl
    refine take_ (i := 11) (N := some 16) (v := .slice A3 ph.length c3) (a' := ?_) #[true, true, true, true, true, true, true, true, true, true, true, true, false, false, false, false, false, false] rfl rfl (by kernel_rfl) (fun _ _ _ h => h) (Or.inl ⟨by rfl, ?_⟩) hHeld ?_ ?_
    ·intro w' s0
     exact y_cell (by rfl) (by rfl) oneStrS ((cell_of_row _ w.heap.size 3 _ _ (0, 0) s0.2).trans rfl)
    rotate_left
    ·simp only [Act.put, List.setIfInBounds_toArray, List.set_cons_zero, List.set_cons_succ, i64_w, i32_w]
     rfl
    refine pure_ (i := 12) (N := some 17) (v := ?_) (a' := ?_) #[true, true, true, true, true, true, true, true, true, true, true, true, true, false, false, false, false, false] rfl rfl (by kernel_rfl) (fun _ _ _ h => h) (Or.inl ⟨by rfl, ?_⟩) ?_ ?_
    rotate_left
    ·intro w'
     go_simp
     with_reducible rfl
    rotate_left
    ·simp only [Act.put, List.setIfInBounds_toArray, List.set_cons_zero, List.set_cons_succ, i64_w, i32_w]
     rfl
    refine take_ (i := 13) (N := some 18) (v := .agg #[.int .i8 bK, .int .i8 bL, .int .i8 bS, .slice A3 ph.length c3]) (a' := ?_) #[true, true, true, true, true, true, true, true, true, true, true, true, true, true, false, false, false, false] rfl rfl (by kernel_rfl) (fun _ _ _ h => h) (Or.inl ⟨by rfl, ?_⟩) hHeld ?_ ?_
    ·intro w' s0
     exact y_row (by rfl) (by rfl) s0.2 aggBook rfl
    rotate_left
    ·simp only [Act.put, List.setIfInBounds_toArray, List.set_cons_zero, List.set_cons_succ, i64_w, i32_w]
     rfl
    refine one_ (i := 14) (N := some 19) #[true, true, true, true, true, true, true, true, true, true, true, true, true, true, true, false, false, false] rfl rfl (by kernel_rfl) (by decide) (fun K hK => ?_)
    refine goes_ Tryd.func51 (by kernel_rfl) rfl #[.agg #[.int .i8 bK, .int .i8 bL, .int .i8 bS, .slice A3 ph.length c3]] (by rfl) rfl rfl (by simp only [List.map_toArray, List.map_cons, List.map_nil]; rfl) ?_
    refine (HME.out _).mono ?_
    rintro e w2 ⟨A7, c7, rfl, hb2⟩
    refine ⟨_, rfl, ?_⟩
    refine hK.out _ _ (hHeld.below hb2) (fun hHeld => ?_)
    clear hK K
    refine norm_ (a' := ?_) ?_ ?_
    rotate_left
    ·show Act.put _ (some 19) _ = _
     simp only [Act.put, List.setIfInBounds_toArray, List.set_cons_zero, List.set_cons_succ, i64_w, i32_w]
     rfl
    refine pure_ (i := 15) (N := some 20) (v := ?_) (a' := ?_) #[true, true, true, true, true, true, true, true, true, true, true, true, true, true, true, true, false, false] rfl rfl (by kernel_rfl) (fun _ _ _ h => h) (Or.inl ⟨by rfl, ?_⟩) ?_ ?_
    rotate_left
    ·intro w'
     go_simp
     with_reducible rfl
    rotate_left
    ·simp only [Act.put, List.setIfInBounds_toArray, List.set_cons_zero, List.set_cons_succ, i64_w, i32_w]
     rfl
    refine pure_ (i := 16) (N := some 21) (v := ?_) (a' := ?_) #[true, true, true, true, true, true, true, true, true, true, true, true, true, true, true, true, true, false] rfl rfl (by kernel_rfl) (fun _ _ _ h => h) (Or.inl ⟨by rfl, ?_⟩) ?_ ?_
    rotate_left
    ·intro w'
     go_simp
     with_reducible rfl
    rotate_left
    ·simp only [Act.put, List.setIfInBounds_toArray, List.set_cons_zero, List.set_cons_succ, i64_w, i32_w]
     rfl
    refine pure_ (i := 17) (N := some 22) (v := ?_) (a' := ?_) #[true, true, true, true, true, true, true, true, true, true, true, true, true, true, true, true, true, true] rfl rfl (by kernel_rfl) (fun _ _ _ h => h) (Or.inl ⟨by rfl, ?_⟩) ?_ ?_
    rotate_left
    ·intro w'
     go_simp
     with_reducible rfl
    rotate_left
    ·simp only [Act.put, List.setIfInBounds_toArray, List.set_cons_zero, List.set_cons_succ, i64_w, i32_w]
     rfl
    refine done_ (by kernel_rfl) ?_
    skip
    have HB2 := Aside0.mk hHeld.1
    have HG2 := Aside0.mk hHeld.2
    have hc23 := cell_of_row _ w.heap.size 3 _ _ (0, 0) hHeld.2
    clear hHeld
    go_wp2_with fail
    go_ret
    exact ⟨by rw [HFX.out]; rfl, HB2.out⟩
  ·have hgt : (100 : Int) < (ph.length : Int) := by omega
   have hgt2 := decide_eq_true hgt
   have HFX := Aside0.mk (show okBook bK bL bS ph = false by unfold okBook; rw [decide_eq_false h100]; simp)
   clear hz hr3 hp h100 hzz
   go_enter Tryd.func24, Tryd.ntmps24
   go_wp2_with fail
   refine start_ (n := 18) (S := fun w' => BkIn w bK bL bS A3 ph.length c3 w') (ds := []) #[false, false, false, false, false, false, false, false, false, false, false, false, false, false, false, false, false, false] (by kernel_rfl) rfl rfl (HB0.out.drew) (fun hHeld => ?_)
   refine take_ (i := 0) (N := some 5) (v := .agg #[.int .i8 bK, .int .i8 bL, .int .i8 bS, .slice A3 ph.length c3]) (a' := ?_) #[true, false, false, false, false, false, false, false, false, false, false, false, false, false, false, false, false, false] rfl rfl (by kernel_rfl) (fun _ _ _ h => h) (Or.inl ⟨by rfl, ?_⟩) hHeld ?_ ?_
   ·intro w' s0
    exact y_row (by rfl) (by rfl) s0.2 aggBook rfl
   rotate_left
   ·simp only [Act.put, List.setIfInBounds_toArray, List.set_cons_zero, List.set_cons_succ, i64_w, i32_w]
    rfl
   refine one_ (i := 1) (N := some 6) #[true, true, false, false, false, false, false, false, false, false, false, false, false, false, false, false, false, false] rfl rfl (by kernel_rfl) (by decide) (fun K hK => ?_)
   refine goes_ Tryd.func50 (by kernel_rfl) rfl #[.agg #[.int .i8 bK, .int .i8 bL, .int .i8 bS, .slice A3 ph.length c3]] (by rfl) rfl rfl (by simp only [List.map_toArray, List.map_cons, List.map_nil]; rfl) ?_
   refine (HF.out _ hHeld.1).mono ?_
   rintro e w1 ⟨rfl, hb1⟩
   refine ⟨_, rfl, ?_⟩
   refine hK.out _ _ (hHeld.below hb1) (fun hHeld => ?_)
   clear hK K
   refine norm_ (a' := ?_) ?_ ?_
   rotate_left
   ·show Act.put _ (some 6) _ = _
    simp only [Act.put, List.setIfInBounds_toArray, List.set_cons_zero, List.set_cons_succ, i64_w, i32_w]
    rfl
   refine pure_ (i := 2) (N := some 7) (v := ?_) (a' := ?_) #[true, true, true, false, false, false, false, false, false, false, false, false, false, false, false, false, false, false] rfl rfl (by kernel_rfl) (fun _ _ _ h => h) (Or.inl ⟨by rfl, ?_⟩) ?_ ?_
   rotate_left
   ·intro w'
    go_simp
    with_reducible rfl
   rotate_left
   ·simp only [Act.put, List.setIfInBounds_toArray, List.set_cons_zero, List.set_cons_succ, i64_w, i32_w]
    rfl
   refine pure_ (i := 3) (N := some 8) (v := ?_) (a' := ?_) #[true, true, true, true, false, false, false, false, false, false, false, false, false, false, false, false, false, false] rfl rfl (by kernel_rfl) (fun _ _ _ h => h) (Or.inl ⟨by rfl, ?_⟩) ?_ ?_
   rotate_left
   ·intro w'
    go_simp
    with_reducible rfl
   rotate_left
   ·simp only [Act.put, List.setIfInBounds_toArray, List.set_cons_zero, List.set_cons_succ, i64_w, i32_w]
    rfl
   refine pure_ (i := 4) (N := some 9) (v := ?_) (a' := ?_) #[true, true, true, true, true, false, false, false, false, false, false, false, false, false, false, false, false, false] rfl rfl (by kernel_rfl) (fun _ _ _ h => h) (Or.inl ⟨by rfl, ?_⟩) ?_ ?_
   rotate_left
   ·intro w'
    go_simp
    with_reducible rfl
   rotate_left
   ·simp only [Act.put, List.setIfInBounds_toArray, List.set_cons_zero, List.set_cons_succ, i64_w, i32_w]
    rfl
   refine take_ (i := 5) (N := some 10) (v := .slice A3 ph.length c3) (a' := ?_) #[true, true, true, true, true, true, false, false, false, false, false, false, false, false, false, false, false, false] rfl rfl (by kernel_rfl) (fun _ _ _ h => h) (Or.inl ⟨by rfl, ?_⟩) hHeld ?_ ?_
   ·intro w' s0
    exact y_cell (by rfl) (by rfl) oneStrS ((cell_of_row _ w.heap.size 3 _ _ (0, 0) s0.2).trans rfl)
   rotate_left
   ·simp only [Act.put, List.setIfInBounds_toArray, List.set_cons_zero, List.set_cons_succ, i64_w, i32_w]
    rfl
   refine pure_ (i := 6) (N := some 11) (v := ?_) (a' := ?_) #[true, true, true, true, true, true, true, false, false, false, false, false, false, false, false, false, false, false] rfl rfl (by kernel_rfl) (fun _ _ _ h => h) (Or.inl ⟨by rfl, ?_⟩) ?_ ?_
   rotate_left
   ·intro w'
    go_simp
    with_reducible rfl
   rotate_left
   ·simp only [Act.put, List.setIfInBounds_toArray, List.set_cons_zero, List.set_cons_succ, i64_w, i32_w]
    rfl
   refine pure_ (i := 7) (N := some 12) (v := ?_) (a' := ?_) #[true, true, true, true, true, true, true, true, false, false, false, false, false, false, false, false, false, false] rfl rfl (by kernel_rfl) (fun _ _ _ h => h) (Or.inl ⟨by rfl, ?_⟩) ?_ ?_
   rotate_left
   ·intro w'
    go_simp
    with_reducible rfl
   rotate_left
   ·simp only [Act.put, List.setIfInBounds_toArray, List.set_cons_zero, List.set_cons_succ, i64_w, i32_w]
    rfl
   refine pure_ (i := 8) (N := some 13) (v := ?_) (a' := ?_) #[true, true, true, true, true, true, true, true, true, false, false, false, false, false, false, false, false, false] rfl rfl (by kernel_rfl) (fun _ _ _ h => h) (Or.inl ⟨by rfl, ?_⟩) ?_ ?_
   rotate_left
   ·intro w'
    go_simp
    with_reducible rfl
   rotate_left
   ·simp only [Act.put, List.setIfInBounds_toArray, List.set_cons_zero, List.set_cons_succ, i64_w, i32_w]
    rfl
   refine pure_ (i := 9) (N := some 14) (v := ?_) (a' := ?_) #[true, true, true, true, true, true, true, true, true, true, false, false, false, false, false, false, false, false] rfl rfl (by kernel_rfl) (fun _ _ _ h => h) (Or.inl ⟨by rfl, ?_⟩) ?_ ?_
   rotate_left
   ·intro w'
    go_simp
    with_reducible rfl
   rotate_left
   ·simp only [Act.put, List.setIfInBounds_toArray, List.set_cons_zero, List.set_cons_succ, i64_w, i32_w]
    rfl
   refine pure_ (i := 10) (N := some 15) (v := undef) (a' := ?_) #[true, true, true, true, true, true, true, true, true, true, true, false, false, false, false, false, false, false] rfl rfl (by kernel_rfl) (fun _ _ _ h => h) (Or.inr ⟨by rfl, rfl⟩) ?_ ?_
   rotate_left
   ·simp only [Act.put, List.setIfInBounds_toArray, List.set_cons_zero, List.set_cons_succ, i64_w, i32_w]
    rfl
   refine pure_ (i := 11) (N := some 16) (v := undef) (a' := ?_) #[true, true, true, true, true, true, true, true, true, true, true, true, false, false, false, false, false, false] rfl rfl (by kernel_rfl) (fun _ _ _ h => h) (Or.inr ⟨by rfl, rfl⟩) ?_ ?_
   rotate_left
   ·simp only [Act.put, List.setIfInBounds_toArray, List.set_cons_zero, List.set_cons_succ, i64_w, i32_w]
    rfl
   refine pure_ (i := 12) (N := some 17) (v := undef) (a' := ?_) #[true, true, true, true, true, true, true, true, true, true, true, true, true, false, false, false, false, false] rfl rfl (by kernel_rfl) (fun _ _ _ h => h) (Or.inr ⟨by rfl, rfl⟩) ?_ ?_
   rotate_left
   ·simp only [Act.put, List.setIfInBounds_toArray, List.set_cons_zero, List.set_cons_succ, i64_w, i32_w]
    rfl
   refine pure_ (i := 13) (N := some 18) (v := undef) (a' := ?_) #[true, true, true, true, true, true, true, true, true, true, true, true, true, true, false, false, false, false] rfl rfl (by kernel_rfl) (fun _ _ _ h => h) (Or.inr ⟨by rfl, rfl⟩) ?_ ?_
   rotate_left
   ·simp only [Act.put, List.setIfInBounds_toArray, List.set_cons_zero, List.set_cons_succ, i64_w, i32_w]
    rfl
   refine pure_ (i := 14) (N := some 19) (v := undef) (a' := ?_) #[true, true, true, true, true, true, true, true, true, true, true, true, true, true, true, false, false, false] rfl rfl (by kernel_rfl) (fun _ _ _ h => h) (Or.inr ⟨by rfl, rfl⟩) ?_ ?_
   rotate_left
   ·simp only [Act.put, List.setIfInBounds_toArray, List.set_cons_zero, List.set_cons_succ, i64_w, i32_w]
    rfl
   refine pure_ (i := 15) (N := some 20) (v := undef) (a' := ?_) #[true, true, true, true, true, true, true, true, true, true, true, true, true, true, true, true, false, false] rfl rfl (by kernel_rfl) (fun _ _ _ h => h) (Or.inr ⟨by rfl, rfl⟩) ?_ ?_
   rotate_left
   ·simp only [Act.put, List.setIfInBounds_toArray, List.set_cons_zero, List.set_cons_succ, i64_w, i32_w]
    rfl
   refine pure_ (i := 16) (N := some 21) (v := undef) (a' := ?_) #[true, true, true, true, true, true, true, true, true, true, true, true, true, true, true, true, true, false] rfl rfl (by kernel_rfl) (fun _ _ _ h => h) (Or.inr ⟨by rfl, rfl⟩) ?_ ?_
   rotate_left
   ·simp only [Act.put, List.setIfInBounds_toArray, List.set_cons_zero, List.set_cons_succ, i64_w, i32_w]
    rfl
   refine pure_ (i := 17) (N := some 22) (v := ?_) (a' := ?_) #[true, true, true, true, true, true, true, true, true, true, true, true, true, true, true, true, true, true] rfl rfl (by kernel_rfl) (fun _ _ _ h => h) (Or.inl ⟨by rfl, ?_⟩) ?_ ?_
   rotate_left
   ·intro w'
    go_simp
    with_reducible rfl
   rotate_left
   ·simp only [Act.put, List.setIfInBounds_toArray, List.set_cons_zero, List.set_cons_succ, i64_w, i32_w]
    rfl
   refine done_ (by kernel_rfl) ?_
   skip
   go_wp2_with fail
   go_ret
   exact ⟨by rw [HFX.out]; rfl, hHeld.1⟩
end Go.Proofs.YtdgecgfgekmhcaaDoor.Arr
namespace Go.Proofs.YtdgecgfgekmhcaaDoor.Arr
open Go.RowKit Go.Proofs.YtdgecgfgekmhcaaDoor.U
set_option linter.unusedVariables false
set_option linter.unusedSimpArgs false
def smallPh (ph : List ByteArray) : Bool := decide (ph.length ≤ 100000000) && ph.all fun s => decide (s.size ≤ 140737488351232)
def in8 (a : Int) : Bool := decide (-128 ≤ a ∧ a ≤ 127)
theorem bookP_of {K L S : Int} {ph : List ByteArray} (h : (smallPh ph && (in8 K && (in8 L && in8 S))) = true) : BookP K L S ph := by
 simp only [Bool.and_eq_true] at h
 obtain ⟨h1, h2, h3, h4⟩ := h
 unfold in8 at h2 h3 h4
 unfold smallPh at h1
 rw [Bool.and_eq_true, decide_eq_true_eq, List.all_eq_true] at h1
 rw [decide_eq_true_eq] at h2 h3 h4
 exact ⟨h2, h3, h4, h1.1, fun s hm => by have := h1.2 s hm; rwa [decide_eq_true_eq] at this⟩
end Go.Proofs.YtdgecgfgekmhcaaDoor.Arr
namespace Go.Proofs.YtdgecgfgekmhcaaDoor.Arr
open Go.RowKit Go.Proofs.YtdgecgfgekmhcaaDoorW.PrintWords Go.Proofs.YtdgecgfgekmhcaaDoorW.PrintLast Go.Proofs.YtdgecgfgekmhcaaDoorW.PrintMore Go.Proofs.YtdgecgfgekmhcaaDoor.U Go.Proofs.YtdgecgfgekmhcaaDoor.J
set_option linter.unusedVariables false
set_option linter.unusedSimpArgs false
def bkT (h : List UInt8) (ph : List (List UInt8)) (i : Nat) : List UInt8 := h ++ ((ph.take i).map (· ++ [10])).flatten
theorem bkT_zero (h : List UInt8) (ph : List (List UInt8)) : bkT h ph 0 = h := by simp [bkT]
theorem bkT_succ (h : List UInt8) (ph : List (List UInt8)) (i : Nat) (hi : i < ph.length) : bkT h ph (i + 1) = bkT h ph i ++ (ph[i] ++ [10]) := by
 unfold bkT
 rw [List.take_add_one, List.getElem?_eq_getElem hi, List.map_append, List.flatten_append, List.append_assoc]
 simp only [Option.toList_some, List.map_cons, List.map_nil, List.flatten_cons, List.flatten_nil, List.append_nil]
theorem bkT_len (h : List UInt8) (ph : List (List UInt8)) (hh : h.length ≤ 20) (hp : ∀ p ∈ ph, p.length ≤ 40) : ∀ i, i ≤ ph.length → (bkT h ph i).length ≤ 20 + 41 * i
 | 0, _ => by rw [bkT_zero]; omega
 | i + 1, hi => by
  rw [bkT_succ h ph i (by omega), List.length_append, List.length_append]
  have := bkT_len h ph hh hp i (by omega)
  have := hp ph[i] (List.getElem_mem _)
  simp only [List.length_singleton]
  omega
theorem bookT_bkT (b : BK) : bookT b = bkT (hdT b ++ [10]) b.2.2.2 b.2.2.2.length := by
 unfold bookT bkT
 rw [List.take_of_length_le (Nat.le_refl _)]
 simp
theorem hdT_len (b : BK) : (hdT b ++ [10]).length ≤ 20 := by
 unfold hdT
 have h1 := dg_len b.1.toNat
 have h2 := dg_len b.2.1.toNat
 have h3 := dg_len b.2.2.1.toNat
 simp
 omega
theorem oneI8T : OneTy Tryd.prog 22 := ⟨by kernel_rfl, by kernel_rfl⟩
theorem txs_get (ph : List (List UInt8)) (i : Nat) (hi : i < ph.length) : rdOf ByteArray.empty (txs ph) (i : Int) = ⟨(ph[i]).toArray⟩ := by
 rw [rdOf_get _ i (by simp [txs]; exact hi)]
 simp [txs]
section
variable {P : Program} {o : Oper} {a : Act} {w : World}
theorem y_cellT {ty : TypeId} {x : Operand} {p : Addr} {v : Value} (ho : o.op = .load ty x) (hx : a.eval x = .pointer (some p)) (h1 : OneTy P ty) (hc : w.cell? p = some v) : (execOp a.eval o).run P w = .ok (.value v) w := by
 have hd := h1.1
 unfold execOp
 have hagg : (isAgg ty).run P w = .ok false w := by
  unfold isAgg
  cases hu : P.underlying ty with
  | none => simp [hu] at hd
  | some d =>
   rw [Sem.run_bind, run_underlying hu w]
   cases d <;> simp_all
 simp only [ho, hx, Instr.loadAt, Instr.sureAddr, Sem.run_bind, Sem.run_pure, Result.andThen_ok, loadVar, hagg]
 simp [run_load, hc]
end
set_option maxHeartbeats 8000000 in
set_option maxRecDepth 100000 in
theorem specText_calls (g p1 p2 p3 : Nat) (A3 : Option Addr) (c3 : Nat) (ph : List (List UInt8)) (w : World) (hK : p1 ≤ 10) (hL : p2 ≤ 3) (hS : p3 ≤ 4) (hn : ph.length ≤ 100) (hp : ∀ p ∈ ph, p.length ≤ 40)
  (hg : w.heap[g]? = some (.cells #[.int .i8 (p1 : Int), .int .i8 (p2 : Int), .int .i8 (p3 : Int), .slice A3 ph.length c3] 28 (0, 0))) (hr3 : Kd.C Kd.string w A3 ph.length (txs ph)) :
  Calls Tryd.prog 22 #[.pointer (some ⟨g, 0, none⟩)] w fun e w' => e = .returned (.string ⟨(bookT ((p1 : Int), (p2 : Int), (p3 : Int), ph)).toArray⟩) ∧ Below w.heap.size w w' := by
 have HC := Aside0.mk (fun W (hW : Below w.heap.size w W) (j : Nat) => cell_of_row W g j _ _ (0, 0) ((hW.block _ (lt_of_some hg)).trans hg))
 have HDK := Aside0.mk (fun W => specDec_calls p1 (by omega) W)
 have HDL := Aside0.mk (fun W => specDec_calls p2 (by omega) W)
 have HDS := Aside0.mk (fun W => specDec_calls p3 (by omega) W)
 have hdK := dg_len p1
 have hdL := dg_len p2
 have hdS := dg_len p3
 have HR3 := Aside0.mk hr3
 have hmx := Kd.C_max hr3
 rw [bookT_bkT]
 have hhl := hdT_len ((p1 : Int), (p2 : Int), (p3 : Int), ph)
 have hhd : hdT ((p1 : Int), (p2 : Int), (p3 : Int), ph) ++ [10] = (((dg p1 ++ [32]) ++ dg p2) ++ [32]) ++ dg p3 ++ [10] := by unfold hdT; simp
 have HLN := Aside0.mk (bkT_len _ ph hhl hp)
 have HSU := Aside0.mk (bkT_succ (hdT ((p1 : Int), (p2 : Int), (p3 : Int), ph) ++ [10]) ph)
 have HZ := Aside0.mk (bkT_zero (hdT ((p1 : Int), (p2 : Int), (p3 : Int), ph) ++ [10]) ph)
 rw [hhd] at HLN HSU HZ ⊢
 have HPL := Aside0.mk hp
 clear hg hr3 hhd hhl hp
 have hwK : wrap64 (p1 : Int) = (p1 : Int) := w64 (by omega) (by omega)
 have hwL : wrap64 (p2 : Int) = (p2 : Int) := w64 (by omega) (by omega)
 have hwS : wrap64 (p3 : Int) = (p3 : Int) := w64 (by omega) (by omega)
 show Calls _ _ _ _ fun e w' => e = .returned (.string ⟨(bkT ((((dg p1 ++ [32]) ++ dg p2) ++ [32]) ++ dg p3 ++ [10]) ph ph.length).toArray⟩) ∧ _
 go_enter Tryd.func22, Tryd.ntmps22
 go_wp2_with fail
 refine start_ (n := 24) (S := fun w' => Below w.heap.size w w') (ds := []) #[false, false, false, false, false, false, false, false, false, false, false, false, false, false, false, false, false, false, false, false, false, false, false, false] (by kernel_rfl) rfl rfl (below_drew (Below.refl _ _)) (fun hHeld => ?_)
 refine pure_ (i := 0) (N := some 5) (v := ?_) (a' := ?_) #[true, false, false, false, false, false, false, false, false, false, false, false, false, false, false, false, false, false, false, false, false, false, false, false] rfl rfl (by kernel_rfl) (fun _ _ _ h => h) (Or.inl ⟨by rfl, ?_⟩) ?_ ?_
 rotate_left
 ·intro w'
  go_simp
  with_reducible rfl
 rotate_left
 ·simp only [Act.put, List.setIfInBounds_toArray, List.set_cons_zero, List.set_cons_succ, i64_w, i32_w]
  rfl
 refine pure_ (i := 1) (N := some 6) (v := ?_) (a' := ?_) #[true, true, false, false, false, false, false, false, false, false, false, false, false, false, false, false, false, false, false, false, false, false, false, false] rfl rfl (by kernel_rfl) (fun _ _ _ h => h) (Or.inl ⟨by rfl, ?_⟩) ?_ ?_
 rotate_left
 ·intro w'
  go_simp
  with_reducible rfl
 rotate_left
 ·simp only [Act.put, List.setIfInBounds_toArray, List.set_cons_zero, List.set_cons_succ, i64_w, i32_w]
  rfl
 refine pure_ (i := 2) (N := some 7) (v := ?_) (a' := ?_) #[true, true, true, false, false, false, false, false, false, false, false, false, false, false, false, false, false, false, false, false, false, false, false, false] rfl rfl (by kernel_rfl) (fun _ _ _ h => h) (Or.inl ⟨by rfl, ?_⟩) ?_ ?_
 rotate_left
 ·intro w'
  go_simp
  with_reducible rfl
 rotate_left
 ·simp only [Act.put, List.setIfInBounds_toArray, List.set_cons_zero, List.set_cons_succ, i64_w, i32_w]
  rfl
 refine pure_ (i := 7) (N := some 12) (v := ?_) (a' := ?_) #[true, true, true, false, false, false, false, true, false, false, false, false, false, false, false, false, false, false, false, false, false, false, false, false] rfl rfl (by kernel_rfl) (fun _ _ _ h => h) (Or.inl ⟨by rfl, ?_⟩) ?_ ?_
 rotate_left
 ·intro w'
  go_simp
  with_reducible rfl
 rotate_left
 ·simp only [Act.put, List.setIfInBounds_toArray, List.set_cons_zero, List.set_cons_succ, i64_w, i32_w]
  rfl
 refine pure_ (i := 8) (N := some 13) (v := ?_) (a' := ?_) #[true, true, true, false, false, false, false, true, true, false, false, false, false, false, false, false, false, false, false, false, false, false, false, false] rfl rfl (by kernel_rfl) (fun _ _ _ h => h) (Or.inl ⟨by rfl, ?_⟩) ?_ ?_
 rotate_left
 ·intro w'
  go_simp
  with_reducible rfl
 rotate_left
 ·simp only [Act.put, List.setIfInBounds_toArray, List.set_cons_zero, List.set_cons_succ, i64_w, i32_w]
  rfl
 refine pure_ (i := 9) (N := some 14) (v := ?_) (a' := ?_) #[true, true, true, false, false, false, false, true, true, true, false, false, false, false, false, false, false, false, false, false, false, false, false, false] rfl rfl (by kernel_rfl) (fun _ _ _ h => h) (Or.inl ⟨by rfl, ?_⟩) ?_ ?_
 rotate_left
 ·intro w'
  go_simp
  with_reducible rfl
 rotate_left
 ·simp only [Act.put, List.setIfInBounds_toArray, List.set_cons_zero, List.set_cons_succ, i64_w, i32_w]
  rfl
 refine pure_ (i := 15) (N := some 20) (v := ?_) (a' := ?_) #[true, true, true, false, false, false, false, true, true, true, false, false, false, false, false, true, false, false, false, false, false, false, false, false] rfl rfl (by kernel_rfl) (fun _ _ _ h => h) (Or.inl ⟨by rfl, ?_⟩) ?_ ?_
 rotate_left
 ·intro w'
  go_simp
  with_reducible rfl
 rotate_left
 ·simp only [Act.put, List.setIfInBounds_toArray, List.set_cons_zero, List.set_cons_succ, i64_w, i32_w]
  rfl
 refine pure_ (i := 16) (N := some 21) (v := ?_) (a' := ?_) #[true, true, true, false, false, false, false, true, true, true, false, false, false, false, false, true, true, false, false, false, false, false, false, false] rfl rfl (by kernel_rfl) (fun _ _ _ h => h) (Or.inl ⟨by rfl, ?_⟩) ?_ ?_
 rotate_left
 ·intro w'
  go_simp
  with_reducible rfl
 rotate_left
 ·simp only [Act.put, List.setIfInBounds_toArray, List.set_cons_zero, List.set_cons_succ, i64_w, i32_w]
  rfl
 refine pure_ (i := 17) (N := some 22) (v := ?_) (a' := ?_) #[true, true, true, false, false, false, false, true, true, true, false, false, false, false, false, true, true, true, false, false, false, false, false, false] rfl rfl (by kernel_rfl) (fun _ _ _ h => h) (Or.inl ⟨by rfl, ?_⟩) ?_ ?_
 rotate_left
 ·intro w'
  go_simp
  with_reducible rfl
 rotate_left
 ·simp only [Act.put, List.setIfInBounds_toArray, List.set_cons_zero, List.set_cons_succ, i64_w, i32_w]
  rfl
 refine take_ (i := 3) (N := some 8) (v := .int .i8 (p1 : Int)) (a' := ?_) #[true, true, true, true, false, false, false, true, true, true, false, false, false, false, false, true, true, true, false, false, false, false, false, false] rfl rfl (by kernel_rfl) (fun _ _ _ h => h) (Or.inl ⟨by rfl, ?_⟩) hHeld ?_ ?_
 ·intro w' s0
  exact y_cellT (by rfl) (by rfl) oneI8T ((HC.out _ s0 0).trans rfl)
 rotate_left
 ·simp only [Act.put, List.setIfInBounds_toArray, List.set_cons_zero, List.set_cons_succ, i64_w, i32_w]
  rfl
 refine take_ (i := 4) (N := some 9) (v := .int .i64 (p1 : Int)) (a' := ?_) #[true, true, true, true, true, false, false, true, true, true, false, false, false, false, false, true, true, true, false, false, false, false, false, false] rfl rfl (by kernel_rfl) (fun _ _ _ h => h) (Or.inl ⟨by rfl, ?_⟩) hHeld ?_ ?_
 ·intro w' s0
  exact (by go_simp; first | (rw [i64_w, hwK]; done) | (rw [i64_w, hwK]; rfl) | exact hwK)
 rotate_left
 ·simp only [Act.put, List.setIfInBounds_toArray, List.set_cons_zero, List.set_cons_succ, i64_w, i32_w]
  rfl
 refine take_ (i := 10) (N := some 15) (v := .int .i8 (p2 : Int)) (a' := ?_) #[true, true, true, true, true, false, false, true, true, true, true, false, false, false, false, true, true, true, false, false, false, false, false, false] rfl rfl (by kernel_rfl) (fun _ _ _ h => h) (Or.inl ⟨by rfl, ?_⟩) hHeld ?_ ?_
 ·intro w' s0
  exact y_cellT (by rfl) (by rfl) oneI8T ((HC.out _ s0 1).trans rfl)
 rotate_left
 ·simp only [Act.put, List.setIfInBounds_toArray, List.set_cons_zero, List.set_cons_succ, i64_w, i32_w]
  rfl
 refine take_ (i := 11) (N := some 16) (v := .int .i64 (p2 : Int)) (a' := ?_) #[true, true, true, true, true, false, false, true, true, true, true, true, false, false, false, true, true, true, false, false, false, false, false, false] rfl rfl (by kernel_rfl) (fun _ _ _ h => h) (Or.inl ⟨by rfl, ?_⟩) hHeld ?_ ?_
 ·intro w' s0
  exact (by go_simp; first | (rw [i64_w, hwL]; done) | (rw [i64_w, hwL]; rfl) | exact hwL)
 rotate_left
 ·simp only [Act.put, List.setIfInBounds_toArray, List.set_cons_zero, List.set_cons_succ, i64_w, i32_w]
  rfl
 refine take_ (i := 18) (N := some 23) (v := .int .i8 (p3 : Int)) (a' := ?_) #[true, true, true, true, true, false, false, true, true, true, true, true, false, false, false, true, true, true, true, false, false, false, false, false] rfl rfl (by kernel_rfl) (fun _ _ _ h => h) (Or.inl ⟨by rfl, ?_⟩) hHeld ?_ ?_
 ·intro w' s0
  exact y_cellT (by rfl) (by rfl) oneI8T ((HC.out _ s0 2).trans rfl)
 rotate_left
 ·simp only [Act.put, List.setIfInBounds_toArray, List.set_cons_zero, List.set_cons_succ, i64_w, i32_w]
  rfl
 refine take_ (i := 19) (N := some 24) (v := .int .i64 (p3 : Int)) (a' := ?_) #[true, true, true, true, true, false, false, true, true, true, true, true, false, false, false, true, true, true, true, true, false, false, false, false] rfl rfl (by kernel_rfl) (fun _ _ _ h => h) (Or.inl ⟨by rfl, ?_⟩) hHeld ?_ ?_
 ·intro w' s0
  exact (by go_simp; first | (rw [i64_w, hwS]; done) | (rw [i64_w, hwS]; rfl) | exact hwS)
 rotate_left
 ·simp only [Act.put, List.setIfInBounds_toArray, List.set_cons_zero, List.set_cons_succ, i64_w, i32_w]
  rfl
 refine one_ (i := 5) (N := some 10) #[true, true, true, true, true, true, false, true, true, true, true, true, false, false, false, true, true, true, true, true, false, false, false, false] rfl rfl (by kernel_rfl) (by decide) (fun K hK => ?_)
 refine goes_ Tryd.func49 (by kernel_rfl) rfl #[.int .i64 (p1 : Int)] (by rfl) rfl rfl (by simp only [List.map_toArray, List.map_cons, List.map_nil]; rfl) ?_
 refine (HDK.out _).mono ?_
 rintro e w5 ⟨rfl, hb⟩
 refine ⟨_, rfl, ?_⟩
 refine hK.out _ _ (hHeld.trans (hb.mono hHeld.size)) (fun hHeld => ?_)
 clear hK K
 refine norm_ (a' := ?_) ?_ ?_
 rotate_left
 ·show Act.put _ (some 10) _ = _
  simp only [Act.put, List.setIfInBounds_toArray, List.set_cons_zero, List.set_cons_succ, i64_w, i32_w]
  rfl
 refine take_ (i := 6) (N := some 11) (v := .string ⟨(dg p1 ++ [32]).toArray⟩) (a' := ?_) #[true, true, true, true, true, true, true, true, true, true, true, true, false, false, false, true, true, true, true, true, false, false, false, false] rfl rfl (by kernel_rfl) (fun _ _ _ h => h) (Or.inl ⟨by rfl, ?_⟩) hHeld ?_ ?_
 ·intro w' s0
  exact (by go_simp; rw [if_neg (by first | omega | (simp only [bs_size, List.length_append, List.length_cons, List.length_nil]; omega) | (simp only [bs_size, List.length_append, List.length_cons, List.length_nil] at *; omega))]; simp [bs_app_data])
 rotate_left
 ·simp only [Act.put, List.setIfInBounds_toArray, List.set_cons_zero, List.set_cons_succ, i64_w, i32_w]
  rfl
 refine one_ (i := 12) (N := some 17) #[true, true, true, true, true, true, true, true, true, true, true, true, true, false, false, true, true, true, true, true, false, false, false, false] rfl rfl (by kernel_rfl) (by decide) (fun K hK => ?_)
 refine goes_ Tryd.func49 (by kernel_rfl) rfl #[.int .i64 (p2 : Int)] (by rfl) rfl rfl (by simp only [List.map_toArray, List.map_cons, List.map_nil]; rfl) ?_
 refine (HDL.out _).mono ?_
 rintro e w6 ⟨rfl, hb⟩
 refine ⟨_, rfl, ?_⟩
 refine hK.out _ _ (hHeld.trans (hb.mono hHeld.size)) (fun hHeld => ?_)
 clear hK K
 refine norm_ (a' := ?_) ?_ ?_
 rotate_left
 ·show Act.put _ (some 17) _ = _
  simp only [Act.put, List.setIfInBounds_toArray, List.set_cons_zero, List.set_cons_succ, i64_w, i32_w]
  rfl
 refine take_ (i := 13) (N := some 18) (v := .string ⟨((dg p1 ++ [32]) ++ dg p2).toArray⟩) (a' := ?_) #[true, true, true, true, true, true, true, true, true, true, true, true, true, true, false, true, true, true, true, true, false, false, false, false] rfl rfl (by kernel_rfl) (fun _ _ _ h => h) (Or.inl ⟨by rfl, ?_⟩) hHeld ?_ ?_
 ·intro w' s0
  exact (by go_simp; rw [if_neg (by first | omega | (simp only [bs_size, List.length_append, List.length_cons, List.length_nil]; omega) | (simp only [bs_size, List.length_append, List.length_cons, List.length_nil] at *; omega))]; simp [bs_app_data])
 rotate_left
 ·simp only [Act.put, List.setIfInBounds_toArray, List.set_cons_zero, List.set_cons_succ, i64_w, i32_w]
  rfl
 refine take_ (i := 14) (N := some 19) (v := .string ⟨(((dg p1 ++ [32]) ++ dg p2) ++ [32]).toArray⟩) (a' := ?_) #[true, true, true, true, true, true, true, true, true, true, true, true, true, true, true, true, true, true, true, true, false, false, false, false] rfl rfl (by kernel_rfl) (fun _ _ _ h => h) (Or.inl ⟨by rfl, ?_⟩) hHeld ?_ ?_
 ·intro w' s0
  exact (by go_simp; rw [if_neg (by first | omega | (simp only [bs_size, List.length_append, List.length_cons, List.length_nil]; omega) | (simp only [bs_size, List.length_append, List.length_cons, List.length_nil] at *; omega))]; simp [bs_app_data])
 rotate_left
 ·simp only [Act.put, List.setIfInBounds_toArray, List.set_cons_zero, List.set_cons_succ, i64_w, i32_w]
  rfl
 refine one_ (i := 20) (N := some 25) #[true, true, true, true, true, true, true, true, true, true, true, true, true, true, true, true, true, true, true, true, true, false, false, false] rfl rfl (by kernel_rfl) (by decide) (fun K hK => ?_)
 refine goes_ Tryd.func49 (by kernel_rfl) rfl #[.int .i64 (p3 : Int)] (by rfl) rfl rfl (by simp only [List.map_toArray, List.map_cons, List.map_nil]; rfl) ?_
 refine (HDS.out _).mono ?_
 rintro e w7 ⟨rfl, hb⟩
 refine ⟨_, rfl, ?_⟩
 refine hK.out _ _ (hHeld.trans (hb.mono hHeld.size)) (fun hHeld => ?_)
 clear hK K
 refine norm_ (a' := ?_) ?_ ?_
 rotate_left
 ·show Act.put _ (some 25) _ = _
  simp only [Act.put, List.setIfInBounds_toArray, List.set_cons_zero, List.set_cons_succ, i64_w, i32_w]
  rfl
 refine take_ (i := 21) (N := some 26) (v := .string ⟨((((dg p1 ++ [32]) ++ dg p2) ++ [32]) ++ dg p3).toArray⟩) (a' := ?_) #[true, true, true, true, true, true, true, true, true, true, true, true, true, true, true, true, true, true, true, true, true, true, false, false] rfl rfl (by kernel_rfl) (fun _ _ _ h => h) (Or.inl ⟨by rfl, ?_⟩) hHeld ?_ ?_
 ·intro w' s0
  exact (by go_simp; rw [if_neg (by first | omega | (simp only [bs_size, List.length_append, List.length_cons, List.length_nil]; omega) | (simp only [bs_size, List.length_append, List.length_cons, List.length_nil] at *; omega))]; simp [bs_app_data])
 rotate_left
 ·simp only [Act.put, List.setIfInBounds_toArray, List.set_cons_zero, List.set_cons_succ, i64_w, i32_w]
  rfl
 refine take_ (i := 22) (N := some 27) (v := .string ⟨(((((dg p1 ++ [32]) ++ dg p2) ++ [32]) ++ dg p3) ++ [10]).toArray⟩) (a' := ?_) #[true, true, true, true, true, true, true, true, true, true, true, true, true, true, true, true, true, true, true, true, true, true, true, false] rfl rfl (by kernel_rfl) (fun _ _ _ h => h) (Or.inl ⟨by rfl, ?_⟩) hHeld ?_ ?_
 ·intro w' s0
  exact (by go_simp; rw [if_neg (by first | omega | (simp only [bs_size, List.length_append, List.length_cons, List.length_nil]; omega) | (simp only [bs_size, List.length_append, List.length_cons, List.length_nil] at *; omega))]; simp [bs_app_data])
 rotate_left
 ·simp only [Act.put, List.setIfInBounds_toArray, List.set_cons_zero, List.set_cons_succ, i64_w, i32_w]
  rfl
 refine pure_ (i := 23) (N := some 3) (v := ?_) (a' := ?_) #[true, true, true, true, true, true, true, true, true, true, true, true, true, true, true, true, true, true, true, true, true, true, true, true] rfl rfl (by kernel_rfl) (fun _ _ _ h => h) (Or.inl ⟨by rfl, ?_⟩) ?_ ?_
 rotate_left
 ·intro w'
  go_simp
  with_reducible rfl
 rotate_left
 ·simp only [Act.put, List.setIfInBounds_toArray, List.set_cons_zero, List.set_cons_succ, i64_w, i32_w]
  rfl
 refine done_ (by kernel_rfl) ?_
 skip
 generalize hhd : (((dg p1 ++ [32]) ++ dg p2) ++ [32]) ++ dg p3 ++ [10] = hd at *
 have HHD := Aside0.mk hhd
 clear hhd
 have HB0 := Aside0.mk hHeld
 clear hHeld
 go_wp2_with fail
 go_loopw [4, 3] (fun v4 v3 wr => ∃ i : Nat, i ≤ ph.length ∧ v4 = .int .i64 i ∧ v3 = .string ⟨(bkT hd ph i).toArray⟩ ∧ Aside0 (Below w.heap.size w wr)) (fun v4 _ _ => ph.length - (intOf v4).toNat)
 case atStart => exact ⟨0, by omega, rfl, by rw [HZ.out, ← HHD.out]; simp, HB0⟩
 case round =>
  clear HB0
  obtain ⟨i, hi, rfl, rfl, HB⟩ := hrel
  have hci : wr.cell? ⟨g, 3, none⟩ = some (.slice A3 ph.length c3) := (HC.out wr HB.out 3).trans rfl
  by_cases hlt : i < ph.length
  ·obtain ⟨ad, rfl, hcs⟩ := Kd.at_string (Kd.C_below HR3.out HB.out) (i : Int) (by omega) (by omega)
   rw [Int.toNat_natCast, txs_get ph i hlt] at hcs
   have hpl := HPL.out ph[i] (List.getElem_mem _)
   have hln := HLN.out i hi
   have HS := Aside0.mk (HSU.out i hlt)
   generalize ph[i] = p at *
   generalize bkT hd ph i = s at *
   have hg1 : ¬ (9223372036854775807 < p.length + 1) := by omega
   have hg2 : ¬ (9223372036854775807 < s.length + (p.length + 1)) := by omega
   go_wp2_with fail
   go_roundw
   case rel => exact ⟨i + 1, by omega, by go_num, by rw [HS.out]; simp [bs_app_data], HB⟩
   case measure => simp [intOf]; omega
  ·have HI := Aside0.mk (show i = ph.length by omega)
   go_wp2_with fail
   go_ret
   exact ⟨by rw [HHD.out, HI.out]; rfl, HB.out⟩
theorem textSt_calls {bK bL bS : Int} {ph : List (List UInt8)} (hok : okB (bK, bL, bS, ph) = true) {w0 w W : World} {g : Nat} (h : BkSt w0 w g bK bL bS (txs ph) W) :
  Calls Tryd.prog 22 #[.pointer (some ⟨g, 0, none⟩)] W fun e w' => e = .returned (.string ⟨(bookT (bK, bL, bS, ph)).toArray⟩) ∧ Below W.heap.size W w' := by
 obtain ⟨A, c, hb, _, hr⟩ := h.is
 have hr' := Kd.C_below hr h.bel
 obtain ⟨⟨h1, h2, h3⟩, h4⟩ := ok_ranges hok
 simp only at h1 h2 h3 h4
 obtain ⟨k1, rfl⟩ := Int.eq_ofNat_of_zero_le (show 0 ≤ bK by omega)
 obtain ⟨k2, rfl⟩ := Int.eq_ofNat_of_zero_le (show 0 ≤ bL by omega)
 obtain ⟨k3, rfl⟩ := Int.eq_ofNat_of_zero_le (show 0 ≤ bS by omega)
 simp only [txs, List.length_map] at hb hr'
 exact specText_calls g k1 k2 k3 A c ph W (by omega) (by omega) (by omega) h4 (fun p hp => (ok_phr hok p hp).2) hb hr'
def bookX (b : BK) : ByteArray := if okB b = true then ⟨(bookT b).toArray⟩ else ByteArray.empty
set_option maxHeartbeats 4000000 in
set_option maxRecDepth 100000 in
theorem specBookText_calls (bK bL bS : Int) (A3 : Option Addr) (c3 : Nat) (ph : List (List UInt8)) (w : World) (hp : BookP bK bL bS (txs ph)) (hr3 : Kd.C Kd.string w A3 (txs ph).length (txs ph)) :
  Calls Tryd.prog 7 #[.agg #[.int .i8 bK, .int .i8 bL, .int .i8 bS, .slice A3 (txs ph).length c3]] w fun e w' => e = .returned (.string (bookX (bK, bL, bS, ph))) ∧ Below w.heap.size w w' := by
 have HOK := Aside0.mk (okSt_calls hp (bk_new (K := bK) (L := bL) (S := bS) (c3 := c3) hr3))
 have HB := Aside0.mk (show okBook bK bL bS (txs ph) = okB (bK, bL, bS, ph) from rfl)
 rw [HB.out] at HOK
 have htn : (txs ph).length = ph.length := by simp only [txs, List.length_map]
 rw [htn] at HOK ⊢
 clear htn
 unfold bookX
 cases hk : okB (bK, bL, bS, ph) with
 | false =>
  rw [hk] at HOK
  clear hk hp hr3 HB
  go_enter Tryd.func7, Tryd.ntmps7
  go_wp2_with (go_at_call 21; refine HOK.out.mono ?_; rintro e w5 ⟨rfl, h1, h2⟩; have HB1 := Aside0.mk h1; clear h1 h2)
  go_ret
  exact ⟨rfl, HB1.out.bel⟩
 | true =>
  have HTX : Aside0 (∀ w0 w W g, BkSt w0 w g bK bL bS (txs ph) W → _) := ⟨fun w0 w W g hW => textSt_calls hk hW⟩
  rw [hk] at HOK
  clear hk hp hr3 HB
  generalize bookT (bK, bL, bS, ph) = T at *
  go_enter Tryd.func7, Tryd.ntmps7
  go_wp2_with (first
   | (go_at_call 21; refine HOK.out.mono ?_; rintro e w5 ⟨rfl, h1, h2⟩; have HB1 := Aside0.mk h1; clear h1 h2)
   | (go_at_call 22; refine (HTX.out _ _ _ _ HB1.out).mono ?_; rintro e w6 ⟨rfl, h1⟩; have HB2 := Aside0.mk h1; clear h1))
  go_ret
  exact ⟨rfl, HB1.out.bel.trans (HB2.out.mono HB1.out.bel.size)⟩
set_option maxHeartbeats 8000000 in
set_option maxRecDepth 100000 in
theorem implBookText_calls (bK bL bS : Int) (A3 : Option Addr) (c3 : Nat) (ph : List (List UInt8)) (w : World) (hp : BookP bK bL bS (txs ph)) (hr3 : Kd.C Kd.string w A3 (txs ph).length (txs ph)) (hc3 : (txs ph).length ≤ c3) :
  Calls Tryd.prog 9 #[.agg #[.int .i8 bK, .int .i8 bL, .int .i8 bS, .slice A3 (txs ph).length c3]] w fun e w' => e = .returned (.string (bookX (bK, bL, bS, ph))) ∧ Below w.heap.size w w' := by
 have HV := Aside0.mk (fun W (hW : Below w.heap.size w W) => validBook_calls bK bL bS A3 c3 (txs ph) W hp (Kd.C_below hr3 hW) hc3)
 have HB := show okBook bK bL bS (txs ph) = okB (bK, bL, bS, ph) from rfl
 rw [HB] at HV
 have HB0 := Aside0.mk (bkIn_new w bK bL bS A3 (txs ph).length c3)
 unfold bookX
 cases hk : okB (bK, bL, bS, ph) with
 | false =>
  rw [hk] at HV
  clear hk hp hr3 HB
  generalize (txs ph).length = n at *
  go_enter Tryd.func9, Tryd.ntmps9
  go_wp2_with (first
   | ((with_reducible refine gt_load 28 ?_); refine Kd.event_run rfl (y_row (by rfl) (by rfl) HB0.out.2 aggBook rfl) ?_)
   | (go_at_call 24; refine (HV.out _ HB0.out.1).mono ?_; rintro e w5 ⟨rfl, h1⟩; have HB1 := Aside0.mk (HB0.out.below h1); clear h1))
  go_ret
  exact ⟨rfl, HB1.out.1⟩
 | true =>
  obtain ⟨⟨h1, h2, h3⟩, hn⟩ := ok_ranges hk
  have HPL := Aside0.mk (fun p hp => (ok_phr hk p hp).2)
  simp only at h1 h2 h3 hn HPL
  rw [hk] at HV
  obtain ⟨p1, rfl⟩ := Int.eq_ofNat_of_zero_le (show 0 ≤ bK by omega)
  obtain ⟨p2, rfl⟩ := Int.eq_ofNat_of_zero_le (show 0 ≤ bL by omega)
  obtain ⟨p3, rfl⟩ := Int.eq_ofNat_of_zero_le (show 0 ≤ bS by omega)
  have HDK := Aside0.mk (fun W => decimal_calls p1 (by omega) W)
  have HDL := Aside0.mk (fun W => decimal_calls p2 (by omega) W)
  have HDS := Aside0.mk (fun W => decimal_calls p3 (by omega) W)
  have hdK := dg_len p1
  have hdL := dg_len p2
  have hdS := dg_len p3
  have htn : (txs ph).length = ph.length := by simp only [txs, List.length_map]
  rw [htn] at HV HB0 hr3 hc3 ⊢
  have HR3 := Aside0.mk hr3
  have hmx := Kd.C_max hr3
  rw [bookT_bkT]
  have hhl := hdT_len ((p1 : Int), (p2 : Int), (p3 : Int), ph)
  have hhd : hdT ((p1 : Int), (p2 : Int), (p3 : Int), ph) ++ [10] = (((dg p1 ++ [32]) ++ dg p2) ++ [32]) ++ dg p3 ++ [10] := by unfold hdT; simp
  have HLN := Aside0.mk (bkT_len _ ph hhl HPL.out)
  have HSU := Aside0.mk (bkT_succ (hdT ((p1 : Int), (p2 : Int), (p3 : Int), ph) ++ [10]) ph)
  have HZ := Aside0.mk (bkT_zero (hdT ((p1 : Int), (p2 : Int), (p3 : Int), ph) ++ [10]) ph)
  rw [hhd] at HLN HSU HZ ⊢
  clear hr3 hhd hhl hp HB hk htn
  have hwK : wrap64 (p1 : Int) = (p1 : Int) := w64 (by omega) (by omega)
  have hwL : wrap64 (p2 : Int) = (p2 : Int) := w64 (by omega) (by omega)
  have hwS : wrap64 (p3 : Int) = (p3 : Int) := w64 (by omega) (by omega)
  show Calls _ _ _ _ fun e w' => e = .returned (.string ⟨(bkT ((((dg p1 ++ [32]) ++ dg p2) ++ [32]) ++ dg p3 ++ [10]) ph ph.length).toArray⟩) ∧ _
  go_enter Tryd.func9, Tryd.ntmps9
  go_wp2_with (first
   | ((with_reducible refine gt_load 28 ?_); refine Kd.event_run rfl (y_row (by rfl) (by rfl) HB0.out.2 aggBook rfl) ?_)
   | (go_at_call 24; refine (HV.out _ HB0.out.1).mono ?_; rintro e w5 ⟨rfl, h1⟩; have HB1 := Aside0.mk (HB0.out.below h1); clear h1))
  refine start_ (n := 18) (S := fun w' => BkIn w (p1 : Int) (p2 : Int) (p3 : Int) A3 ph.length c3 w') (ds := []) #[false, false, false, false, false, false, false, false, false, false, false, false, false, false, false, false, false, false] (by kernel_rfl) rfl rfl (HB1.out.drew) (fun hHeld => ?_)
  refine pure_ (i := 0) (N := some 9) (v := ?_) (a' := ?_) #[true, false, false, false, false, false, false, false, false, false, false, false, false, false, false, false, false, false] rfl rfl (by kernel_rfl) (fun _ _ _ h => h) (Or.inl ⟨by rfl, ?_⟩) ?_ ?_
  rotate_left
  ·intro w'
   go_simp
   with_reducible rfl
  rotate_left
  ·simp only [Act.put, List.setIfInBounds_toArray, List.set_cons_zero, List.set_cons_succ, i64_w, i32_w]
   rfl
  refine pure_ (i := 5) (N := some 14) (v := ?_) (a' := ?_) #[true, false, false, false, false, true, false, false, false, false, false, false, false, false, false, false, false, false] rfl rfl (by kernel_rfl) (fun _ _ _ h => h) (Or.inl ⟨by rfl, ?_⟩) ?_ ?_
  rotate_left
  ·intro w'
   go_simp
   with_reducible rfl
  rotate_left
  ·simp only [Act.put, List.setIfInBounds_toArray, List.set_cons_zero, List.set_cons_succ, i64_w, i32_w]
   rfl
  refine pure_ (i := 11) (N := some 20) (v := ?_) (a' := ?_) #[true, false, false, false, false, true, false, false, false, false, false, true, false, false, false, false, false, false] rfl rfl (by kernel_rfl) (fun _ _ _ h => h) (Or.inl ⟨by rfl, ?_⟩) ?_ ?_
  rotate_left
  ·intro w'
   go_simp
   with_reducible rfl
  rotate_left
  ·simp only [Act.put, List.setIfInBounds_toArray, List.set_cons_zero, List.set_cons_succ, i64_w, i32_w]
   rfl
  refine take_ (i := 1) (N := some 10) (v := .int .i8 (p1 : Int)) (a' := ?_) #[true, true, false, false, false, true, false, false, false, false, false, true, false, false, false, false, false, false] rfl rfl (by kernel_rfl) (fun _ _ _ h => h) (Or.inl ⟨by rfl, ?_⟩) hHeld ?_ ?_
  ·intro w' s0
   exact y_cellT (by rfl) (by rfl) oneI8T ((cell_of_row _ w.heap.size 0 _ _ (0, 0) s0.2).trans rfl)
  rotate_left
  ·simp only [Act.put, List.setIfInBounds_toArray, List.set_cons_zero, List.set_cons_succ, i64_w, i32_w]
   rfl
  refine take_ (i := 2) (N := some 11) (v := .int .i64 (p1 : Int)) (a' := ?_) #[true, true, true, false, false, true, false, false, false, false, false, true, false, false, false, false, false, false] rfl rfl (by kernel_rfl) (fun _ _ _ h => h) (Or.inl ⟨by rfl, ?_⟩) hHeld ?_ ?_
  ·intro w' s0
   exact (by go_simp; first | (rw [i64_w, hwK]; done) | (rw [i64_w, hwK]; rfl) | exact hwK)
  rotate_left
  ·simp only [Act.put, List.setIfInBounds_toArray, List.set_cons_zero, List.set_cons_succ, i64_w, i32_w]
   rfl
  refine take_ (i := 6) (N := some 15) (v := .int .i8 (p2 : Int)) (a' := ?_) #[true, true, true, false, false, true, true, false, false, false, false, true, false, false, false, false, false, false] rfl rfl (by kernel_rfl) (fun _ _ _ h => h) (Or.inl ⟨by rfl, ?_⟩) hHeld ?_ ?_
  ·intro w' s0
   exact y_cellT (by rfl) (by rfl) oneI8T ((cell_of_row _ w.heap.size 1 _ _ (0, 0) s0.2).trans rfl)
  rotate_left
  ·simp only [Act.put, List.setIfInBounds_toArray, List.set_cons_zero, List.set_cons_succ, i64_w, i32_w]
   rfl
  refine take_ (i := 7) (N := some 16) (v := .int .i64 (p2 : Int)) (a' := ?_) #[true, true, true, false, false, true, true, true, false, false, false, true, false, false, false, false, false, false] rfl rfl (by kernel_rfl) (fun _ _ _ h => h) (Or.inl ⟨by rfl, ?_⟩) hHeld ?_ ?_
  ·intro w' s0
   exact (by go_simp; first | (rw [i64_w, hwL]; done) | (rw [i64_w, hwL]; rfl) | exact hwL)
  rotate_left
  ·simp only [Act.put, List.setIfInBounds_toArray, List.set_cons_zero, List.set_cons_succ, i64_w, i32_w]
   rfl
  refine take_ (i := 12) (N := some 21) (v := .int .i8 (p3 : Int)) (a' := ?_) #[true, true, true, false, false, true, true, true, false, false, false, true, true, false, false, false, false, false] rfl rfl (by kernel_rfl) (fun _ _ _ h => h) (Or.inl ⟨by rfl, ?_⟩) hHeld ?_ ?_
  ·intro w' s0
   exact y_cellT (by rfl) (by rfl) oneI8T ((cell_of_row _ w.heap.size 2 _ _ (0, 0) s0.2).trans rfl)
  rotate_left
  ·simp only [Act.put, List.setIfInBounds_toArray, List.set_cons_zero, List.set_cons_succ, i64_w, i32_w]
   rfl
  refine take_ (i := 13) (N := some 22) (v := .int .i64 (p3 : Int)) (a' := ?_) #[true, true, true, false, false, true, true, true, false, false, false, true, true, true, false, false, false, false] rfl rfl (by kernel_rfl) (fun _ _ _ h => h) (Or.inl ⟨by rfl, ?_⟩) hHeld ?_ ?_
  ·intro w' s0
   exact (by go_simp; first | (rw [i64_w, hwS]; done) | (rw [i64_w, hwS]; rfl) | exact hwS)
  rotate_left
  ·simp only [Act.put, List.setIfInBounds_toArray, List.set_cons_zero, List.set_cons_succ, i64_w, i32_w]
   rfl
  refine one_ (i := 3) (N := some 12) #[true, true, true, true, false, true, true, true, false, false, false, true, true, true, false, false, false, false] rfl rfl (by kernel_rfl) (by decide) (fun K hK => ?_)
  refine goes_ Tryd.func25 (by kernel_rfl) rfl #[.int .i64 (p1 : Int)] (by rfl) rfl rfl (by simp only [List.map_toArray, List.map_cons, List.map_nil]; rfl) ?_
  refine (HDK.out _).mono ?_
  rintro e w5 ⟨rfl, hb⟩
  refine ⟨_, rfl, ?_⟩
  refine hK.out _ _ (hHeld.below hb) (fun hHeld => ?_)
  clear hK K
  refine norm_ (a' := ?_) ?_ ?_
  rotate_left
  ·show Act.put _ (some 12) _ = _
   simp only [Act.put, List.setIfInBounds_toArray, List.set_cons_zero, List.set_cons_succ, i64_w, i32_w]
   rfl
  refine take_ (i := 4) (N := some 13) (v := .string ⟨(dg p1 ++ [32]).toArray⟩) (a' := ?_) #[true, true, true, true, true, true, true, true, false, false, false, true, true, true, false, false, false, false] rfl rfl (by kernel_rfl) (fun _ _ _ h => h) (Or.inl ⟨by rfl, ?_⟩) hHeld ?_ ?_
  ·intro w' s0
   exact (by go_simp; rw [if_neg (by first | omega | (simp only [bs_size, List.length_append, List.length_cons, List.length_nil]; omega) | (simp only [bs_size, List.length_append, List.length_cons, List.length_nil] at *; omega))]; simp [bs_app_data])
  rotate_left
  ·simp only [Act.put, List.setIfInBounds_toArray, List.set_cons_zero, List.set_cons_succ, i64_w, i32_w]
   rfl
  refine one_ (i := 8) (N := some 17) #[true, true, true, true, true, true, true, true, true, false, false, true, true, true, false, false, false, false] rfl rfl (by kernel_rfl) (by decide) (fun K hK => ?_)
  refine goes_ Tryd.func25 (by kernel_rfl) rfl #[.int .i64 (p2 : Int)] (by rfl) rfl rfl (by simp only [List.map_toArray, List.map_cons, List.map_nil]; rfl) ?_
  refine (HDL.out _).mono ?_
  rintro e w6 ⟨rfl, hb⟩
  refine ⟨_, rfl, ?_⟩
  refine hK.out _ _ (hHeld.below hb) (fun hHeld => ?_)
  clear hK K
  refine norm_ (a' := ?_) ?_ ?_
  rotate_left
  ·show Act.put _ (some 17) _ = _
   simp only [Act.put, List.setIfInBounds_toArray, List.set_cons_zero, List.set_cons_succ, i64_w, i32_w]
   rfl
  refine take_ (i := 9) (N := some 18) (v := .string ⟨((dg p1 ++ [32]) ++ dg p2).toArray⟩) (a' := ?_) #[true, true, true, true, true, true, true, true, true, true, false, true, true, true, false, false, false, false] rfl rfl (by kernel_rfl) (fun _ _ _ h => h) (Or.inl ⟨by rfl, ?_⟩) hHeld ?_ ?_
  ·intro w' s0
   exact (by go_simp; rw [if_neg (by first | omega | (simp only [bs_size, List.length_append, List.length_cons, List.length_nil]; omega) | (simp only [bs_size, List.length_append, List.length_cons, List.length_nil] at *; omega))]; simp [bs_app_data])
  rotate_left
  ·simp only [Act.put, List.setIfInBounds_toArray, List.set_cons_zero, List.set_cons_succ, i64_w, i32_w]
   rfl
  refine take_ (i := 10) (N := some 19) (v := .string ⟨(((dg p1 ++ [32]) ++ dg p2) ++ [32]).toArray⟩) (a' := ?_) #[true, true, true, true, true, true, true, true, true, true, true, true, true, true, false, false, false, false] rfl rfl (by kernel_rfl) (fun _ _ _ h => h) (Or.inl ⟨by rfl, ?_⟩) hHeld ?_ ?_
  ·intro w' s0
   exact (by go_simp; rw [if_neg (by first | omega | (simp only [bs_size, List.length_append, List.length_cons, List.length_nil]; omega) | (simp only [bs_size, List.length_append, List.length_cons, List.length_nil] at *; omega))]; simp [bs_app_data])
  rotate_left
  ·simp only [Act.put, List.setIfInBounds_toArray, List.set_cons_zero, List.set_cons_succ, i64_w, i32_w]
   rfl
  refine one_ (i := 14) (N := some 23) #[true, true, true, true, true, true, true, true, true, true, true, true, true, true, true, false, false, false] rfl rfl (by kernel_rfl) (by decide) (fun K hK => ?_)
  refine goes_ Tryd.func25 (by kernel_rfl) rfl #[.int .i64 (p3 : Int)] (by rfl) rfl rfl (by simp only [List.map_toArray, List.map_cons, List.map_nil]; rfl) ?_
  refine (HDS.out _).mono ?_
  rintro e w7 ⟨rfl, hb⟩
  refine ⟨_, rfl, ?_⟩
  refine hK.out _ _ (hHeld.below hb) (fun hHeld => ?_)
  clear hK K
  refine norm_ (a' := ?_) ?_ ?_
  rotate_left
  ·show Act.put _ (some 23) _ = _
   simp only [Act.put, List.setIfInBounds_toArray, List.set_cons_zero, List.set_cons_succ, i64_w, i32_w]
   rfl
  refine take_ (i := 15) (N := some 24) (v := .string ⟨((((dg p1 ++ [32]) ++ dg p2) ++ [32]) ++ dg p3).toArray⟩) (a' := ?_) #[true, true, true, true, true, true, true, true, true, true, true, true, true, true, true, true, false, false] rfl rfl (by kernel_rfl) (fun _ _ _ h => h) (Or.inl ⟨by rfl, ?_⟩) hHeld ?_ ?_
  ·intro w' s0
   exact (by go_simp; rw [if_neg (by first | omega | (simp only [bs_size, List.length_append, List.length_cons, List.length_nil]; omega) | (simp only [bs_size, List.length_append, List.length_cons, List.length_nil] at *; omega))]; simp [bs_app_data])
  rotate_left
  ·simp only [Act.put, List.setIfInBounds_toArray, List.set_cons_zero, List.set_cons_succ, i64_w, i32_w]
   rfl
  refine take_ (i := 16) (N := some 25) (v := .string ⟨(((((dg p1 ++ [32]) ++ dg p2) ++ [32]) ++ dg p3) ++ [10]).toArray⟩) (a' := ?_) #[true, true, true, true, true, true, true, true, true, true, true, true, true, true, true, true, true, false] rfl rfl (by kernel_rfl) (fun _ _ _ h => h) (Or.inl ⟨by rfl, ?_⟩) hHeld ?_ ?_
  ·intro w' s0
   exact (by go_simp; rw [if_neg (by first | omega | (simp only [bs_size, List.length_append, List.length_cons, List.length_nil]; omega) | (simp only [bs_size, List.length_append, List.length_cons, List.length_nil] at *; omega))]; simp [bs_app_data])
  rotate_left
  ·simp only [Act.put, List.setIfInBounds_toArray, List.set_cons_zero, List.set_cons_succ, i64_w, i32_w]
   rfl
  refine pure_ (i := 17) (N := some 3) (v := ?_) (a' := ?_) #[true, true, true, true, true, true, true, true, true, true, true, true, true, true, true, true, true, true] rfl rfl (by kernel_rfl) (fun _ _ _ h => h) (Or.inl ⟨by rfl, ?_⟩) ?_ ?_
  rotate_left
  ·intro w'
   go_simp
   with_reducible rfl
  rotate_left
  ·simp only [Act.put, List.setIfInBounds_toArray, List.set_cons_zero, List.set_cons_succ, i64_w, i32_w]
   rfl
  refine done_ (by kernel_rfl) ?_
  skip
  generalize hhd : (((dg p1 ++ [32]) ++ dg p2) ++ [32]) ++ dg p3 ++ [10] = hd at *
  have HHD := Aside0.mk hhd
  clear hhd
  have HB2 := Aside0.mk hHeld.1
  have hc23 := cell_of_row _ w.heap.size 3 _ _ (0, 0) hHeld.2
  clear hHeld HB1 HB0
  go_wp2_with fail
  go_loopw [29, 5, 3] (fun v29 _ v3 wr => ∃ i : Nat, i ≤ ph.length ∧ v29 = .int .i64 i ∧ v3 = .string ⟨(bkT hd ph i).toArray⟩ ∧ Aside0 (Below w.heap.size w wr)) (fun v29 _ _ _ => ph.length - (intOf v29).toNat)
  case atStart => exact ⟨0, by omega, rfl, by rw [HZ.out, ← HHD.out]; simp, HB2⟩
  case round =>
   clear HB2 hc23
   obtain ⟨i, hi, rfl, rfl, HB⟩ := hrel
   by_cases hlt : i < ph.length
   ·obtain ⟨ad, rfl, hcs⟩ := Kd.at_string (Kd.C_below HR3.out HB.out) (i : Int) (by omega) (by omega)
    rw [Int.toNat_natCast, txs_get ph i hlt] at hcs
    have hpl := HPL.out ph[i] (List.getElem_mem _)
    have hln := HLN.out i hi
    have HS := Aside0.mk (HSU.out i hlt)
    generalize ph[i] = p at *
    generalize bkT hd ph i = s at *
    have hg1 : ¬ (9223372036854775807 < p.length + 1) := by omega
    have hg2 : ¬ (9223372036854775807 < s.length + (p.length + 1)) := by omega
    go_wp2_with fail
    go_roundw
    case rel => exact ⟨i + 1, by omega, by go_num, by rw [HS.out]; simp [bs_app_data], HB⟩
    case measure => simp [intOf]; omega
   ·have HI := Aside0.mk (show i = ph.length by omega)
    go_wp2_with fail
    go_ret
    exact ⟨by rw [HHD.out, HI.out]; rfl, HB.out⟩
theorem txs_bk (l : List ByteArray) : txs (l.map fun x => x.data.toList) = l := by
 unfold txs
 rw [List.map_map]
 conv => rhs; rw [← List.map_id l]
 exact List.map_congr_left fun x _ => rfl
def bookY (a b c : Int) (l : List ByteArray) : ByteArray := bookX (a, b, c, l.map fun x => x.data.toList)
theorem specBookY_calls (bK bL bS : Int) (A3 : Option Addr) (c3 : Nat) (l : List ByteArray) (w : World) (hp : BookP bK bL bS l) (hr3 : Kd.C Kd.string w A3 l.length l) :
  Calls Tryd.prog 7 #[.agg #[.int .i8 bK, .int .i8 bL, .int .i8 bS, .slice A3 l.length c3]] w fun e w' => e = .returned (.string (bookY bK bL bS l)) ∧ Below w.heap.size w w' := by
 have := specBookText_calls bK bL bS A3 c3 (l.map fun x => x.data.toList) w (by rw [txs_bk]; exact hp) (by rw [txs_bk]; exact hr3)
 rw [txs_bk] at this
 exact this
theorem implBookY_calls (bK bL bS : Int) (A3 : Option Addr) (c3 : Nat) (l : List ByteArray) (w : World) (hp : BookP bK bL bS l) (hr3 : Kd.C Kd.string w A3 l.length l) (hc3 : l.length ≤ c3) :
  Calls Tryd.prog 9 #[.agg #[.int .i8 bK, .int .i8 bL, .int .i8 bS, .slice A3 l.length c3]] w fun e w' => e = .returned (.string (bookY bK bL bS l)) ∧ Below w.heap.size w w' := by
 have := implBookText_calls bK bL bS A3 c3 (l.map fun x => x.data.toList) w (by rw [txs_bk]; exact hp) (by rw [txs_bk]; exact hr3) (by rw [txs_bk]; exact hc3)
 rw [txs_bk] at this
 exact this
end Go.Proofs.YtdgecgfgekmhcaaDoor.Arr
namespace Go.Proofs.YtdgecgfgekmhcaaDoor.K
open Go.RowKit Go.Proofs.YtdgecgfgekmhcaaDoorW.PrintWords Go.Proofs.YtdgecgfgekmhcaaDoorW.PrintLast Go.Proofs.YtdgecgfgekmhcaaDoorW.PrintMore
attribute [local go_sem] max2_int min2_int max_two min_two max_three min_three max_four min_four
set_option linter.unusedVariables false
set_option linter.unusedSimpArgs false
def errW : Option Int → Value
 | none => .nilIface
 | some c => .iface 0 (.int .i64 c)
theorem errW_none : errW none = .nilIface := rfl
theorem errW_some (c : Int) : errW (some c) = .iface 0 (.int .i64 c) := rfl
theorem info9 : (Tryd.prog.info? 9).map (fun i => (i.zero, i.size, i.bytes)) = some (some (.string ⟨#[]⟩), 1, 16) := by kernel_rfl
end Go.Proofs.YtdgecgfgekmhcaaDoor.K
namespace Go.Proofs.YtdgecgfgekmhcaaDoor.K
open Go.RowKit Go.Proofs.YtdgecgfgekmhcaaDoorW.PrintWords Go.Proofs.YtdgecgfgekmhcaaDoorW.PrintLast Go.Proofs.YtdgecgfgekmhcaaDoorW.PrintMore
attribute [local go_sem] max2_int min2_int max_two min_two max_three min_three max_four min_four
set_option linter.unusedVariables false
set_option linter.unusedSimpArgs false
def laws_szStringS.l0 : Nat → List ByteArray → Int → Int → Option (Int)
 | 0, _, _, _ => none
 | k + 1, x0, x1, x5 => if x5 < (x0.length : Int) then (if 0 ≤ x5 then (if (wrap64 (x1 - ((rdOf ByteArray.empty x0 x5).size : Int))) < 0 then (some (-1)) else (laws_szStringS.l0 k x0 (wrap64 (x1 - ((rdOf ByteArray.empty x0 x5).size : Int))) (wrap64 (x5 + 1)))) else (none)) else (some x1)
def laws_szStringS.f (k : Nat) (l0 : List ByteArray) (a1 : Int) : Option (Int) := if (wrap64 (a1 - (l0.length : Int))) < 0 then (some (-1)) else (laws_szStringS.l0 k l0 (wrap64 (a1 - (l0.length : Int))) 0)
set_option maxHeartbeats 8000000 in
set_option maxRecDepth 100000 in
theorem laws_szStringS.calls (k : Nat) (A0 : Option Addr) (c0 : Nat) (l0 : List ByteArray) (a1 : Int) (r : Int) (w : World) (hr0 : Kd.C Kd.string w A0 l0.length l0) (hc0 : l0.length ≤ c0) (h : laws_szStringS.f k l0 a1 = some r) :
  Calls Tryd.prog 20 #[.slice A0 l0.length c0, .int .i64 a1] w fun e w' => e = .returned (.int .i64 r) ∧ Drawn0 w w' := by
 have HR0 := Aside0.mk hr0
 have HC0 := Aside0.mk hc0
 clear hr0 hc0
 have H : (if (wrap64 (a1 - (l0.length : Int))) < 0 then (some (-1)) else (laws_szStringS.l0 k l0 (wrap64 (a1 - (l0.length : Int))) 0)) = some r := h
 clear h
 by_cases c3 : (wrap64 (a1 - (l0.length : Int))) < 0
 ·rw [if_pos c3] at H
  have c3b0 : decide ((wrap64 (a1 - (l0.length : Int))) < 0) = true := decide_eq_true c3
  clear c3
  obtain rfl := Option.some.inj H
  go_enter Tryd.func20, Tryd.ntmps20
  go_wp2
  go_ret
  exact ⟨by first | rfl | (simp; done) | (simp [*]; done), by repeat (first | exact Drawn0.refl _ | apply Drawn0.step)⟩
 ·rw [if_neg c3] at H
  have c3b0 : decide ((wrap64 (a1 - (l0.length : Int))) < 0) = false := decide_eq_false c3
  clear c3
  have H' := Aside0.mk H
  clear H
  go_enter Tryd.func20, Tryd.ntmps20
  go_wp2
  go_loopg [1, 5] k (fun kq v1 v5 w' => ∃ (x1_1 : Int) (x5_1 : Int), v1 = .int .i64 x1_1 ∧ v5 = .int .i64 x5_1 ∧ Aside0 (laws_szStringS.l0 kq l0 x1_1 x5_1 = some r) ∧ Aside0 (kq ≤ k) ∧ Drawn0 w w')
  case atStart => exact ⟨(wrap64 (a1 - (l0.length : Int))), (0), (by first | rfl | (simp; done) | (simp [*]; done)), (by first | rfl | (simp; done) | (simp [*]; done)), H', ⟨Nat.le_refl _⟩, by repeat (first | exact Drawn0.refl _ | apply Drawn0.step)⟩
  case round =>
   clear H'
   try clear c2
   try clear p2
   try clear c3
   try clear c3b0
   obtain ⟨x1_1, x5_1, rfl, rfl, HA, HK1, ⟨m1, rfl⟩⟩ := hrel
   cases gk with
   | zero => exact absurd HA.out (by simp [laws_szStringS.l0])
   | succ k1 =>
    have H := HA.out
    clear HA
    simp only [laws_szStringS.l0] at H
    by_cases c4 : x5_1 < (l0.length : Int)
    ·rw [if_pos c4] at H
     have c4b0 : decide (x5_1 < (l0.length : Int)) = true := decide_eq_true c4
     clear c4
     by_cases c5 : 0 ≤ x5_1
     ·rw [if_pos c5] at H
      have c5b0 : decide (0 ≤ x5_1) = true := decide_eq_true c5
      clear c5
      by_cases c6 : (wrap64 (x1_1 - ((rdOf ByteArray.empty l0 x5_1).size : Int))) < 0
      ·rw [if_pos c6] at H
       have c6b0 : decide ((wrap64 (x1_1 - ((rdOf ByteArray.empty l0 x5_1).size : Int))) < 0) = true := decide_eq_true c6
       clear c6
       obtain rfl := Option.some.inj H
       have p101 : 0 ≤ (x5_1 : Int) := of_decide_eq_true (by first | (with_reducible assumption) | assumption)
       have q101 : x5_1 < (l0.length : Int) := of_decide_eq_true (by first | (with_reducible assumption) | assumption)
       obtain ⟨ad101, e101, hx101_0⟩ := Kd.at_string HR0.out x5_1 p101 q101
       cases e101
       replace p101 := eq_true p101
       replace q101 := eq_true q101
       go_wp2
       go_ret
       exact ⟨by first | rfl | (simp; done) | (simp [*]; done), by repeat (first | exact Drawn0.refl _ | apply Drawn0.step)⟩
      ·rw [if_neg c6] at H
       have c6b0 : decide ((wrap64 (x1_1 - ((rdOf ByteArray.empty l0 x5_1).size : Int))) < 0) = false := decide_eq_false c6
       clear c6
       have H' := Aside0.mk H
       clear H
       have p101 : 0 ≤ (x5_1 : Int) := of_decide_eq_true (by first | (with_reducible assumption) | assumption)
       have q101 : x5_1 < (l0.length : Int) := of_decide_eq_true (by first | (with_reducible assumption) | assumption)
       obtain ⟨ad101, e101, hx101_0⟩ := Kd.at_string HR0.out x5_1 p101 q101
       cases e101
       replace p101 := eq_true p101
       replace q101 := eq_true q101
       go_wp2
       go_roundg k1
       case measure => have := HK1.out; omega
       case rel => exact ⟨(wrap64 (x1_1 - ((rdOf ByteArray.empty l0 x5_1).size : Int))), (wrap64 (x5_1 + 1)), (by first | rfl | (simp; done) | (simp [*]; done)), (by first | rfl | (simp; done) | (simp [*]; done)), H', ⟨by have := HK1.out; omega⟩, by repeat (first | exact Drawn0.refl _ | apply Drawn0.step)⟩
     ·rw [if_neg c5] at H
      exact absurd H (by simp)
    ·rw [if_neg c4] at H
     have c4b0 : decide (x5_1 < (l0.length : Int)) = false := decide_eq_false c4
     clear c4
     obtain rfl := Option.some.inj H
     go_wp2
     go_ret
     exact ⟨by first | rfl | (simp; done) | (simp [*]; done), by repeat (first | exact Drawn0.refl _ | apply Drawn0.step)⟩
def laws_szBook.f (k : Nat) (a0_0 : Int) (a0_1 : Int) (a0_2 : Int) (l0_3 : List ByteArray) (a1 : Int) : Option (Int) := (laws_szStringS.f k l0_3 a1).bind fun t103 => (if t103 < 0 then (some (-1)) else (some t103))
set_option maxHeartbeats 8000000 in
set_option maxRecDepth 100000 in
theorem laws_szBook.calls (k : Nat) (a0_0 : Int) (a0_1 : Int) (a0_2 : Int) (A0_3 : Option Addr) (c0_3 : Nat) (l0_3 : List ByteArray) (a1 : Int) (r : Int) (w : World) (hr0_3 : Kd.C Kd.string w A0_3 l0_3.length l0_3) (hc0_3 : l0_3.length ≤ c0_3) (h : laws_szBook.f k a0_0 a0_1 a0_2 l0_3 a1 = some r) :
  Calls Tryd.prog 6 #[.agg #[.int .i8 a0_0, .int .i8 a0_1, .int .i8 a0_2, .slice A0_3 l0_3.length c0_3], .int .i64 a1] w fun e w' => e = .returned (.int .i64 r) ∧ Below w.heap.size w w' := by
 have hu25 := Tryd.underlying25
 have HR0_3 := Aside0.mk hr0_3
 have HC0_3 := Aside0.mk hc0_3
 clear hr0_3 hc0_3
 have HB := Aside0.mk (Below.refl w.heap.size w)
 have H : ((laws_szStringS.f k l0_3 a1).bind fun t103 => (if t103 < 0 then (some (-1)) else (some t103))) = some r := h
 clear h
 replace H := Option.bind_eq_some_iff.mp H
 obtain ⟨t103, A30, H⟩ := H
 replace H : (if t103 < 0 then (some (-1)) else (some t103)) = some r := H
 have A3 := Aside0.mk A30
 clear A30
 by_cases c4 : t103 < 0
 ·rw [if_pos c4] at H
  have c4b0 : decide (t103 < 0) = true := decide_eq_true c4
  clear c4
  obtain rfl := Option.some.inj H
  go_enter Tryd.func6, Tryd.ntmps6
  go_wp2_with (first | ((with_reducible refine gate_dst (N := 2) rfl ?_); refine box_event ?hg (N := 2) ?hd (cs := #[.int .i8 a0_0, .int .i8 a0_1, .int .i8 a0_2, .slice A0_3 l0_3.length c0_3]) (t := 25) ?hr ?_; (case hd => rfl); (case hg => rfl); (case hr => first | (go_simp; done) | (go_simp; rfl)); intro gb102 hg w5 hbox hb; have n0_ := Aside0.mk (below_step (by repeat (first | (with_reducible first | exact HB.out | apply below_alloc | apply pw_below_drewN | apply below_drew1) | exact HB.out)) hb); have n1_ := Aside0.mk (hbox); have n2_ := Aside0.mk ((by rw [hg]; exact (below_size (by repeat (first | (with_reducible first | exact HB.out | apply below_alloc | apply pw_below_drewN | apply below_drew1) | exact HB.out))) : w.heap.size ≤ gb102)); have n3_ := Aside0.mk ((by rw [hg]; exact (below_size (by repeat (first | (with_reducible first | exact HB.out | apply below_alloc | apply pw_below_drewN | apply below_drew1) | exact HB.out))) : w.heap.size ≤ gb102)); clear HB; have HB := n0_; have BK102 := n1_; have GW102 := n2_; have GE102 := n3_; clear n0_ n1_ n2_ n3_; clear hb hbox hg; have hcz6_0 : w5.cell? ⟨gb102, 0, none⟩ = some (.int .i8 a0_0) := (blk_cell BK102.out 0).trans rfl; have hcz6_1 : w5.cell? ⟨gb102, 1, none⟩ = some (.int .i8 a0_1) := (blk_cell BK102.out 1).trans rfl; have hcz6_2 : w5.cell? ⟨gb102, 2, none⟩ = some (.int .i8 a0_2) := (blk_cell BK102.out 2).trans rfl; have hcz6_3 : w5.cell? ⟨gb102, 3, none⟩ = some (.slice A0_3 l0_3.length c0_3) := (blk_cell BK102.out 3).trans rfl; have hfz6_0 := blk_frozen BK102.out 0; have hfz6_1 := blk_frozen BK102.out 1; have hfz6_2 := blk_frozen BK102.out 2; have hfz6_3 := blk_frozen BK102.out 3) | ((with_reducible refine gate_callee (f := 20) rfl ?_); refine goesL_ (some 8) rfl rfl Tryd.func20 (by kernel_rfl) rfl #[.slice A0_3 l0_3.length c0_3, .int .i64 a1] rfl (by (try simp only [List.map_toArray, List.map_cons, List.map_nil]); first | done | rfl | (simp only [List.length_drop, List.length_take]; rfl)) ?_; (with_reducible refine (laws_szStringS.calls k _ _ l0_3 a1 t103 _ ?side1 ?side2 A3.out).mono ?_); (case side1 => repeat (first | exact (Kd.C_below HR0_3.out HB.out) | (with_reducible refine Kd.C_alloc ?_ _) | (with_reducible refine Kd.C_drewN ?_ _) | (with_reducible refine Kd.C_drew ?_))); (case side2 => exact HC0_3.out); rintro e w' ⟨rfl, ⟨nd, rfl⟩⟩; refine ⟨_, rfl, ?_⟩))
  go_ret
  exact ⟨by first | rfl | (simp [errW_none, errW_some] <;> rfl) | (simp [*, errW_none, errW_some] <;> rfl), by repeat (first | (with_reducible first | exact HB.out | apply below_alloc | apply pw_below_drewN | apply below_drew1 | refine below_set ?_ GE102.out) | exact HB.out)⟩
 ·rw [if_neg c4] at H
  have c4b0 : decide (t103 < 0) = false := decide_eq_false c4
  clear c4
  obtain rfl := Option.some.inj H
  go_enter Tryd.func6, Tryd.ntmps6
  go_wp2_with (first | ((with_reducible refine gate_dst (N := 2) rfl ?_); refine box_event ?hg (N := 2) ?hd (cs := #[.int .i8 a0_0, .int .i8 a0_1, .int .i8 a0_2, .slice A0_3 l0_3.length c0_3]) (t := 25) ?hr ?_; (case hd => rfl); (case hg => rfl); (case hr => first | (go_simp; done) | (go_simp; rfl)); intro gb102 hg w7 hbox hb; have n0_ := Aside0.mk (below_step (by repeat (first | (with_reducible first | exact HB.out | apply below_alloc | apply pw_below_drewN | apply below_drew1) | exact HB.out)) hb); have n1_ := Aside0.mk (hbox); have n2_ := Aside0.mk ((by rw [hg]; exact (below_size (by repeat (first | (with_reducible first | exact HB.out | apply below_alloc | apply pw_below_drewN | apply below_drew1) | exact HB.out))) : w.heap.size ≤ gb102)); have n3_ := Aside0.mk ((by rw [hg]; exact (below_size (by repeat (first | (with_reducible first | exact HB.out | apply below_alloc | apply pw_below_drewN | apply below_drew1) | exact HB.out))) : w.heap.size ≤ gb102)); clear HB; have HB := n0_; have BK102 := n1_; have GW102 := n2_; have GE102 := n3_; clear n0_ n1_ n2_ n3_; clear hb hbox hg; have hcz8_0 : w7.cell? ⟨gb102, 0, none⟩ = some (.int .i8 a0_0) := (blk_cell BK102.out 0).trans rfl; have hcz8_1 : w7.cell? ⟨gb102, 1, none⟩ = some (.int .i8 a0_1) := (blk_cell BK102.out 1).trans rfl; have hcz8_2 : w7.cell? ⟨gb102, 2, none⟩ = some (.int .i8 a0_2) := (blk_cell BK102.out 2).trans rfl; have hcz8_3 : w7.cell? ⟨gb102, 3, none⟩ = some (.slice A0_3 l0_3.length c0_3) := (blk_cell BK102.out 3).trans rfl; have hfz8_0 := blk_frozen BK102.out 0; have hfz8_1 := blk_frozen BK102.out 1; have hfz8_2 := blk_frozen BK102.out 2; have hfz8_3 := blk_frozen BK102.out 3) | ((with_reducible refine gate_callee (f := 20) rfl ?_); refine goesL_ (some 8) rfl rfl Tryd.func20 (by kernel_rfl) rfl #[.slice A0_3 l0_3.length c0_3, .int .i64 a1] rfl (by (try simp only [List.map_toArray, List.map_cons, List.map_nil]); first | done | rfl | (simp only [List.length_drop, List.length_take]; rfl)) ?_; (with_reducible refine (laws_szStringS.calls k _ _ l0_3 a1 t103 _ ?side1 ?side2 A3.out).mono ?_); (case side1 => repeat (first | exact (Kd.C_below HR0_3.out HB.out) | (with_reducible refine Kd.C_alloc ?_ _) | (with_reducible refine Kd.C_drewN ?_ _) | (with_reducible refine Kd.C_drew ?_))); (case side2 => exact HC0_3.out); rintro e w' ⟨rfl, ⟨nd, rfl⟩⟩; refine ⟨_, rfl, ?_⟩))
  go_ret
  exact ⟨by first | rfl | (simp [errW_none, errW_some] <;> rfl) | (simp [*, errW_none, errW_some] <;> rfl), by repeat (first | (with_reducible first | exact HB.out | apply below_alloc | apply pw_below_drewN | apply below_drew1 | refine below_set ?_ GE102.out) | exact HB.out)⟩
def spec_BookText.f (a0_0 : Int) (a0_1 : Int) (a0_2 : Int) (l0_3 : List ByteArray) : Option ByteArray := if (Go.Proofs.YtdgecgfgekmhcaaDoor.Arr.smallPh l0_3 && (Go.Proofs.YtdgecgfgekmhcaaDoor.Arr.in8 a0_0 && (Go.Proofs.YtdgecgfgekmhcaaDoor.Arr.in8 a0_1 && Go.Proofs.YtdgecgfgekmhcaaDoor.Arr.in8 a0_2))) = true then some (Go.Proofs.YtdgecgfgekmhcaaDoor.Arr.bookY a0_0 a0_1 a0_2 l0_3) else none
theorem spec_BookText.calls (a0_0 : Int) (a0_1 : Int) (a0_2 : Int) (A0_3 : Option Addr) (c0_3 : Nat) (l0_3 : List ByteArray) (r : ByteArray) (w : World) (hr0_3 : Kd.C Kd.string w A0_3 l0_3.length l0_3) (hc0_3 : l0_3.length ≤ c0_3) (h : spec_BookText.f a0_0 a0_1 a0_2 l0_3 = some r) :
  Calls Tryd.prog 7 #[.agg #[.int .i8 a0_0, .int .i8 a0_1, .int .i8 a0_2, .slice A0_3 l0_3.length c0_3]] w fun e w' => e = .returned (.string r) ∧ Below w.heap.size w w' := by
 unfold spec_BookText.f at h
 split at h
 ·rename_i hs
  obtain rfl := Option.some.inj h
  exact Go.Proofs.YtdgecgfgekmhcaaDoor.Arr.specBookY_calls a0_0 a0_1 a0_2 A0_3 c0_3 l0_3 w (Go.Proofs.YtdgecgfgekmhcaaDoor.Arr.bookP_of hs) hr0_3
 ·cases h
def laws_toStringS.l0 : Nat → List ByteArray → List ByteArray → Int → Option (List ByteArray)
 | 0, _, _, _ => none
 | k + 1, x0, x3, x4 => if x4 < (x0.length : Int) then (if 0 ≤ x4 then (if x4 < (x3.length : Int) then (laws_toStringS.l0 k x0 (x3.set (x4 : Int).toNat (rdOf ByteArray.empty x0 x4)) (wrap64 (x4 + 1))) else (none)) else (none)) else (some x3)
def laws_toStringS.f (k : Nat) (l0 : List ByteArray) : Option (List ByteArray) := if 0 ≤ (l0.length : Int) then (if ((l0.length : Int) : Int).toNat ≤ 17592186044416 then (laws_toStringS.l0 k l0 (List.replicate ((l0.length : Int) : Int).toNat (⟨#[]⟩ : ByteArray)) 0) else (none)) else (none)
set_option maxHeartbeats 8000000 in
set_option maxRecDepth 100000 in
theorem laws_toStringS.calls (k : Nat) (A0 : Option Addr) (c0 : Nat) (l0 : List ByteArray) (r : List ByteArray) (w : World) (hr0 : Kd.C Kd.string w A0 l0.length l0) (hc0 : l0.length ≤ c0) (h : laws_toStringS.f k l0 = some r) :
  Calls Tryd.prog 23 #[.slice A0 l0.length c0] w fun e w' => ∃ v0_ : Value, e = .returned (v0_) ∧ Kd.R Kd.string 9 w' w.heap.size (fun _ => True) v0_ r ∧ Below w.heap.size w w' := by
 have HR0 := Aside0.mk hr0
 have HC0 := Aside0.mk hc0
 clear hr0 hc0
 have HB := Aside0.mk (Below.refl w.heap.size w)
 have H : (if 0 ≤ (l0.length : Int) then (if ((l0.length : Int) : Int).toNat ≤ 17592186044416 then (laws_toStringS.l0 k l0 (List.replicate ((l0.length : Int) : Int).toNat (⟨#[]⟩ : ByteArray)) 0) else (none)) else (none)) = some r := h
 clear h
 by_cases c2 : 0 ≤ (l0.length : Int)
 ·rw [if_pos c2] at H
  have c2b0 := eq_true c2
  have c2b1 : decide (0 ≤ (l0.length : Int)) = true := decide_eq_true c2
  clear c2
  by_cases c3 : ((l0.length : Int) : Int).toNat ≤ 17592186044416
  ·rw [if_pos c3] at H
   have c3b0 := eq_true c3
   have c3b1 : decide (((l0.length : Int) : Int).toNat ≤ 17592186044416) = true := decide_eq_true c3
   clear c3
   obtain ⟨y104, hy104⟩ : ∃ y_ : List ByteArray, y_ = (List.replicate ((l0.length : Int) : Int).toNat (⟨#[]⟩ : ByteArray)) := ⟨_, rfl⟩
   replace H : (laws_toStringS.l0 k l0 y104 0) = some r := by first | (rw [hy104]; with_reducible exact H) | (have H2_ := (Option.bind_some _ _).symm.trans H; rw [hy104]; with_reducible exact H2_) | (have H2_ := (Option.bind_some _ _).symm.trans H; with_reducible exact H2_) | with_reducible exact H | (rw [hy104]; exact H) | exact H
   have Ny104 := Aside0.mk hy104
   clear hy104
   have H' := Aside0.mk H
   clear H
   go_enter Tryd.func23, Tryd.ntmps23
   go_wp2_with (first | ((with_reducible refine gate_dst (N := 7) rfl ?_); refine Kd.R_make Kd.string _ 9 rfl (N := 7) rfl 23 _ _ rfl (l0.length : Int) rfl rfl Tryd.underlying23 (.string ⟨#[]⟩) 16 info9 rfl (by decide) (by omega) (⟨#[]⟩ : ByteArray) (ok := fun _ => True) (okp := fun _ => True) rfl (fun _ hk => hk) trivial (of_decide_eq_true (by first | (with_reducible assumption) | assumption)) (Nat.le_trans (Nat.mul_le_mul_right _ (of_decide_eq_true (by first | (with_reducible assumption) | assumption) : (l0.length : Int).toNat ≤ 17592186044416)) (by omega)) (Below.refl _ _) (Nat.le_refl _) ?_; intro v105 w4 ho5 hb hg_ hnew_; clear hg_ hnew_; (first | rw [← Ny104.out] at ho5 | (simp only [Int.reduceToNat] at ho5; rw [← Ny104.out] at ho5)); have n0_ := Aside0.mk (Kd.R_lower ho5 (below_size (by repeat (first | (with_reducible first | exact HB.out | apply below_alloc | apply pw_below_drewN | apply below_drew1) | exact HB.out)))); have n1_ := Aside0.mk (below_step (by repeat (first | (with_reducible first | exact HB.out | apply below_alloc | apply pw_below_drewN | apply below_drew1) | exact HB.out)) hb); clear HB; have HO106 := n0_; have HB := n1_; clear n0_ n1_; clear hb ho5))
   go_loopg [4] k (fun kq v4 w' => ∃ (x3_1 : List ByteArray) (x4_1 : Int), v4 = .int .i64 x4_1 ∧ Aside0 (laws_toStringS.l0 kq l0 x3_1 x4_1 = some r) ∧ Aside0 (kq ≤ k) ∧ Aside0 (Kd.R Kd.string 9 w' w.heap.size (fun _ => True) v105 x3_1) ∧ Aside0 (Below w.heap.size w w'))
   case atStart => exact ⟨(y104), (0), (by first | rfl | (simp; done) | (simp [*]; done)), H', ⟨Nat.le_refl _⟩, ⟨by (with_reducible repeat (first | apply Kd.R_alloc | apply Kd.R_drewN | apply Kd.R_drew)); exact HO106.out⟩, ⟨by repeat (first | (with_reducible first | exact HB.out | apply below_alloc | apply pw_below_drewN | apply below_drew1) | exact HB.out)⟩⟩
   case round =>
    clear H'
    try clear c2
    try clear c2b0
    try clear c2b1
    try clear p2
    try clear c3
    try clear c3b0
    try clear c3b1
    obtain ⟨x3_1, x4_1, rfl, HA, HK1, HO_3, HB⟩ := hrel
    cases gk with
    | zero => exact absurd HA.out (by simp [laws_toStringS.l0])
    | succ k1 =>
     have H := HA.out
     clear HA
     simp only [laws_toStringS.l0] at H
     by_cases c6 : x4_1 < (l0.length : Int)
     ·rw [if_pos c6] at H
      have c6b0 : decide (x4_1 < (l0.length : Int)) = true := decide_eq_true c6
      clear c6
      by_cases c7 : 0 ≤ x4_1
      ·rw [if_pos c7] at H
       have c7b0 : decide (0 ≤ x4_1) = true := decide_eq_true c7
       clear c7
       by_cases c8 : x4_1 < (x3_1.length : Int)
       ·rw [if_pos c8] at H
        have c8b0 : decide (x4_1 < (x3_1.length : Int)) = true := decide_eq_true c8
        clear c8
        obtain ⟨y108, hy108⟩ : ∃ y_ : List ByteArray, y_ = (x3_1.set (x4_1 : Int).toNat (rdOf ByteArray.empty l0 x4_1)) := ⟨_, rfl⟩
        replace H : (laws_toStringS.l0 k1 l0 y108 (wrap64 (x4_1 + 1))) = some r := by first | (rw [hy108]; with_reducible exact H) | (have H2_ := (Option.bind_some _ _).symm.trans H; rw [hy108]; with_reducible exact H2_) | (have H2_ := (Option.bind_some _ _).symm.trans H; with_reducible exact H2_) | with_reducible exact H | (rw [hy108]; exact H) | exact H
        have Ny108 := Aside0.mk hy108
        clear hy108
        have H' := Aside0.mk H
        clear H
        have p107 : 0 ≤ (x4_1 : Int) := of_decide_eq_true (by first | (with_reducible assumption) | assumption)
        have q107 : x4_1 < (l0.length : Int) := of_decide_eq_true (by first | (with_reducible assumption) | assumption)
        obtain ⟨ad107, e107, hx107_0⟩ := Kd.at_string HR0.out x4_1 p107 q107
        cases e107
        replace hx107_0 := (HB.out.cell (World.block_lt_of_cell? w _ hx107_0)).trans hx107_0
        replace p107 := eq_true p107
        replace q107 := eq_true q107
        have p9 : 0 ≤ (x4_1 : Int) := of_decide_eq_true (by first | (with_reducible assumption) | assumption)
        have q9 : (x4_1 : Int) < ((x3_1.length : Int) : Int) := of_decide_eq_true (by first | (with_reducible assumption) | assumption)
        obtain ⟨go9, co9, eo9, gb9, gl9, cl9, HG9⟩ := Kd.R_form HO_3.out (by omega)
        (first | cases eo9 | (injection eo9 with ea_ en_ ec_; (first | subst ea_ | (injection ea_ with ea_; subst ea_)); subst ec_; clear en_))
        have GB9 := Aside0.mk gb9
        have GG9 := Aside0.mk HG9
        clear gb9 gl9 HG9
        obtain ⟨hx9_0, hf9_0⟩ := Kd.R_celln (⟨#[]⟩ : ByteArray) HO_3.out (x4_1 : Int) p9 q9
        replace p9 := eq_true p9
        replace q9 := eq_true q9
        have HP10 := Kd.R_putg HO_3.out (x4_1 : Int) (rdOf ByteArray.empty l0 x4_1)
        go_wp2_with (first | ((with_reducible refine gate_store (t := 9) (p := 20) rfl ?_); refine store_event (t := 9) (p := 20) (v := ?vo_w11) (w1 := (wr.setCell ⟨go9, (x4_1 : Int).toNat, none⟩ (.string (rdOf ByteArray.empty l0 x4_1)))) ?hg ?ho ?hn ?hr ?_; (case ho => rfl); (case hg => rfl); (case hn => rfl); (case hr => first | (go_simp; done) | (go_simp; rfl)); intro w11 hw; have hg : wr.grownBy w11 (some go9) := (by rw [hw]; exact HP10.2); have hp_ : Kd.R Kd.string 9 w11 w.heap.size (fun _ => True) (.slice (some ⟨go9, 0, none⟩) x3_1.length co9) y108 := (by rw [hw, Ny108.out]; exact HP10.1); clear HP10; have n0_ := Aside0.mk (hp_); have n1_ := Aside0.mk ((by rw [hw]; exact below_set (HB.out) GB9.out : Below w.heap.size w w11)); clear HO_3; clear HB; have HO_3 := n0_; have HB := n1_; clear n0_ n1_; clear hg hw hp_))
        go_roundg k1
        case measure => have := HK1.out; omega
        case rel => exact ⟨(y108), (wrap64 (x4_1 + 1)), (by first | rfl | (simp; done) | (simp [*]; done)), H', ⟨by have := HK1.out; omega⟩, ⟨by (with_reducible repeat (first | apply Kd.R_alloc | apply Kd.R_drewN | apply Kd.R_drew)); exact HO_3.out⟩, ⟨by repeat (first | (with_reducible first | exact HB.out | apply below_alloc | apply pw_below_drewN | apply below_drew1) | exact HB.out)⟩⟩
       ·rw [if_neg c8] at H
        exact absurd H (by simp)
      ·rw [if_neg c7] at H
       exact absurd H (by simp)
     ·rw [if_neg c6] at H
      have c6b0 : decide (x4_1 < (l0.length : Int)) = false := decide_eq_false c6
      clear c6
      obtain rfl := Option.some.inj H
      go_wp2
      go_ret
      exact ⟨_, by first | rfl | (simp [errW_none, errW_some] <;> rfl) | (simp [*, errW_none, errW_some] <;> rfl), by (with_reducible repeat (first | apply Kd.R_alloc | apply Kd.R_drewN | apply Kd.R_drew)); exact HO_3.out, by repeat (first | (with_reducible first | exact HB.out | apply below_alloc | apply pw_below_drewN | apply below_drew1) | exact HB.out)⟩
  ·rw [if_neg c3] at H
   exact absurd H (by simp)
 ·rw [if_neg c2] at H
  exact absurd H (by simp)
def laws_toBook.f (k : Nat) (a0_0 : Int) (a0_1 : Int) (a0_2 : Int) (l0_3 : List ByteArray) : Option (Int × Int × Int × List ByteArray) := (laws_toStringS.f k l0_3).bind fun t112 => (some (a0_0, a0_1, a0_2, t112))
set_option maxHeartbeats 8000000 in
set_option maxRecDepth 100000 in
theorem laws_toBook.calls (k : Nat) (a0_0 : Int) (a0_1 : Int) (a0_2 : Int) (A0_3 : Option Addr) (c0_3 : Nat) (l0_3 : List ByteArray) (r1 : Int) (r2 : Int) (r3 : Int) (r4 : List ByteArray) (w : World) (hr0_3 : Kd.C Kd.string w A0_3 l0_3.length l0_3) (hc0_3 : l0_3.length ≤ c0_3) (h : laws_toBook.f k a0_0 a0_1 a0_2 l0_3 = some (r1, r2, r3, r4)) :
  Calls Tryd.prog 8 #[.agg #[.int .i8 a0_0, .int .i8 a0_1, .int .i8 a0_2, .slice A0_3 l0_3.length c0_3]] w fun e w' => ∃ v3_ : Value, e = .returned (.agg #[.int .i8 r1, .int .i8 r2, .int .i8 r3, v3_]) ∧ Kd.R Kd.string 9 w' w.heap.size (fun _ => True) v3_ r4 ∧ Below w.heap.size w w' := by
 have hu25 := Tryd.underlying25
 have hu28 := Tryd.underlying28
 have HR0_3 := Aside0.mk hr0_3
 have HC0_3 := Aside0.mk hc0_3
 clear hr0_3 hc0_3
 have HB := Aside0.mk (Below.refl w.heap.size w)
 have H : ((laws_toStringS.f k l0_3).bind fun t112 => (some (a0_0, a0_1, a0_2, t112))) = some (r1, r2, r3, r4) := h
 clear h
 replace H := Option.bind_eq_some_iff.mp H
 obtain ⟨t112, A20, H⟩ := H
 replace H : (some (a0_0, a0_1, a0_2, t112)) = some (r1, r2, r3, r4) := H
 have A2 := Aside0.mk A20
 clear A20
 simp only [Option.some.injEq, Prod.mk.injEq] at H
 obtain ⟨rfl, rfl, rfl, rfl⟩ := H
 go_enter Tryd.func8, Tryd.ntmps8
 go_wp2_with (first | ((with_reducible refine gate_dst (N := 1) rfl ?_); refine box_event ?hg (N := 1) ?hd (cs := #[.int .i8 a0_0, .int .i8 a0_1, .int .i8 a0_2, .slice A0_3 l0_3.length c0_3]) (t := 25) ?hr ?_; (case hd => rfl); (case hg => rfl); (case hr => first | (go_simp; done) | (go_simp; rfl)); intro gb109 hg w3 hbox hb; have n0_ := Aside0.mk (below_step (by repeat (first | (with_reducible first | exact HB.out | apply below_alloc | apply pw_below_drewN | apply below_drew1) | exact HB.out)) hb); have n1_ := Aside0.mk (hbox); have n2_ := Aside0.mk ((by rw [hg]; exact (below_size (by repeat (first | (with_reducible first | exact HB.out | apply below_alloc | apply pw_below_drewN | apply below_drew1) | exact HB.out))) : w.heap.size ≤ gb109)); have n3_ := Aside0.mk ((by rw [hg]; exact (below_size (by repeat (first | (with_reducible first | exact HB.out | apply below_alloc | apply pw_below_drewN | apply below_drew1) | exact HB.out))) : w.heap.size ≤ gb109)); clear HB; have HB := n0_; have BK109 := n1_; have GW109 := n2_; have GE109 := n3_; clear n0_ n1_ n2_ n3_; clear hb hbox hg) | ((with_reducible refine gate_dst (N := 2) rfl ?_); refine box_event ?hg (N := 2) ?hd (cs := #[.int .i8 0, .int .i8 0, .int .i8 0, .slice none 0 0]) (t := 28) ?hr ?_; (case hd => rfl); (case hg => rfl); (case hr => first | (go_simp; done) | (go_simp; rfl)); intro gb110 hg w4 hbox hb; have n0_ := Aside0.mk (blk_below (g := gb109) (o := .cells #[.int .i8 a0_0, .int .i8 a0_1, .int .i8 a0_2, .slice A0_3 l0_3.length c0_3] 25 (0, 0)) (by (with_reducible repeat (first | refine blk_drewN ?_ _ | refine blk_drew ?_ | refine blk_alloc ?_ _)); exact BK109.out) hb); have n1_ := Aside0.mk (below_step (by repeat (first | (with_reducible first | exact HB.out | apply below_alloc | apply pw_below_drewN | apply below_drew1 | refine below_set ?_ GE109.out) | exact HB.out)) hb); have n2_ := Aside0.mk (hbox); have n3_ := Aside0.mk ((by rw [hg]; exact (below_size (by repeat (first | (with_reducible first | exact HB.out | apply below_alloc | apply pw_below_drewN | apply below_drew1 | refine below_set ?_ GE109.out) | exact HB.out))) : w.heap.size ≤ gb110)); have n4_ := Aside0.mk ((by rw [hg]; exact (below_size (by repeat (first | (with_reducible first | exact HB.out | apply below_alloc | apply pw_below_drewN | apply below_drew1 | refine below_set ?_ GE109.out) | exact HB.out))) : w.heap.size ≤ gb110)); have n5_ := Aside0.mk ((by rw [hg]; exact Nat.ne_of_lt (blk_lt (g := gb109) (o := .cells #[.int .i8 a0_0, .int .i8 a0_1, .int .i8 a0_2, .slice A0_3 l0_3.length c0_3] 25 (0, 0)) (by (with_reducible repeat (first | refine blk_drewN ?_ _ | refine blk_drew ?_ | refine blk_alloc ?_ _)); exact BK109.out)) : gb109 ≠ gb110)); have n6_ := Aside0.mk ((by rw [hg]; exact Nat.ne_of_gt (blk_lt (g := gb109) (o := .cells #[.int .i8 a0_0, .int .i8 a0_1, .int .i8 a0_2, .slice A0_3 l0_3.length c0_3] 25 (0, 0)) (by (with_reducible repeat (first | refine blk_drewN ?_ _ | refine blk_drew ?_ | refine blk_alloc ?_ _)); exact BK109.out)) : gb110 ≠ gb109)); clear BK109; clear HB; have BK109 := n0_; have HB := n1_; have BK110 := n2_; have GW110 := n3_; have GE110 := n4_; have NB109_110 := n5_; have NB110_109 := n6_; clear n0_ n1_ n2_ n3_ n4_ n5_ n6_; clear hb hbox hg) | ((with_reducible refine gate_dst (N := 3) rfl ?_); refine box_event ?hg (N := 3) ?hd (cs := #[.int .i8 0, .int .i8 0, .int .i8 0, .slice none 0 0]) (t := 28) ?hr ?_; (case hd => rfl); (case hg => rfl); (case hr => first | (go_simp; done) | (go_simp; rfl)); intro gb111 hg w5 hbox hb; have n0_ := Aside0.mk (blk_below (g := gb109) (o := .cells #[.int .i8 a0_0, .int .i8 a0_1, .int .i8 a0_2, .slice A0_3 l0_3.length c0_3] 25 (0, 0)) (by (with_reducible repeat (first | refine blk_drewN ?_ _ | refine blk_drew ?_ | refine blk_alloc ?_ _)); exact BK109.out) hb); have n1_ := Aside0.mk (blk_below (g := gb110) (o := .cells #[.int .i8 0, .int .i8 0, .int .i8 0, .slice none 0 0] 28 (0, 0)) (by (with_reducible repeat (first | refine blk_drewN ?_ _ | refine blk_drew ?_ | refine blk_alloc ?_ _)); exact BK110.out) hb); have n2_ := Aside0.mk (below_step (by repeat (first | (with_reducible first | exact HB.out | apply below_alloc | apply pw_below_drewN | apply below_drew1 | refine below_set ?_ GE109.out | refine below_set ?_ GE110.out) | exact HB.out)) hb); have n3_ := Aside0.mk (hbox); have n4_ := Aside0.mk ((by rw [hg]; exact (below_size (by repeat (first | (with_reducible first | exact HB.out | apply below_alloc | apply pw_below_drewN | apply below_drew1 | refine below_set ?_ GE109.out | refine below_set ?_ GE110.out) | exact HB.out))) : w.heap.size ≤ gb111)); have n5_ := Aside0.mk ((by rw [hg]; exact (below_size (by repeat (first | (with_reducible first | exact HB.out | apply below_alloc | apply pw_below_drewN | apply below_drew1 | refine below_set ?_ GE109.out | refine below_set ?_ GE110.out) | exact HB.out))) : w.heap.size ≤ gb111)); have n6_ := Aside0.mk ((by rw [hg]; exact Nat.ne_of_lt (blk_lt (g := gb109) (o := .cells #[.int .i8 a0_0, .int .i8 a0_1, .int .i8 a0_2, .slice A0_3 l0_3.length c0_3] 25 (0, 0)) (by (with_reducible repeat (first | refine blk_drewN ?_ _ | refine blk_drew ?_ | refine blk_alloc ?_ _)); exact BK109.out)) : gb109 ≠ gb111)); have n7_ := Aside0.mk ((by rw [hg]; exact Nat.ne_of_gt (blk_lt (g := gb109) (o := .cells #[.int .i8 a0_0, .int .i8 a0_1, .int .i8 a0_2, .slice A0_3 l0_3.length c0_3] 25 (0, 0)) (by (with_reducible repeat (first | refine blk_drewN ?_ _ | refine blk_drew ?_ | refine blk_alloc ?_ _)); exact BK109.out)) : gb111 ≠ gb109)); have n8_ := Aside0.mk ((by rw [hg]; exact Nat.ne_of_lt (blk_lt (g := gb110) (o := .cells #[.int .i8 0, .int .i8 0, .int .i8 0, .slice none 0 0] 28 (0, 0)) (by (with_reducible repeat (first | refine blk_drewN ?_ _ | refine blk_drew ?_ | refine blk_alloc ?_ _)); exact BK110.out)) : gb110 ≠ gb111)); have n9_ := Aside0.mk ((by rw [hg]; exact Nat.ne_of_gt (blk_lt (g := gb110) (o := .cells #[.int .i8 0, .int .i8 0, .int .i8 0, .slice none 0 0] 28 (0, 0)) (by (with_reducible repeat (first | refine blk_drewN ?_ _ | refine blk_drew ?_ | refine blk_alloc ?_ _)); exact BK110.out)) : gb111 ≠ gb110)); clear BK109; clear BK110; clear HB; have BK109 := n0_; have BK110 := n1_; have HB := n2_; have BK111 := n3_; have GW111 := n4_; have GE111 := n5_; have NB109_111 := n6_; have NB111_109 := n7_; have NB110_111 := n8_; have NB111_110 := n9_; clear n0_ n1_ n2_ n3_ n4_ n5_ n6_ n7_ n8_ n9_; clear hb hbox hg; have hnb6 := NB109_110.out; have hnc6 := NB110_109.out; have hnb7 := NB109_111.out; have hnc7 := NB111_109.out; have hcz8_0 : w5.cell? ⟨gb109, 0, none⟩ = some (.int .i8 a0_0) := (blk_cell BK109.out 0).trans rfl; have hcz8_1 : w5.cell? ⟨gb109, 1, none⟩ = some (.int .i8 a0_1) := (blk_cell BK109.out 1).trans rfl; have hcz8_2 : w5.cell? ⟨gb109, 2, none⟩ = some (.int .i8 a0_2) := (blk_cell BK109.out 2).trans rfl; have hcz8_3 : w5.cell? ⟨gb109, 3, none⟩ = some (.slice A0_3 l0_3.length c0_3) := (blk_cell BK109.out 3).trans rfl; have hfz8_0 := blk_frozen BK109.out 0; have hfz8_1 := blk_frozen BK109.out 1; have hfz8_2 := blk_frozen BK109.out 2; have hfz8_3 := blk_frozen BK109.out 3; have hnb9 := NB111_110.out; have hnc9 := NB110_111.out; have hcz10_0 : w5.cell? ⟨gb111, 0, none⟩ = some (.int .i8 0) := (blk_cell BK111.out 0).trans rfl; have hcz10_1 : w5.cell? ⟨gb111, 1, none⟩ = some (.int .i8 0) := (blk_cell BK111.out 1).trans rfl; have hcz10_2 : w5.cell? ⟨gb111, 2, none⟩ = some (.int .i8 0) := (blk_cell BK111.out 2).trans rfl; have hcz10_3 : w5.cell? ⟨gb111, 3, none⟩ = some (.slice none 0 0) := (blk_cell BK111.out 3).trans rfl; have hfz10_0 := blk_frozen BK111.out 0; have hfz10_1 := blk_frozen BK111.out 1; have hfz10_2 := blk_frozen BK111.out 2; have hfz10_3 := blk_frozen BK111.out 3) | ((with_reducible refine gate_callee (f := 23) rfl ?_); refine goesL_ (some 15) rfl rfl Tryd.func23 (by kernel_rfl) rfl #[.slice A0_3 l0_3.length c0_3] rfl (by (try simp only [List.map_toArray, List.map_cons, List.map_nil]); first | done | rfl | (simp only [List.length_drop, List.length_take]; rfl)) ?_; (with_reducible refine (laws_toStringS.calls k _ _ l0_3 t112 _ ?side1 ?side2 A2.out).mono ?_); (case side1 => exact Kd.C_below HR0_3.out (by repeat (first | (with_reducible first | exact HB.out | apply below_alloc | apply pw_below_drewN | apply below_drew1 | refine below_set ?_ GE109.out | refine below_set ?_ GE110.out | refine below_set ?_ GE111.out) | exact HB.out))); (case side2 => exact HC0_3.out); rintro e w11 ⟨v113, rfl, ho0, hb⟩; refine ⟨_, rfl, ?_⟩; have n0_ := Aside0.mk (Kd.R_lower ho0 (below_size (by repeat (first | (with_reducible first | exact HB.out | apply below_alloc | apply pw_below_drewN | apply below_drew1 | refine below_set ?_ GE109.out | refine below_set ?_ GE110.out | refine below_set ?_ GE111.out) | exact HB.out)))); have n1_ := Aside0.mk (blk_below (g := gb109) (o := .cells #[.int .i8 a0_0, .int .i8 a0_1, .int .i8 a0_2, .slice A0_3 l0_3.length c0_3] 25 (0, 0)) (by (with_reducible repeat (first | refine blk_drewN ?_ _ | refine blk_drew ?_ | refine blk_alloc ?_ _)); refine blk_far ?_ NB109_111.out _; (with_reducible repeat (first | refine blk_drewN ?_ _ | refine blk_drew ?_ | refine blk_alloc ?_ _)); refine blk_far ?_ NB109_111.out _; (with_reducible repeat (first | refine blk_drewN ?_ _ | refine blk_drew ?_ | refine blk_alloc ?_ _)); refine blk_far ?_ NB109_111.out _; (with_reducible repeat (first | refine blk_drewN ?_ _ | refine blk_drew ?_ | refine blk_alloc ?_ _)); exact BK109.out) hb); have n2_ := Aside0.mk (blk_below (g := gb110) (o := .cells #[.int .i8 0, .int .i8 0, .int .i8 0, .slice none 0 0] 28 (0, 0)) (by (with_reducible repeat (first | refine blk_drewN ?_ _ | refine blk_drew ?_ | refine blk_alloc ?_ _)); refine blk_far ?_ NB110_111.out _; (with_reducible repeat (first | refine blk_drewN ?_ _ | refine blk_drew ?_ | refine blk_alloc ?_ _)); refine blk_far ?_ NB110_111.out _; (with_reducible repeat (first | refine blk_drewN ?_ _ | refine blk_drew ?_ | refine blk_alloc ?_ _)); refine blk_far ?_ NB110_111.out _; (with_reducible repeat (first | refine blk_drewN ?_ _ | refine blk_drew ?_ | refine blk_alloc ?_ _)); exact BK110.out) hb); have n3_ := Aside0.mk (blk_below (g := gb111) (o := .cells #[.int .i8 a0_0, .int .i8 a0_1, .int .i8 a0_2, .slice none 0 0] 28 (0, 0)) (by (with_reducible repeat (first | refine blk_drewN ?_ _ | refine blk_drew ?_ | refine blk_alloc ?_ _)); refine blk_put (cs := #[.int .i8 a0_0, .int .i8 a0_1, .int .i8 0, .slice none 0 0]) ?_ 2 _ rfl; (with_reducible repeat (first | refine blk_drewN ?_ _ | refine blk_drew ?_ | refine blk_alloc ?_ _)); refine blk_put (cs := #[.int .i8 a0_0, .int .i8 0, .int .i8 0, .slice none 0 0]) ?_ 1 _ rfl; (with_reducible repeat (first | refine blk_drewN ?_ _ | refine blk_drew ?_ | refine blk_alloc ?_ _)); refine blk_put (cs := #[.int .i8 0, .int .i8 0, .int .i8 0, .slice none 0 0]) ?_ 0 _ rfl; (with_reducible repeat (first | refine blk_drewN ?_ _ | refine blk_drew ?_ | refine blk_alloc ?_ _)); exact BK111.out) hb); have n4_ := Aside0.mk (below_step (by repeat (first | (with_reducible first | exact HB.out | apply below_alloc | apply pw_below_drewN | apply below_drew1 | refine below_set ?_ GE109.out | refine below_set ?_ GE110.out | refine below_set ?_ GE111.out) | exact HB.out)) hb); clear BK109; clear BK110; clear BK111; clear HB; have HO114 := n0_; have BK109 := n1_; have BK110 := n2_; have BK111 := n3_; have HB := n4_; clear n0_ n1_ n2_ n3_ n4_; (try clear hb); (try clear hb2); (try clear hk); (try clear hi); (try clear ho0); obtain ⟨Ao12, co12, eo12⟩ := Kd.R_slice HO114.out; subst eo12; have hcz13_0 : w11.cell? ⟨gb111, 0, none⟩ = some (.int .i8 a0_0) := (blk_cell BK111.out 0).trans rfl; have hcz13_1 : w11.cell? ⟨gb111, 1, none⟩ = some (.int .i8 a0_1) := (blk_cell BK111.out 1).trans rfl; have hcz13_2 : w11.cell? ⟨gb111, 2, none⟩ = some (.int .i8 a0_2) := (blk_cell BK111.out 2).trans rfl; have hcz13_3 : w11.cell? ⟨gb111, 3, none⟩ = some (.slice none 0 0) := (blk_cell BK111.out 3).trans rfl; have hfz13_0 := blk_frozen BK111.out 0; have hfz13_1 := blk_frozen BK111.out 1; have hfz13_2 := blk_frozen BK111.out 2; have hfz13_3 := blk_frozen BK111.out 3; have hcz14_0 : w11.cell? ⟨gb110, 0, none⟩ = some (.int .i8 0) := (blk_cell BK110.out 0).trans rfl; have hcz14_1 : w11.cell? ⟨gb110, 1, none⟩ = some (.int .i8 0) := (blk_cell BK110.out 1).trans rfl; have hcz14_2 : w11.cell? ⟨gb110, 2, none⟩ = some (.int .i8 0) := (blk_cell BK110.out 2).trans rfl; have hcz14_3 : w11.cell? ⟨gb110, 3, none⟩ = some (.slice none 0 0) := (blk_cell BK110.out 3).trans rfl; have hfz14_0 := blk_frozen BK110.out 0; have hfz14_1 := blk_frozen BK110.out 1; have hfz14_2 := blk_frozen BK110.out 2; have hfz14_3 := blk_frozen BK110.out 3))
 refine bodyPost_ret (results_cell_row rfl _ _ gb110 28 #[.int .i8 a0_0, .int .i8 a0_1, .int .i8 a0_2, .slice Ao12 t112.length co12] (0, 0) _ rfl (by (with_reducible repeat (first | refine blk_drewN ?_ _ | refine blk_drew ?_ | refine blk_alloc ?_ _)); refine blk_put (cs := #[.int .i8 a0_0, .int .i8 a0_1, .int .i8 a0_2, .slice none 0 0]) ?_ 3 _ rfl; (with_reducible repeat (first | refine blk_drewN ?_ _ | refine blk_drew ?_ | refine blk_alloc ?_ _)); refine blk_put (cs := #[.int .i8 a0_0, .int .i8 a0_1, .int .i8 0, .slice none 0 0]) ?_ 2 _ rfl; (with_reducible repeat (first | refine blk_drewN ?_ _ | refine blk_drew ?_ | refine blk_alloc ?_ _)); refine blk_put (cs := #[.int .i8 a0_0, .int .i8 0, .int .i8 0, .slice none 0 0]) ?_ 1 _ rfl; (with_reducible repeat (first | refine blk_drewN ?_ _ | refine blk_drew ?_ | refine blk_alloc ?_ _)); refine blk_put (cs := #[.int .i8 0, .int .i8 0, .int .i8 0, .slice none 0 0]) ?_ 0 _ rfl; (with_reducible repeat (first | refine blk_drewN ?_ _ | refine blk_drew ?_ | refine blk_alloc ?_ _)); refine blk_far ?_ NB110_111.out _; (with_reducible repeat (first | refine blk_drewN ?_ _ | refine blk_drew ?_ | refine blk_alloc ?_ _)); exact BK110.out) Tryd.underlying28 rfl (by kernel_rfl)) rfl ?_
 exact ⟨_, by first | rfl | (simp [errW_none, errW_some] <;> rfl) | (simp [*, errW_none, errW_some] <;> rfl), by (with_reducible repeat (first | apply Kd.R_alloc | apply Kd.R_drewN | apply Kd.R_drew)); exact Kd.R_mono (Kd.R_far (p := ⟨gb110, 3, none⟩) (Kd.R_far (p := ⟨gb110, 2, none⟩) (Kd.R_far (p := ⟨gb110, 1, none⟩) (Kd.R_far (p := ⟨gb110, 0, none⟩) (Kd.R_far (p := ⟨gb111, 3, none⟩) (Kd.R_types (Kd.R_types HO114.out BK111.out (by decide)) BK110.out (by decide)) (fun _ hk => hk.1.2) (.slice Ao12 t112.length co12)) (fun _ hk => hk.2) (.int .i8 a0_0)) (fun _ hk => hk.2) (.int .i8 a0_1)) (fun _ hk => hk.2) (.int .i8 a0_2)) (fun _ hk => hk.2) (.slice Ao12 t112.length co12)) (fun _ hk => trivial), by repeat (first | (with_reducible first | exact HB.out | apply below_alloc | apply pw_below_drewN | apply below_drew1 | refine below_set ?_ GE109.out | refine below_set ?_ GE110.out | refine below_set ?_ GE111.out) | exact HB.out)⟩
def impl_BookText.f (a0_0 : Int) (a0_1 : Int) (a0_2 : Int) (l0_3 : List ByteArray) : Option ByteArray := if (Go.Proofs.YtdgecgfgekmhcaaDoor.Arr.smallPh l0_3 && (Go.Proofs.YtdgecgfgekmhcaaDoor.Arr.in8 a0_0 && (Go.Proofs.YtdgecgfgekmhcaaDoor.Arr.in8 a0_1 && Go.Proofs.YtdgecgfgekmhcaaDoor.Arr.in8 a0_2))) = true then some (Go.Proofs.YtdgecgfgekmhcaaDoor.Arr.bookY a0_0 a0_1 a0_2 l0_3) else none
theorem impl_BookText.calls (a0_0 : Int) (a0_1 : Int) (a0_2 : Int) (A0_3 : Option Addr) (c0_3 : Nat) (l0_3 : List ByteArray) (r : ByteArray) (w : World) (hr0_3 : Kd.C Kd.string w A0_3 l0_3.length l0_3) (hc0_3 : l0_3.length ≤ c0_3) (h : impl_BookText.f a0_0 a0_1 a0_2 l0_3 = some r) :
  Calls Tryd.prog 9 #[.agg #[.int .i8 a0_0, .int .i8 a0_1, .int .i8 a0_2, .slice A0_3 l0_3.length c0_3]] w fun e w' => e = .returned (.string r) ∧ Below w.heap.size w w' := by
 unfold impl_BookText.f at h
 split at h
 ·rename_i hs
  obtain rfl := Option.some.inj h
  exact Go.Proofs.YtdgecgfgekmhcaaDoor.Arr.implBookY_calls a0_0 a0_1 a0_2 A0_3 c0_3 l0_3 w (Go.Proofs.YtdgecgfgekmhcaaDoor.Arr.bookP_of hs) hr0_3 hc0_3
 ·cases h
def laws_eqStringS.l0 : Nat → List ByteArray → List ByteArray → Int → Option (Bool)
 | 0, _, _, _ => none
 | k + 1, x0, x1, x5 => if x5 < (x0.length : Int) then (if 0 ≤ x5 then (if x5 < (x1.length : Int) then (if (rdOf ByteArray.empty x0 x5).toList = (rdOf ByteArray.empty x1 x5).toList then (laws_eqStringS.l0 k x0 x1 (wrap64 (x5 + 1))) else (some false)) else (none)) else (none)) else (some true)
def laws_eqStringS.f (k : Nat) (l0 : List ByteArray) (l1 : List ByteArray) : Option (Bool) := if (l0.length : Int) = (l1.length : Int) then (laws_eqStringS.l0 k l0 l1 0) else (some false)
set_option maxHeartbeats 8000000 in
set_option maxRecDepth 100000 in
theorem laws_eqStringS.calls (k : Nat) (A0 : Option Addr) (c0 : Nat) (l0 : List ByteArray) (A1 : Option Addr) (c1 : Nat) (l1 : List ByteArray) (r : Bool) (w : World) (hr0 : Kd.C Kd.string w A0 l0.length l0) (hc0 : l0.length ≤ c0) (hr1 : Kd.C Kd.string w A1 l1.length l1) (hc1 : l1.length ≤ c1) (h : laws_eqStringS.f k l0 l1 = some r) :
  Calls Tryd.prog 26 #[.slice A0 l0.length c0, .slice A1 l1.length c1] w fun e w' => e = .returned (.bool r) ∧ Drawn0 w w' := by
 have HR0 := Aside0.mk hr0
 have HC0 := Aside0.mk hc0
 clear hr0 hc0
 have HR1 := Aside0.mk hr1
 have HC1 := Aside0.mk hc1
 clear hr1 hc1
 have H : (if (l0.length : Int) = (l1.length : Int) then (laws_eqStringS.l0 k l0 l1 0) else (some false)) = some r := h
 clear h
 by_cases c3 : (l0.length : Int) = (l1.length : Int)
 ·rw [if_pos c3] at H
  have c3b0 : ((l0.length : Int) == (l1.length : Int)) = true := beq_iff_eq.mpr c3
  have c3b1 : ((l0.length : Int) != (l1.length : Int)) = false := bne_eq_false_iff_eq.mpr c3
  have c3b2 : (l0.length == l1.length) = true := by first | simpa using c3 | (simp at c3 ⊢; omega)
  clear c3
  have H' := Aside0.mk H
  clear H
  go_enter Tryd.func26, Tryd.ntmps26
  go_wp2
  repeat (go_quiet (fail); try go_wp2)
  go_loopg [5] k (fun kq v5 w' => ∃ (x5_1 : Int), v5 = .int .i64 x5_1 ∧ Aside0 (laws_eqStringS.l0 kq l0 l1 x5_1 = some r) ∧ Aside0 (kq ≤ k) ∧ Drawn0 w w')
  case atStart => exact ⟨(0), (by first | rfl | (simp; done) | (simp [*]; done)), H', ⟨Nat.le_refl _⟩, by repeat (first | exact Drawn0.refl _ | apply Drawn0.step)⟩
  case round =>
   clear H'
   try clear c1
   try clear c2
   try clear p2
   try clear c3
   try clear c3b0
   try clear c3b1
   try clear c3b2
   obtain ⟨x5_1, rfl, HA, HK1, ⟨m1, rfl⟩⟩ := hrel
   cases gk with
   | zero => exact absurd HA.out (by simp [laws_eqStringS.l0])
   | succ k1 =>
    have H := HA.out
    clear HA
    simp only [laws_eqStringS.l0] at H
    by_cases c4 : x5_1 < (l0.length : Int)
    ·rw [if_pos c4] at H
     have c4b0 : decide (x5_1 < (l0.length : Int)) = true := decide_eq_true c4
     clear c4
     by_cases c5 : 0 ≤ x5_1
     ·rw [if_pos c5] at H
      have c5b0 : decide (0 ≤ x5_1) = true := decide_eq_true c5
      clear c5
      by_cases c6 : x5_1 < (l1.length : Int)
      ·rw [if_pos c6] at H
       have c6b0 : decide (x5_1 < (l1.length : Int)) = true := decide_eq_true c6
       clear c6
       by_cases c7 : (rdOf ByteArray.empty l0 x5_1).toList = (rdOf ByteArray.empty l1 x5_1).toList
       ·rw [if_pos c7] at H
        have c7b0 : ((rdOf ByteArray.empty l0 x5_1).toList == (rdOf ByteArray.empty l1 x5_1).toList) = true := beq_iff_eq.mpr c7
        have c7b1 : ((rdOf ByteArray.empty l0 x5_1).toList != (rdOf ByteArray.empty l1 x5_1).toList) = false := bne_eq_false_iff_eq.mpr c7
        clear c7
        have H' := Aside0.mk H
        clear H
        have p115 : 0 ≤ (x5_1 : Int) := of_decide_eq_true (by first | (with_reducible assumption) | assumption)
        have q115 : x5_1 < (l0.length : Int) := of_decide_eq_true (by first | (with_reducible assumption) | assumption)
        obtain ⟨ad115, e115, hx115_0⟩ := Kd.at_string HR0.out x5_1 p115 q115
        cases e115
        replace p115 := eq_true p115
        replace q115 := eq_true q115
        have p116 : 0 ≤ (x5_1 : Int) := of_decide_eq_true (by first | (with_reducible assumption) | assumption)
        have q116 : x5_1 < (l1.length : Int) := of_decide_eq_true (by first | (with_reducible assumption) | assumption)
        obtain ⟨ad116, e116, hx116_0⟩ := Kd.at_string HR1.out x5_1 p116 q116
        cases e116
        replace p116 := eq_true p116
        replace q116 := eq_true q116
        go_wp2
        repeat (go_quiet (fail); try go_wp2)
        go_roundg k1
        case measure => have := HK1.out; omega
        case rel => exact ⟨(wrap64 (x5_1 + 1)), (by first | rfl | (simp; done) | (simp [*]; done)), H', ⟨by have := HK1.out; omega⟩, by repeat (first | exact Drawn0.refl _ | apply Drawn0.step)⟩
       ·rw [if_neg c7] at H
        have c7b0 : ((rdOf ByteArray.empty l0 x5_1).toList == (rdOf ByteArray.empty l1 x5_1).toList) = false := beq_eq_false_iff_ne.mpr c7
        have c7b1 : ((rdOf ByteArray.empty l0 x5_1).toList != (rdOf ByteArray.empty l1 x5_1).toList) = true := bne_iff_ne.mpr c7
        obtain rfl := Option.some.inj H
        have p115 : 0 ≤ (x5_1 : Int) := of_decide_eq_true (by first | (with_reducible assumption) | assumption)
        have q115 : x5_1 < (l0.length : Int) := of_decide_eq_true (by first | (with_reducible assumption) | assumption)
        obtain ⟨ad115, e115, hx115_0⟩ := Kd.at_string HR0.out x5_1 p115 q115
        cases e115
        replace p115 := eq_true p115
        replace q115 := eq_true q115
        have p116 : 0 ≤ (x5_1 : Int) := of_decide_eq_true (by first | (with_reducible assumption) | assumption)
        have q116 : x5_1 < (l1.length : Int) := of_decide_eq_true (by first | (with_reducible assumption) | assumption)
        obtain ⟨ad116, e116, hx116_0⟩ := Kd.at_string HR1.out x5_1 p116 q116
        cases e116
        replace p116 := eq_true p116
        replace q116 := eq_true q116
        go_wp2
        repeat (go_quiet (fail); try go_wp2)
        go_ret
        exact ⟨by first | rfl | (simp; done) | (simp [*]; done), by repeat (first | exact Drawn0.refl _ | apply Drawn0.step)⟩
      ·rw [if_neg c6] at H
       exact absurd H (by simp)
     ·rw [if_neg c5] at H
      exact absurd H (by simp)
    ·rw [if_neg c4] at H
     have c4b0 : decide (x5_1 < (l0.length : Int)) = false := decide_eq_false c4
     clear c4
     obtain rfl := Option.some.inj H
     go_wp2
     repeat (go_quiet (fail); try go_wp2)
     go_ret
     exact ⟨by first | rfl | (simp; done) | (simp [*]; done), by repeat (first | exact Drawn0.refl _ | apply Drawn0.step)⟩
 ·rw [if_neg c3] at H
  have c3b0 : ((l0.length : Int) == (l1.length : Int)) = false := beq_eq_false_iff_ne.mpr c3
  have c3b1 : ((l0.length : Int) != (l1.length : Int)) = true := bne_iff_ne.mpr c3
  have c3b2 : (l0.length == l1.length) = false := by first | simpa using c3 | (simp at c3 ⊢; omega)
  obtain rfl := Option.some.inj H
  go_enter Tryd.func26, Tryd.ntmps26
  go_wp2
  repeat (go_quiet (fail); try go_wp2)
  go_ret
  exact ⟨by first | rfl | (simp; done) | (simp [*]; done), by repeat (first | exact Drawn0.refl _ | apply Drawn0.step)⟩
def laws_eqBook.f (k : Nat) (a0_0 : Int) (a0_1 : Int) (a0_2 : Int) (l0_3 : List ByteArray) (a1_0 : Int) (a1_1 : Int) (a1_2 : Int) (l1_3 : List ByteArray) : Option (Bool) := if a0_0 = a1_0 then (if a0_1 = a1_1 then (if a0_2 = a1_2 then ((laws_eqStringS.f k l0_3 l1_3).bind fun t119 => (if t119 = true then (some true) else (some false))) else (some false)) else (some false)) else (some false)
set_option maxHeartbeats 8000000 in
set_option maxRecDepth 100000 in
theorem laws_eqBook.calls (k : Nat) (a0_0 : Int) (a0_1 : Int) (a0_2 : Int) (A0_3 : Option Addr) (c0_3 : Nat) (l0_3 : List ByteArray) (a1_0 : Int) (a1_1 : Int) (a1_2 : Int) (A1_3 : Option Addr) (c1_3 : Nat) (l1_3 : List ByteArray) (r : Bool) (w : World) (hr0_3 : Kd.C Kd.string w A0_3 l0_3.length l0_3) (hc0_3 : l0_3.length ≤ c0_3) (hr1_3 : Kd.C Kd.string w A1_3 l1_3.length l1_3) (hc1_3 : l1_3.length ≤ c1_3) (h : laws_eqBook.f k a0_0 a0_1 a0_2 l0_3 a1_0 a1_1 a1_2 l1_3 = some r) :
  Calls Tryd.prog 10 #[.agg #[.int .i8 a0_0, .int .i8 a0_1, .int .i8 a0_2, .slice A0_3 l0_3.length c0_3], .agg #[.int .i8 a1_0, .int .i8 a1_1, .int .i8 a1_2, .slice A1_3 l1_3.length c1_3]] w fun e w' => e = .returned (.bool r) ∧ Below w.heap.size w w' := by
 have hu28 := Tryd.underlying28
 have HR0_3 := Aside0.mk hr0_3
 have HC0_3 := Aside0.mk hc0_3
 clear hr0_3 hc0_3
 have HR1_3 := Aside0.mk hr1_3
 have HC1_3 := Aside0.mk hc1_3
 clear hr1_3 hc1_3
 have HB := Aside0.mk (Below.refl w.heap.size w)
 have H : (if a0_0 = a1_0 then (if a0_1 = a1_1 then (if a0_2 = a1_2 then ((laws_eqStringS.f k l0_3 l1_3).bind fun t119 => (if t119 = true then (some true) else (some false))) else (some false)) else (some false)) else (some false)) = some r := h
 clear h
 by_cases c3 : a0_0 = a1_0
 ·rw [if_pos c3] at H
  have c3b0 : (a0_0 == a1_0) = true := beq_iff_eq.mpr c3
  have c3b1 : (a0_0 != a1_0) = false := bne_eq_false_iff_eq.mpr c3
  clear c3
  by_cases c4 : a0_1 = a1_1
  ·rw [if_pos c4] at H
   have c4b0 : (a0_1 == a1_1) = true := beq_iff_eq.mpr c4
   have c4b1 : (a0_1 != a1_1) = false := bne_eq_false_iff_eq.mpr c4
   clear c4
   by_cases c5 : a0_2 = a1_2
   ·rw [if_pos c5] at H
    have c5b0 : (a0_2 == a1_2) = true := beq_iff_eq.mpr c5
    have c5b1 : (a0_2 != a1_2) = false := bne_eq_false_iff_eq.mpr c5
    clear c5
    replace H := Option.bind_eq_some_iff.mp H
    obtain ⟨t119, A60, H⟩ := H
    replace H : (if t119 = true then (some true) else (some false)) = some r := H
    have A6 := Aside0.mk A60
    clear A60
    by_cases c7 : t119 = true
    ·subst c7
     have H1 : (some true) = some r := by rw [if_pos rfl] at H; exact H
     clear H
     have H := H1
     clear H1
     obtain rfl := Option.some.inj H
     go_enter Tryd.func10, Tryd.ntmps10
     go_wp2_with (first | ((with_reducible refine gate_dst (N := 2) rfl ?_); refine box_event ?hg (N := 2) ?hd (cs := #[.int .i8 a0_0, .int .i8 a0_1, .int .i8 a0_2, .slice A0_3 l0_3.length c0_3]) (t := 28) ?hr ?_; (case hd => rfl); (case hg => rfl); (case hr => first | (go_simp; done) | (go_simp; rfl)); intro gb117 hg w8 hbox hb; have n0_ := Aside0.mk (below_step (by repeat (first | (with_reducible first | exact HB.out | apply below_alloc | apply pw_below_drewN | apply below_drew1) | exact HB.out)) hb); have n1_ := Aside0.mk (hbox); have n2_ := Aside0.mk ((by rw [hg]; exact (below_size (by repeat (first | (with_reducible first | exact HB.out | apply below_alloc | apply pw_below_drewN | apply below_drew1) | exact HB.out))) : w.heap.size ≤ gb117)); have n3_ := Aside0.mk ((by rw [hg]; exact (below_size (by repeat (first | (with_reducible first | exact HB.out | apply below_alloc | apply pw_below_drewN | apply below_drew1) | exact HB.out))) : w.heap.size ≤ gb117)); clear HB; have HB := n0_; have BK117 := n1_; have GW117 := n2_; have GE117 := n3_; clear n0_ n1_ n2_ n3_; clear hb hbox hg) | ((with_reducible refine gate_dst (N := 3) rfl ?_); refine box_event ?hg (N := 3) ?hd (cs := #[.int .i8 a1_0, .int .i8 a1_1, .int .i8 a1_2, .slice A1_3 l1_3.length c1_3]) (t := 28) ?hr ?_; (case hd => rfl); (case hg => rfl); (case hr => first | (go_simp; done) | (go_simp; rfl)); intro gb118 hg w9 hbox hb; have n0_ := Aside0.mk (blk_below (g := gb117) (o := .cells #[.int .i8 a0_0, .int .i8 a0_1, .int .i8 a0_2, .slice A0_3 l0_3.length c0_3] 28 (0, 0)) (by (with_reducible repeat (first | refine blk_drewN ?_ _ | refine blk_drew ?_ | refine blk_alloc ?_ _)); exact BK117.out) hb); have n1_ := Aside0.mk (below_step (by repeat (first | (with_reducible first | exact HB.out | apply below_alloc | apply pw_below_drewN | apply below_drew1 | refine below_set ?_ GE117.out) | exact HB.out)) hb); have n2_ := Aside0.mk (hbox); have n3_ := Aside0.mk ((by rw [hg]; exact (below_size (by repeat (first | (with_reducible first | exact HB.out | apply below_alloc | apply pw_below_drewN | apply below_drew1 | refine below_set ?_ GE117.out) | exact HB.out))) : w.heap.size ≤ gb118)); have n4_ := Aside0.mk ((by rw [hg]; exact (below_size (by repeat (first | (with_reducible first | exact HB.out | apply below_alloc | apply pw_below_drewN | apply below_drew1 | refine below_set ?_ GE117.out) | exact HB.out))) : w.heap.size ≤ gb118)); have n5_ := Aside0.mk ((by rw [hg]; exact Nat.ne_of_lt (blk_lt (g := gb117) (o := .cells #[.int .i8 a0_0, .int .i8 a0_1, .int .i8 a0_2, .slice A0_3 l0_3.length c0_3] 28 (0, 0)) (by (with_reducible repeat (first | refine blk_drewN ?_ _ | refine blk_drew ?_ | refine blk_alloc ?_ _)); exact BK117.out)) : gb117 ≠ gb118)); have n6_ := Aside0.mk ((by rw [hg]; exact Nat.ne_of_gt (blk_lt (g := gb117) (o := .cells #[.int .i8 a0_0, .int .i8 a0_1, .int .i8 a0_2, .slice A0_3 l0_3.length c0_3] 28 (0, 0)) (by (with_reducible repeat (first | refine blk_drewN ?_ _ | refine blk_drew ?_ | refine blk_alloc ?_ _)); exact BK117.out)) : gb118 ≠ gb117)); clear BK117; clear HB; have BK117 := n0_; have HB := n1_; have BK118 := n2_; have GW118 := n3_; have GE118 := n4_; have NB117_118 := n5_; have NB118_117 := n6_; clear n0_ n1_ n2_ n3_ n4_ n5_ n6_; clear hb hbox hg; have hnb10 := NB117_118.out; have hnc10 := NB118_117.out; have hcz11_0 : w9.cell? ⟨gb117, 0, none⟩ = some (.int .i8 a0_0) := (blk_cell BK117.out 0).trans rfl; have hcz11_1 : w9.cell? ⟨gb117, 1, none⟩ = some (.int .i8 a0_1) := (blk_cell BK117.out 1).trans rfl; have hcz11_2 : w9.cell? ⟨gb117, 2, none⟩ = some (.int .i8 a0_2) := (blk_cell BK117.out 2).trans rfl; have hcz11_3 : w9.cell? ⟨gb117, 3, none⟩ = some (.slice A0_3 l0_3.length c0_3) := (blk_cell BK117.out 3).trans rfl; have hfz11_0 := blk_frozen BK117.out 0; have hfz11_1 := blk_frozen BK117.out 1; have hfz11_2 := blk_frozen BK117.out 2; have hfz11_3 := blk_frozen BK117.out 3; have hcz12_0 : w9.cell? ⟨gb118, 0, none⟩ = some (.int .i8 a1_0) := (blk_cell BK118.out 0).trans rfl; have hcz12_1 : w9.cell? ⟨gb118, 1, none⟩ = some (.int .i8 a1_1) := (blk_cell BK118.out 1).trans rfl; have hcz12_2 : w9.cell? ⟨gb118, 2, none⟩ = some (.int .i8 a1_2) := (blk_cell BK118.out 2).trans rfl; have hcz12_3 : w9.cell? ⟨gb118, 3, none⟩ = some (.slice A1_3 l1_3.length c1_3) := (blk_cell BK118.out 3).trans rfl; have hfz12_0 := blk_frozen BK118.out 0; have hfz12_1 := blk_frozen BK118.out 1; have hfz12_2 := blk_frozen BK118.out 2; have hfz12_3 := blk_frozen BK118.out 3) | ((with_reducible refine gate_callee (f := 26) rfl ?_); refine goesL_ (some 24) rfl rfl Tryd.func26 (by kernel_rfl) rfl #[.slice A0_3 l0_3.length c0_3, .slice A1_3 l1_3.length c1_3] rfl (by (try simp only [List.map_toArray, List.map_cons, List.map_nil]); first | done | rfl | (simp only [List.length_drop, List.length_take]; rfl)) ?_; (with_reducible refine (laws_eqStringS.calls k _ _ l0_3 _ _ l1_3 true _ ?side1 ?side2 ?side3 ?side4 A6.out).mono ?_); (case side1 => repeat (first | exact (Kd.C_below HR0_3.out HB.out) | (with_reducible refine Kd.C_alloc ?_ _) | (with_reducible refine Kd.C_drewN ?_ _) | (with_reducible refine Kd.C_drew ?_))); (case side2 => exact HC0_3.out); (case side3 => repeat (first | exact (Kd.C_below HR1_3.out HB.out) | (with_reducible refine Kd.C_alloc ?_ _) | (with_reducible refine Kd.C_drewN ?_ _) | (with_reducible refine Kd.C_drew ?_))); (case side4 => exact HC1_3.out); rintro e w' ⟨rfl, ⟨nd, rfl⟩⟩; refine ⟨_, rfl, ?_⟩))
     go_ret
     exact ⟨by first | rfl | (simp [errW_none, errW_some] <;> rfl) | (simp [*, errW_none, errW_some] <;> rfl), by repeat (first | (with_reducible first | exact HB.out | apply below_alloc | apply pw_below_drewN | apply below_drew1 | refine below_set ?_ GE117.out | refine below_set ?_ GE118.out) | exact HB.out)⟩
    ·replace c7 := Bool.eq_false_iff.mpr c7
     subst c7
     have H1 : (some false) = some r := by rw [if_neg (show ¬ (false = true) by decide)] at H; exact H
     clear H
     have H := H1
     clear H1
     obtain rfl := Option.some.inj H
     go_enter Tryd.func10, Tryd.ntmps10
     go_wp2_with (first | ((with_reducible refine gate_dst (N := 2) rfl ?_); refine box_event ?hg (N := 2) ?hd (cs := #[.int .i8 a0_0, .int .i8 a0_1, .int .i8 a0_2, .slice A0_3 l0_3.length c0_3]) (t := 28) ?hr ?_; (case hd => rfl); (case hg => rfl); (case hr => first | (go_simp; done) | (go_simp; rfl)); intro gb117 hg w13 hbox hb; have n0_ := Aside0.mk (below_step (by repeat (first | (with_reducible first | exact HB.out | apply below_alloc | apply pw_below_drewN | apply below_drew1) | exact HB.out)) hb); have n1_ := Aside0.mk (hbox); have n2_ := Aside0.mk ((by rw [hg]; exact (below_size (by repeat (first | (with_reducible first | exact HB.out | apply below_alloc | apply pw_below_drewN | apply below_drew1) | exact HB.out))) : w.heap.size ≤ gb117)); have n3_ := Aside0.mk ((by rw [hg]; exact (below_size (by repeat (first | (with_reducible first | exact HB.out | apply below_alloc | apply pw_below_drewN | apply below_drew1) | exact HB.out))) : w.heap.size ≤ gb117)); clear HB; have HB := n0_; have BK117 := n1_; have GW117 := n2_; have GE117 := n3_; clear n0_ n1_ n2_ n3_; clear hb hbox hg) | ((with_reducible refine gate_dst (N := 3) rfl ?_); refine box_event ?hg (N := 3) ?hd (cs := #[.int .i8 a1_0, .int .i8 a1_1, .int .i8 a1_2, .slice A1_3 l1_3.length c1_3]) (t := 28) ?hr ?_; (case hd => rfl); (case hg => rfl); (case hr => first | (go_simp; done) | (go_simp; rfl)); intro gb118 hg w14 hbox hb; have n0_ := Aside0.mk (blk_below (g := gb117) (o := .cells #[.int .i8 a0_0, .int .i8 a0_1, .int .i8 a0_2, .slice A0_3 l0_3.length c0_3] 28 (0, 0)) (by (with_reducible repeat (first | refine blk_drewN ?_ _ | refine blk_drew ?_ | refine blk_alloc ?_ _)); exact BK117.out) hb); have n1_ := Aside0.mk (below_step (by repeat (first | (with_reducible first | exact HB.out | apply below_alloc | apply pw_below_drewN | apply below_drew1 | refine below_set ?_ GE117.out) | exact HB.out)) hb); have n2_ := Aside0.mk (hbox); have n3_ := Aside0.mk ((by rw [hg]; exact (below_size (by repeat (first | (with_reducible first | exact HB.out | apply below_alloc | apply pw_below_drewN | apply below_drew1 | refine below_set ?_ GE117.out) | exact HB.out))) : w.heap.size ≤ gb118)); have n4_ := Aside0.mk ((by rw [hg]; exact (below_size (by repeat (first | (with_reducible first | exact HB.out | apply below_alloc | apply pw_below_drewN | apply below_drew1 | refine below_set ?_ GE117.out) | exact HB.out))) : w.heap.size ≤ gb118)); have n5_ := Aside0.mk ((by rw [hg]; exact Nat.ne_of_lt (blk_lt (g := gb117) (o := .cells #[.int .i8 a0_0, .int .i8 a0_1, .int .i8 a0_2, .slice A0_3 l0_3.length c0_3] 28 (0, 0)) (by (with_reducible repeat (first | refine blk_drewN ?_ _ | refine blk_drew ?_ | refine blk_alloc ?_ _)); exact BK117.out)) : gb117 ≠ gb118)); have n6_ := Aside0.mk ((by rw [hg]; exact Nat.ne_of_gt (blk_lt (g := gb117) (o := .cells #[.int .i8 a0_0, .int .i8 a0_1, .int .i8 a0_2, .slice A0_3 l0_3.length c0_3] 28 (0, 0)) (by (with_reducible repeat (first | refine blk_drewN ?_ _ | refine blk_drew ?_ | refine blk_alloc ?_ _)); exact BK117.out)) : gb118 ≠ gb117)); clear BK117; clear HB; have BK117 := n0_; have HB := n1_; have BK118 := n2_; have GW118 := n3_; have GE118 := n4_; have NB117_118 := n5_; have NB118_117 := n6_; clear n0_ n1_ n2_ n3_ n4_ n5_ n6_; clear hb hbox hg; have hnb15 := NB117_118.out; have hnc15 := NB118_117.out; have hcz16_0 : w14.cell? ⟨gb117, 0, none⟩ = some (.int .i8 a0_0) := (blk_cell BK117.out 0).trans rfl; have hcz16_1 : w14.cell? ⟨gb117, 1, none⟩ = some (.int .i8 a0_1) := (blk_cell BK117.out 1).trans rfl; have hcz16_2 : w14.cell? ⟨gb117, 2, none⟩ = some (.int .i8 a0_2) := (blk_cell BK117.out 2).trans rfl; have hcz16_3 : w14.cell? ⟨gb117, 3, none⟩ = some (.slice A0_3 l0_3.length c0_3) := (blk_cell BK117.out 3).trans rfl; have hfz16_0 := blk_frozen BK117.out 0; have hfz16_1 := blk_frozen BK117.out 1; have hfz16_2 := blk_frozen BK117.out 2; have hfz16_3 := blk_frozen BK117.out 3; have hcz17_0 : w14.cell? ⟨gb118, 0, none⟩ = some (.int .i8 a1_0) := (blk_cell BK118.out 0).trans rfl; have hcz17_1 : w14.cell? ⟨gb118, 1, none⟩ = some (.int .i8 a1_1) := (blk_cell BK118.out 1).trans rfl; have hcz17_2 : w14.cell? ⟨gb118, 2, none⟩ = some (.int .i8 a1_2) := (blk_cell BK118.out 2).trans rfl; have hcz17_3 : w14.cell? ⟨gb118, 3, none⟩ = some (.slice A1_3 l1_3.length c1_3) := (blk_cell BK118.out 3).trans rfl; have hfz17_0 := blk_frozen BK118.out 0; have hfz17_1 := blk_frozen BK118.out 1; have hfz17_2 := blk_frozen BK118.out 2; have hfz17_3 := blk_frozen BK118.out 3) | ((with_reducible refine gate_callee (f := 26) rfl ?_); refine goesL_ (some 24) rfl rfl Tryd.func26 (by kernel_rfl) rfl #[.slice A0_3 l0_3.length c0_3, .slice A1_3 l1_3.length c1_3] rfl (by (try simp only [List.map_toArray, List.map_cons, List.map_nil]); first | done | rfl | (simp only [List.length_drop, List.length_take]; rfl)) ?_; (with_reducible refine (laws_eqStringS.calls k _ _ l0_3 _ _ l1_3 false _ ?side1 ?side2 ?side3 ?side4 A6.out).mono ?_); (case side1 => repeat (first | exact (Kd.C_below HR0_3.out HB.out) | (with_reducible refine Kd.C_alloc ?_ _) | (with_reducible refine Kd.C_drewN ?_ _) | (with_reducible refine Kd.C_drew ?_))); (case side2 => exact HC0_3.out); (case side3 => repeat (first | exact (Kd.C_below HR1_3.out HB.out) | (with_reducible refine Kd.C_alloc ?_ _) | (with_reducible refine Kd.C_drewN ?_ _) | (with_reducible refine Kd.C_drew ?_))); (case side4 => exact HC1_3.out); rintro e w' ⟨rfl, ⟨nd, rfl⟩⟩; refine ⟨_, rfl, ?_⟩))
     go_ret
     exact ⟨by first | rfl | (simp [errW_none, errW_some] <;> rfl) | (simp [*, errW_none, errW_some] <;> rfl), by repeat (first | (with_reducible first | exact HB.out | apply below_alloc | apply pw_below_drewN | apply below_drew1 | refine below_set ?_ GE117.out | refine below_set ?_ GE118.out) | exact HB.out)⟩
   ·rw [if_neg c5] at H
    have c5b0 : (a0_2 == a1_2) = false := beq_eq_false_iff_ne.mpr c5
    have c5b1 : (a0_2 != a1_2) = true := bne_iff_ne.mpr c5
    obtain rfl := Option.some.inj H
    go_enter Tryd.func10, Tryd.ntmps10
    go_wp2_with (first | ((with_reducible refine gate_dst (N := 2) rfl ?_); refine box_event ?hg (N := 2) ?hd (cs := #[.int .i8 a0_0, .int .i8 a0_1, .int .i8 a0_2, .slice A0_3 l0_3.length c0_3]) (t := 28) ?hr ?_; (case hd => rfl); (case hg => rfl); (case hr => first | (go_simp; done) | (go_simp; rfl)); intro gb117 hg w18 hbox hb; have n0_ := Aside0.mk (below_step (by repeat (first | (with_reducible first | exact HB.out | apply below_alloc | apply pw_below_drewN | apply below_drew1) | exact HB.out)) hb); have n1_ := Aside0.mk (hbox); have n2_ := Aside0.mk ((by rw [hg]; exact (below_size (by repeat (first | (with_reducible first | exact HB.out | apply below_alloc | apply pw_below_drewN | apply below_drew1) | exact HB.out))) : w.heap.size ≤ gb117)); have n3_ := Aside0.mk ((by rw [hg]; exact (below_size (by repeat (first | (with_reducible first | exact HB.out | apply below_alloc | apply pw_below_drewN | apply below_drew1) | exact HB.out))) : w.heap.size ≤ gb117)); clear HB; have HB := n0_; have BK117 := n1_; have GW117 := n2_; have GE117 := n3_; clear n0_ n1_ n2_ n3_; clear hb hbox hg) | ((with_reducible refine gate_dst (N := 3) rfl ?_); refine box_event ?hg (N := 3) ?hd (cs := #[.int .i8 a1_0, .int .i8 a1_1, .int .i8 a1_2, .slice A1_3 l1_3.length c1_3]) (t := 28) ?hr ?_; (case hd => rfl); (case hg => rfl); (case hr => first | (go_simp; done) | (go_simp; rfl)); intro gb118 hg w19 hbox hb; have n0_ := Aside0.mk (blk_below (g := gb117) (o := .cells #[.int .i8 a0_0, .int .i8 a0_1, .int .i8 a0_2, .slice A0_3 l0_3.length c0_3] 28 (0, 0)) (by (with_reducible repeat (first | refine blk_drewN ?_ _ | refine blk_drew ?_ | refine blk_alloc ?_ _)); exact BK117.out) hb); have n1_ := Aside0.mk (below_step (by repeat (first | (with_reducible first | exact HB.out | apply below_alloc | apply pw_below_drewN | apply below_drew1 | refine below_set ?_ GE117.out) | exact HB.out)) hb); have n2_ := Aside0.mk (hbox); have n3_ := Aside0.mk ((by rw [hg]; exact (below_size (by repeat (first | (with_reducible first | exact HB.out | apply below_alloc | apply pw_below_drewN | apply below_drew1 | refine below_set ?_ GE117.out) | exact HB.out))) : w.heap.size ≤ gb118)); have n4_ := Aside0.mk ((by rw [hg]; exact (below_size (by repeat (first | (with_reducible first | exact HB.out | apply below_alloc | apply pw_below_drewN | apply below_drew1 | refine below_set ?_ GE117.out) | exact HB.out))) : w.heap.size ≤ gb118)); have n5_ := Aside0.mk ((by rw [hg]; exact Nat.ne_of_lt (blk_lt (g := gb117) (o := .cells #[.int .i8 a0_0, .int .i8 a0_1, .int .i8 a0_2, .slice A0_3 l0_3.length c0_3] 28 (0, 0)) (by (with_reducible repeat (first | refine blk_drewN ?_ _ | refine blk_drew ?_ | refine blk_alloc ?_ _)); exact BK117.out)) : gb117 ≠ gb118)); have n6_ := Aside0.mk ((by rw [hg]; exact Nat.ne_of_gt (blk_lt (g := gb117) (o := .cells #[.int .i8 a0_0, .int .i8 a0_1, .int .i8 a0_2, .slice A0_3 l0_3.length c0_3] 28 (0, 0)) (by (with_reducible repeat (first | refine blk_drewN ?_ _ | refine blk_drew ?_ | refine blk_alloc ?_ _)); exact BK117.out)) : gb118 ≠ gb117)); clear BK117; clear HB; have BK117 := n0_; have HB := n1_; have BK118 := n2_; have GW118 := n3_; have GE118 := n4_; have NB117_118 := n5_; have NB118_117 := n6_; clear n0_ n1_ n2_ n3_ n4_ n5_ n6_; clear hb hbox hg; have hnb20 := NB117_118.out; have hnc20 := NB118_117.out; have hcz21_0 : w19.cell? ⟨gb117, 0, none⟩ = some (.int .i8 a0_0) := (blk_cell BK117.out 0).trans rfl; have hcz21_1 : w19.cell? ⟨gb117, 1, none⟩ = some (.int .i8 a0_1) := (blk_cell BK117.out 1).trans rfl; have hcz21_2 : w19.cell? ⟨gb117, 2, none⟩ = some (.int .i8 a0_2) := (blk_cell BK117.out 2).trans rfl; have hcz21_3 : w19.cell? ⟨gb117, 3, none⟩ = some (.slice A0_3 l0_3.length c0_3) := (blk_cell BK117.out 3).trans rfl; have hfz21_0 := blk_frozen BK117.out 0; have hfz21_1 := blk_frozen BK117.out 1; have hfz21_2 := blk_frozen BK117.out 2; have hfz21_3 := blk_frozen BK117.out 3; have hcz22_0 : w19.cell? ⟨gb118, 0, none⟩ = some (.int .i8 a1_0) := (blk_cell BK118.out 0).trans rfl; have hcz22_1 : w19.cell? ⟨gb118, 1, none⟩ = some (.int .i8 a1_1) := (blk_cell BK118.out 1).trans rfl; have hcz22_2 : w19.cell? ⟨gb118, 2, none⟩ = some (.int .i8 a1_2) := (blk_cell BK118.out 2).trans rfl; have hcz22_3 : w19.cell? ⟨gb118, 3, none⟩ = some (.slice A1_3 l1_3.length c1_3) := (blk_cell BK118.out 3).trans rfl; have hfz22_0 := blk_frozen BK118.out 0; have hfz22_1 := blk_frozen BK118.out 1; have hfz22_2 := blk_frozen BK118.out 2; have hfz22_3 := blk_frozen BK118.out 3))
    go_ret
    exact ⟨by first | rfl | (simp [errW_none, errW_some] <;> rfl) | (simp [*, errW_none, errW_some] <;> rfl), by repeat (first | (with_reducible first | exact HB.out | apply below_alloc | apply pw_below_drewN | apply below_drew1 | refine below_set ?_ GE117.out | refine below_set ?_ GE118.out) | exact HB.out)⟩
  ·rw [if_neg c4] at H
   have c4b0 : (a0_1 == a1_1) = false := beq_eq_false_iff_ne.mpr c4
   have c4b1 : (a0_1 != a1_1) = true := bne_iff_ne.mpr c4
   obtain rfl := Option.some.inj H
   go_enter Tryd.func10, Tryd.ntmps10
   go_wp2_with (first | ((with_reducible refine gate_dst (N := 2) rfl ?_); refine box_event ?hg (N := 2) ?hd (cs := #[.int .i8 a0_0, .int .i8 a0_1, .int .i8 a0_2, .slice A0_3 l0_3.length c0_3]) (t := 28) ?hr ?_; (case hd => rfl); (case hg => rfl); (case hr => first | (go_simp; done) | (go_simp; rfl)); intro gb117 hg w23 hbox hb; have n0_ := Aside0.mk (below_step (by repeat (first | (with_reducible first | exact HB.out | apply below_alloc | apply pw_below_drewN | apply below_drew1) | exact HB.out)) hb); have n1_ := Aside0.mk (hbox); have n2_ := Aside0.mk ((by rw [hg]; exact (below_size (by repeat (first | (with_reducible first | exact HB.out | apply below_alloc | apply pw_below_drewN | apply below_drew1) | exact HB.out))) : w.heap.size ≤ gb117)); have n3_ := Aside0.mk ((by rw [hg]; exact (below_size (by repeat (first | (with_reducible first | exact HB.out | apply below_alloc | apply pw_below_drewN | apply below_drew1) | exact HB.out))) : w.heap.size ≤ gb117)); clear HB; have HB := n0_; have BK117 := n1_; have GW117 := n2_; have GE117 := n3_; clear n0_ n1_ n2_ n3_; clear hb hbox hg) | ((with_reducible refine gate_dst (N := 3) rfl ?_); refine box_event ?hg (N := 3) ?hd (cs := #[.int .i8 a1_0, .int .i8 a1_1, .int .i8 a1_2, .slice A1_3 l1_3.length c1_3]) (t := 28) ?hr ?_; (case hd => rfl); (case hg => rfl); (case hr => first | (go_simp; done) | (go_simp; rfl)); intro gb118 hg w24 hbox hb; have n0_ := Aside0.mk (blk_below (g := gb117) (o := .cells #[.int .i8 a0_0, .int .i8 a0_1, .int .i8 a0_2, .slice A0_3 l0_3.length c0_3] 28 (0, 0)) (by (with_reducible repeat (first | refine blk_drewN ?_ _ | refine blk_drew ?_ | refine blk_alloc ?_ _)); exact BK117.out) hb); have n1_ := Aside0.mk (below_step (by repeat (first | (with_reducible first | exact HB.out | apply below_alloc | apply pw_below_drewN | apply below_drew1 | refine below_set ?_ GE117.out) | exact HB.out)) hb); have n2_ := Aside0.mk (hbox); have n3_ := Aside0.mk ((by rw [hg]; exact (below_size (by repeat (first | (with_reducible first | exact HB.out | apply below_alloc | apply pw_below_drewN | apply below_drew1 | refine below_set ?_ GE117.out) | exact HB.out))) : w.heap.size ≤ gb118)); have n4_ := Aside0.mk ((by rw [hg]; exact (below_size (by repeat (first | (with_reducible first | exact HB.out | apply below_alloc | apply pw_below_drewN | apply below_drew1 | refine below_set ?_ GE117.out) | exact HB.out))) : w.heap.size ≤ gb118)); have n5_ := Aside0.mk ((by rw [hg]; exact Nat.ne_of_lt (blk_lt (g := gb117) (o := .cells #[.int .i8 a0_0, .int .i8 a0_1, .int .i8 a0_2, .slice A0_3 l0_3.length c0_3] 28 (0, 0)) (by (with_reducible repeat (first | refine blk_drewN ?_ _ | refine blk_drew ?_ | refine blk_alloc ?_ _)); exact BK117.out)) : gb117 ≠ gb118)); have n6_ := Aside0.mk ((by rw [hg]; exact Nat.ne_of_gt (blk_lt (g := gb117) (o := .cells #[.int .i8 a0_0, .int .i8 a0_1, .int .i8 a0_2, .slice A0_3 l0_3.length c0_3] 28 (0, 0)) (by (with_reducible repeat (first | refine blk_drewN ?_ _ | refine blk_drew ?_ | refine blk_alloc ?_ _)); exact BK117.out)) : gb118 ≠ gb117)); clear BK117; clear HB; have BK117 := n0_; have HB := n1_; have BK118 := n2_; have GW118 := n3_; have GE118 := n4_; have NB117_118 := n5_; have NB118_117 := n6_; clear n0_ n1_ n2_ n3_ n4_ n5_ n6_; clear hb hbox hg; have hnb25 := NB117_118.out; have hnc25 := NB118_117.out; have hcz26_0 : w24.cell? ⟨gb117, 0, none⟩ = some (.int .i8 a0_0) := (blk_cell BK117.out 0).trans rfl; have hcz26_1 : w24.cell? ⟨gb117, 1, none⟩ = some (.int .i8 a0_1) := (blk_cell BK117.out 1).trans rfl; have hcz26_2 : w24.cell? ⟨gb117, 2, none⟩ = some (.int .i8 a0_2) := (blk_cell BK117.out 2).trans rfl; have hcz26_3 : w24.cell? ⟨gb117, 3, none⟩ = some (.slice A0_3 l0_3.length c0_3) := (blk_cell BK117.out 3).trans rfl; have hfz26_0 := blk_frozen BK117.out 0; have hfz26_1 := blk_frozen BK117.out 1; have hfz26_2 := blk_frozen BK117.out 2; have hfz26_3 := blk_frozen BK117.out 3; have hcz27_0 : w24.cell? ⟨gb118, 0, none⟩ = some (.int .i8 a1_0) := (blk_cell BK118.out 0).trans rfl; have hcz27_1 : w24.cell? ⟨gb118, 1, none⟩ = some (.int .i8 a1_1) := (blk_cell BK118.out 1).trans rfl; have hcz27_2 : w24.cell? ⟨gb118, 2, none⟩ = some (.int .i8 a1_2) := (blk_cell BK118.out 2).trans rfl; have hcz27_3 : w24.cell? ⟨gb118, 3, none⟩ = some (.slice A1_3 l1_3.length c1_3) := (blk_cell BK118.out 3).trans rfl; have hfz27_0 := blk_frozen BK118.out 0; have hfz27_1 := blk_frozen BK118.out 1; have hfz27_2 := blk_frozen BK118.out 2; have hfz27_3 := blk_frozen BK118.out 3))
   go_ret
   exact ⟨by first | rfl | (simp [errW_none, errW_some] <;> rfl) | (simp [*, errW_none, errW_some] <;> rfl), by repeat (first | (with_reducible first | exact HB.out | apply below_alloc | apply pw_below_drewN | apply below_drew1 | refine below_set ?_ GE117.out | refine below_set ?_ GE118.out) | exact HB.out)⟩
 ·rw [if_neg c3] at H
  have c3b0 : (a0_0 == a1_0) = false := beq_eq_false_iff_ne.mpr c3
  have c3b1 : (a0_0 != a1_0) = true := bne_iff_ne.mpr c3
  obtain rfl := Option.some.inj H
  go_enter Tryd.func10, Tryd.ntmps10
  go_wp2_with (first | ((with_reducible refine gate_dst (N := 2) rfl ?_); refine box_event ?hg (N := 2) ?hd (cs := #[.int .i8 a0_0, .int .i8 a0_1, .int .i8 a0_2, .slice A0_3 l0_3.length c0_3]) (t := 28) ?hr ?_; (case hd => rfl); (case hg => rfl); (case hr => first | (go_simp; done) | (go_simp; rfl)); intro gb117 hg w28 hbox hb; have n0_ := Aside0.mk (below_step (by repeat (first | (with_reducible first | exact HB.out | apply below_alloc | apply pw_below_drewN | apply below_drew1) | exact HB.out)) hb); have n1_ := Aside0.mk (hbox); have n2_ := Aside0.mk ((by rw [hg]; exact (below_size (by repeat (first | (with_reducible first | exact HB.out | apply below_alloc | apply pw_below_drewN | apply below_drew1) | exact HB.out))) : w.heap.size ≤ gb117)); have n3_ := Aside0.mk ((by rw [hg]; exact (below_size (by repeat (first | (with_reducible first | exact HB.out | apply below_alloc | apply pw_below_drewN | apply below_drew1) | exact HB.out))) : w.heap.size ≤ gb117)); clear HB; have HB := n0_; have BK117 := n1_; have GW117 := n2_; have GE117 := n3_; clear n0_ n1_ n2_ n3_; clear hb hbox hg) | ((with_reducible refine gate_dst (N := 3) rfl ?_); refine box_event ?hg (N := 3) ?hd (cs := #[.int .i8 a1_0, .int .i8 a1_1, .int .i8 a1_2, .slice A1_3 l1_3.length c1_3]) (t := 28) ?hr ?_; (case hd => rfl); (case hg => rfl); (case hr => first | (go_simp; done) | (go_simp; rfl)); intro gb118 hg w29 hbox hb; have n0_ := Aside0.mk (blk_below (g := gb117) (o := .cells #[.int .i8 a0_0, .int .i8 a0_1, .int .i8 a0_2, .slice A0_3 l0_3.length c0_3] 28 (0, 0)) (by (with_reducible repeat (first | refine blk_drewN ?_ _ | refine blk_drew ?_ | refine blk_alloc ?_ _)); exact BK117.out) hb); have n1_ := Aside0.mk (below_step (by repeat (first | (with_reducible first | exact HB.out | apply below_alloc | apply pw_below_drewN | apply below_drew1 | refine below_set ?_ GE117.out) | exact HB.out)) hb); have n2_ := Aside0.mk (hbox); have n3_ := Aside0.mk ((by rw [hg]; exact (below_size (by repeat (first | (with_reducible first | exact HB.out | apply below_alloc | apply pw_below_drewN | apply below_drew1 | refine below_set ?_ GE117.out) | exact HB.out))) : w.heap.size ≤ gb118)); have n4_ := Aside0.mk ((by rw [hg]; exact (below_size (by repeat (first | (with_reducible first | exact HB.out | apply below_alloc | apply pw_below_drewN | apply below_drew1 | refine below_set ?_ GE117.out) | exact HB.out))) : w.heap.size ≤ gb118)); have n5_ := Aside0.mk ((by rw [hg]; exact Nat.ne_of_lt (blk_lt (g := gb117) (o := .cells #[.int .i8 a0_0, .int .i8 a0_1, .int .i8 a0_2, .slice A0_3 l0_3.length c0_3] 28 (0, 0)) (by (with_reducible repeat (first | refine blk_drewN ?_ _ | refine blk_drew ?_ | refine blk_alloc ?_ _)); exact BK117.out)) : gb117 ≠ gb118)); have n6_ := Aside0.mk ((by rw [hg]; exact Nat.ne_of_gt (blk_lt (g := gb117) (o := .cells #[.int .i8 a0_0, .int .i8 a0_1, .int .i8 a0_2, .slice A0_3 l0_3.length c0_3] 28 (0, 0)) (by (with_reducible repeat (first | refine blk_drewN ?_ _ | refine blk_drew ?_ | refine blk_alloc ?_ _)); exact BK117.out)) : gb118 ≠ gb117)); clear BK117; clear HB; have BK117 := n0_; have HB := n1_; have BK118 := n2_; have GW118 := n3_; have GE118 := n4_; have NB117_118 := n5_; have NB118_117 := n6_; clear n0_ n1_ n2_ n3_ n4_ n5_ n6_; clear hb hbox hg; have hnb30 := NB117_118.out; have hnc30 := NB118_117.out; have hcz31_0 : w29.cell? ⟨gb117, 0, none⟩ = some (.int .i8 a0_0) := (blk_cell BK117.out 0).trans rfl; have hcz31_1 : w29.cell? ⟨gb117, 1, none⟩ = some (.int .i8 a0_1) := (blk_cell BK117.out 1).trans rfl; have hcz31_2 : w29.cell? ⟨gb117, 2, none⟩ = some (.int .i8 a0_2) := (blk_cell BK117.out 2).trans rfl; have hcz31_3 : w29.cell? ⟨gb117, 3, none⟩ = some (.slice A0_3 l0_3.length c0_3) := (blk_cell BK117.out 3).trans rfl; have hfz31_0 := blk_frozen BK117.out 0; have hfz31_1 := blk_frozen BK117.out 1; have hfz31_2 := blk_frozen BK117.out 2; have hfz31_3 := blk_frozen BK117.out 3; have hcz32_0 : w29.cell? ⟨gb118, 0, none⟩ = some (.int .i8 a1_0) := (blk_cell BK118.out 0).trans rfl; have hcz32_1 : w29.cell? ⟨gb118, 1, none⟩ = some (.int .i8 a1_1) := (blk_cell BK118.out 1).trans rfl; have hcz32_2 : w29.cell? ⟨gb118, 2, none⟩ = some (.int .i8 a1_2) := (blk_cell BK118.out 2).trans rfl; have hcz32_3 : w29.cell? ⟨gb118, 3, none⟩ = some (.slice A1_3 l1_3.length c1_3) := (blk_cell BK118.out 3).trans rfl; have hfz32_0 := blk_frozen BK118.out 0; have hfz32_1 := blk_frozen BK118.out 1; have hfz32_2 := blk_frozen BK118.out 2; have hfz32_3 := blk_frozen BK118.out 3))
  go_ret
  exact ⟨by first | rfl | (simp [errW_none, errW_some] <;> rfl) | (simp [*, errW_none, errW_some] <;> rfl), by repeat (first | (with_reducible first | exact HB.out | apply below_alloc | apply pw_below_drewN | apply below_drew1 | refine below_set ?_ GE117.out | refine below_set ?_ GE118.out) | exact HB.out)⟩
end Go.Proofs.YtdgecgfgekmhcaaDoor.K
