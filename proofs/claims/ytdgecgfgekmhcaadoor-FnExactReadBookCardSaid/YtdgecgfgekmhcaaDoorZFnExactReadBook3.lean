/- The texts that the statement FnExactReadBook needs, part 3: contracts of the program's functions and plain laws, without what it does not reach. No condition beyond what each theorem says. -/
import Derived.Shelf.Strconv.Itoa4
import Derived.Test.YtdgecgfgekmhcaaDoorProg
import Derived.KernelRfl
import Derived.Below
import Derived.Deep.Draws
import Derived.Deep.AppendLies
import Derived.Maps.AppendAt
import Derived.OwnWalk
import Derived.Laws.BytesArg
import Derived.Laws.MakeOwn
import Derived.Laws.OwnMore
import Derived.Deep.OwnRows
import Derived.Tactics
import Derived.Lib.ConvBytes
import Derived.Laws.Slices
import Derived.WalkKit
import Derived.RowKit3
import Derived.Deep.LoopGhost
import Derived.Deep.QuietTactic
import Derived.BigQuiet
import Derived.WideLaws
import Derived.Deep.DeepCutAuto
import Derived.Deep.CutBlock
import Derived.Deep.RegionHeld3
import Derived.Laws.Rows
import Derived.Lib.AppendStr
import Derived.ArgAppend
import Derived.Laws.IdiomCopy
import Derived.RowKit
import Derived.OrdersHeld
import Derived.Laws.BitsLemmas
import Derived.Laws.StructEq
import Derived.Laws.Tables
import Derived.BigFrame
import Derived.Laws.CopyRow
import Derived.Laws.ResultCell
import Derived.WalkSpells
import Derived.Lib.SplitLaws
import Derived.Lib.Join
import Derived.Lib.ParseIntB
import Derived.Lib.CountLaws
import Derived.Shelf.Strings.SplitShaped
import Derived.Shelf.Strings.Shaped
import Derived.Shelf.Small.Wraps
import Derived.Shelf.Strconv.ErrVarParseInt
import Derived.Lib.SmallJoins
import Derived.Lib.AppendIntMem
import Derived.Lib.ParseIntBTie
import Derived.StillTailTactics
import Derived.Laws.CopyOwn
import Derived.ProofKit
import Derived.OpenShut
import Derived.Deep.Slices
import Derived.Test.YtdgecgfgekmhcaaDoorRows
import Derived.ShutString
import Derived.ChangeOld
import Derived.SizedLaws
import Derived.HandedShaped
import Derived.LaidMore
import Derived.Lay
import Derived.Stop.Joined
import Derived.Stop.LaidErr
import Derived.Lib.LaidTab
import Derived.Test.YtdgecgfgekmhcaaDoorCards
import Derived.Test.YtdgecgfgekmhcaaDoorTie
import Derived.SevenTiedAt
import Derived.Test.YtdgecgfgekmhcaaDoorZFnExactReadBook2
namespace Go.Proofs.YtdgecgfgekmhcaaDoor.Arr
open Go.RowKit Go.Proofs.YtdgecgfgekmhcaaDoorW.PrintWords Go.Proofs.YtdgecgfgekmhcaaDoorW.PrintLast Go.Proofs.YtdgecgfgekmhcaaDoorW.PrintMore Go.Proofs.YtdgecgfgekmhcaaDoor.U Go.Proofs.YtdgecgfgekmhcaaDoor.J
set_option linter.unusedVariables false
set_option linter.unusedSimpArgs false
theorem oneFn : OneTy Tryd.prog 129 := ⟨by kernel_rfl, by kernel_rfl⟩
theorem seek_enters (a : Array Value) (W : World) : (callFunc 103 a).run Tryd.prog W = .ok (.enter 103 a) W := by kernel_rfl
theorem s_lit1 {P : Program} {o : Oper} {a : Act} {w : World} {ops : Array Oper} {N : Option Tmp} {K : Act → World → Prop} {Q : Exit → Act → World → Prop} {t e : TypeId} {x : Operand} {k : IntKind} {z : Int} (hw : Region.wanted o (yielded ops a.tmps) = true) (hN : o.dst = N) (ho : o.op = .buildSlice t 1 #[(0, x)]) (hx : a.eval x = .int k z) (hu : P.underlying t = some (.slice e)) (he : OneTy P e) (hz : ZeroTy P e (vals k [0]))
  (h : ∀ g w1, w1.heap[g]? = some (.cells (vals k [z]) e (0, 0)) → FrB [] w w1 → K (a.put N (.slice (some ⟨g, 0, none⟩) 1 1)) w1) : if Region.wanted o (yielded ops a.tmps) = true then Oper.wp P o a w K Q else K (a.put N undef) w :=
 value_ hw hN (run_lit1 ho hx hu he hz) (h _ _ (Go.heap_alloc_new w _) ((FrB.refl [] w).alloc _))
theorem callC_ {P : Program} {oi : Oper} {N : Option Tmp} {a : Act} {w : World} {ops : Array Oper} {K : Act → World → Prop} {Q : Exit → Act → World → Prop} (f : FuncId) (caps args all : Array Value) (hall : args ++ caps = all) (hw : Region.wanted oi (yielded ops a.tmps) = true) (hN : oi.dst = N)
  {x : Operand} {bs : Array Operand} {ts : Array TypeId} (ho : oi.op = .call { callee := .value x, args := bs, argTypes := ts }) (hx : a.eval x = .func (.func f) #[] caps) (hargs : bs.map a.eval = args) (hg : (callFunc f (args ++ caps)).run P w = .ok (.enter f (args ++ caps)) w)
  (h : Calls P f all w fun e w' => ∃ v, e = .returned v ∧ K (a.put N v) w') : if Region.wanted oi (yielded ops a.tmps) = true then Oper.wp P oi a w K Q else K (a.put N undef) w := by
 subst hall
 exact call_ f _ hw hN (enterC ho hx hargs hg) h
section
variable {σ : Type} {step : σ → List Int → σ × Bool} {I : σ → World → Prop} {Q : List Int → Prop} {fe : FuncId} {capE : Array Value} {B : List Nat} {wS : World} {gm gh ge gc : Nat} {Am : Option Addr} {cm : Nat} {m : List Int} {H : List Int} {tm th te tc : TypeId}
set_option maxHeartbeats 8000000 in
set_option maxRecDepth 100000 in
theorem seek_calls (hge : ∀ (a : Array Value) (W : World), (callFunc fe a).run Tryd.prog W = .ok (.enter fe a) W)
  (hcm : wS.heap[gm]? = some (.cells #[.slice Am m.length cm] tm (0, 0))) (hce : wS.heap[ge]? = some (.cells #[.func (.func fe) #[] capE] te (0, 0)))
  (hcc : wS.heap[gc]? = some (.cells #[.func (.func 103) #[] #[.pointer (some ⟨gm, 0, none⟩), .pointer (some ⟨ge, 0, none⟩), .pointer (some ⟨gc, 0, none⟩), .pointer (some ⟨gh, 0, none⟩)]] tc (0, 0)))
  (hgm : gm ∉ gh :: B) (hgem : ge ∉ gh :: B) (hgc : gc ∉ gh :: B) (hgh : gh ∉ B) (hlt : ∀ b ∈ gh :: B, b < wS.heap.size)
  (hM : ∀ W, FrB (gh :: B) wS W → Kd.C (Kd.int .i8) W Am m.length m) (hmc : m.length ≤ cm) (hm : ∀ x ∈ m, PlainN x) (hml : m.length ≤ 1000) (hHl : H.length = 44) (hHb : ∀ j : Nat, j < 44 → 0 ≤ rd H (j : Int) ∧ rd H (j : Int) ≤ 1000000)
  (hcall : ∀ (s : σ) (h : List Int) (v : Value) (w : World), Q h → I s w → Own wS.heap.size w v h → FrB (gh :: B) wS w → Calls Tryd.prog fe (#[v] ++ capE) w fun e w' => e = .returned (.bool (step s h).2) ∧ I (step s h).1 w' ∧ FrB B w w')
  (hstab : ∀ (s : σ) (w w' : World), I s w → FrB [gh] w w' → I s w') : ∀ (d : Nat) (h : List Int) (g : Int) (v : Value) (s : σ) (w : World), h.length + d = m.length → 0 ≤ g → g ≤ h.length → FrB (gh :: B) wS w → w.heap[gh]? = some (.cells (vals .i64 (pile H h (-1) h.length)) 89 (0, 0)) → I s w → Own wS.heap.size w v h → (∀ x ∈ leaves m 4 (enough H) d h g, Q x) →
  Calls Tryd.prog 103 #[v, .int .i64 g, .pointer (some ⟨gm, 0, none⟩), .pointer (some ⟨ge, 0, none⟩), .pointer (some ⟨gc, 0, none⟩), .pointer (some ⟨gh, 0, none⟩)] w fun e w' =>
   ∃ s' on, e = .returned (.bool on) ∧ runL step s (leaves m 4 (enough H) d h g) = (s', on) ∧ I s' w' ∧ FrB B w w' := by
 intro d
 induction d with
 | zero =>
  intro h g v s w hd hg0 hg1 hf hh hI ho hQ
  have hcell := cell1 (hf.row hcm hgm)
  have hcel2 := cell1 (hf.row hce hgem)
  have hlen : h.length = m.length := by omega
  have HC := Aside0.mk (hcall s h v w (hQ h (by rw [leaves]; simp)) hI ho hf)
  have hv := Kd.R_slice ho
  obtain ⟨A, c, rfl⟩ := hv
  rw [hlen] at HC ⊢
  have HR : Aside0 (runL step s (leaves m 4 (enough H) 0 h g) = ((step s h).1, (step s h).2)) := ⟨by
   rw [leaves, runL]
   cases hs : (step s h).2 <;> rfl⟩
  clear hcm hce hcc hgm hgem hgc hgh hlt hM hmc hm hHl hHb hcall hstab hd hg0 hg1 hf hh hI ho hQ
  generalize (step s h).2 = on at *
  generalize (step s h).1 = s1 at *
  go_enter Tryd.func103, Tryd.ntmps103
  go_wp2_with (refine HC.out.mono ?_; rintro e w1 ⟨rfl, hI1, hb1⟩; have HI1 := Aside0.mk hI1; have HB1 := Aside0.mk hb1; clear hI1 hb1)
  go_ret
  exact ⟨_, _, rfl, HR.out, HI1.out, HB1.out⟩
 | succ d ih =>
  intro h g v s w hd hg0 hg1 hf hh hI ho hQ
  have hcell := cell1 (hf.row hcm hgm)
  have hlm : h.length < m.length := by omega
  have HCC := Aside0.mk (hf.row hcc hgc)
  obtain ⟨ad, rfl, hcx⟩ := Kd.at_int (hM w hf) (h.length : Int) (by omega) (by omega)
  rw [Int.toNat_natCast] at hcx
  have hx := hm _ (by rw [rd_get m h.length hlm]; exact List.getElem_mem _ : rd m (h.length : Int) ∈ m)
  obtain ⟨A, c, rfl⟩ := Kd.R_slice ho
  have hHc := (Kd.R_reads' ho).2.1
  have HO := Aside0.mk ho
  by_cases hb : rd m (h.length : Int) = -10
  ·rw [leaves_stop m (enough H) d h g hb]
   have HIH : Aside0 (∀ (v2 : Value) (w2 : World), Own wS.heap.size w2 v2 (h ++ [-10]) → FrB [] w w2 → Calls Tryd.prog 103 #[v2, .int .i64 ((h.length : Int) + 1), .pointer (some ⟨gm, 0, none⟩), .pointer (some ⟨ge, 0, none⟩), .pointer (some ⟨gc, 0, none⟩), .pointer (some ⟨gh, 0, none⟩)] w2 fun e w' =>
     ∃ s' on, e = .returned (.bool on) ∧ runL step s (leaves m 4 (enough H) d (h ++ [-10]) ((h.length : Int) + 1)) = (s', on) ∧ I s' w' ∧ FrB B w2 w') := ⟨fun v2 w2 ho2 hf2 => by
    refine ih (h ++ [-10]) ((h.length : Int) + 1) v2 s w2 (by simp; omega) (by omega) (by simp) (hf.trans (hf2.mono (by simp))) ?_ (hstab s w w2 hI (hf2.mono (by simp))) ho2 (fun x hx => hQ x (by rw [leaves_stop m (enough H) d h g hb]; exact hx))
    rw [pile_snoc, bump, if_pos rfl]
    exact hf2.row hh (by simp)⟩
   have hSz := hf.size
   have hsw : wrap64 ((h.length : Int) + 1) = (h.length : Int) + 1 := w64 (by omega) (by omega)
   rw [hb] at hcx
   clear hcm hce hcc hgm hgem hgc hM hmc hm hHl hHb hcall hstab ih hx hge hf hI ho hh hQ
   go_enter Tryd.func103, Tryd.ntmps103
   go_wp2_with fail
   refine start_ (n := 9) (S := fun w' => FrB [] w w') (ds := [7]) #[false, false, false, false, false, false, false, false, false] (by kernel_rfl) rfl rfl (FrB.below (below_drew (Below.refl _ _))) (fun hHeld => ?_)
   refine pure_ (i := 1) (N := some 31) (v := ?_) (a' := ?_) #[false, true, false, false, false, false, false, false, false] rfl rfl (by kernel_rfl) (fun _ _ _ h => h) (Or.inl ⟨by rfl, ?_⟩) ?_ ?_
   rotate_left
   ·intro w'
    go_simp
    with_reducible rfl
   rotate_left
   ·simp only [Act.put, List.setIfInBounds_toArray, List.set_cons_zero, List.set_cons_succ, i64_w, i32_w]
    rfl
   refine pure_ (i := 5) (N := some 35) (v := ?_) (a' := ?_) #[false, true, false, false, false, true, false, false, false] rfl rfl (by kernel_rfl) (fun _ _ _ h => h) (Or.inl ⟨by rfl, ?_⟩) ?_ ?_
   rotate_left
   ·intro w'
    go_simp
    with_reducible rfl
   rotate_left
   ·simp only [Act.put, List.setIfInBounds_toArray, List.set_cons_zero, List.set_cons_succ, i64_w, i32_w]
    rfl
   refine pure_ (i := 6) (N := some 36) (v := ?_) (a' := ?_) #[false, true, false, false, false, true, true, false, false] rfl rfl (by kernel_rfl) (fun _ _ _ h => h) (Or.inl ⟨by rfl, ?_⟩) ?_ ?_
   rotate_left
   ·intro w'
    go_simp
    with_reducible rfl
   rotate_left
   ·simp only [Act.put, List.setIfInBounds_toArray, List.set_cons_zero, List.set_cons_succ, i64_w, i32_w]
    rfl
   refine take_ (i := 0) (N := some 30) (v := .func (.func 103) #[] #[.pointer (some ⟨gm, 0, none⟩), .pointer (some ⟨ge, 0, none⟩), .pointer (some ⟨gc, 0, none⟩), .pointer (some ⟨gh, 0, none⟩)]) (a' := ?_) #[true, true, false, false, false, true, true, false, false] rfl rfl (by kernel_rfl) (fun _ _ _ h => h) (Or.inl ⟨by rfl, ?_⟩) hHeld ?_ ?_
   ·intro w' s0
    exact y_cell (by rfl) (by rfl) oneFn (cell1 (s0.row HCC.out (by simp)))
   rotate_left
   ·simp only [Act.put, List.setIfInBounds_toArray, List.set_cons_zero, List.set_cons_succ, i64_w, i32_w]
    rfl
   refine two_ (i := 2) (j := 3) (Ni := some 32) (Nj := some 33) #[true, true, true, false, false, true, true, false, false] #[true, true, false, true, false, true, true, false, false] rfl rfl rfl rfl (by kernel_rfl) (by decide) (by decide) (fun K hK => ?_) (fun K hK => ?_)
   ·skip
    refine goes_ Tryd.func104 (by kernel_rfl) rfl #[.slice A h.length c] (by rfl) rfl rfl (by simp only [List.map_toArray, List.map_cons, List.map_nil]; rfl) ?_
    refine (cloneH_calls A c h _ (Kd.R_reads' (own_later HO.out hHeld (by simp))).2.2 hHc (by omega)).mono ?_
    rintro e w3 ⟨v1, rfl, HO1, hb1⟩
    refine ⟨_, rfl, ?_⟩
    (try replace hgb := (hb1.block _ (lt_of_some hgb)).trans hgb)
    replace HO1 := own_lower HO1 hHeld.size
    refine hK.out _ _ (hHeld.trans (FrB.below hb1)) (fun hHeld => ?_)
    clear hK K
    refine norm_ (a' := ?_) ?_ ?_
    rotate_left
    ·show Act.put _ (some 32) _ = _
     simp only [Act.put, List.setIfInBounds_toArray, List.set_cons_zero, List.set_cons_succ, i64_w, i32_w]
     rfl
    refine one_ (i := 3) (N := some 33) #[true, true, true, true, false, true, true, false, false] rfl rfl (by kernel_rfl) (by decide) (fun K hK => ?_)
    refine s_lit1 (z := -10) (by rfl) rfl rfl rfl Tryd.underlying58 oneI8 zeroI8 ?_
    intro gb w4 hgb hfb
    (try replace HO1 := own_later HO1 hfb (by simp))
    refine hK.out _ _ (hHeld.trans hfb) (fun hHeld => ?_)
    clear hK K
    refine norm_ (a' := ?_) ?_ ?_
    rotate_left
    ·show Act.put _ (some 33) _ = _
     simp only [Act.put, List.setIfInBounds_toArray, List.set_cons_zero, List.set_cons_succ, i64_w, i32_w]
     rfl
    refine one_ (i := 4) (N := some 34) #[true, true, true, true, true, true, true, false, false] rfl rfl (by kernel_rfl) (by decide) (fun K hK => ?_)
    refine Kd.R_append_rows_step (Kd.int .i8) (w0 := _) w.heap.size (by rfl) (.tmp 32) (.tmp 33) 58 22 (.int .i8 0) 1 rfl Tryd.underlying58 infoI8 rfl (by decide) (by omega) v1 h [-10] (some ⟨gb, 0, none⟩) 1 1 (fun _ => True) (fun _ => False) rfl rfl HO1 (row1 hgb) (fun _ _ h => h) (fun _ h => h.elim) (fun _ _ => trivial) (Below.refl _ _) hHeld.size (by omega) ?_
    intro v2 w5 HO2 hb5 hg5 hat5
    refine hK.out _ _ (hHeld.grown hg5 (fun k hk => Kd.R_base HO1 k hk)) (fun hHeld => ?_)
    clear hK K
    refine norm_ (a' := ?_) ?_ ?_
    rotate_left
    ·show Act.put _ (some 34) _ = _
     simp only [Act.put, List.setIfInBounds_toArray, List.set_cons_zero, List.set_cons_succ, i64_w, i32_w]
     rfl
    refine last_ (i := 7) (N := some 37) #[true, true, true, true, true, true, true, true, false] rfl rfl (by kernel_rfl) (by decide) (fun K hK => ?_)
    refine callC_ 103 #[.pointer (some ⟨gm, 0, none⟩), .pointer (some ⟨ge, 0, none⟩), .pointer (some ⟨gc, 0, none⟩), .pointer (some ⟨gh, 0, none⟩)] #[v2, .int .i64 ((h.length : Int) + 1)] #[v2, .int .i64 ((h.length : Int) + 1), .pointer (some ⟨gm, 0, none⟩), .pointer (some ⟨ge, 0, none⟩), .pointer (some ⟨gc, 0, none⟩), .pointer (some ⟨gh, 0, none⟩)] (by simp) (by rfl) rfl (by rfl) (by rfl) (by simp only [List.map_toArray, List.map_cons, List.map_nil, hsw]; rfl) (seek_enters _ _) ?_
    refine (HIH.out v2 _ (own_lower HO2 hSz) hHeld).mono ?_
    rintro e w6 ⟨s1, on, rfl, hrun, hI6, hf6⟩
    refine ⟨_, rfl, ?_⟩
    refine hK.out _ _ ?_
    clear hK K
    refine norm_ (a' := ?_) ?_ ?_
    rotate_left
    ·show Act.put _ (some 37) _ = _
     simp only [Act.put, List.setIfInBounds_toArray, List.set_cons_zero, List.set_cons_succ, i64_w, i32_w]
     rfl
    refine pure_ (i := 8) (N := some 8) (v := ?_) (a' := ?_) #[true, true, true, true, true, true, true, true, true] rfl rfl (by kernel_rfl) (fun _ _ _ h => h) (Or.inl ⟨by rfl, ?_⟩) ?_ ?_
    rotate_left
    ·intro w'
     go_simp
     with_reducible rfl
    rotate_left
    ·simp only [Act.put, List.setIfInBounds_toArray, List.set_cons_zero, List.set_cons_succ, i64_w, i32_w]
     rfl
    refine done_ (by kernel_rfl) ?_
    go_wp2_with fail
    go_ret
    exact ⟨s1, on, rfl, hrun, hI6, (hHeld.mono (by simp)).trans hf6⟩
   ·skip
    refine s_lit1 (z := -10) (by rfl) rfl rfl rfl Tryd.underlying58 oneI8 zeroI8 ?_
    intro gb w4 hgb hfb
    (try replace HO1 := own_later HO1 hfb (by simp))
    refine hK.out _ _ (hHeld.trans hfb) (fun hHeld => ?_)
    clear hK K
    refine norm_ (a' := ?_) ?_ ?_
    rotate_left
    ·show Act.put _ (some 33) _ = _
     simp only [Act.put, List.setIfInBounds_toArray, List.set_cons_zero, List.set_cons_succ, i64_w, i32_w]
     rfl
    refine one_ (i := 2) (N := some 32) #[true, true, true, true, false, true, true, false, false] rfl rfl (by kernel_rfl) (by decide) (fun K hK => ?_)
    refine goes_ Tryd.func104 (by kernel_rfl) rfl #[.slice A h.length c] (by rfl) rfl rfl (by simp only [List.map_toArray, List.map_cons, List.map_nil]; rfl) ?_
    refine (cloneH_calls A c h _ (Kd.R_reads' (own_later HO.out hHeld (by simp))).2.2 hHc (by omega)).mono ?_
    rintro e w3 ⟨v1, rfl, HO1, hb1⟩
    refine ⟨_, rfl, ?_⟩
    (try replace hgb := (hb1.block _ (lt_of_some hgb)).trans hgb)
    replace HO1 := own_lower HO1 hHeld.size
    refine hK.out _ _ (hHeld.trans (FrB.below hb1)) (fun hHeld => ?_)
    clear hK K
    refine norm_ (a' := ?_) ?_ ?_
    rotate_left
    ·show Act.put _ (some 32) _ = _
     simp only [Act.put, List.setIfInBounds_toArray, List.set_cons_zero, List.set_cons_succ, i64_w, i32_w]
     rfl
    refine one_ (i := 4) (N := some 34) #[true, true, true, true, true, true, true, false, false] rfl rfl (by kernel_rfl) (by decide) (fun K hK => ?_)
    refine Kd.R_append_rows_step (Kd.int .i8) (w0 := _) w.heap.size (by rfl) (.tmp 32) (.tmp 33) 58 22 (.int .i8 0) 1 rfl Tryd.underlying58 infoI8 rfl (by decide) (by omega) v1 h [-10] (some ⟨gb, 0, none⟩) 1 1 (fun _ => True) (fun _ => False) rfl rfl HO1 (row1 hgb) (fun _ _ h => h) (fun _ h => h.elim) (fun _ _ => trivial) (Below.refl _ _) hHeld.size (by omega) ?_
    intro v2 w5 HO2 hb5 hg5 hat5
    refine hK.out _ _ (hHeld.grown hg5 (fun k hk => Kd.R_base HO1 k hk)) (fun hHeld => ?_)
    clear hK K
    refine norm_ (a' := ?_) ?_ ?_
    rotate_left
    ·show Act.put _ (some 34) _ = _
     simp only [Act.put, List.setIfInBounds_toArray, List.set_cons_zero, List.set_cons_succ, i64_w, i32_w]
     rfl
    refine last_ (i := 7) (N := some 37) #[true, true, true, true, true, true, true, true, false] rfl rfl (by kernel_rfl) (by decide) (fun K hK => ?_)
    refine callC_ 103 #[.pointer (some ⟨gm, 0, none⟩), .pointer (some ⟨ge, 0, none⟩), .pointer (some ⟨gc, 0, none⟩), .pointer (some ⟨gh, 0, none⟩)] #[v2, .int .i64 ((h.length : Int) + 1)] #[v2, .int .i64 ((h.length : Int) + 1), .pointer (some ⟨gm, 0, none⟩), .pointer (some ⟨ge, 0, none⟩), .pointer (some ⟨gc, 0, none⟩), .pointer (some ⟨gh, 0, none⟩)] (by simp) (by rfl) rfl (by rfl) (by rfl) (by simp only [List.map_toArray, List.map_cons, List.map_nil, hsw]; rfl) (seek_enters _ _) ?_
    refine (HIH.out v2 _ (own_lower HO2 hSz) hHeld).mono ?_
    rintro e w6 ⟨s1, on, rfl, hrun, hI6, hf6⟩
    refine ⟨_, rfl, ?_⟩
    refine hK.out _ _ ?_
    clear hK K
    refine norm_ (a' := ?_) ?_ ?_
    rotate_left
    ·show Act.put _ (some 37) _ = _
     simp only [Act.put, List.setIfInBounds_toArray, List.set_cons_zero, List.set_cons_succ, i64_w, i32_w]
     rfl
    refine pure_ (i := 8) (N := some 8) (v := ?_) (a' := ?_) #[true, true, true, true, true, true, true, true, true] rfl rfl (by kernel_rfl) (fun _ _ _ h => h) (Or.inl ⟨by rfl, ?_⟩) ?_ ?_
    rotate_left
    ·intro w'
     go_simp
     with_reducible rfl
    rotate_left
    ·simp only [Act.put, List.setIfInBounds_toArray, List.set_cons_zero, List.set_cons_succ, i64_w, i32_w]
     rfl
    refine done_ (by kernel_rfl) ?_
    go_wp2_with fail
    go_ret
    exact ⟨s1, on, rfl, hrun, hI6, (hHeld.mono (by simp)).trans hf6⟩
  ·rw [leaves_go m (enough H) d h g hb]
   have hHc44 := (pile_length H h (-1) h.length).trans hHl
   have HIH : Aside0 (∀ (n : Int) (v2 : Value) (s2 : σ) (w2 : World), NumH n → (∀ x ∈ leaves m 4 (enough H) d (h ++ [n]) g, Q x) → Own wS.heap.size w2 v2 (h ++ [n]) → FrB (gh :: B) wS w2 → w2.heap[gh]? = some (.cells (vals .i64 (bump (pile H h (-1) h.length) n (-1))) 89 (0, 0)) → I s2 w2 → Calls Tryd.prog 103 #[v2, .int .i64 g, .pointer (some ⟨gm, 0, none⟩), .pointer (some ⟨ge, 0, none⟩), .pointer (some ⟨gc, 0, none⟩), .pointer (some ⟨gh, 0, none⟩)] w2 fun e w' =>
     ∃ s' on, e = .returned (.bool on) ∧ runL step s2 (leaves m 4 (enough H) d (h ++ [n]) g) = (s', on) ∧ I s' w' ∧ FrB B w2 w') := ⟨fun n v2 s2 w2 hn hq2 ho2 hf2 hh2 hI2 => by
    refine ih (h ++ [n]) g v2 s2 w2 (by simp; omega) hg0 (by simp; omega) hf2 ?_ hI2 ho2 hq2
    rw [pile_snoc]
    exact hh2⟩
   have HQ := Aside0.mk (fun (n : Int) (hk : enough H h n = true) (ho : n ∈ opts m h.length g 4) (x : List Int) (hx : x ∈ leaves m 4 (enough H) d (h ++ [n]) g) => hQ x (by rw [leaves_go m (enough H) d h g hb]; unfold goes; exact List.mem_flatMap.2 ⟨n, ho, by rw [if_pos hk]; exact hx⟩))
   have HM := Aside0.mk hM
   have HF := Aside0.mk hf
   have HH := Aside0.mk hh
   have HI := Aside0.mk hI
   have HST := Aside0.mk hstab
   have HCM := Aside0.mk (hf.row hcm hgm)
   have HGM := Aside0.mk hgm
   have HGC := Aside0.mk hgc
   have HGH := Aside0.mk hgh
   have HLT := Aside0.mk hlt
   have HON := Aside0.mk (opts_num hm (k := h.length) (g := g) hlm hb)
   have HEN : Aside0 (∀ n : Int, enough H h n = decide (rd (pile H h (-1) h.length) (slot n : Nat) ≠ 0)) := ⟨fun n => rfl⟩
   have HPB := Aside0.mk (pile_b H h hHl 1000000 hHb h.length)
   have hSz := hf.size
   clear hcm hce hcc hgm hgem hgc hM hmc hm hHl hHb hcall hstab ih hx hge hf hI ho hh hgh hlt hQ
   generalize hHc : pile H h (-1) h.length = Hc at *
   clear hHc
   generalize hxv : rd m (h.length : Int) = x at *
   go_enter Tryd.func103, Tryd.ntmps103
   go_wp2_with ((with_reducible refine gate_dst (N := 38) rfl ?_); refine Kd.R_lit (Kd.int .i8) _ 22 ?hg (N := 38) ?hd (xs := ([] : List Int)) (inner := []) (ok := fun _ => True) (okp := fun _ => True) ?hr ?hp (fun _ hk => hk) trivial (Below.refl _ _) (Nat.le_refl _) (by simp) ?_; (case hd => rfl); (case hg => rfl); (case hr => first | (go_simp; done) | (go_simp; rfl)); (case hp => exact (Reps.none _ _)); intro v1 w1 ho1 hb1 _ _; have HO1 := Aside0.mk ho1; have HF1 := Aside0.mk (FrB.below (B := []) hb1); clear ho1 hb1)
   go_loopw [10, 11, 12] (fun v10 v11 v12 wr => ∃ (i : Nat) (xs : List Int), i ≤ 4 ∧ v11 = .int .i8 ((i : Int) - 4) ∧ Aside0 (xs ++ subsTo m h.length g (4 - i) = subsTo m h.length g 4) ∧ Aside0 (Own w.heap.size wr v10 xs) ∧ Aside0 (FrB [] w wr)) (fun _ v11 _ _ => (-(intOf v11)).toNat)
   case atStart => exact ⟨0, [], by omega, by simp, ⟨rfl⟩, HO1, HF1⟩
   case round =>
    clear HO1 HF1
    obtain ⟨i, xs, hi, rfl, HX, HO1, HF1⟩ := hrel
    have hcellr := cell1 (HF1.out.row HCM.out (by simp))
    have hcxr := (Kd.at_int (HM.out _ (HF.out.trans (HF1.out.mono (by simp)))) (h.length : Int) (by omega) (by omega))
    rw [Int.toNat_natCast, hxv] at hcxr
    obtain ⟨ad1, e1, hcxr⟩ := hcxr
    cases e1
    by_cases hlt : i < 4
    ·have HSS := Aside0.mk (subsTo_step m h.length g i hlt)
     have HNX : Aside0 (((i + 1 : Nat) : Int) - 4 = ((i : Int) - 4) + 1) := ⟨by omega⟩
     have hq1 : -4 ≤ (i : Int) - 4 := by omega
     have hq2 : (i : Int) - 4 < 0 := by omega
     have HMS := Aside0.mk (show (-((((i : Int) - 4) + 1))).toNat < (-((i : Int) - 4)).toNat by omega)
     generalize (i : Int) - 4 = q at *
     have hw1 : wrap64 q = q := w64 (by omega) (by omega)
     have hw2 : wrap64 (g - q) = g - q := w64 (by omega) (by omega)
     obtain ⟨p, hp⟩ : ∃ p, g - q - 1 = p := ⟨_, rfl⟩
     have hw3 : wrap64 (g - q - 1) = g - q - 1 := w64 (by omega) (by omega)
     have HPE := Aside0.mk hp
     have hat0 : 0 ≤ p := by omega
     have HSO : Aside0 (subOk m h.length g q = decide (p < (h.length : Int) ∧ rd m p = x)) := ⟨by rw [← hxv, ← hp]; rfl⟩
     clear hp
     have hw4 : IntKind.i8.wrap (q + 1) = q + 1 := i8w (by omega) (by omega)
     by_cases hat : p < (h.length : Int)
     ·obtain ⟨ad2, e2, hca⟩ := Kd.at_int (HM.out _ (HF.out.trans (HF1.out.mono (by simp)))) p (by omega) (by omega)
      cases e2
      have hat1 : p < (m.length : Int) := by omega
      have hat2 := decide_eq_true hat
      generalize rd m p = y at *
      by_cases heq : y = x
      ·subst heq
       have HXS := Aside0.mk (show subsTo m h.length g (4 - i) = [q] ++ subsTo m h.length g (4 - (i + 1)) by rw [HSS.out, if_pos (by rw [HSO.out]; exact decide_eq_true ⟨hat, rfl⟩)])
       have HLX := Aside0.mk (show xs.length ≤ 4 by have h1 := congrArg List.length HX.out; rw [List.length_append] at h1; have := subsTo_len m h.length g 4; omega)
       clear HSS HSO
       go_wp2_with fail
       rw [HPE.out]
       refine start_ (n := 14) (S := fun w' => FrB [] wr w') (ds := []) #[false, false, false, false, false, false, false, false, false, false, false, false, false, false] (by kernel_rfl) rfl rfl (FrB.below (below_drew (Below.refl _ _))) (fun hHeld => ?_)
       refine pure_ (i := 0) (N := some 48) (v := ?_) (a' := ?_) #[true, false, false, false, false, false, false, false, false, false, false, false, false, false] rfl rfl (by kernel_rfl) (fun _ _ _ h => h) (Or.inl ⟨by rfl, ?_⟩) ?_ ?_
       rotate_left
       ·intro w'
        go_simp
        with_reducible rfl
       rotate_left
       ·simp only [Act.put, List.setIfInBounds_toArray, List.set_cons_zero, List.set_cons_succ, i64_w, i32_w]
        rfl
       refine pure_ (i := 1) (N := some 49) (v := ?_) (a' := ?_) #[true, true, false, false, false, false, false, false, false, false, false, false, false, false] rfl rfl (by kernel_rfl) (fun _ _ _ h => h) (Or.inl ⟨by rfl, ?_⟩) ?_ ?_
       rotate_left
       ·intro w'
        go_simp
        with_reducible rfl
       rotate_left
       ·simp only [Act.put, List.setIfInBounds_toArray, List.set_cons_zero, List.set_cons_succ, i64_w, i32_w]
        rfl
       refine pure_ (i := 2) (N := some 50) (v := ?_) (a' := ?_) #[true, true, true, false, false, false, false, false, false, false, false, false, false, false] rfl rfl (by kernel_rfl) (fun _ _ _ h => h) (Or.inl ⟨by rfl, ?_⟩) ?_ ?_
       rotate_left
       ·intro w'
        go_simp
        with_reducible rfl
       rotate_left
       ·simp only [Act.put, List.setIfInBounds_toArray, List.set_cons_zero, List.set_cons_succ, i64_w, i32_w]
        rfl
       refine pure_ (i := 3) (N := some 51) (v := ?_) (a' := ?_) #[true, true, true, true, false, false, false, false, false, false, false, false, false, false] rfl rfl (by kernel_rfl) (fun _ _ _ h => h) (Or.inl ⟨by rfl, ?_⟩) ?_ ?_
       rotate_left
       ·intro w'
        go_simp
        with_reducible rfl
       rotate_left
       ·simp only [Act.put, List.setIfInBounds_toArray, List.set_cons_zero, List.set_cons_succ, i64_w, i32_w]
        rfl
       refine pure_ (i := 5) (N := some 53) (v := ?_) (a' := ?_) #[true, true, true, true, false, true, false, false, false, false, false, false, false, false] rfl rfl (by kernel_rfl) (fun _ _ _ h => h) (Or.inl ⟨by rfl, ?_⟩) ?_ ?_
       rotate_left
       ·intro w'
        go_simp
        with_reducible rfl
       rotate_left
       ·simp only [Act.put, List.setIfInBounds_toArray, List.set_cons_zero, List.set_cons_succ, i64_w, i32_w]
        rfl
       refine pure_ (i := 9) (N := some 57) (v := ?_) (a' := ?_) #[true, true, true, true, false, true, false, false, false, true, false, false, false, false] rfl rfl (by kernel_rfl) (fun _ _ _ h => h) (Or.inl ⟨by rfl, ?_⟩) ?_ ?_
       rotate_left
       ·intro w'
        go_simp
        with_reducible rfl
       rotate_left
       ·simp only [Act.put, List.setIfInBounds_toArray, List.set_cons_zero, List.set_cons_succ, i64_w, i32_w]
        rfl
       refine take_ (i := 4) (N := some 52) (v := .slice (some ad) m.length cm) (a' := ?_) #[true, true, true, true, true, true, false, false, false, true, false, false, false, false] rfl rfl (by kernel_rfl) (fun _ _ _ h => h) (Or.inl ⟨by rfl, ?_⟩) hHeld ?_ ?_
       ·intro w' s0
        exact y_cell (by rfl) (by rfl) oneMean (s0.read hcellr)
       rotate_left
       ·simp only [Act.put, List.setIfInBounds_toArray, List.set_cons_zero, List.set_cons_succ, i64_w, i32_w]
        rfl
       refine pure_ (i := 6) (N := some 54) (v := ?_) (a' := ?_) #[true, true, true, true, true, true, true, false, false, true, false, false, false, false] rfl rfl (by kernel_rfl) (fun _ _ _ h => h) (Or.inl ⟨by rfl, ?_⟩) ?_ ?_
       rotate_left
       ·intro w'
        go_simp
        with_reducible rfl
       rotate_left
       ·simp only [Act.put, List.setIfInBounds_toArray, List.set_cons_zero, List.set_cons_succ, i64_w, i32_w]
        rfl
       refine take_ (i := 7) (N := some 55) (v := .int .i8 y) (a' := ?_) #[true, true, true, true, true, true, true, true, false, true, false, false, false, false] rfl rfl (by kernel_rfl) (fun _ _ _ h => h) (Or.inl ⟨by rfl, ?_⟩) hHeld ?_ ?_
       ·intro w' s0
        exact y_cell (by rfl) (by rfl) oneI8 (s0.read hca)
       rotate_left
       ·simp only [Act.put, List.setIfInBounds_toArray, List.set_cons_zero, List.set_cons_succ, i64_w, i32_w]
        rfl
       refine take_ (i := 8) (N := some 56) (v := .slice (some ad) m.length cm) (a' := ?_) #[true, true, true, true, true, true, true, true, true, true, false, false, false, false] rfl rfl (by kernel_rfl) (fun _ _ _ h => h) (Or.inl ⟨by rfl, ?_⟩) hHeld ?_ ?_
       ·intro w' s0
        exact y_cell (by rfl) (by rfl) oneMean (s0.read hcellr)
       rotate_left
       ·simp only [Act.put, List.setIfInBounds_toArray, List.set_cons_zero, List.set_cons_succ, i64_w, i32_w]
        rfl
       refine pure_ (i := 10) (N := some 58) (v := ?_) (a' := ?_) #[true, true, true, true, true, true, true, true, true, true, true, false, false, false] rfl rfl (by kernel_rfl) (fun _ _ _ h => h) (Or.inl ⟨by rfl, ?_⟩) ?_ ?_
       rotate_left
       ·intro w'
        go_simp
        with_reducible rfl
       rotate_left
       ·simp only [Act.put, List.setIfInBounds_toArray, List.set_cons_zero, List.set_cons_succ, i64_w, i32_w]
        rfl
       refine take_ (i := 11) (N := some 59) (v := .int .i8 y) (a' := ?_) #[true, true, true, true, true, true, true, true, true, true, true, true, false, false] rfl rfl (by kernel_rfl) (fun _ _ _ h => h) (Or.inl ⟨by rfl, ?_⟩) hHeld ?_ ?_
       ·intro w' s0
        exact y_cell (by rfl) (by rfl) oneI8 (s0.read hcxr)
       rotate_left
       ·simp only [Act.put, List.setIfInBounds_toArray, List.set_cons_zero, List.set_cons_succ, i64_w, i32_w]
        rfl
       refine pure_ (i := 12) (N := some 60) (v := ?_) (a' := ?_) #[true, true, true, true, true, true, true, true, true, true, true, true, true, false] rfl rfl (by kernel_rfl) (fun _ _ _ h => h) (Or.inl ⟨by rfl, ?_⟩) ?_ ?_
       rotate_left
       ·intro w'
        go_simp
        with_reducible rfl
       rotate_left
       ·simp only [Act.put, List.setIfInBounds_toArray, List.set_cons_zero, List.set_cons_succ, i64_w, i32_w]
        rfl
       refine pure_ (i := 13) (N := some 61) (v := ?_) (a' := ?_) #[true, true, true, true, true, true, true, true, true, true, true, true, true, true] rfl rfl (by kernel_rfl) (fun _ _ _ h => h) (Or.inl ⟨by rfl, ?_⟩) ?_ ?_
       rotate_left
       ·intro w'
        go_simp
        with_reducible rfl
       rotate_left
       ·simp only [Act.put, List.setIfInBounds_toArray, List.set_cons_zero, List.set_cons_succ, i64_w, i32_w]
        rfl
       refine done_ (by kernel_rfl) ?_
       skip
       have HOq := Aside0.mk (Kd.R_drew HO1.out)
       have HFq := Aside0.mk (HF1.out.trans hHeld)
       generalize wr.drew = wq at *
       go_wp2_with ((with_reducible refine gate_builtin (b := .append) (xs := #[.tmp 62, .tmp 64]) rfl ?_); (try (refine gate_guard (by rfl) ?_; dsimp only)); at_builtin; refine Kd.R_append (Kd.int .i8) (w0 := wq) w.heap.size rfl (.tmp 62) (.tmp 64) 52 22 (.int .i8 0) 1 rfl Tryd.underlying52 infoI8 rfl (by decide) (by omega) _ xs q [.int .i8 q] (fun _ => True) (fun _ => False) rfl rfl rfl (fun _ hk => hk.elim) (fun _ _ => trivial) HOq.out (Below.refl _ _) HFq.out.size (by have := HLX.out; omega) ?_; intro v2 w2 ho2 hb2 hg2 hat2; have HO2 := Aside0.mk ho2; have HF2 := Aside0.mk (HFq.out.grown hg2 (fun k hk => Kd.R_base HOq.out k hk)); clear ho2 hb2 hg2 hat2)
       go_roundw
       case rel => exact ⟨i + 1, xs ++ [q], by omega, by rw [HNX.out], ⟨by rw [List.append_assoc, ← HXS.out]; exact HX.out⟩, HO2, HF2⟩
       case measure => simp only [intOf]; exact HMS.out
      ·have HXS := Aside0.mk (show subsTo m h.length g (4 - i) = subsTo m h.length g (4 - (i + 1)) by rw [HSS.out, if_neg (by rw [HSO.out, decide_eq_false (fun e => heq e.2)]; simp)]; rfl)
       clear HSS HSO
       have hne := Aside0.mk (show (y == x) = false by simpa using heq)
       go_wp2_with fail
       rw [HPE.out]
       refine start_ (n := 14) (S := fun w' => FrB [] wr w') (ds := []) #[false, false, false, false, false, false, false, false, false, false, false, false, false, false] (by kernel_rfl) rfl rfl (FrB.below (below_drew (Below.refl _ _))) (fun hHeld => ?_)
       refine pure_ (i := 0) (N := some 48) (v := ?_) (a' := ?_) #[true, false, false, false, false, false, false, false, false, false, false, false, false, false] rfl rfl (by kernel_rfl) (fun _ _ _ h => h) (Or.inl ⟨by rfl, ?_⟩) ?_ ?_
       rotate_left
       ·intro w'
        go_simp
        with_reducible rfl
       rotate_left
       ·simp only [Act.put, List.setIfInBounds_toArray, List.set_cons_zero, List.set_cons_succ, i64_w, i32_w]
        rfl
       refine pure_ (i := 1) (N := some 49) (v := ?_) (a' := ?_) #[true, true, false, false, false, false, false, false, false, false, false, false, false, false] rfl rfl (by kernel_rfl) (fun _ _ _ h => h) (Or.inl ⟨by rfl, ?_⟩) ?_ ?_
       rotate_left
       ·intro w'
        go_simp
        with_reducible rfl
       rotate_left
       ·simp only [Act.put, List.setIfInBounds_toArray, List.set_cons_zero, List.set_cons_succ, i64_w, i32_w]
        rfl
       refine pure_ (i := 2) (N := some 50) (v := ?_) (a' := ?_) #[true, true, true, false, false, false, false, false, false, false, false, false, false, false] rfl rfl (by kernel_rfl) (fun _ _ _ h => h) (Or.inl ⟨by rfl, ?_⟩) ?_ ?_
       rotate_left
       ·intro w'
        go_simp
        with_reducible rfl
       rotate_left
       ·simp only [Act.put, List.setIfInBounds_toArray, List.set_cons_zero, List.set_cons_succ, i64_w, i32_w]
        rfl
       refine pure_ (i := 3) (N := some 51) (v := ?_) (a' := ?_) #[true, true, true, true, false, false, false, false, false, false, false, false, false, false] rfl rfl (by kernel_rfl) (fun _ _ _ h => h) (Or.inl ⟨by rfl, ?_⟩) ?_ ?_
       rotate_left
       ·intro w'
        go_simp
        with_reducible rfl
       rotate_left
       ·simp only [Act.put, List.setIfInBounds_toArray, List.set_cons_zero, List.set_cons_succ, i64_w, i32_w]
        rfl
       refine pure_ (i := 5) (N := some 53) (v := ?_) (a' := ?_) #[true, true, true, true, false, true, false, false, false, false, false, false, false, false] rfl rfl (by kernel_rfl) (fun _ _ _ h => h) (Or.inl ⟨by rfl, ?_⟩) ?_ ?_
       rotate_left
       ·intro w'
        go_simp
        with_reducible rfl
       rotate_left
       ·simp only [Act.put, List.setIfInBounds_toArray, List.set_cons_zero, List.set_cons_succ, i64_w, i32_w]
        rfl
       refine pure_ (i := 9) (N := some 57) (v := ?_) (a' := ?_) #[true, true, true, true, false, true, false, false, false, true, false, false, false, false] rfl rfl (by kernel_rfl) (fun _ _ _ h => h) (Or.inl ⟨by rfl, ?_⟩) ?_ ?_
       rotate_left
       ·intro w'
        go_simp
        with_reducible rfl
       rotate_left
       ·simp only [Act.put, List.setIfInBounds_toArray, List.set_cons_zero, List.set_cons_succ, i64_w, i32_w]
        rfl
       refine take_ (i := 4) (N := some 52) (v := .slice (some ad) m.length cm) (a' := ?_) #[true, true, true, true, true, true, false, false, false, true, false, false, false, false] rfl rfl (by kernel_rfl) (fun _ _ _ h => h) (Or.inl ⟨by rfl, ?_⟩) hHeld ?_ ?_
       ·intro w' s0
        exact y_cell (by rfl) (by rfl) oneMean (s0.read hcellr)
       rotate_left
       ·simp only [Act.put, List.setIfInBounds_toArray, List.set_cons_zero, List.set_cons_succ, i64_w, i32_w]
        rfl
       refine pure_ (i := 6) (N := some 54) (v := ?_) (a' := ?_) #[true, true, true, true, true, true, true, false, false, true, false, false, false, false] rfl rfl (by kernel_rfl) (fun _ _ _ h => h) (Or.inl ⟨by rfl, ?_⟩) ?_ ?_
       rotate_left
       ·intro w'
        go_simp
        with_reducible rfl
       rotate_left
       ·simp only [Act.put, List.setIfInBounds_toArray, List.set_cons_zero, List.set_cons_succ, i64_w, i32_w]
        rfl
       refine take_ (i := 7) (N := some 55) (v := .int .i8 y) (a' := ?_) #[true, true, true, true, true, true, true, true, false, true, false, false, false, false] rfl rfl (by kernel_rfl) (fun _ _ _ h => h) (Or.inl ⟨by rfl, ?_⟩) hHeld ?_ ?_
       ·intro w' s0
        exact y_cell (by rfl) (by rfl) oneI8 (s0.read hca)
       rotate_left
       ·simp only [Act.put, List.setIfInBounds_toArray, List.set_cons_zero, List.set_cons_succ, i64_w, i32_w]
        rfl
       refine take_ (i := 8) (N := some 56) (v := .slice (some ad) m.length cm) (a' := ?_) #[true, true, true, true, true, true, true, true, true, true, false, false, false, false] rfl rfl (by kernel_rfl) (fun _ _ _ h => h) (Or.inl ⟨by rfl, ?_⟩) hHeld ?_ ?_
       ·intro w' s0
        exact y_cell (by rfl) (by rfl) oneMean (s0.read hcellr)
       rotate_left
       ·simp only [Act.put, List.setIfInBounds_toArray, List.set_cons_zero, List.set_cons_succ, i64_w, i32_w]
        rfl
       refine pure_ (i := 10) (N := some 58) (v := ?_) (a' := ?_) #[true, true, true, true, true, true, true, true, true, true, true, false, false, false] rfl rfl (by kernel_rfl) (fun _ _ _ h => h) (Or.inl ⟨by rfl, ?_⟩) ?_ ?_
       rotate_left
       ·intro w'
        go_simp
        with_reducible rfl
       rotate_left
       ·simp only [Act.put, List.setIfInBounds_toArray, List.set_cons_zero, List.set_cons_succ, i64_w, i32_w]
        rfl
       refine take_ (i := 11) (N := some 59) (v := .int .i8 x) (a' := ?_) #[true, true, true, true, true, true, true, true, true, true, true, true, false, false] rfl rfl (by kernel_rfl) (fun _ _ _ h => h) (Or.inl ⟨by rfl, ?_⟩) hHeld ?_ ?_
       ·intro w' s0
        exact y_cell (by rfl) (by rfl) oneI8 (s0.read hcxr)
       rotate_left
       ·simp only [Act.put, List.setIfInBounds_toArray, List.set_cons_zero, List.set_cons_succ, i64_w, i32_w]
        rfl
       refine pure_ (i := 12) (N := some 60) (v := ?_) (a' := ?_) #[true, true, true, true, true, true, true, true, true, true, true, true, true, false] rfl rfl (by kernel_rfl) (fun _ _ _ h => h) (Or.inl ⟨by rfl, ?_⟩) ?_ ?_
       rotate_left
       ·intro w'
        go_simp
        with_reducible rfl
       rotate_left
       ·simp only [Act.put, List.setIfInBounds_toArray, List.set_cons_zero, List.set_cons_succ, i64_w, i32_w]
        rfl
       refine pure_ (i := 13) (N := some 61) (v := ?_) (a' := ?_) #[true, true, true, true, true, true, true, true, true, true, true, true, true, true] rfl rfl (by kernel_rfl) (fun _ _ _ h => h) (Or.inl ⟨by rfl, ?_⟩) ?_ ?_
       rotate_left
       ·intro w'
        go_simp
        with_reducible rfl
       rotate_left
       ·simp only [Act.put, List.setIfInBounds_toArray, List.set_cons_zero, List.set_cons_succ, i64_w, i32_w]
        rfl
       refine done_ (by kernel_rfl) ?_
       skip
       have HOq := Aside0.mk (Kd.R_drew HO1.out)
       have HFq := Aside0.mk (HF1.out.trans hHeld)
       (try rw [hne.out])
       go_wp2_with fail
       go_roundw
       case rel => exact ⟨i + 1, xs, by omega, by rw [HNX.out], ⟨by rw [← HXS.out]; exact HX.out⟩, HOq, HFq⟩
       case measure => simp only [intOf]; exact HMS.out
     ·have HXS := Aside0.mk (show subsTo m h.length g (4 - i) = subsTo m h.length g (4 - (i + 1)) by rw [HSS.out, if_neg (by rw [HSO.out, decide_eq_false (fun e => hat e.1)]; simp)]; rfl)
      clear HSS HSO
      have hat1 := eq_false hat
      have hat2 := decide_eq_false hat
      go_wp2_with fail
      rw [HPE.out]
      refine start_ (n := 14) (S := fun w' => FrB [] wr w') (ds := []) #[false, false, false, false, false, false, false, false, false, false, false, false, false, false] (by kernel_rfl) rfl rfl (FrB.below (below_drew (Below.refl _ _))) (fun hHeld => ?_)
      refine pure_ (i := 0) (N := some 48) (v := ?_) (a' := ?_) #[true, false, false, false, false, false, false, false, false, false, false, false, false, false] rfl rfl (by kernel_rfl) (fun _ _ _ h => h) (Or.inl ⟨by rfl, ?_⟩) ?_ ?_
      rotate_left
      ·intro w'
       go_simp
       with_reducible rfl
      rotate_left
      ·simp only [Act.put, List.setIfInBounds_toArray, List.set_cons_zero, List.set_cons_succ, i64_w, i32_w]
       rfl
      refine pure_ (i := 1) (N := some 49) (v := ?_) (a' := ?_) #[true, true, false, false, false, false, false, false, false, false, false, false, false, false] rfl rfl (by kernel_rfl) (fun _ _ _ h => h) (Or.inl ⟨by rfl, ?_⟩) ?_ ?_
      rotate_left
      ·intro w'
       go_simp
       with_reducible rfl
      rotate_left
      ·simp only [Act.put, List.setIfInBounds_toArray, List.set_cons_zero, List.set_cons_succ, i64_w, i32_w]
       rfl
      refine pure_ (i := 2) (N := some 50) (v := ?_) (a' := ?_) #[true, true, true, false, false, false, false, false, false, false, false, false, false, false] rfl rfl (by kernel_rfl) (fun _ _ _ h => h) (Or.inl ⟨by rfl, ?_⟩) ?_ ?_
      rotate_left
      ·intro w'
       go_simp
       with_reducible rfl
      rotate_left
      ·simp only [Act.put, List.setIfInBounds_toArray, List.set_cons_zero, List.set_cons_succ, i64_w, i32_w]
       rfl
      refine pure_ (i := 3) (N := some 51) (v := ?_) (a' := ?_) #[true, true, true, true, false, false, false, false, false, false, false, false, false, false] rfl rfl (by kernel_rfl) (fun _ _ _ h => h) (Or.inl ⟨by rfl, ?_⟩) ?_ ?_
      rotate_left
      ·intro w'
       go_simp
       with_reducible rfl
      rotate_left
      ·simp only [Act.put, List.setIfInBounds_toArray, List.set_cons_zero, List.set_cons_succ, i64_w, i32_w]
       rfl
      refine pure_ (i := 4) (N := some 52) (v := undef) (a' := ?_) #[true, true, true, true, true, false, false, false, false, false, false, false, false, false] rfl rfl (by kernel_rfl) (fun _ _ _ h => h) (Or.inr ⟨by rfl, rfl⟩) ?_ ?_
      rotate_left
      ·simp only [Act.put, List.setIfInBounds_toArray, List.set_cons_zero, List.set_cons_succ, i64_w, i32_w]
       rfl
      refine pure_ (i := 5) (N := some 53) (v := undef) (a' := ?_) #[true, true, true, true, true, true, false, false, false, false, false, false, false, false] rfl rfl (by kernel_rfl) (fun _ _ _ h => h) (Or.inr ⟨by rfl, rfl⟩) ?_ ?_
      rotate_left
      ·simp only [Act.put, List.setIfInBounds_toArray, List.set_cons_zero, List.set_cons_succ, i64_w, i32_w]
       rfl
      refine pure_ (i := 6) (N := some 54) (v := undef) (a' := ?_) #[true, true, true, true, true, true, true, false, false, false, false, false, false, false] rfl rfl (by kernel_rfl) (fun _ _ _ h => h) (Or.inr ⟨by rfl, rfl⟩) ?_ ?_
      rotate_left
      ·simp only [Act.put, List.setIfInBounds_toArray, List.set_cons_zero, List.set_cons_succ, i64_w, i32_w]
       rfl
      refine pure_ (i := 7) (N := some 55) (v := undef) (a' := ?_) #[true, true, true, true, true, true, true, true, false, false, false, false, false, false] rfl rfl (by kernel_rfl) (fun _ _ _ h => h) (Or.inr ⟨by rfl, rfl⟩) ?_ ?_
      rotate_left
      ·simp only [Act.put, List.setIfInBounds_toArray, List.set_cons_zero, List.set_cons_succ, i64_w, i32_w]
       rfl
      refine pure_ (i := 8) (N := some 56) (v := undef) (a' := ?_) #[true, true, true, true, true, true, true, true, true, false, false, false, false, false] rfl rfl (by kernel_rfl) (fun _ _ _ h => h) (Or.inr ⟨by rfl, rfl⟩) ?_ ?_
      rotate_left
      ·simp only [Act.put, List.setIfInBounds_toArray, List.set_cons_zero, List.set_cons_succ, i64_w, i32_w]
       rfl
      refine pure_ (i := 9) (N := some 57) (v := undef) (a' := ?_) #[true, true, true, true, true, true, true, true, true, true, false, false, false, false] rfl rfl (by kernel_rfl) (fun _ _ _ h => h) (Or.inr ⟨by rfl, rfl⟩) ?_ ?_
      rotate_left
      ·simp only [Act.put, List.setIfInBounds_toArray, List.set_cons_zero, List.set_cons_succ, i64_w, i32_w]
       rfl
      refine pure_ (i := 10) (N := some 58) (v := undef) (a' := ?_) #[true, true, true, true, true, true, true, true, true, true, true, false, false, false] rfl rfl (by kernel_rfl) (fun _ _ _ h => h) (Or.inr ⟨by rfl, rfl⟩) ?_ ?_
      rotate_left
      ·simp only [Act.put, List.setIfInBounds_toArray, List.set_cons_zero, List.set_cons_succ, i64_w, i32_w]
       rfl
      refine pure_ (i := 11) (N := some 59) (v := undef) (a' := ?_) #[true, true, true, true, true, true, true, true, true, true, true, true, false, false] rfl rfl (by kernel_rfl) (fun _ _ _ h => h) (Or.inr ⟨by rfl, rfl⟩) ?_ ?_
      rotate_left
      ·simp only [Act.put, List.setIfInBounds_toArray, List.set_cons_zero, List.set_cons_succ, i64_w, i32_w]
       rfl
      refine pure_ (i := 12) (N := some 60) (v := undef) (a' := ?_) #[true, true, true, true, true, true, true, true, true, true, true, true, true, false] rfl rfl (by kernel_rfl) (fun _ _ _ h => h) (Or.inr ⟨by rfl, rfl⟩) ?_ ?_
      rotate_left
      ·simp only [Act.put, List.setIfInBounds_toArray, List.set_cons_zero, List.set_cons_succ, i64_w, i32_w]
       rfl
      refine pure_ (i := 13) (N := some 61) (v := ?_) (a' := ?_) #[true, true, true, true, true, true, true, true, true, true, true, true, true, true] rfl rfl (by kernel_rfl) (fun _ _ _ h => h) (Or.inl ⟨by rfl, ?_⟩) ?_ ?_
      rotate_left
      ·intro w'
       go_simp
       with_reducible rfl
      rotate_left
      ·simp only [Act.put, List.setIfInBounds_toArray, List.set_cons_zero, List.set_cons_succ, i64_w, i32_w]
       rfl
      refine done_ (by kernel_rfl) ?_
      skip
      have HOq := Aside0.mk (Kd.R_drew HO1.out)
      have HFq := Aside0.mk (HF1.out.trans hHeld)
      go_wp2_with fail
      go_roundw
      case rel => exact ⟨i + 1, xs, by omega, by rw [HNX.out], ⟨by rw [← HXS.out]; exact HX.out⟩, HOq, HFq⟩
      case measure => simp only [intOf]; exact HMS.out
    ·have hq : ¬ ((i : Int) - 4 < 0) := by omega
     have HXE := Aside0.mk (show xs = subsTo m h.length g 4 by
      have h1 := HX.out
      rw [show 4 - i = 0 by omega] at h1
      simpa [subsTo] using h1)
     have HLX := Aside0.mk (show xs.length ≤ 4 by rw [HXE.out]; exact subsTo_len m h.length g 4)
     go_wp2_with ((with_reducible refine gate_builtin (b := .append) (xs := #[.tmp 66, .tmp 71]) rfl ?_); (try (refine gate_guard (by rfl) ?_; dsimp only)); at_builtin; refine Kd.R_append (Kd.int .i8) (w0 := wr) w.heap.size rfl (.tmp 66) (.tmp 71) 52 22 (.int .i8 0) 1 rfl Tryd.underlying52 infoI8 rfl (by decide) (by omega) _ xs x [.int .i8 x] (fun _ => True) (fun _ => False) rfl rfl rfl (fun _ hk => hk.elim) (fun _ _ => trivial) HO1.out (Below.refl _ _) HF1.out.size (by have := HLX.out; omega) ?_; intro v2 w2 ho2 hb2 hg2 hat2; generalize hO : xs ++ [x] = O at ho2; have HOX := Aside0.mk hO; clear hO; obtain ⟨A2, c2, rfl⟩ := Kd.R_slice ho2; have HO2 := Aside0.mk ho2; have HF2 := Aside0.mk (HF1.out.grown hg2 (fun k hk => Kd.R_base HO1.out k hk)); clear ho2 hb2 hg2 hat2)
     have HOE := Aside0.mk (show opts m h.length g 4 = O by unfold opts; rw [hxv, ← HXE.out]; exact HOX.out)
     have hOl : O.length ≤ 5 := by have := HLX.out; rw [← HOX.out]; simp; omega
     clear HX HO1 HF1 HXE HLX HOX
     go_loopw [74, 14, 15] (fun v74 v14 v15 wr => ∃ (j : Nat) (s1 : σ), j ≤ O.length ∧ v74 = .int .i64 j ∧ Aside0 (runL step s (goes m (enough H) d h g (O.take j)) = (s1, true)) ∧ Aside0 (I s1 wr) ∧ Aside0 (FrB B w2 wr)) (fun v74 _ _ _ => O.length - (intOf v74).toNat)
     case atStart => exact ⟨0, s, by omega, rfl, ⟨rfl⟩, ⟨HST.out s w w2 HI.out (HF2.out.mono (by simp))⟩, ⟨FrB.refl B w2⟩⟩
     case round =>
      obtain ⟨j, s1, hj, rfl, HRj, HIj, HFj⟩ := hrel
      have HHj := Aside0.mk (HFj.out.row (HF2.out.row HH.out (by simp)) HGH.out)
      have HFw : Aside0 (FrB (gh :: B) wS wr) := ⟨(HF.out.trans (HF2.out.mono (by simp))).trans (HFj.out.mono (by simp +contextual))⟩
      by_cases hlt2 : j < O.length
      ·obtain ⟨ad2, rfl, hcn⟩ := Kd.at_int (Kd.R_reads' (own_later HO2.out HFj.out (fun b hb => Nat.lt_of_lt_of_le (HLT.out b (by simp [hb])) hSz))).2.2 (j : Int) (by omega) (by omega)
       rw [Int.toNat_natCast] at hcn
       have HTK := Aside0.mk (show O.take (j + 1) = O.take j ++ [rd O (j : Int)] by rw [rd_get O j hlt2, List.take_succ_eq_append_getElem hlt2])
       have HMEM := Aside0.mk (show rd O (j : Int) ∈ opts m h.length g 4 by rw [HOE.out, rd_get O j hlt2]; exact List.getElem_mem _)
       have hn := HON.out (rd O (j : Int)) (by rw [HOE.out, rd_get O j hlt2]; exact List.getElem_mem _)
       generalize rd O (j : Int) = n at *
       have hnn := hn.1
       have hnN := hn.2
       have hE := HEN.out n
       have HOF := Aside0.mk (fun W hW => of_calls gh Hc n W hW hHc44 hnN hnn)
       have HAD := Aside0.mk (fun W hW => add_calls gh Hc n (-1) W hW hHc44 hnN (fun j hj => by have := HPB.out j hj; omega) (by omega))
       have HAB := Aside0.mk (fun W hW => add_calls gh (bump Hc n (-1)) n 1 W hW (by rw [bump_length]; exact hHc44) hnN (fun j hj => by have := HPB.out j hj; rw [rd_bump _ _ _ j (by omega)]; split <;> omega) (by omega))
       have HBB := Aside0.mk (bump_back Hc n hHc44)
       generalize rd Hc (slot n : Nat) = y at *
       clear hn
       by_cases hy : y = 0
       ·have HSK := Aside0.mk (show enough H h n = false by rw [hE]; simp [hy])
        subst hy
        clear hE
        go_wp2_with (go_at_call 105; refine (HOF.out _ HHj.out).mono ?_; rintro e wa ⟨rfl, hwa⟩; obtain rfl := hwa.symm)
        go_roundw
        case rel => exact ⟨j + 1, s1, by omega, by go_num, ⟨by rw [HTK.out]; exact run_skip HRj.out HSK.out⟩, HIj, HFj⟩
        case measure => simp [intOf]; omega
       ·have HSK := Aside0.mk (show enough H h n = true by rw [hE]; simp [hy])
        have hy0 : (y == 0) = false := by simpa using hy
        clear hE
        go_wp2_with (first
         | (go_at_call 105; refine (HOF.out _ HHj.out).mono ?_; rintro e wa ⟨rfl, hwa⟩; obtain rfl := hwa.symm)
         | (go_at_call 106; refine (HAD.out _ HHj.out).mono ?_; rintro e wb ⟨rfl, hfa⟩; have HFA := Aside0.mk hfa; clear hfa))
        have HFb : Aside0 (FrB (gh :: B) wS wb) := ⟨HFw.out.trans (FrB.fr1 HFA.out (by simp))⟩
        have HCB := Aside0.mk ((FrB.fr1 (B := [gh]) HFA.out (by simp)).row ((HFj.out.mono (B' := gh :: B) (by simp +contextual)).row ((HF2.out.mono (B' := gh :: B) (by simp)).row HCC.out HGC.out) HGC.out) (by have := HGC.out; simp at this ⊢; exact this.1))
        have HOB := Aside0.mk (own_later HO.out (((HF2.out.mono (B' := gh :: B) (by simp)).trans (HFj.out.mono (by simp +contextual))).trans (FrB.fr1 HFA.out (by simp))) (fun b hb => HLT.out b hb))
        have HSB := Aside0.mk (HFb.out.size)
        have HIB := Aside0.mk (HST.out s1 wr wb HIj.out (FrB.fr1 HFA.out (by simp)))
        have HEND : Aside0 (∀ w5 w6 w7 : World, FrB [] wb w5 → FrB B w5 w6 → Fr1 gh (vals .i64 (bump (bump Hc n (-1)) n 1)) 89 w6 w7 → FrB B wr w7) := ⟨fun w5 w6 w7 h5 h6 h7 => by
         refine FrB.same (g := gh) ((((FrB.fr1 HFA.out (by simp)).trans (h5.mono (by simp))).trans (h6.mono (by simp +contextual))).trans (FrB.fr1 h7 (by simp))) ?_
         rw [h7.now, HBB.out, HHj.out]⟩
        have HADV := Aside0.mk (fun w5 w6 (h5 : FrB [] wb w5) (h6 : FrB B w5 w6) => HAB.out w6 (h6.row (h5.row HFA.out.now (by simp)) HGH.out))
        have HREC := Aside0.mk (fun v2 w5 (ho : Own wS.heap.size w5 v2 (h ++ [n])) (h5 : FrB [] wb w5) => HIH.out n v2 s1 w5 hnN (HQ.out n HSK.out HMEM.out) ho (HFb.out.trans (h5.mono (by simp))) (h5.row HFA.out.now (by simp)) (HST.out s1 wb w5 HIB.out (h5.mono (by simp))))
        clear HAB HIH HAD HOF HHj HBB hy0
        refine start_ (n := 9) (S := fun w' => FrB [] wb w') (ds := [7]) #[false, false, false, false, false, false, false, false, false] (by kernel_rfl) rfl rfl (FrB.below (below_drew (Below.refl _ _))) (fun hHeld => ?_)
        refine pure_ (i := 1) (N := some 84) (v := ?_) (a' := ?_) #[false, true, false, false, false, false, false, false, false] rfl rfl (by kernel_rfl) (fun _ _ _ h => h) (Or.inl ⟨by rfl, ?_⟩) ?_ ?_
        rotate_left
        ·intro w'
         go_simp
         with_reducible rfl
        rotate_left
        ·simp only [Act.put, List.setIfInBounds_toArray, List.set_cons_zero, List.set_cons_succ, i64_w, i32_w]
         rfl
        refine pure_ (i := 3) (N := some 86) (v := ?_) (a' := ?_) #[false, true, false, true, false, false, false, false, false] rfl rfl (by kernel_rfl) (fun _ _ _ h => h) (Or.inl ⟨by rfl, ?_⟩) ?_ ?_
        rotate_left
        ·intro w'
         go_simp
         with_reducible rfl
        rotate_left
        ·simp only [Act.put, List.setIfInBounds_toArray, List.set_cons_zero, List.set_cons_succ, i64_w, i32_w]
         rfl
        refine pure_ (i := 6) (N := some 89) (v := ?_) (a' := ?_) #[false, true, false, true, false, false, true, false, false] rfl rfl (by kernel_rfl) (fun _ _ _ h => h) (Or.inl ⟨by rfl, ?_⟩) ?_ ?_
        rotate_left
        ·intro w'
         go_simp
         with_reducible rfl
        rotate_left
        ·simp only [Act.put, List.setIfInBounds_toArray, List.set_cons_zero, List.set_cons_succ, i64_w, i32_w]
         rfl
        refine take_ (i := 0) (N := some 83) (v := .func (.func 103) #[] #[.pointer (some ⟨gm, 0, none⟩), .pointer (some ⟨ge, 0, none⟩), .pointer (some ⟨gc, 0, none⟩), .pointer (some ⟨gh, 0, none⟩)]) (a' := ?_) #[true, true, false, true, false, false, true, false, false] rfl rfl (by kernel_rfl) (fun _ _ _ h => h) (Or.inl ⟨by rfl, ?_⟩) hHeld ?_ ?_
        ·intro w' s0
         exact y_cell (by rfl) (by rfl) oneFn (cell1 (s0.row HCB.out (by simp)))
        rotate_left
        ·simp only [Act.put, List.setIfInBounds_toArray, List.set_cons_zero, List.set_cons_succ, i64_w, i32_w]
         rfl
        refine two_ (i := 2) (j := 4) (Ni := some 85) (Nj := some 87) #[true, true, true, true, false, false, true, false, false] #[true, true, false, true, true, false, true, false, false] rfl rfl rfl rfl (by kernel_rfl) (by decide) (by decide) (fun K hK => ?_) (fun K hK => ?_)
        ·skip
         refine goes_ Tryd.func104 (by kernel_rfl) rfl #[.slice A h.length c] (by rfl) rfl rfl (by simp only [List.map_toArray, List.map_cons, List.map_nil]; rfl) ?_
         refine (cloneH_calls A c h _ (Kd.R_reads' (own_later HOB.out hHeld (by simp))).2.2 hHc (by omega)).mono ?_
         rintro e w3 ⟨v1, rfl, HO1, hb1⟩
         refine ⟨_, rfl, ?_⟩
         (try replace hgb := (hb1.block _ (lt_of_some hgb)).trans hgb)
         replace HO1 := own_lower HO1 hHeld.size
         refine hK.out _ _ (hHeld.trans (FrB.below hb1)) (fun hHeld => ?_)
         clear hK K
         refine norm_ (a' := ?_) ?_ ?_
         rotate_left
         ·show Act.put _ (some 85) _ = _
          simp only [Act.put, List.setIfInBounds_toArray, List.set_cons_zero, List.set_cons_succ, i64_w, i32_w]
          rfl
         refine one_ (i := 4) (N := some 87) #[true, true, true, true, true, false, true, false, false] rfl rfl (by kernel_rfl) (by decide) (fun K hK => ?_)
         refine s_lit1 (z := n) (by rfl) rfl rfl rfl Tryd.underlying58 oneI8 zeroI8 ?_
         intro gb w4 hgb hfb
         (try replace HO1 := own_later HO1 hfb (by simp))
         refine hK.out _ _ (hHeld.trans hfb) (fun hHeld => ?_)
         clear hK K
         refine norm_ (a' := ?_) ?_ ?_
         rotate_left
         ·show Act.put _ (some 87) _ = _
          simp only [Act.put, List.setIfInBounds_toArray, List.set_cons_zero, List.set_cons_succ, i64_w, i32_w]
          rfl
         refine one_ (i := 5) (N := some 88) #[true, true, true, true, true, true, true, false, false] rfl rfl (by kernel_rfl) (by decide) (fun K hK => ?_)
         refine Kd.R_append_rows_step (Kd.int .i8) (w0 := _) wb.heap.size (by rfl) (.tmp 85) (.tmp 87) 58 22 (.int .i8 0) 1 rfl Tryd.underlying58 infoI8 rfl (by decide) (by omega) v1 h [n] (some ⟨gb, 0, none⟩) 1 1 (fun _ => True) (fun _ => False) rfl rfl HO1 (row1 hgb) (fun _ _ h => h) (fun _ h => h.elim) (fun _ _ => trivial) (Below.refl _ _) hHeld.size (by omega) ?_
         intro v3 w5 HO2 hb5 hg5 hat5
         refine hK.out _ _ (hHeld.grown hg5 (fun k hk => Kd.R_base HO1 k hk)) (fun hHeld => ?_)
         clear hK K
         refine norm_ (a' := ?_) ?_ ?_
         rotate_left
         ·show Act.put _ (some 88) _ = _
          simp only [Act.put, List.setIfInBounds_toArray, List.set_cons_zero, List.set_cons_succ, i64_w, i32_w]
          rfl
         refine last_ (i := 7) (N := some 90) #[true, true, true, true, true, true, true, true, false] rfl rfl (by kernel_rfl) (by decide) (fun K hK => ?_)
         refine callC_ 103 #[.pointer (some ⟨gm, 0, none⟩), .pointer (some ⟨ge, 0, none⟩), .pointer (some ⟨gc, 0, none⟩), .pointer (some ⟨gh, 0, none⟩)] #[v3, .int .i64 g] #[v3, .int .i64 g, .pointer (some ⟨gm, 0, none⟩), .pointer (some ⟨ge, 0, none⟩), .pointer (some ⟨gc, 0, none⟩), .pointer (some ⟨gh, 0, none⟩)] (by simp) (by rfl) rfl (by rfl) (by rfl) (by simp only [List.map_toArray, List.map_cons, List.map_nil]; rfl) (seek_enters _ _) ?_
         refine (HREC.out v3 _ (own_lower HO2 HSB.out) hHeld).mono ?_
         rintro e w6 ⟨s2, on, rfl, hrun, hI6, hf6⟩
         refine ⟨_, rfl, ?_⟩
         refine hK.out _ _ ?_
         clear hK K
         refine norm_ (a' := ?_) ?_ ?_
         rotate_left
         ·show Act.put _ (some 90) _ = _
          simp only [Act.put, List.setIfInBounds_toArray, List.set_cons_zero, List.set_cons_succ, i64_w, i32_w]
          rfl
         refine pure_ (i := 8) (N := some 15) (v := ?_) (a' := ?_) #[true, true, true, true, true, true, true, true, true] rfl rfl (by kernel_rfl) (fun _ _ _ h => h) (Or.inl ⟨by rfl, ?_⟩) ?_ ?_
         rotate_left
         ·intro w'
          go_simp
          with_reducible rfl
         rotate_left
         ·simp only [Act.put, List.setIfInBounds_toArray, List.set_cons_zero, List.set_cons_succ, i64_w, i32_w]
          rfl
         refine done_ (by kernel_rfl) ?_
         have HRUN := Aside0.mk hrun
         have HI6 := Aside0.mk hI6
         have HF6 := Aside0.mk hf6
         have HAV := Aside0.mk (HADV.out _ _ hHeld hf6)
         have HH5 := Aside0.mk hHeld
         clear hrun hI6 hf6 hHeld hb1 hb5 hg5 hat5
         cases on
         ·go_wp2_with (go_at_call 106; refine HAV.out.mono ?_; rintro e w7 ⟨rfl, hfb7⟩; have HFB := Aside0.mk hfb7; clear hfb7)
          go_ret
          have hfin : runL step s (goes m (enough H) d h g (opts m h.length g 4)) = (s2, false) := by rw [HOE.out, ← List.take_append_drop (j + 1) O]; exact run_end (by rw [HTK.out, run_more HRj.out HSK.out]; exact HRUN.out)
          have hfr := (HF2.out.mono (by simp)).trans (HFj.out.trans (HEND.out _ _ _ HH5.out HF6.out HFB.out))
          have hst := HST.out s2 _ _ HI6.out (FrB.fr1 (B := [gh]) HFB.out (by simp))
          first
           | exact ⟨s2, Or.inl ⟨rfl, hfin, hst, hfr⟩⟩
           | exact ⟨s2, false, rfl, hfin, hst, hfr⟩
         ·go_wp2_with (go_at_call 106; refine HAV.out.mono ?_; rintro e w7 ⟨rfl, hfb7⟩; have HFB := Aside0.mk hfb7; clear hfb7)
          go_roundw
          case rel => exact ⟨j + 1, s2, by omega, by go_num, ⟨by rw [HTK.out, run_more HRj.out HSK.out]; exact HRUN.out⟩, ⟨HST.out s2 _ _ HI6.out (FrB.fr1 (B := [gh]) HFB.out (by simp))⟩, ⟨HFj.out.trans (HEND.out _ _ _ HH5.out HF6.out HFB.out)⟩⟩
          case measure => simp [intOf]; omega
        ·skip
         refine s_lit1 (z := n) (by rfl) rfl rfl rfl Tryd.underlying58 oneI8 zeroI8 ?_
         intro gb w4 hgb hfb
         (try replace HO1 := own_later HO1 hfb (by simp))
         refine hK.out _ _ (hHeld.trans hfb) (fun hHeld => ?_)
         clear hK K
         refine norm_ (a' := ?_) ?_ ?_
         rotate_left
         ·show Act.put _ (some 87) _ = _
          simp only [Act.put, List.setIfInBounds_toArray, List.set_cons_zero, List.set_cons_succ, i64_w, i32_w]
          rfl
         refine one_ (i := 2) (N := some 85) #[true, true, true, true, true, false, true, false, false] rfl rfl (by kernel_rfl) (by decide) (fun K hK => ?_)
         refine goes_ Tryd.func104 (by kernel_rfl) rfl #[.slice A h.length c] (by rfl) rfl rfl (by simp only [List.map_toArray, List.map_cons, List.map_nil]; rfl) ?_
         refine (cloneH_calls A c h _ (Kd.R_reads' (own_later HOB.out hHeld (by simp))).2.2 hHc (by omega)).mono ?_
         rintro e w3 ⟨v1, rfl, HO1, hb1⟩
         refine ⟨_, rfl, ?_⟩
         (try replace hgb := (hb1.block _ (lt_of_some hgb)).trans hgb)
         replace HO1 := own_lower HO1 hHeld.size
         refine hK.out _ _ (hHeld.trans (FrB.below hb1)) (fun hHeld => ?_)
         clear hK K
         refine norm_ (a' := ?_) ?_ ?_
         rotate_left
         ·show Act.put _ (some 85) _ = _
          simp only [Act.put, List.setIfInBounds_toArray, List.set_cons_zero, List.set_cons_succ, i64_w, i32_w]
          rfl
         refine one_ (i := 5) (N := some 88) #[true, true, true, true, true, true, true, false, false] rfl rfl (by kernel_rfl) (by decide) (fun K hK => ?_)
         refine Kd.R_append_rows_step (Kd.int .i8) (w0 := _) wb.heap.size (by rfl) (.tmp 85) (.tmp 87) 58 22 (.int .i8 0) 1 rfl Tryd.underlying58 infoI8 rfl (by decide) (by omega) v1 h [n] (some ⟨gb, 0, none⟩) 1 1 (fun _ => True) (fun _ => False) rfl rfl HO1 (row1 hgb) (fun _ _ h => h) (fun _ h => h.elim) (fun _ _ => trivial) (Below.refl _ _) hHeld.size (by omega) ?_
         intro v3 w5 HO2 hb5 hg5 hat5
         refine hK.out _ _ (hHeld.grown hg5 (fun k hk => Kd.R_base HO1 k hk)) (fun hHeld => ?_)
         clear hK K
         refine norm_ (a' := ?_) ?_ ?_
         rotate_left
         ·show Act.put _ (some 88) _ = _
          simp only [Act.put, List.setIfInBounds_toArray, List.set_cons_zero, List.set_cons_succ, i64_w, i32_w]
          rfl
         refine last_ (i := 7) (N := some 90) #[true, true, true, true, true, true, true, true, false] rfl rfl (by kernel_rfl) (by decide) (fun K hK => ?_)
         refine callC_ 103 #[.pointer (some ⟨gm, 0, none⟩), .pointer (some ⟨ge, 0, none⟩), .pointer (some ⟨gc, 0, none⟩), .pointer (some ⟨gh, 0, none⟩)] #[v3, .int .i64 g] #[v3, .int .i64 g, .pointer (some ⟨gm, 0, none⟩), .pointer (some ⟨ge, 0, none⟩), .pointer (some ⟨gc, 0, none⟩), .pointer (some ⟨gh, 0, none⟩)] (by simp) (by rfl) rfl (by rfl) (by rfl) (by simp only [List.map_toArray, List.map_cons, List.map_nil]; rfl) (seek_enters _ _) ?_
         refine (HREC.out v3 _ (own_lower HO2 HSB.out) hHeld).mono ?_
         rintro e w6 ⟨s2, on, rfl, hrun, hI6, hf6⟩
         refine ⟨_, rfl, ?_⟩
         refine hK.out _ _ ?_
         clear hK K
         refine norm_ (a' := ?_) ?_ ?_
         rotate_left
         ·show Act.put _ (some 90) _ = _
          simp only [Act.put, List.setIfInBounds_toArray, List.set_cons_zero, List.set_cons_succ, i64_w, i32_w]
          rfl
         refine pure_ (i := 8) (N := some 15) (v := ?_) (a' := ?_) #[true, true, true, true, true, true, true, true, true] rfl rfl (by kernel_rfl) (fun _ _ _ h => h) (Or.inl ⟨by rfl, ?_⟩) ?_ ?_
         rotate_left
         ·intro w'
          go_simp
          with_reducible rfl
         rotate_left
         ·simp only [Act.put, List.setIfInBounds_toArray, List.set_cons_zero, List.set_cons_succ, i64_w, i32_w]
          rfl
         refine done_ (by kernel_rfl) ?_
         have HRUN := Aside0.mk hrun
         have HI6 := Aside0.mk hI6
         have HF6 := Aside0.mk hf6
         have HAV := Aside0.mk (HADV.out _ _ hHeld hf6)
         have HH5 := Aside0.mk hHeld
         clear hrun hI6 hf6 hHeld hb1 hb5 hg5 hat5
         cases on
         ·go_wp2_with (go_at_call 106; refine HAV.out.mono ?_; rintro e w7 ⟨rfl, hfb7⟩; have HFB := Aside0.mk hfb7; clear hfb7)
          go_ret
          have hfin : runL step s (goes m (enough H) d h g (opts m h.length g 4)) = (s2, false) := by rw [HOE.out, ← List.take_append_drop (j + 1) O]; exact run_end (by rw [HTK.out, run_more HRj.out HSK.out]; exact HRUN.out)
          have hfr := (HF2.out.mono (by simp)).trans (HFj.out.trans (HEND.out _ _ _ HH5.out HF6.out HFB.out))
          have hst := HST.out s2 _ _ HI6.out (FrB.fr1 (B := [gh]) HFB.out (by simp))
          first
           | exact ⟨s2, Or.inl ⟨rfl, hfin, hst, hfr⟩⟩
           | exact ⟨s2, false, rfl, hfin, hst, hfr⟩
         ·go_wp2_with (go_at_call 106; refine HAV.out.mono ?_; rintro e w7 ⟨rfl, hfb7⟩; have HFB := Aside0.mk hfb7; clear hfb7)
          go_roundw
          case rel => exact ⟨j + 1, s2, by omega, by go_num, ⟨by rw [HTK.out, run_more HRj.out HSK.out]; exact HRUN.out⟩, ⟨HST.out s2 _ _ HI6.out (FrB.fr1 (B := [gh]) HFB.out (by simp))⟩, ⟨HFj.out.trans (HEND.out _ _ _ HH5.out HF6.out HFB.out)⟩⟩
          case measure => simp [intOf]; omega
      ·have HJ := Aside0.mk (show O.take j = O by rw [List.take_of_length_le (by omega)])
       have hjn : ¬ ((j : Int) < (O.length : Int)) := by omega
       go_wp2_with fail
       go_ret
       have hfin : runL step s (goes m (enough H) d h g (opts m h.length g 4)) = (s1, true) := by rw [HOE.out, ← HJ.out]; exact HRj.out
       first
        | exact ⟨s1, Or.inr ⟨rfl, hfin, HIj.out, (HF2.out.mono (by simp)).trans HFj.out⟩⟩
        | exact ⟨s1, true, rfl, hfin, HIj.out, (HF2.out.mono (by simp)).trans HFj.out⟩
end
end Go.Proofs.YtdgecgfgekmhcaaDoor.Arr
namespace Go.Proofs.YtdgecgfgekmhcaaDoor.Arr
open Go.RowKit Go.Proofs.YtdgecgfgekmhcaaDoorW.PrintWords Go.Proofs.YtdgecgfgekmhcaaDoorW.PrintLast Go.Proofs.YtdgecgfgekmhcaaDoorW.PrintMore Go.Proofs.YtdgecgfgekmhcaaDoor.U Go.Proofs.YtdgecgfgekmhcaaDoor.J
set_option linter.unusedVariables false
set_option linter.unusedSimpArgs false
theorem zeroFn : ZeroTy Tryd.prog 129 #[.nilFunc] := ⟨.nilFunc, by kernel_rfl, rfl⟩
section
variable {P : Program} {ops : Array Oper} {rest : List Oper} {o : Oper} {a : Act} {w0 w : World} {M : List Ent} {Q : Exit → Act → World → Prop}
theorem st_one (hgd : o.guard = none) (ty : TypeId) (x y : Operand) (ho : o.op = .store ty x y) (hm : Mem w0 w M) {g : Nat} {v : Value} (hx : a.eval x = .pointer (some ⟨g, 0, none⟩)) (hy : a.eval y = v)
  (n : Nat) {u : Value} {t : TypeId} {own : Bool} (hn : M[n]? = some ⟨g, #[u], t, own⟩) (h1 : OneTy P ty) (hv : v.cells = #[v]) (hv1 : v.oneCell' = true)
  (h : ∀ w1, Mem w0 w1 (M.set n ⟨g, #[v], t, own⟩) → wpList P ops Q rest (a.put o.dst undef) w1) : wpList P ops Q (o :: rest) a w := by
 refine wpList_plain hgd fun K hK => ?_
 unfold Oper.wp execOp
 have hst : (storeVar ty ⟨g, 0, none⟩ v).run P w = .ok () (w.setCell ⟨g, 0, none⟩ v) := run_store1 h1.2 hv ((hm.cell hn 0).trans rfl) (hm.frozen hn 0) hv1
 simp only [ho, hx, hy, Instr.storeAt, Instr.sureAddr, Sem.run_bind, Sem.run_pure, Result.andThen_ok, hst]
 exact hK _ _ (h _ (hm.set hn 0 v))
theorem st_cell (hgd : o.guard = none) (ty : TypeId) (x : Operand) (ho : o.op = .load ty x) (hm : Mem w0 w M) {g : Nat} (hx : a.eval x = .pointer (some ⟨g, 0, none⟩))
  (n : Nat) {v : Value} {t : TypeId} {own : Bool} (hn : M[n]? = some ⟨g, #[v], t, own⟩) (h1 : OneTy P ty)
  (h : wpList P ops Q rest (a.put o.dst v) w) : wpList P ops Q (o :: rest) a w := by
 refine wpList_plain hgd fun K hK => ?_
 unfold Oper.wp
 rw [y_cell ho hx h1 (cell1 (hm.mem hn))]
 exact hK _ _ h
end
theorem Mem.own_ge {w0 w : World} {M : List Ent} (h : Mem w0 w M) (n : Nat) {g : Nat} {cs : Array Value} {t : TypeId} (hn : M[n]? = some ⟨g, cs, t, true⟩) : w0.heap.size ≤ g := (h.ent _ (List.mem_of_getElem? hn)).2 rfl
theorem Mem.ne {w0 w : World} {M : List Ent} (h : Mem w0 w M) (m n : Nat) (hmn : m ≠ n) {g g' : Nat} {cs cs' : Array Value} {t t' : TypeId} {o o' : Bool} (hm : M[m]? = some ⟨g, cs, t, o⟩) (hn : M[n]? = some ⟨g', cs', t', o'⟩) : g ≠ g' := fun e => hmn (h.apart m n _ _ hm hn e)
theorem not_in {g g' b : Nat} {B : List Nat} (h : g ≠ g') (hB : ∀ k ∈ B, k < b) (hg : b ≤ g) : g ∉ g' :: B := fun hm => by
 rcases List.mem_cons.1 hm with e | e
 ·exact h e
 ·have := hB g e; omega
theorem FrB.over {B : List Nat} {w w1 w2 : World} {g : Nat} (h : FrB [] w w1) (h2 : FrB (g :: B) w1 w2) (hg : w.heap.size ≤ g) : FrB B w w2 :=
 ⟨h2.os.trans h.os, h2.tape.trans h.tape, h2.output.trans h.output, Nat.le_trans h.size h2.size, fun k hk hn => (h2.other k (Nat.lt_of_lt_of_le hk h.size) (fun hm => by
  rcases List.mem_cons.1 hm with e | e
  ·omega
  ·exact hn e)).trans (h.other k hk (by simp))⟩
theorem FrB.past {B : List Nat} {w w1 w2 : World} (h : FrB [] w w1) (h2 : FrB B w1 w2) (hB : ∀ b ∈ B, w.heap.size ≤ b) : FrB [] w w2 :=
 ⟨h2.os.trans h.os, h2.tape.trans h.tape, h2.output.trans h.output, Nat.le_trans h.size h2.size, fun k hk _ => (h2.other k (Nat.lt_of_lt_of_le hk h.size) (fun hm => by have := hB k hm; omega)).trans (h.other k hk (by simp))⟩
set_option maxHeartbeats 8000000 in
set_option maxRecDepth 100000 in
theorem hoistsQ_calls {σ : Type} (step : σ → List Int → σ × Bool) (I : Nat → σ → World → Prop) (Q : List Int → Prop) (fe : FuncId) (capE : Array Value) (B : List Nat) (s : σ) (Am : Option Addr) (cm : Nat) (m H : List Int) (w : World)
  (hge : ∀ (a : Array Value) (W : World), (callFunc fe a).run Tryd.prog W = .ok (.enter fe a) W) (hB : ∀ b ∈ B, b < w.heap.size) (hM : ∀ W, FrB B w W → Kd.C (Kd.int .i8) W Am m.length m) (hmc : m.length ≤ cm)
  (hm0 : ∀ x ∈ m, PlainN x) (hml : m.length ≤ 1000) (hHl : H.length = 44) (hHb : ∀ j : Nat, j < 44 → 0 ≤ rd H (j : Int) ∧ rd H (j : Int) ≤ 1000000)
  (hI : ∀ w1, FrB [] w w1 → I w1.heap.size s w1)
  (hQ : ∀ x ∈ leaves m 4 (enough H) m.length [] 0, Q x)
  (hcall : ∀ (base : Nat) (s : σ) (h : List Int) (v : Value) (w1 : World), Q h → I base s w1 → Own base w1 v h → (∀ b ∈ B, b < base) → w.heap.size ≤ base → base ≤ w1.heap.size → Calls Tryd.prog fe (#[v] ++ capE) w1 fun e w' => e = .returned (.bool (step s h).2) ∧ I base (step s h).1 w' ∧ FrB B w1 w')
  (hstab : ∀ (base : Nat) (s : σ) (gh : Nat) (w1 w2 : World), I base s w1 → gh < base → gh ∉ B → w.heap.size ≤ gh → FrB [gh] w1 w2 → I base s w2) :
  Calls Tryd.prog 83 #[.slice Am m.length cm, .agg (vals .i64 H), .func (.func fe) #[] capE] w fun e w' =>
   ∃ base s' on, e = .returned (.bool on) ∧ runL step s (leaves m 4 (enough H) m.length [] 0) = (s', on) ∧ w.heap.size ≤ base ∧ base ≤ w'.heap.size ∧ I base s' w' ∧ FrB B w w' := by
 have hm := Mem.start w
 have hse := seek_enters
 have HGE := Aside0.mk hge
 have HB := Aside0.mk hB
 have HM := Aside0.mk hM
 have HP := Aside0.mk hm0
 have HHB := Aside0.mk hHb
 have HI := Aside0.mk hI
 have HCA := Aside0.mk hcall
 have HQL := Aside0.mk hQ
 have HST := Aside0.mk hstab
 clear hge hB hM hm0 hHb hI hcall hstab hQ
 have HFIN : Aside0 (∀ P : Prop, P → P) := ⟨fun _ h => h⟩
 go_enter Tryd.func83, Tryd.ntmps83
 go_wp2_with (first
  | ((with_reducible refine gt_alloc 7 129 ?_); refine st_alloc rfl 7 rfl 129 rfl hm zeroFn ?_; clear hm; intro g7 w7 hm)
  | ((with_reducible refine gt_store 129 ?_); refine st_one rfl 129 _ _ rfl hm rfl rfl 0 rfl oneFn rfl rfl ?_; clear hm; intro ws hm; simp only [List.set_cons_zero] at hm)
  | ((with_reducible refine gt_load 129 ?_); refine st_cell rfl 129 _ rfl hm rfl 0 rfl oneFn ?_)
  | (first | fail | ((with_reducible refine gt_box 3 53 ?_); refine st_box rfl 3 rfl 53 _ rfl hm rfl rfl ?_; clear hm; intro g3 w3 hm) | ((with_reducible refine gt_box 4 89 ?_); refine st_box rfl 4 rfl 89 _ rfl hm (v := .agg (vals _ _)) rfl (cs := vals _ _) rfl ?_; clear hm; intro g4 w4 hm) | ((with_reducible refine gt_box 5 112 ?_); refine st_box rfl 5 rfl 112 _ rfl hm rfl rfl ?_; clear hm; intro g5 w5 hm)))
 have o3 := hm.own_ge 3 rfl
 have o4 := hm.own_ge 2 rfl
 have o5 := hm.own_ge 1 rfl
 have o7 := hm.own_ge 0 rfl
 have n34 := hm.ne 3 2 (by decide) rfl rfl
 have n54 := hm.ne 1 2 (by decide) rfl rfl
 have n74 := hm.ne 0 2 (by decide) rfl rfl
 have h3 := hm.mem (n := 3) rfl
 have h4 := hm.mem (n := 2) rfl
 have h5 := hm.mem (n := 1) rfl
 have h7 := hm.mem (n := 0) rfl
 have hsz := hm.size
 have hf0 : FrB [] w ws := FrB.below (hm.done rfl)
 have l4 := lt_of_some h4
 have hlt : ∀ b ∈ g4 :: B, b < ws.heap.size := fun b hb => by
  rcases List.mem_cons.1 hb with e | e
  ·omega
  ·have := HB.out b e; omega
 refine (seek_calls (step := step) (I := I ws.heap.size) (Q := Q) (fe := fe) (capE := capE) (B := B) (wS := ws) (gm := g3) (gh := g4) (ge := g5) (gc := g7) (H := H) HGE.out h3 h5 h7 (not_in n34 HB.out o3) (not_in n54 HB.out o5) (not_in n74 HB.out o7) (fun hb => by have := HB.out g4 hb; omega) hlt
  (fun W hW => HM.out W (hf0.over hW o4)) hmc HP.out hml hHl HHB.out (fun s h v w1 hq hI1 ho hf => HCA.out ws.heap.size s h v w1 hq hI1 ho (fun b hb => hlt b (List.mem_cons_of_mem _ hb)) hsz hf.size)
  (fun s w1 w2 hI1 hf => HST.out ws.heap.size s g4 w1 w2 hI1 l4 (fun hb => by have := HB.out g4 hb; omega) o4 hf) m.length [] 0 (.slice none 0 0) s ws (by simp) (by omega) (by simp) (FrB.refl _ _) h4 (HI.out ws hf0) (Kd.R_nil _ _ _ _ _) HQL.out).mono ?_
 rintro e w6 ⟨s', on, rfl, hrun, hI6, hf6⟩
 have HRUN := Aside0.mk hrun
 have HI6 := Aside0.mk hI6
 have HF6 := Aside0.mk ((hf0.mono (B' := B) (by simp)).trans hf6)
 have hs6 := hf6.size
 clear hrun hI6 hf6
 have HW := Aside0.mk (Nat.le_trans hsz (Nat.le_refl ws.heap.size))
 go_wp2_with fail
 go_ret
 exact ⟨ws.heap.size, s', on, rfl, HRUN.out, HW.out, hs6, HI6.out, HF6.out⟩
theorem hoists_calls {σ : Type} (step : σ → List Int → σ × Bool) (I : Nat → σ → World → Prop) (fe : FuncId) (capE : Array Value) (B : List Nat) (s : σ) (Am : Option Addr) (cm : Nat) (m H : List Int) (w : World)
  (hge : ∀ (a : Array Value) (W : World), (callFunc fe a).run Tryd.prog W = .ok (.enter fe a) W) (hB : ∀ b ∈ B, b < w.heap.size) (hM : ∀ W, FrB B w W → Kd.C (Kd.int .i8) W Am m.length m) (hmc : m.length ≤ cm)
  (hm0 : ∀ x ∈ m, PlainN x) (hml : m.length ≤ 1000) (hHl : H.length = 44) (hHb : ∀ j : Nat, j < 44 → 0 ≤ rd H (j : Int) ∧ rd H (j : Int) ≤ 1000000)
  (hI : ∀ w1, FrB [] w w1 → I w1.heap.size s w1)
  (hcall : ∀ (base : Nat) (s : σ) (h : List Int) (v : Value) (w1 : World), I base s w1 → Own base w1 v h → (∀ b ∈ B, b < base) → w.heap.size ≤ base → base ≤ w1.heap.size → Calls Tryd.prog fe (#[v] ++ capE) w1 fun e w' => e = .returned (.bool (step s h).2) ∧ I base (step s h).1 w' ∧ FrB B w1 w')
  (hstab : ∀ (base : Nat) (s : σ) (gh : Nat) (w1 w2 : World), I base s w1 → gh < base → gh ∉ B → w.heap.size ≤ gh → FrB [gh] w1 w2 → I base s w2) :
  Calls Tryd.prog 83 #[.slice Am m.length cm, .agg (vals .i64 H), .func (.func fe) #[] capE] w fun e w' =>
   ∃ base s' on, e = .returned (.bool on) ∧ runL step s (leaves m 4 (enough H) m.length [] 0) = (s', on) ∧ w.heap.size ≤ base ∧ base ≤ w'.heap.size ∧ I base s' w' ∧ FrB B w w' :=
 hoistsQ_calls step I (fun _ => True) fe capE B s Am cm m H w hge hB hM hmc hm0 hml hHl hHb hI (fun _ _ => trivial) (fun base s h v w1 _ => hcall base s h v w1) hstab
end Go.Proofs.YtdgecgfgekmhcaaDoor.Arr
namespace Go.Proofs.YtdgecgfgekmhcaaDoor.Arr
open Go.RowKit Go.Proofs.YtdgecgfgekmhcaaDoorW.PrintWords Go.Proofs.YtdgecgfgekmhcaaDoorW.PrintLast Go.Proofs.YtdgecgfgekmhcaaDoorW.PrintMore Go.Proofs.YtdgecgfgekmhcaaDoor.U Go.Proofs.YtdgecgfgekmhcaaDoor.J
set_option linter.unusedVariables false
set_option linter.unusedSimpArgs false
theorem oneHoist : OneTy Tryd.prog 58 := ⟨by kernel_rfl, by kernel_rfl⟩
theorem oneBool : OneTy Tryd.prog 4 := ⟨by kernel_rfl, by kernel_rfl⟩
theorem zeroHoist : ZeroTy Tryd.prog 58 #[.slice none 0 0] := ⟨.slice none 0 0, by kernel_rfl, rfl⟩
theorem zeroBool : ZeroTy Tryd.prog 4 #[.bool false] := ⟨.bool false, by kernel_rfl, rfl⟩
theorem Mem.frB {w0 w : World} {M : List Ent} (h : Mem w0 w M) : FrB (M.map (·.g)) w0 w := ⟨h.os, h.tape, h.output, h.size, fun k hk hn => h.block k hk fun e he hg => hn (by rw [← hg]; exact List.mem_map_of_mem he)⟩
def FoundI (g6 g7 : Nat) (base : Nat) (s : Option (List Int)) (w : World) : Prop := ∃ (v : Value) (b : Bool), w.heap[g6]? = some (.cells #[v] 58 (0, 0)) ∧ w.heap[g7]? = some (.cells #[.bool b] 4 (0, 0)) ∧
 (match s with | none => v = .slice none 0 0 ∧ b = false | some h => b = true ∧ Own base w v h)
def foundStep (_ : Option (List Int)) (h : List Int) : Option (List Int) × Bool := (some h, false)
theorem runL_found (l : List (List Int)) : runL foundStep none l = (l.head?, l.isEmpty) := by
 cases l <;> rfl
theorem first1_enters (a : Array Value) (W : World) : (callFunc 84 a).run Tryd.prog W = .ok (.enter 84 a) W := by kernel_rfl
set_option maxHeartbeats 4000000 in
set_option maxRecDepth 100000 in
theorem first1_calls (g6 g7 base : Nat) (s : Option (List Int)) (h : List Int) (v : Value) (w : World) (hI : FoundI g6 g7 base s w) (ho : Own base w v h) (h6 : g6 < base) (h7 : g7 < base) (hne : g6 ≠ g7) :
  Calls Tryd.prog 84 (#[v] ++ #[.pointer (some ⟨g6, 0, none⟩), .pointer (some ⟨g7, 0, none⟩)]) w fun e w' => e = .returned (.bool (foundStep s h).2) ∧ FoundI g6 g7 base (foundStep s h).1 w' ∧ FrB [g6, g7] w w' := by
 obtain ⟨v0, b0, c6, c7, _⟩ := hI
 have hm := Mem.given2 c6 c7 hne
 have HO := Aside0.mk ho
 obtain ⟨A, c, rfl⟩ := Kd.R_slice ho
 clear ho c6 c7
 show Calls Tryd.prog 84 #[.slice A h.length c, .pointer (some ⟨g6, 0, none⟩), .pointer (some ⟨g7, 0, none⟩)] w _
 unfold FoundI foundStep
 go_enter Tryd.func84, Tryd.ntmps84
 go_wp2_with (first
  | ((with_reducible refine gt_store 58 ?_); refine st_one rfl 58 _ _ rfl hm rfl rfl 0 rfl oneHoist rfl rfl ?_; clear hm; intro w1 hm; simp only [List.set_cons_zero, List.set_cons_succ] at hm)
  | ((with_reducible refine gt_store 4 ?_); refine st_one rfl 4 _ _ rfl hm rfl rfl 1 rfl oneBool rfl rfl ?_; clear hm; intro w2 hm; simp only [List.set_cons_zero, List.set_cons_succ] at hm))
 go_ret
 exact ⟨rfl, ⟨_, _, hm.mem (n := 0) rfl, hm.mem (n := 1) rfl, rfl, own_later HO.out hm.frB (by simp; omega)⟩, hm.frB⟩
def FirstRes (base : Nat) (s : Option (List Int)) (v : Value) (b : Bool) (w : World) : Prop := match s with | none => v = .slice none 0 0 ∧ b = false | some h => b = true ∧ Own base w v h
set_option maxHeartbeats 8000000 in
set_option maxRecDepth 100000 in
theorem first_calls (Am : Option Addr) (cm : Nat) (m H : List Int) (w : World) (hr : Kd.C (Kd.int .i8) w Am m.length m) (hmc : m.length ≤ cm) (hm0 : ∀ x ∈ m, PlainN x) (hml : m.length ≤ 1000) (hHl : H.length = 44) (hHb : ∀ j : Nat, j < 44 → 0 ≤ rd H (j : Int) ∧ rd H (j : Int) ≤ 1000000) :
  Calls Tryd.prog 62 #[.slice Am m.length cm, .agg (vals .i64 H)] w fun e w' => ∃ (v : Value) (b : Bool), e = .returned (.tuple #[v, .bool b]) ∧
   FirstRes w.heap.size (leaves m 4 (enough H) m.length [] 0).head? v b w' ∧ Below w.heap.size w w' := by
 have hm := Mem.start w
 have HR := Aside0.mk hr
 have HP := Aside0.mk hm0
 have HHB := Aside0.mk hHb
 clear hr hm0 hHb
 go_enter Tryd.func62, Tryd.ntmps62
 go_wp2_with (first
  | ((with_reducible refine gt_alloc 6 58 ?_); refine st_alloc rfl 6 rfl 58 rfl hm zeroHoist ?_; clear hm; intro g6 w6 hm)
  | ((with_reducible refine gt_alloc 7 4 ?_); refine st_alloc rfl 7 rfl 4 rfl hm zeroBool ?_; clear hm; intro g7 w7 hm)
  | ((with_reducible refine gt_store 58 ?_); refine st_one rfl 58 _ _ rfl hm rfl rfl 1 rfl oneHoist rfl rfl ?_; clear hm; intro w1 hm; simp only [List.set_cons_zero, List.set_cons_succ] at hm)
  | ((with_reducible refine gt_store 4 ?_); refine st_one rfl 4 _ _ rfl hm rfl rfl 0 rfl oneBool rfl rfl ?_; clear hm; intro w2 hm; simp only [List.set_cons_zero, List.set_cons_succ] at hm)
  | (first | fail | ((with_reducible refine gt_box 3 89 ?_); refine st_box rfl 3 rfl 89 _ rfl hm (v := .agg (vals _ _)) rfl (cs := vals _ _) rfl ?_; clear hm; intro g3 w3 hm) | ((with_reducible refine gt_load 89 ?_); (first | (refine st_load rfl 89 _ rfl hm rfl 0 rfl agg89 (by first | omega | assumption | (simp only [lens]; first | omega | assumption) | (simp [lens]; done) | (simp [lens]; omega)) ?_) | (refine st_load rfl 89 _ rfl hm rfl 1 rfl agg89 (by first | omega | assumption | (simp only [lens]; first | omega | assumption) | (simp [lens]; done) | (simp [lens]; omega)) ?_) | (refine st_load rfl 89 _ rfl hm rfl 2 rfl agg89 (by first | omega | assumption | (simp only [lens]; first | omega | assumption) | (simp [lens]; done) | (simp [lens]; omega)) ?_) | (refine st_load rfl 89 _ rfl hm rfl 3 rfl agg89 (by first | omega | assumption | (simp only [lens]; first | omega | assumption) | (simp [lens]; done) | (simp [lens]; omega)) ?_) | (refine st_load rfl 89 _ rfl hm rfl 4 rfl agg89 (by first | omega | assumption | (simp only [lens]; first | omega | assumption) | (simp [lens]; done) | (simp [lens]; omega)) ?_)))))
 replace hm : Mem w w2 [⟨g7, #[.bool false], 4, true⟩, ⟨g6, #[.slice none 0 0], 58, true⟩, ⟨g3, vals .i64 H, 89, true⟩] := hm
 have o6 := hm.own_ge 1 rfl
 have o7 := hm.own_ge 0 rfl
 have h6 := hm.mem (n := 1) rfl
 have h7 := hm.mem (n := 0) rfl
 have l6 := lt_of_some h6
 have l7 := lt_of_some h7
 have n67 := hm.ne 1 0 (by decide) rfl rfl
 have hf0 : FrB [] w w2 := FrB.below (hm.done rfl)
 have HF0 := Aside0.mk hf0
 have hpast : ∀ W, FrB [g6, g7] w2 W → FrB [] w W := fun W hW => hf0.past hW (fun b hb => by
  simp only [List.mem_cons, List.not_mem_nil, or_false] at hb
  rcases hb with rfl | rfl
  ·exact o6
  ·exact o7)
 refine (hoists_calls foundStep (FoundI g6 g7) 84 #[.pointer (some ⟨g6, 0, none⟩), .pointer (some ⟨g7, 0, none⟩)] [g6, g7] none Am cm m H w2 first1_enters
  (fun b hb => by
   simp only [List.mem_cons, List.not_mem_nil, or_false] at hb
   rcases hb with rfl | rfl
   ·exact l6
   ·exact l7) (fun W hW => Kd.C_below HR.out (hpast W hW).to_below) hmc HP.out hml hHl HHB.out
  (fun w1 hf => ⟨.slice none 0 0, false, hf.row h6 (by simp), hf.row h7 (by simp), rfl, rfl⟩)
  (fun base s h v w1 hI ho hB _ _ => first1_calls g6 g7 base s h v w1 hI ho (hB g6 (by simp)) (hB g7 (by simp)) n67)
  (fun base s gh w1 w3 hI hlt hni hge hf => by
   obtain ⟨v, b, c6, c7, hs⟩ := hI
   simp only [List.mem_cons, List.not_mem_nil, or_false, not_or] at hni
   refine ⟨v, b, hf.row c6 (by simp; exact fun e => hni.1 e.symm), hf.row c7 (by simp; exact fun e => hni.2 e.symm), ?_⟩
   cases s with
   | none => exact hs
   | some h => exact ⟨hs.1, own_later hs.2 hf (by simpa using hlt)⟩)).mono ?_
 rintro e wh ⟨base, s', on, rfl, hrun, hb0, hb1, hI6, hf6⟩
 rw [runL_found] at hrun
 injection hrun with hs hon
 obtain ⟨v, b, c6, c7, hres⟩ := hI6
 have HC6 := Aside0.mk (cell1 c6)
 have HC7 := Aside0.mk (cell1 c7)
 have HFW := Aside0.mk (hpast wh hf6)
 have hbase : w.heap.size ≤ base := Nat.le_trans hm.size hb0
 have HRES : Aside0 (∀ W, FrB [] wh W → FirstRes w.heap.size (leaves m 4 (enough H) m.length [] 0).head? v b W) := ⟨fun W hW => by
  rw [hs]
  unfold FirstRes
  cases s' with
  | none => exact hres
  | some h => exact ⟨hres.1, own_lower (own_later hres.2 hW (by simp)) hbase⟩⟩
 clear hs hres hf6 hm hpast hf0 c6 c7 h6 h7
 go_wp2_with fail
 refine start_ (n := 4) (S := fun w' => FrB [] wh w') (ds := []) #[false, false, false, false] (by kernel_rfl) rfl rfl (FrB.below (below_drew (Below.refl _ _))) (fun hHeld => ?_)
 refine take_ (i := 0) (N := some 12) (v := v) (a' := ?_) #[true, false, false, false] rfl rfl (by kernel_rfl) (fun _ _ _ h => h) (Or.inl ⟨by rfl, ?_⟩) hHeld ?_ ?_
 ·intro w' s0
  exact y_cell (by rfl) (by rfl) oneHoist (s0.read HC6.out)
 rotate_left
 ·simp only [Act.put, List.setIfInBounds_toArray, List.set_cons_zero, List.set_cons_succ, i64_w, i32_w]
  rfl
 refine pure_ (i := 2) (N := some 4) (v := ?_) (a' := ?_) #[true, false, true, false] rfl rfl (by kernel_rfl) (fun _ _ _ h => h) (Or.inl ⟨by rfl, ?_⟩) ?_ ?_
 rotate_left
 ·intro w'
  go_simp
  with_reducible rfl
 rotate_left
 ·simp only [Act.put, List.setIfInBounds_toArray, List.set_cons_zero, List.set_cons_succ, i64_w, i32_w]
  rfl
 refine take_ (i := 1) (N := some 13) (v := .bool b) (a' := ?_) #[true, true, true, false] rfl rfl (by kernel_rfl) (fun _ _ _ h => h) (Or.inl ⟨by rfl, ?_⟩) hHeld ?_ ?_
 ·intro w' s0
  exact y_cell (by rfl) (by rfl) oneBool (s0.read HC7.out)
 rotate_left
 ·simp only [Act.put, List.setIfInBounds_toArray, List.set_cons_zero, List.set_cons_succ, i64_w, i32_w]
  rfl
 refine pure_ (i := 3) (N := some 5) (v := ?_) (a' := ?_) #[true, true, true, true] rfl rfl (by kernel_rfl) (fun _ _ _ h => h) (Or.inl ⟨by rfl, ?_⟩) ?_ ?_
 rotate_left
 ·intro w'
  go_simp
  with_reducible rfl
 rotate_left
 ·simp only [Act.put, List.setIfInBounds_toArray, List.set_cons_zero, List.set_cons_succ, i64_w, i32_w]
  rfl
 refine done_ (by kernel_rfl) ?_
 skip
 go_wp2_with fail
 go_ret2
 exact ⟨v, b, rfl, HRES.out _ hHeld, (HFW.out.trans hHeld).to_below⟩
end Go.Proofs.YtdgecgfgekmhcaaDoor.Arr
namespace Go.Proofs.YtdgecgfgekmhcaaDoor.Arr
open Go.RowKit Go.Proofs.YtdgecgfgekmhcaaDoorW.PrintWords Go.Proofs.YtdgecgfgekmhcaaDoorW.PrintLast Go.Proofs.YtdgecgfgekmhcaaDoorW.PrintMore Go.Proofs.YtdgecgfgekmhcaaDoor.U Go.Proofs.YtdgecgfgekmhcaaDoor.J
set_option linter.unusedVariables false
set_option linter.unusedSimpArgs false
def findL (m : List Int) (sets : Int) (subs : Nat) : List (List Int) := leaves m subs (within sets) m.length [] 0
theorem own_lit0 (W : World) (base : Nat) (hb : base ≤ W.heap.size) : Own base (W.alloc (.cells #[] 22)) (.slice (some ⟨W.heap.size, 0, none⟩) 0 0) [] := by
 refine ⟨fun k hk => trivial, [], ?_, Reps.none _ _⟩
 have h2 := World.ownsRow_lit (base := base) (e := 22) (size := 1) W #[] 0 hb (by simp [maxLen]) (by simp)
 have h3 : (W.alloc (.cells #[] 22)).ownsRow base 22 1 (.slice (some ⟨W.heap.size, 0, none⟩) 0 0) 0 [] := by simpa using h2
 exact h3
set_option maxHeartbeats 8000000 in
set_option maxRecDepth 100000 in
theorem l02Find_calls (Am : Option Addr) (cm : Nat) (m : List Int) (sets : Int) (subs : Nat) (w : World) (hr : Kd.C (Kd.int .i8) w Am m.length m) (hmc : m.length ≤ cm) (hm0 : ∀ x ∈ m, PlainN x) (hml : m.length ≤ 8) (hs4 : subs ≤ 4) :
  Calls Tryd.prog 58 #[.slice Am m.length cm, .int .i64 sets, .int .i64 subs] w fun e w' => ∃ (g : Nat) (vf : Value), e = .returned (.pointer (some ⟨g, 0, none⟩)) ∧
   w'.heap[g]? = some (.cells (cs5 Am cm m sets subs ((findL m sets subs).length : Int) vf) 79 (0, 0)) ∧ (∀ x, (findL m sets subs).head? = some x → Own w.heap.size w' vf x) ∧ Below w.heap.size w w' := by
 have hpow : 5 ^ m.length ≤ 390625 := Nat.le_trans (Nat.pow_le_pow_right (by omega) hml) (by decide)
 have hnew := heap_alloc_new w (.cells (cs5 Am cm m sets subs 0 (.slice none 0 0)) 79)
 have hsz : (w.alloc (.cells (cs5 Am cm m sets subs 0 (.slice none 0 0)) 79)).heap.size = w.heap.size + 1 := by simp
 have hbel := below_alloc (Below.refl w.heap.size w) (.cells (cs5 Am cm m sets subs 0 (.slice none 0 0)) 79)
 have hM : ∀ W, FrB [w.heap.size] (w.alloc (.cells (cs5 Am cm m sets subs 0 (.slice none 0 0)) 79)) W → Below w.heap.size w W := fun W hW =>
  ((FrB.below (B := []) hbel).over hW (Nat.le_refl _)).to_below
 have hf1 := FrB.below (B := []) (below_alloc (Below.refl (w.alloc (.cells (cs5 Am cm m sets subs 0 (.slice none 0 0)) 79)).heap.size _) (.cells #[] 22))
 have hf2 := FrB.below (B := [w.heap.size]) (below_alloc (Below.refl (w.alloc (.cells (cs5 Am cm m sets subs 0 (.slice none 0 0)) 79)).heap.size _) (.cells #[] 22))
 have hown := own_lit0 (w.alloc (.cells (cs5 Am cm m sets subs 0 (.slice none 0 0)) 79)) _ (Nat.le_refl _)
 have hlook := look_calls (gs := w.heap.size) (Am := Am) (cm := cm) (m := m) (sets := sets) (subs := subs) (ts := 79) (by omega) (fun W hW => Kd.C_below hr (hM W hW)) hmc hm0 (by omega) hs4 m.length [] 0 _ _ [] _ (by simp) (by omega) (by simp) hf2 ⟨_, hf1.row hnew (by simp), fun x hx => by cases hx⟩ hown (fun x hx => by cases hx) (by simp; omega)
 rw [hsz] at hlook
 have HL := Aside0.mk hlook
 have HM := Aside0.mk hM
 have HF2 := Aside0.mk hf2
 clear hr hm0 hlook hM hf1 hf2 hown hnew hbel
 go_enter Tryd.func58, Tryd.ntmps58
 go_wp2_with (go_at_call 70; refine HL.out.mono ?_; rintro e w1 ⟨rfl, ⟨vf, hc, ho⟩, hf⟩; have HC := Aside0.mk hc; have HO := Aside0.mk ho; have HF := Aside0.mk hf; clear hc ho hf)
 go_ret
 exact ⟨w.heap.size, vf, rfl, HC.out, fun x hx => own_lower (HO.out x hx) (by omega), HM.out _ (HF2.out.trans HF.out)⟩
end Go.Proofs.YtdgecgfgekmhcaaDoor.Arr
namespace Go.Proofs.YtdgecgfgekmhcaaDoor.Arr
open Go.RowKit Go.Proofs.YtdgecgfgekmhcaaDoorW.PrintWords Go.Proofs.YtdgecgfgekmhcaaDoorW.PrintLast Go.Proofs.YtdgecgfgekmhcaaDoorW.PrintMore Go.Proofs.YtdgecgfgekmhcaaDoor.U Go.Proofs.YtdgecgfgekmhcaaDoor.J
set_option linter.unusedVariables false
set_option linter.unusedSimpArgs false
set_option maxHeartbeats 4000000 in
set_option maxRecDepth 100000 in
theorem even_calls (sets subs : Int) (w : World) (h : subs ≤ 4) (h0 : 0 ≤ subs) : Calls Tryd.prog 63 #[.int .i64 sets, .int .i64 subs] w fun e w' =>
  e = .returned (.agg (vals .i64 (fillTo (fillTo (zs 44) 0 40 sets) 40 subs.toNat sets))) ∧ Below w.heap.size w w' := by
 have hm := Mem.start w
 go_enter Tryd.func63, Tryd.ntmps63
 go_wp2_with (first | fail | ((with_reducible refine gt_alloc 4 89 ?_); refine st_alloc rfl 4 rfl 89 rfl hm zero89 ?_; clear hm; intro g4 w4 hm) | ((with_reducible refine gt_build 89 ?_); refine st_zero rfl 89 rfl built89 ?_) | ((with_reducible refine gt_alloc 5 89 ?_); refine st_alloc rfl 5 rfl 89 rfl hm zero89 ?_; clear hm; intro g5 w5 hm) | ((with_reducible refine gt_store 89 ?_); (first | (refine st_full rfl 89 _ _ rfl hm rfl rfl 0 rfl agg89 (by first | omega | assumption | (simp only [lens]; first | omega | assumption) | (simp [lens]; done) | (simp [lens]; omega)) (by first | omega | assumption | (simp only [lens]; first | omega | assumption) | (simp [lens]; done) | (simp [lens]; omega)) ?_) | (refine st_full rfl 89 _ _ rfl hm rfl rfl 1 rfl agg89 (by first | omega | assumption | (simp only [lens]; first | omega | assumption) | (simp [lens]; done) | (simp [lens]; omega)) (by first | omega | assumption | (simp only [lens]; first | omega | assumption) | (simp [lens]; done) | (simp [lens]; omega)) ?_) | (refine st_full rfl 89 _ _ rfl hm rfl rfl 2 rfl agg89 (by first | omega | assumption | (simp only [lens]; first | omega | assumption) | (simp [lens]; done) | (simp [lens]; omega)) (by first | omega | assumption | (simp only [lens]; first | omega | assumption) | (simp [lens]; done) | (simp [lens]; omega)) ?_) | (refine st_full rfl 89 _ _ rfl hm rfl rfl 3 rfl agg89 (by first | omega | assumption | (simp only [lens]; first | omega | assumption) | (simp [lens]; done) | (simp [lens]; omega)) (by first | omega | assumption | (simp only [lens]; first | omega | assumption) | (simp [lens]; done) | (simp [lens]; omega)) ?_)); clear hm; intro ws hm; simp only [List.set_cons_zero, List.set_cons_succ] at hm) | ((with_reducible refine gt_field 89 0 ?_); refine st_field rfl 89 _ 0 rfl rfl field89_0 ?_) | ((with_reducible refine gt_elem 86 ?_); refine st_elem rfl 86 _ _ rfl rfl rfl arr86 (by first | omega | assumption | (simp only [lens]; first | omega | assumption) | (simp [lens]; done) | (simp [lens]; omega)) (by first | omega | assumption | (simp only [lens]; first | omega | assumption) | (simp [lens]; done) | (simp [lens]; omega)) ?_) | ((with_reducible refine gt_store 3 ?_); (first | (refine st_set rfl 3 _ _ rfl hm rfl rfl 0 rfl one3 (by first | omega | assumption | (simp only [lens]; first | omega | assumption) | (simp [lens]; done) | (simp [lens]; omega)) ?_) | (refine st_set rfl 3 _ _ rfl hm rfl rfl 1 rfl one3 (by first | omega | assumption | (simp only [lens]; first | omega | assumption) | (simp [lens]; done) | (simp [lens]; omega)) ?_) | (refine st_set rfl 3 _ _ rfl hm rfl rfl 2 rfl one3 (by first | omega | assumption | (simp only [lens]; first | omega | assumption) | (simp [lens]; done) | (simp [lens]; omega)) ?_) | (refine st_set rfl 3 _ _ rfl hm rfl rfl 3 rfl one3 (by first | omega | assumption | (simp only [lens]; first | omega | assumption) | (simp [lens]; done) | (simp [lens]; omega)) ?_)); clear hm; intro ws hm; simp only [List.set_cons_zero, List.set_cons_succ] at hm) | ((with_reducible refine gt_field 89 1 ?_); refine st_field rfl 89 _ 1 rfl rfl field89_1 ?_) | ((with_reducible refine gt_elem 87 ?_); refine st_elem rfl 87 _ _ rfl rfl rfl arr87 (by first | omega | assumption | (simp only [lens]; first | omega | assumption) | (simp [lens]; done) | (simp [lens]; omega)) (by first | omega | assumption | (simp only [lens]; first | omega | assumption) | (simp [lens]; done) | (simp [lens]; omega)) ?_) | ((with_reducible refine gt_load 89 ?_); (first | (refine st_load rfl 89 _ rfl hm rfl 0 rfl agg89 (by first | omega | assumption | (simp only [lens]; first | omega | assumption) | (simp [lens]; done) | (simp [lens]; omega)) ?_) | (refine st_load rfl 89 _ rfl hm rfl 1 rfl agg89 (by first | omega | assumption | (simp only [lens]; first | omega | assumption) | (simp [lens]; done) | (simp [lens]; omega)) ?_) | (refine st_load rfl 89 _ rfl hm rfl 2 rfl agg89 (by first | omega | assumption | (simp only [lens]; first | omega | assumption) | (simp [lens]; done) | (simp [lens]; omega)) ?_) | (refine st_load rfl 89 _ rfl hm rfl 3 rfl agg89 (by first | omega | assumption | (simp only [lens]; first | omega | assumption) | (simp [lens]; done) | (simp [lens]; omega)) ?_))))
 go_loopw [9, 6] (fun v9 v6 wr => ∃ i : Nat, i ≤ 40 ∧ v9 = .int .i64 i ∧ Mem w wr [⟨g5, vals .i64 (fillTo (zs 44) 0 i sets), 89, true⟩, ⟨g4, vals .i64 (zs 44), 89, true⟩]) (fun v9 _ _ => 40 - (intOf v9).toNat)
 case atStart => exact ⟨0, by omega, rfl, by rw [fillTo_zero]; exact hm⟩
 case round =>
  obtain ⟨i, hi, rfl, hm⟩ := hrel
  by_cases hlt : i < 40
  ·have hl := fillTo_length (zs 44) 0 i sets (by rw [zs_length]; omega)
   rw [zs_length] at hl
   go_wp2_with (first | fail | ((with_reducible refine gt_alloc 4 89 ?_); refine st_alloc rfl 4 rfl 89 rfl hm zero89 ?_; clear hm; intro g4 w4 hm) | ((with_reducible refine gt_build 89 ?_); refine st_zero rfl 89 rfl built89 ?_) | ((with_reducible refine gt_alloc 5 89 ?_); refine st_alloc rfl 5 rfl 89 rfl hm zero89 ?_; clear hm; intro g5 w5 hm) | ((with_reducible refine gt_store 89 ?_); (first | (refine st_full rfl 89 _ _ rfl hm rfl rfl 0 rfl agg89 (by first | omega | assumption | (simp only [lens]; first | omega | assumption) | (simp [lens]; done) | (simp [lens]; omega)) (by first | omega | assumption | (simp only [lens]; first | omega | assumption) | (simp [lens]; done) | (simp [lens]; omega)) ?_) | (refine st_full rfl 89 _ _ rfl hm rfl rfl 1 rfl agg89 (by first | omega | assumption | (simp only [lens]; first | omega | assumption) | (simp [lens]; done) | (simp [lens]; omega)) (by first | omega | assumption | (simp only [lens]; first | omega | assumption) | (simp [lens]; done) | (simp [lens]; omega)) ?_) | (refine st_full rfl 89 _ _ rfl hm rfl rfl 2 rfl agg89 (by first | omega | assumption | (simp only [lens]; first | omega | assumption) | (simp [lens]; done) | (simp [lens]; omega)) (by first | omega | assumption | (simp only [lens]; first | omega | assumption) | (simp [lens]; done) | (simp [lens]; omega)) ?_) | (refine st_full rfl 89 _ _ rfl hm rfl rfl 3 rfl agg89 (by first | omega | assumption | (simp only [lens]; first | omega | assumption) | (simp [lens]; done) | (simp [lens]; omega)) (by first | omega | assumption | (simp only [lens]; first | omega | assumption) | (simp [lens]; done) | (simp [lens]; omega)) ?_)); clear hm; intro ws hm; simp only [List.set_cons_zero, List.set_cons_succ] at hm) | ((with_reducible refine gt_field 89 0 ?_); refine st_field rfl 89 _ 0 rfl rfl field89_0 ?_) | ((with_reducible refine gt_elem 86 ?_); refine st_elem rfl 86 _ _ rfl rfl rfl arr86 (by first | omega | assumption | (simp only [lens]; first | omega | assumption) | (simp [lens]; done) | (simp [lens]; omega)) (by first | omega | assumption | (simp only [lens]; first | omega | assumption) | (simp [lens]; done) | (simp [lens]; omega)) ?_) | ((with_reducible refine gt_store 3 ?_); (first | (refine st_set rfl 3 _ _ rfl hm rfl rfl 0 rfl one3 (by first | omega | assumption | (simp only [lens]; first | omega | assumption) | (simp [lens]; done) | (simp [lens]; omega)) ?_) | (refine st_set rfl 3 _ _ rfl hm rfl rfl 1 rfl one3 (by first | omega | assumption | (simp only [lens]; first | omega | assumption) | (simp [lens]; done) | (simp [lens]; omega)) ?_) | (refine st_set rfl 3 _ _ rfl hm rfl rfl 2 rfl one3 (by first | omega | assumption | (simp only [lens]; first | omega | assumption) | (simp [lens]; done) | (simp [lens]; omega)) ?_) | (refine st_set rfl 3 _ _ rfl hm rfl rfl 3 rfl one3 (by first | omega | assumption | (simp only [lens]; first | omega | assumption) | (simp [lens]; done) | (simp [lens]; omega)) ?_)); clear hm; intro ws hm; simp only [List.set_cons_zero, List.set_cons_succ] at hm) | ((with_reducible refine gt_field 89 1 ?_); refine st_field rfl 89 _ 1 rfl rfl field89_1 ?_) | ((with_reducible refine gt_elem 87 ?_); refine st_elem rfl 87 _ _ rfl rfl rfl arr87 (by first | omega | assumption | (simp only [lens]; first | omega | assumption) | (simp [lens]; done) | (simp [lens]; omega)) (by first | omega | assumption | (simp only [lens]; first | omega | assumption) | (simp [lens]; done) | (simp [lens]; omega)) ?_) | ((with_reducible refine gt_load 89 ?_); (first | (refine st_load rfl 89 _ rfl hm rfl 0 rfl agg89 (by first | omega | assumption | (simp only [lens]; first | omega | assumption) | (simp [lens]; done) | (simp [lens]; omega)) ?_) | (refine st_load rfl 89 _ rfl hm rfl 1 rfl agg89 (by first | omega | assumption | (simp only [lens]; first | omega | assumption) | (simp [lens]; done) | (simp [lens]; omega)) ?_) | (refine st_load rfl 89 _ rfl hm rfl 2 rfl agg89 (by first | omega | assumption | (simp only [lens]; first | omega | assumption) | (simp [lens]; done) | (simp [lens]; omega)) ?_) | (refine st_load rfl 89 _ rfl hm rfl 3 rfl agg89 (by first | omega | assumption | (simp only [lens]; first | omega | assumption) | (simp [lens]; done) | (simp [lens]; omega)) ?_))))
   go_roundw
   case rel =>
    refine ⟨i + 1, by omega, by go_num, ?_⟩
    rw [← fillTo_succ _ _ _ _ (by rw [zs_length]; omega)]
    simpa using hm
   case measure => simp [intOf]; omega
  ·have HI := Aside0.mk (show i = 40 by omega)
   have hl := fillTo_length (zs 44) 0 i sets (by rw [zs_length]; omega)
   rw [zs_length] at hl
   generalize hF : fillTo (zs 44) 0 i sets = F at *
   have HF := Aside0.mk hF
   clear hF
   go_wp2_with (first | fail | ((with_reducible refine gt_alloc 4 89 ?_); refine st_alloc rfl 4 rfl 89 rfl hm zero89 ?_; clear hm; intro g4 w4 hm) | ((with_reducible refine gt_build 89 ?_); refine st_zero rfl 89 rfl built89 ?_) | ((with_reducible refine gt_alloc 5 89 ?_); refine st_alloc rfl 5 rfl 89 rfl hm zero89 ?_; clear hm; intro g5 w5 hm) | ((with_reducible refine gt_store 89 ?_); (first | (refine st_full rfl 89 _ _ rfl hm rfl rfl 0 rfl agg89 (by first | omega | assumption | (simp only [lens]; first | omega | assumption) | (simp [lens]; done) | (simp [lens]; omega)) (by first | omega | assumption | (simp only [lens]; first | omega | assumption) | (simp [lens]; done) | (simp [lens]; omega)) ?_) | (refine st_full rfl 89 _ _ rfl hm rfl rfl 1 rfl agg89 (by first | omega | assumption | (simp only [lens]; first | omega | assumption) | (simp [lens]; done) | (simp [lens]; omega)) (by first | omega | assumption | (simp only [lens]; first | omega | assumption) | (simp [lens]; done) | (simp [lens]; omega)) ?_) | (refine st_full rfl 89 _ _ rfl hm rfl rfl 2 rfl agg89 (by first | omega | assumption | (simp only [lens]; first | omega | assumption) | (simp [lens]; done) | (simp [lens]; omega)) (by first | omega | assumption | (simp only [lens]; first | omega | assumption) | (simp [lens]; done) | (simp [lens]; omega)) ?_) | (refine st_full rfl 89 _ _ rfl hm rfl rfl 3 rfl agg89 (by first | omega | assumption | (simp only [lens]; first | omega | assumption) | (simp [lens]; done) | (simp [lens]; omega)) (by first | omega | assumption | (simp only [lens]; first | omega | assumption) | (simp [lens]; done) | (simp [lens]; omega)) ?_)); clear hm; intro ws hm; simp only [List.set_cons_zero, List.set_cons_succ] at hm) | ((with_reducible refine gt_field 89 0 ?_); refine st_field rfl 89 _ 0 rfl rfl field89_0 ?_) | ((with_reducible refine gt_elem 86 ?_); refine st_elem rfl 86 _ _ rfl rfl rfl arr86 (by first | omega | assumption | (simp only [lens]; first | omega | assumption) | (simp [lens]; done) | (simp [lens]; omega)) (by first | omega | assumption | (simp only [lens]; first | omega | assumption) | (simp [lens]; done) | (simp [lens]; omega)) ?_) | ((with_reducible refine gt_store 3 ?_); (first | (refine st_set rfl 3 _ _ rfl hm rfl rfl 0 rfl one3 (by first | omega | assumption | (simp only [lens]; first | omega | assumption) | (simp [lens]; done) | (simp [lens]; omega)) ?_) | (refine st_set rfl 3 _ _ rfl hm rfl rfl 1 rfl one3 (by first | omega | assumption | (simp only [lens]; first | omega | assumption) | (simp [lens]; done) | (simp [lens]; omega)) ?_) | (refine st_set rfl 3 _ _ rfl hm rfl rfl 2 rfl one3 (by first | omega | assumption | (simp only [lens]; first | omega | assumption) | (simp [lens]; done) | (simp [lens]; omega)) ?_) | (refine st_set rfl 3 _ _ rfl hm rfl rfl 3 rfl one3 (by first | omega | assumption | (simp only [lens]; first | omega | assumption) | (simp [lens]; done) | (simp [lens]; omega)) ?_)); clear hm; intro ws hm; simp only [List.set_cons_zero, List.set_cons_succ] at hm) | ((with_reducible refine gt_field 89 1 ?_); refine st_field rfl 89 _ 1 rfl rfl field89_1 ?_) | ((with_reducible refine gt_elem 87 ?_); refine st_elem rfl 87 _ _ rfl rfl rfl arr87 (by first | omega | assumption | (simp only [lens]; first | omega | assumption) | (simp [lens]; done) | (simp [lens]; omega)) (by first | omega | assumption | (simp only [lens]; first | omega | assumption) | (simp [lens]; done) | (simp [lens]; omega)) ?_) | ((with_reducible refine gt_load 89 ?_); (first | (refine st_load rfl 89 _ rfl hm rfl 0 rfl agg89 (by first | omega | assumption | (simp only [lens]; first | omega | assumption) | (simp [lens]; done) | (simp [lens]; omega)) ?_) | (refine st_load rfl 89 _ rfl hm rfl 1 rfl agg89 (by first | omega | assumption | (simp only [lens]; first | omega | assumption) | (simp [lens]; done) | (simp [lens]; omega)) ?_) | (refine st_load rfl 89 _ rfl hm rfl 2 rfl agg89 (by first | omega | assumption | (simp only [lens]; first | omega | assumption) | (simp [lens]; done) | (simp [lens]; omega)) ?_) | (refine st_load rfl 89 _ rfl hm rfl 3 rfl agg89 (by first | omega | assumption | (simp only [lens]; first | omega | assumption) | (simp [lens]; done) | (simp [lens]; omega)) ?_))))
   go_loopw [18, 7] (fun v18 v7 wr => ∃ i : Nat, (i : Int) ≤ subs ∧ v18 = .int .i64 i ∧ Mem w wr [⟨g5, vals .i64 (fillTo F 40 i sets), 89, true⟩, ⟨g4, vals .i64 (zs 44), 89, true⟩]) (fun v18 _ _ => subs.toNat - (intOf v18).toNat)
   case atStart => exact ⟨0, by omega, rfl, by rw [fillTo_zero]; exact hm⟩
   case round =>
    obtain ⟨i, hi, rfl, hm⟩ := hrel
    have hl2 := fillTo_length F 40 i sets (by omega)
    by_cases hlt : (i : Int) < subs
    ·go_wp2_with (first | fail | ((with_reducible refine gt_alloc 4 89 ?_); refine st_alloc rfl 4 rfl 89 rfl hm zero89 ?_; clear hm; intro g4 w4 hm) | ((with_reducible refine gt_build 89 ?_); refine st_zero rfl 89 rfl built89 ?_) | ((with_reducible refine gt_alloc 5 89 ?_); refine st_alloc rfl 5 rfl 89 rfl hm zero89 ?_; clear hm; intro g5 w5 hm) | ((with_reducible refine gt_store 89 ?_); (first | (refine st_full rfl 89 _ _ rfl hm rfl rfl 0 rfl agg89 (by first | omega | assumption | (simp only [lens]; first | omega | assumption) | (simp [lens]; done) | (simp [lens]; omega)) (by first | omega | assumption | (simp only [lens]; first | omega | assumption) | (simp [lens]; done) | (simp [lens]; omega)) ?_) | (refine st_full rfl 89 _ _ rfl hm rfl rfl 1 rfl agg89 (by first | omega | assumption | (simp only [lens]; first | omega | assumption) | (simp [lens]; done) | (simp [lens]; omega)) (by first | omega | assumption | (simp only [lens]; first | omega | assumption) | (simp [lens]; done) | (simp [lens]; omega)) ?_) | (refine st_full rfl 89 _ _ rfl hm rfl rfl 2 rfl agg89 (by first | omega | assumption | (simp only [lens]; first | omega | assumption) | (simp [lens]; done) | (simp [lens]; omega)) (by first | omega | assumption | (simp only [lens]; first | omega | assumption) | (simp [lens]; done) | (simp [lens]; omega)) ?_) | (refine st_full rfl 89 _ _ rfl hm rfl rfl 3 rfl agg89 (by first | omega | assumption | (simp only [lens]; first | omega | assumption) | (simp [lens]; done) | (simp [lens]; omega)) (by first | omega | assumption | (simp only [lens]; first | omega | assumption) | (simp [lens]; done) | (simp [lens]; omega)) ?_)); clear hm; intro ws hm; simp only [List.set_cons_zero, List.set_cons_succ] at hm) | ((with_reducible refine gt_field 89 0 ?_); refine st_field rfl 89 _ 0 rfl rfl field89_0 ?_) | ((with_reducible refine gt_elem 86 ?_); refine st_elem rfl 86 _ _ rfl rfl rfl arr86 (by first | omega | assumption | (simp only [lens]; first | omega | assumption) | (simp [lens]; done) | (simp [lens]; omega)) (by first | omega | assumption | (simp only [lens]; first | omega | assumption) | (simp [lens]; done) | (simp [lens]; omega)) ?_) | ((with_reducible refine gt_store 3 ?_); (first | (refine st_set rfl 3 _ _ rfl hm rfl rfl 0 rfl one3 (by first | omega | assumption | (simp only [lens]; first | omega | assumption) | (simp [lens]; done) | (simp [lens]; omega)) ?_) | (refine st_set rfl 3 _ _ rfl hm rfl rfl 1 rfl one3 (by first | omega | assumption | (simp only [lens]; first | omega | assumption) | (simp [lens]; done) | (simp [lens]; omega)) ?_) | (refine st_set rfl 3 _ _ rfl hm rfl rfl 2 rfl one3 (by first | omega | assumption | (simp only [lens]; first | omega | assumption) | (simp [lens]; done) | (simp [lens]; omega)) ?_) | (refine st_set rfl 3 _ _ rfl hm rfl rfl 3 rfl one3 (by first | omega | assumption | (simp only [lens]; first | omega | assumption) | (simp [lens]; done) | (simp [lens]; omega)) ?_)); clear hm; intro ws hm; simp only [List.set_cons_zero, List.set_cons_succ] at hm) | ((with_reducible refine gt_field 89 1 ?_); refine st_field rfl 89 _ 1 rfl rfl field89_1 ?_) | ((with_reducible refine gt_elem 87 ?_); refine st_elem rfl 87 _ _ rfl rfl rfl arr87 (by first | omega | assumption | (simp only [lens]; first | omega | assumption) | (simp [lens]; done) | (simp [lens]; omega)) (by first | omega | assumption | (simp only [lens]; first | omega | assumption) | (simp [lens]; done) | (simp [lens]; omega)) ?_) | ((with_reducible refine gt_load 89 ?_); (first | (refine st_load rfl 89 _ rfl hm rfl 0 rfl agg89 (by first | omega | assumption | (simp only [lens]; first | omega | assumption) | (simp [lens]; done) | (simp [lens]; omega)) ?_) | (refine st_load rfl 89 _ rfl hm rfl 1 rfl agg89 (by first | omega | assumption | (simp only [lens]; first | omega | assumption) | (simp [lens]; done) | (simp [lens]; omega)) ?_) | (refine st_load rfl 89 _ rfl hm rfl 2 rfl agg89 (by first | omega | assumption | (simp only [lens]; first | omega | assumption) | (simp [lens]; done) | (simp [lens]; omega)) ?_) | (refine st_load rfl 89 _ rfl hm rfl 3 rfl agg89 (by first | omega | assumption | (simp only [lens]; first | omega | assumption) | (simp [lens]; done) | (simp [lens]; omega)) ?_))))
     go_roundw
     case rel =>
      refine ⟨i + 1, by omega, by go_num, ?_⟩
      rw [← fillTo_succ _ _ _ _ (by omega)]
      simpa using hm
     case measure => simp [intOf]; omega
    ·have HI2 := Aside0.mk (show subs.toNat = i by omega)
     go_wp2_with (first | fail | ((with_reducible refine gt_alloc 4 89 ?_); refine st_alloc rfl 4 rfl 89 rfl hm zero89 ?_; clear hm; intro g4 w4 hm) | ((with_reducible refine gt_build 89 ?_); refine st_zero rfl 89 rfl built89 ?_) | ((with_reducible refine gt_alloc 5 89 ?_); refine st_alloc rfl 5 rfl 89 rfl hm zero89 ?_; clear hm; intro g5 w5 hm) | ((with_reducible refine gt_store 89 ?_); (first | (refine st_full rfl 89 _ _ rfl hm rfl rfl 0 rfl agg89 (by first | omega | assumption | (simp only [lens]; first | omega | assumption) | (simp [lens]; done) | (simp [lens]; omega)) (by first | omega | assumption | (simp only [lens]; first | omega | assumption) | (simp [lens]; done) | (simp [lens]; omega)) ?_) | (refine st_full rfl 89 _ _ rfl hm rfl rfl 1 rfl agg89 (by first | omega | assumption | (simp only [lens]; first | omega | assumption) | (simp [lens]; done) | (simp [lens]; omega)) (by first | omega | assumption | (simp only [lens]; first | omega | assumption) | (simp [lens]; done) | (simp [lens]; omega)) ?_) | (refine st_full rfl 89 _ _ rfl hm rfl rfl 2 rfl agg89 (by first | omega | assumption | (simp only [lens]; first | omega | assumption) | (simp [lens]; done) | (simp [lens]; omega)) (by first | omega | assumption | (simp only [lens]; first | omega | assumption) | (simp [lens]; done) | (simp [lens]; omega)) ?_) | (refine st_full rfl 89 _ _ rfl hm rfl rfl 3 rfl agg89 (by first | omega | assumption | (simp only [lens]; first | omega | assumption) | (simp [lens]; done) | (simp [lens]; omega)) (by first | omega | assumption | (simp only [lens]; first | omega | assumption) | (simp [lens]; done) | (simp [lens]; omega)) ?_)); clear hm; intro ws hm; simp only [List.set_cons_zero, List.set_cons_succ] at hm) | ((with_reducible refine gt_field 89 0 ?_); refine st_field rfl 89 _ 0 rfl rfl field89_0 ?_) | ((with_reducible refine gt_elem 86 ?_); refine st_elem rfl 86 _ _ rfl rfl rfl arr86 (by first | omega | assumption | (simp only [lens]; first | omega | assumption) | (simp [lens]; done) | (simp [lens]; omega)) (by first | omega | assumption | (simp only [lens]; first | omega | assumption) | (simp [lens]; done) | (simp [lens]; omega)) ?_) | ((with_reducible refine gt_store 3 ?_); (first | (refine st_set rfl 3 _ _ rfl hm rfl rfl 0 rfl one3 (by first | omega | assumption | (simp only [lens]; first | omega | assumption) | (simp [lens]; done) | (simp [lens]; omega)) ?_) | (refine st_set rfl 3 _ _ rfl hm rfl rfl 1 rfl one3 (by first | omega | assumption | (simp only [lens]; first | omega | assumption) | (simp [lens]; done) | (simp [lens]; omega)) ?_) | (refine st_set rfl 3 _ _ rfl hm rfl rfl 2 rfl one3 (by first | omega | assumption | (simp only [lens]; first | omega | assumption) | (simp [lens]; done) | (simp [lens]; omega)) ?_) | (refine st_set rfl 3 _ _ rfl hm rfl rfl 3 rfl one3 (by first | omega | assumption | (simp only [lens]; first | omega | assumption) | (simp [lens]; done) | (simp [lens]; omega)) ?_)); clear hm; intro ws hm; simp only [List.set_cons_zero, List.set_cons_succ] at hm) | ((with_reducible refine gt_field 89 1 ?_); refine st_field rfl 89 _ 1 rfl rfl field89_1 ?_) | ((with_reducible refine gt_elem 87 ?_); refine st_elem rfl 87 _ _ rfl rfl rfl arr87 (by first | omega | assumption | (simp only [lens]; first | omega | assumption) | (simp [lens]; done) | (simp [lens]; omega)) (by first | omega | assumption | (simp only [lens]; first | omega | assumption) | (simp [lens]; done) | (simp [lens]; omega)) ?_) | ((with_reducible refine gt_load 89 ?_); (first | (refine st_load rfl 89 _ rfl hm rfl 0 rfl agg89 (by first | omega | assumption | (simp only [lens]; first | omega | assumption) | (simp [lens]; done) | (simp [lens]; omega)) ?_) | (refine st_load rfl 89 _ rfl hm rfl 1 rfl agg89 (by first | omega | assumption | (simp only [lens]; first | omega | assumption) | (simp [lens]; done) | (simp [lens]; omega)) ?_) | (refine st_load rfl 89 _ rfl hm rfl 2 rfl agg89 (by first | omega | assumption | (simp only [lens]; first | omega | assumption) | (simp [lens]; done) | (simp [lens]; omega)) ?_) | (refine st_load rfl 89 _ rfl hm rfl 3 rfl agg89 (by first | omega | assumption | (simp only [lens]; first | omega | assumption) | (simp [lens]; done) | (simp [lens]; omega)) ?_))))
     ((try simp only [Exit.inBlock, Exit.then]); (first | (refine ret_cell hm rfl rfl 1 rfl agg89 (by first | omega | assumption | (simp only [lens]; first | omega | assumption) | (simp [lens]; done) | (simp [lens]; omega)) rfl ?_) | (refine ret_cell_tmp hm rfl rfl 1 rfl agg89 (by first | omega | assumption | (simp only [lens]; first | omega | assumption) | (simp [lens]; done) | (simp [lens]; omega)) rfl ?_)))
     exact ⟨by rw [HI2.out, ← HF.out, HI.out], hm.done rfl⟩
end Go.Proofs.YtdgecgfgekmhcaaDoor.Arr
namespace Go.Proofs.YtdgecgfgekmhcaaDoor.Arr
open Go.RowKit Go.Proofs.YtdgecgfgekmhcaaDoorW.PrintWords Go.Proofs.YtdgecgfgekmhcaaDoorW.PrintLast Go.Proofs.YtdgecgfgekmhcaaDoorW.PrintMore Go.Proofs.YtdgecgfgekmhcaaDoor.U Go.Proofs.YtdgecgfgekmhcaaDoor.J
set_option linter.unusedVariables false
set_option linter.unusedSimpArgs false
def oddM (n : Int) : Bool := decide (n < 0) && decide (n ≠ -10)
def plainM (m : List Int) : Bool := okH m && !m.any oddM
theorem plainM_N {m : List Int} (h : plainM m = true) : (∀ x ∈ m, PlainN x) ∧ 1 ≤ m.length ∧ m.length ≤ 8 := by
 unfold plainM at h
 rw [Bool.and_eq_true, Bool.not_eq_true', List.any_eq_false] at h
 refine ⟨fun x hx => ?_, (okH_len h.1).1, (okH_len h.1).2⟩
 have h1 := okH_num h.1 x hx
 have h2 := h.2 x hx
 unfold oddM at h2
 rw [Bool.and_eq_true, decide_eq_true_eq, decide_eq_true_eq] at h2
 unfold PlainN
 omega
def codeM (m : List Int) (sets subs : Int) : Int := if plainM m = true then (if (1 ≤ sets ∧ sets ≤ 8) ∧ (0 ≤ subs ∧ subs ≤ 4) then 0 else 2) else 1
def evenL (sets subs : Int) : List Int := fillTo (fillTo (zs 44) 0 40 sets) 40 subs.toNat sets
theorem evenL_length (sets subs : Int) (h : subs ≤ 4) : (evenL sets subs).length = 44 := by
 have h40 : (fillTo (zs 44) 0 40 sets).length = 44 := (fillTo_length (zs 44) 0 40 sets (by rw [zs_length]; omega)).trans zs_length
 exact (fillTo_length _ 40 subs.toNat sets (by omega)).trans h40
theorem rd_evenL (sets subs : Int) (h : subs ≤ 4) (j : Nat) (hj : j < 44) : rd (evenL sets subs) (j : Int) = if j < 40 + subs.toNat then sets else 0 := by
 have h40 : (fillTo (zs 44) 0 40 sets).length = 44 := (fillTo_length (zs 44) 0 40 sets (by rw [zs_length]; omega)).trans zs_length
 have hg : (evenL sets subs)[j]? = some (if j < 40 + subs.toNat then sets else 0) := by
  unfold evenL
  rw [fillTo_get _ 40 subs.toNat sets (by omega), fillTo_get (zs 44) 0 40 sets (by rw [zs_length]; omega)]
  have hz : (zs 44)[j]? = some 0 := by unfold zs; rw [List.getElem?_replicate, if_pos hj]
  rw [hz]
  by_cases h1 : 40 ≤ j
  ·by_cases h2 : j < 40 + subs.toNat
   ·rw [if_pos ⟨h1, h2⟩, if_pos h2]
   ·rw [if_neg (fun h => h2 h.2), if_neg (by omega), if_neg h2]
  ·rw [if_neg (fun h => h1 h.1), if_pos (by omega), if_pos (by omega)]
 rw [rd_get _ j (by rw [evenL_length sets subs h]; exact hj)]
 rw [List.getElem?_eq_getElem (by rw [evenL_length sets subs h]; exact hj)] at hg
 exact Option.some.inj hg
theorem evenL_even (sets subs : Int) (h0 : 0 ≤ subs) (h : subs ≤ 4) : Even (evenL sets subs) sets subs.toNat := by
 refine ⟨evenL_length sets subs h, fun j hj => ?_, fun j hj => ?_, fun j hj hj2 => ?_, by omega⟩
 ·rw [rd_evenL sets subs h j (by omega), if_pos (by omega)]
 ·rw [rd_evenL sets subs h (40 + j) (by omega), if_pos (by omega)]
 ·rw [rd_evenL sets subs h (40 + j) (by omega), if_neg (by omega)]
theorem evenL_b (sets subs : Int) (h : subs ≤ 4) (h0 : 0 ≤ sets) (h1 : sets ≤ 1000000) : ∀ j : Nat, j < 44 → 0 ≤ rd (evenL sets subs) (j : Int) ∧ rd (evenL sets subs) (j : Int) ≤ 1000000 := fun j hj => by
 rw [rd_evenL sets subs h j hj]; split <;> omega
theorem far_nil (sets : Int) (h0 : 0 ≤ sets) (subs : Nat) : Far sets subs [] := ⟨fun x hx => absurd hx (by simp), fun j hj => by
 show rd (zs 44) (j : Int) ≤ sets
 rw [rd_zs]; exact h0⟩
theorem find_even {m : List Int} (hm : ∀ x ∈ m, PlainN x) (sets subs : Int) (hs : 0 < sets) (h0 : 0 ≤ subs) (h : subs ≤ 4) : leaves m 4 (enough (evenL sets subs)) m.length [] 0 = findL m sets subs.toNat :=
 leaves_even hm (evenL_even sets subs h0 h) hs m.length [] 0 (by simp) (far_nil sets (by omega) _)
def hoistW (m : List Int) (sets subs : Int) : List Int × Int := if codeM m sets subs = 0 then (match (findL m sets subs.toNat).head? with | some h => (h, 0) | none => ([], 6)) else ([], codeM m sets subs)
theorem codeM_zero {m : List Int} {sets subs : Int} (h : codeM m sets subs = 0) : plainM m = true ∧ (1 ≤ sets ∧ sets ≤ 8) ∧ (0 ≤ subs ∧ subs ≤ 4) := by
 unfold codeM at h
 split at h
 ·split at h
  ·rename_i h1 h2; exact ⟨h1, h2⟩
  ·cases h
 ·cases h
theorem l02Plain_ev (m : List Int) (hs : Small8 m) : Ev (fun k => spec_l02Plain.f k m) (plainM m) := by
 unfold spec_l02Plain.f
 have hok : ∀ r, okH m = r → Ev (fun k => (spec_l02Ok.f k m).bind fun t => some t) r := fun r hr => by
  refine Ev.bind (a := r) ?_ (cons rfl)
  subst hr
  unfold spec_l02Ok.f
  refine Ev.bind (l02Read_ev m hs.1 hs.2) (cons ?_)
  unfold okH
  cases readH m <;> rfl
 have hany : ∀ i : Nat, i < m.length → oddM (rd m (i : Int)) = true → plainM m = false := fun i hi ho => by
  unfold plainM
  rw [List.any_eq_true.2 ⟨rd m (i : Int), by rw [rd_get m i hi]; exact List.getElem_mem hi, ho⟩]
  simp
 refine iter (F := fun k (s : Int) => spec_l02Plain.l0 k m s) (fun i s => s = (i : Int) ∧ ∀ j, j < i → oddM (rd m (j : Int)) = false) _ m.length ?_ ?_ 0 0 (by omega) ⟨rfl, fun j hj => absurd hj (by omega)⟩
 ·rintro i s hi ⟨rfl, hP⟩
  have hl := hs.1
  cases ho : oddM (rd m (i : Int)) with
  | true =>
   refine .inr ?_
   rw [hany i hi ho]
   unfold oddM at ho
   rw [Bool.and_eq_true, decide_eq_true_eq, decide_eq_true_eq] at ho
   refine Ev.step (fun k => by rw [spec_l02Plain.l0]) ?_
   exact pos (by omega) (pos (by omega) (pos ho.1 (neg ho.2 (cons rfl))))
  | false =>
   refine .inl ⟨((i + 1 : Nat) : Int), ⟨rfl, fun j hj => ?_⟩, fun hgo => ?_⟩
   ·rcases Nat.lt_or_ge j i with h | h
    ·exact hP j h
    ·obtain rfl : j = i := by omega
     exact ho
   ·have hgo2 : Ev (fun k => spec_l02Plain.l0 k m (wrap64 ((i : Int) + 1))) (plainM m) := by rw [w64 (by omega) (by omega)]; exact hgo
    refine Ev.step (fun k => by rw [spec_l02Plain.l0]) ?_
    refine pos (by omega) (pos (by omega) ?_)
    by_cases h0 : rd m (i : Int) < 0
    ·refine pos h0 (pos ?_ hgo2)
     unfold oddM at ho
     rw [decide_eq_true h0, Bool.true_and, decide_eq_false_iff_not] at ho
     omega
    ·exact neg h0 hgo2
 ·rintro s ⟨rfl, hP⟩
  refine Ev.step (fun k => by rw [spec_l02Plain.l0]) ?_
  refine neg (by omega) (hok _ ?_)
  unfold plainM
  have : m.any oddM = false := by
   rw [List.any_eq_false]
   intro x hx
   obtain ⟨j, hj, rfl⟩ := List.getElem_of_mem hx
   have := hP j hj
   rw [rd_get m j hj] at this
   simp [this]
  rw [this]; simp
theorem l02Asked_ev (m : List Int) (sets subs : Int) (hs : Small8 m) : Ev (fun k => spec_l02Asked.f k m sets subs) (codeM m sets subs) := by
 unfold spec_l02Asked.f codeM
 refine Ev.bind (l02Plain_ev m hs) ?_
 generalize plainM m = b
 cases b with
 | false => exact neg (show ¬ (false = true) by decide) (cons rfl)
 | true =>
  simp only [if_true]
  refine bindc (in_ev' sets 1 8) ?_
  by_cases h1 : 1 ≤ sets ∧ sets ≤ 8
  ·rw [decide_eq_true h1]
   refine pos rfl (bindc (in_ev' subs 0 4) ?_)
   by_cases h2 : 0 ≤ subs ∧ subs ≤ 4
   ·rw [decide_eq_true h2]; exact pos rfl (cons (if_pos ⟨h1, h2⟩).symm)
   ·rw [decide_eq_false h2]; exact neg (by decide) (cons (if_neg (fun h => h2 h.2)).symm)
  ·rw [decide_eq_false h1]; exact neg (by decide) (cons (if_neg (fun h => h1 h.1)).symm)
theorem l02Asked_calls (A0 : Option Addr) (c0 : Nat) (m : List Int) (sets subs : Int) (w : World) (hr : Kd.C (Kd.int .i8) w A0 m.length m) (hc : m.length ≤ c0) (hs : Small8 m) :
  Calls Tryd.prog 57 #[.slice A0 m.length c0, .int .i64 sets, .int .i64 subs] w fun e w' => e = .returned (.int .i64 (codeM m sets subs)) ∧ Below w.heap.size w w' := by
 obtain ⟨k, hk⟩ := (l02Asked_ev m sets subs hs).rounds
 exact spec_l02Asked.calls k A0 c0 m sets subs _ w hr hc hk
set_option maxHeartbeats 4000000 in
set_option maxRecDepth 100000 in
theorem specHoistFor_calls (A0 : Option Addr) (c0 : Nat) (m : List Int) (sets subs : Int) (w : World) (hr : Kd.C (Kd.int .i8) w A0 m.length m) (hc : m.length ≤ c0) (hs : Small8 m) :
  Calls Tryd.prog 31 #[.slice A0 m.length c0, .int .i64 sets, .int .i64 subs] w fun e w' => ∃ v, e = .returned (.tuple #[v, .int .i64 (hoistW m sets subs).2]) ∧ Own w.heap.size w' v (hoistW m sets subs).1 ∧ Below w.heap.size w w' := by
 have HCO := Aside0.mk (l02Asked_calls A0 c0 m sets subs w hr hc hs)
 have hown : ∀ W, Below w.heap.size w W → Own w.heap.size (W.alloc (.cells #[] 22)) (.slice (some ⟨W.heap.size, 0, none⟩) 0 0) [] := fun W hW => own_lit0 W w.heap.size hW.size
 have HOW := Aside0.mk hown
 clear hown
 by_cases hk : codeM m sets subs = 0
 ·obtain ⟨hp, hse, hsu⟩ := codeM_zero hk
  obtain ⟨hN, _, hl⟩ := plainM_N hp
  have HFI : Aside0 (∀ W, Below w.heap.size w W → Calls Tryd.prog 58 #[.slice A0 m.length c0, .int .i64 sets, .int .i64 subs] W fun e w' => ∃ (g : Nat) (vf : Value), e = .returned (.pointer (some ⟨g, 0, none⟩)) ∧
    w'.heap[g]? = some (.cells (cs5 A0 c0 m sets subs ((findL m sets subs.toNat).length : Int) vf) 79 (0, 0)) ∧ (∀ x, (findL m sets subs.toNat).head? = some x → Own W.heap.size w' vf x) ∧ Below W.heap.size W w') := ⟨fun W hW => by
   have := l02Find_calls A0 c0 m sets subs.toNat W (Kd.C_below hr hW) hc hN hl (by omega)
   rw [Int.toNat_of_nonneg hsu.1] at this
   exact this⟩
  have HRES := Aside0.mk (show hoistW m sets subs = match (findL m sets subs.toNat).head? with | some h => (h, 0) | none => ([], 6) from if_pos hk)
  rw [HRES.out]
  rw [hk] at HCO
  clear hk hp hN hr hs hsu hse HRES
  generalize findL m sets subs.toNat = L at *
  cases L with
  | nil =>
   go_enter Tryd.func31, Tryd.ntmps31
   go_wp2_with (first
    | (go_at_call 57; refine HCO.out.mono ?_; rintro e w1 ⟨rfl, hb1⟩; have HB1 := Aside0.mk hb1; clear hb1)
    | (go_at_call 58; refine (HFI.out _ HB1.out).mono ?_; rintro e w2 ⟨g, vf, rfl, hg, ho, hb2⟩; have hc3 := cell_of_row w2 g 3 _ 79 (0, 0) hg; simp [cs5] at hc3; have HB2 := Aside0.mk (HB1.out.trans (hb2.mono HB1.out.size)); clear hb2 ho hg))
   go_ret2
   exact ⟨_, rfl, HOW.out _ HB2.out, below_alloc HB2.out _⟩
  | cons h r =>
   have hn0 : (((h :: r).length : Int) == 0) = false := by rw [beq_eq_false_iff_ne]; simp; omega
   have HHD := Aside0.mk (show (h :: r).head? = some h from rfl)
   have HFI2 : Aside0 (∀ W, Below w.heap.size w W → Calls Tryd.prog 58 #[.slice A0 m.length c0, .int .i64 sets, .int .i64 subs] W fun e w' => ∃ (g : Nat) (vf : Value), e = .returned (.pointer (some ⟨g, 0, none⟩)) ∧
    w'.heap[g]? = some (.cells (cs5 A0 c0 m sets subs ((h :: r).length : Int) vf) 79 (0, 0)) ∧ Own W.heap.size w' vf h ∧ Below W.heap.size W w') := ⟨fun W hW => (HFI.out W hW).mono fun e w' ⟨g, vf, h1, h2, h3, h4⟩ => ⟨g, vf, h1, h2, h3 h rfl, h4⟩⟩
   show Calls _ _ _ _ (fun e w' => ∃ v, e = .returned (.tuple #[v, .int .i64 0]) ∧ Own w.heap.size w' v h ∧ Below w.heap.size w w')
   clear HFI HHD
   generalize (h :: r).length = n at *
   go_enter Tryd.func31, Tryd.ntmps31
   go_wp2_with (first
    | (go_at_call 57; refine HCO.out.mono ?_; rintro e w1 ⟨rfl, hb1⟩; have HB1 := Aside0.mk hb1; clear hb1)
    | (go_at_call 58; refine (HFI2.out _ HB1.out).mono ?_; rintro e w2 ⟨g, vf, rfl, hg, ho, hb2⟩; have hc3 := cell_of_row w2 g 3 _ 79 (0, 0) hg; have hc4 := cell_of_row w2 g 4 _ 79 (0, 0) hg; simp [cs5] at hc3 hc4; have HB2 := Aside0.mk (HB1.out.trans (hb2.mono HB1.out.size)); have HO := Aside0.mk (own_lower ho HB1.out.size); clear hb2 ho hg))
   go_ret2
   exact ⟨vf, rfl, HO.out, HB2.out⟩
 ·have HRES := Aside0.mk (show hoistW m sets subs = ([], codeM m sets subs) from if_neg hk)
  rw [HRES.out]
  have hk1 : (codeM m sets subs != 0) = true := by rw [bne_iff_ne]; exact hk
  clear hk hr hs HRES
  generalize codeM m sets subs = q at *
  go_enter Tryd.func31, Tryd.ntmps31
  go_wp2_with (go_at_call 57; refine HCO.out.mono ?_; rintro e w1 ⟨rfl, hb1⟩; have HB1 := Aside0.mk hb1; clear hb1)
  go_ret2
  exact ⟨_, rfl, HOW.out _ HB1.out, below_alloc HB1.out _⟩
end Go.Proofs.YtdgecgfgekmhcaaDoor.Arr
namespace Go.Proofs.YtdgecgfgekmhcaaDoor.Arr
open Go.RowKit Go.Proofs.YtdgecgfgekmhcaaDoorW.PrintWords Go.Proofs.YtdgecgfgekmhcaaDoorW.PrintLast Go.Proofs.YtdgecgfgekmhcaaDoorW.PrintMore Go.Proofs.YtdgecgfgekmhcaaDoor.U Go.Proofs.YtdgecgfgekmhcaaDoor.J
set_option linter.unusedVariables false
set_option linter.unusedSimpArgs false
def goodM (subs : Nat) (m : List Int) : Bool := !(findL m 1 subs).isEmpty
def kidsTo (m : List Int) (q : Nat) : List (List Int) := (List.range q).map fun (c : Nat) => m ++ [(c : Int)]
def lastL (K : Nat) : Nat → List (List Int)
 | 0 => [[]]
 | i + 1 => (lastL K i).flatMap fun m => kidsTo m K
def outL (K subs : Nat) : Nat → List (List Int)
 | 0 => []
 | i + 1 => outL K subs i ++ (lastL K (i + 1)).filter (goodM subs)
theorem kidsTo_succ (m : List Int) (q : Nat) : kidsTo m (q + 1) = kidsTo m q ++ [m ++ [(q : Int)]] := by
 unfold kidsTo; rw [List.range_succ, List.map_append]; rfl
theorem kidsTo_len (m : List Int) (q : Nat) : (kidsTo m q).length = q := by simp [kidsTo]
theorem flat_take_succ (ls : List (List Int)) (K p : Nat) (hp : p < ls.length) : (ls.take (p + 1)).flatMap (fun m => kidsTo m K) = (ls.take p).flatMap (fun m => kidsTo m K) ++ kidsTo ls[p] K := by
 rw [List.take_succ_eq_append_getElem hp, List.flatMap_append]; simp
theorem flat_len (K : Nat) : ∀ ls : List (List Int), (ls.flatMap fun m => kidsTo m K).length = ls.length * K
 | [] => by simp
 | m :: r => by rw [List.flatMap_cons, List.length_append, kidsTo_len, flat_len K r, List.length_cons, Nat.succ_mul, Nat.add_comm]
theorem lastL_mem (K : Nat) : ∀ (i : Nat) (x : List Int), x ∈ lastL K i → x.length = i ∧ ∀ y ∈ x, 0 ≤ y ∧ y < K
 | 0, x, h => by
  rw [lastL, List.mem_singleton] at h
  subst h
  exact ⟨rfl, fun y hy => by cases hy⟩
 | i + 1, x, h => by
  rw [lastL, List.mem_flatMap] at h
  obtain ⟨m, hm, hx⟩ := h
  unfold kidsTo at hx
  rw [List.mem_map] at hx
  obtain ⟨c, hc, rfl⟩ := hx
  rw [List.mem_range] at hc
  have ih := lastL_mem K i m hm
  refine ⟨by simp [ih.1], fun y hy => ?_⟩
  rcases List.mem_append.1 hy with hy | hy
  ·exact ih.2 y hy
  ·rw [List.mem_singleton] at hy; subst hy; omega
theorem lastL_len (K : Nat) : ∀ i, (lastL K i).length = K ^ i
 | 0 => rfl
 | i + 1 => by rw [lastL, flat_len, lastL_len K i, Nat.pow_succ]
theorem lastL_le (K : Nat) (hK : K ≤ 10) (i : Nat) (hi : i ≤ 3) : (lastL K i).length ≤ 1000 := by
 rw [lastL_len]
 exact Nat.le_trans (Nat.pow_le_pow_left hK i) (Nat.le_trans (Nat.pow_le_pow_right (by omega) hi) (by decide))
theorem lastL_le2 (K : Nat) (hK : K ≤ 10) (i : Nat) (hi : i ≤ 2) : (lastL K i).length ≤ 100 := by
 rw [lastL_len]
 exact Nat.le_trans (Nat.pow_le_pow_left hK i) (Nat.le_trans (Nat.pow_le_pow_right (by omega) hi) (by decide))
theorem outL_le (K subs : Nat) (hK : K ≤ 10) : ∀ i, i ≤ 3 → (outL K subs i).length ≤ i * 1000
 | 0, _ => by simp [outL]
 | i + 1, hi => by
  rw [outL, List.length_append]
  have h1 := outL_le K subs hK i (by omega)
  have h2 := List.length_filter_le (goodM subs) (lastL K (i + 1))
  have h3 := lastL_le K hK (i + 1) hi
  omega
theorem runH_flags {m : List Int} (hm : ∀ y ∈ m, 0 ≤ y ∧ y ≤ 39) : ∀ i : Nat, i ≤ m.length → runH m i = some (m.take i, 0)
 | 0, _ => by simp [runH]
 | i + 1, hi => by
  rw [runH, runH_flags hm i (by omega), Option.bind_some]
  have hx := hm (rd m (i : Int)) (by rw [rd_get m i (by omega)]; exact List.getElem_mem _)
  unfold stepH
  rw [if_neg (by omega), if_pos hx, List.take_succ_eq_append_getElem (by omega), rd_get m i (by omega)]
theorem readH_flags {m : List Int} (hm : ∀ y ∈ m, 0 ≤ y ∧ y ≤ 39) (h1 : 1 ≤ m.length) (h8 : m.length ≤ 8) : readH m = some m := by
 unfold readH
 rw [if_pos ⟨h1, h8⟩, runH_flags hm m.length (Nat.le_refl _), List.take_length]
 simp only
 rw [if_pos (by omega)]
theorem plainM_flags {m : List Int} (hm : ∀ y ∈ m, 0 ≤ y ∧ y ≤ 39) (h1 : 1 ≤ m.length) (h8 : m.length ≤ 8) : plainM m = true := by
 unfold plainM okH
 rw [readH_flags hm h1 h8]
 have : m.any oddM = false := by
  rw [List.any_eq_false]
  intro y hy
  have := hm y hy
  unfold oddM
  rw [decide_eq_false (by omega)]; simp
 rw [this]; rfl
theorem codeM_flags {m : List Int} (hm : ∀ y ∈ m, 0 ≤ y ∧ y ≤ 39) (h1 : 1 ≤ m.length) (h8 : m.length ≤ 8) (S : Nat) (hS : S ≤ 4) : codeM m 1 (S : Int) = 0 := by
 unfold codeM
 rw [if_pos (plainM_flags hm h1 h8), if_pos (by omega)]
theorem hoistW_flags {m : List Int} (S : Nat) (hm : ∀ y ∈ m, 0 ≤ y ∧ y ≤ 39) (h1 : 1 ≤ m.length) (h8 : m.length ≤ 8) (hS : S ≤ 4) : (hoistW m 1 (S : Int)).2 = if goodM S m = true then 0 else 6 := by
 unfold hoistW goodM
 rw [codeM_flags hm h1 h8 S hS, if_pos rfl, Int.toNat_natCast]
 cases findL m 1 S <;> simp
theorem flags_snoc {m : List Int} {K q : Nat} (hm : ∀ y ∈ m, 0 ≤ y ∧ y < (K : Int)) (hK : K ≤ 10) (hq : q < K) : ∀ y ∈ m ++ [(q : Int)], 0 ≤ y ∧ y ≤ 39 := fun y hy => by
 rcases List.mem_append.1 hy with hy | hy
 ·have := hm y hy; omega
 ·rw [List.mem_singleton] at hy; subst hy; omega
abbrev ShpM := Option Addr × Nat × Nat
def kdH : Kd ShpM := Kd.scalar (fun x => Value.slice x.1 x.2.1 x.2.2) (fun _ => rfl)
theorem infoM : (Tryd.prog.info? 53).map (fun i => (i.zero, i.size, i.bytes)) = some (some (.slice none 0 0), 1, 24) := by kernel_rfl
abbrev kM : Kd (List Int) := Kd.slice 22 (Kd.int .i8)
def RdI (w : World) (A : Option Addr) (x : List Int) : Prop := x.length ≤ 1000 ∧ (0 < x.length → ∃ g cells, A = some ⟨g, 0, none⟩ ∧ w.heap[g]? = some (.cells cells 22 (0, 0)) ∧ ∀ (j : Nat) y, x[j]? = some y → cells[j]? = some (.int .i8 y))
namespace RdI
variable {w w1 : World} {A : Option Addr} {x : List Int}
theorem C (h : RdI w A x) : Kd.C (Kd.int .i8) w A x.length x := by
 obtain ⟨h0, h1⟩ := h
 refine ⟨rfl, by omega, fun hp => ?_⟩
 obtain ⟨g, cells, rfl, hc, hv⟩ := h1 hp
 refine ⟨_, rfl, fun j y hj => ⟨[.int .i8 y], rfl, rfl, fun i u hu => ?_⟩⟩
 rcases i with _ | i
 ·cases hu
  have hadd : (⟨g, 0, none⟩ : Addr).add (j * 1 + 0) = ⟨g, j, none⟩ := by unfold Addr.add; split <;> simp_all
  show w.cell? ((⟨g, 0, none⟩ : Addr).add (j * 1 + 0)) = _
  rw [hadd, cell_of_row w g j _ _ (0, 0) hc]
  exact hv j y hj
 ·simp at hu
theorem move (h : RdI w A x) (hm : ∀ (g : Nat) cells, w.heap[g]? = some (.cells cells 22 (0, 0)) → w1.heap[g]? = some (.cells cells 22 (0, 0))) : RdI w1 A x := ⟨h.1, fun hp => by
 obtain ⟨g, cells, e, hc, hv⟩ := h.2 hp
 exact ⟨g, cells, e, hm g cells hc, hv⟩⟩
theorem below (h : RdI w A x) (hb : Below w.heap.size w w1) : RdI w1 A x := h.move fun g cells hc => (hb.block g (lt_of_some hc)).trans hc
theorem grown (h : RdI w A x) {row : Option Nat} (hg : w.grownBy w1 row) (hr : ∀ k, row = some k → ∃ cells, w.heap[k]? = some (.cells cells 53 (0, 0))) : RdI w1 A x := h.move fun g cells hc => by
 refine (hg.block g (lt_of_some hc) (fun e => ?_)).trans hc
 obtain ⟨cells', hc'⟩ := hr g e.symm
 rw [hc] at hc'
 injection hc' with hc'
 injection hc' with _ hc'
 exact absurd hc' (by decide)
theorem of_own {base : Nat} {v : Value} (h : Own base w v x) (hx : x.length ≤ 1000) : ∃ A c, v = .slice A x.length c ∧ x.length ≤ c ∧ RdI w A x := by
 have hr := Kd.R_reads h
 obtain ⟨A, c, rfl, hc, _⟩ := hr
 refine ⟨A, c, rfl, hc, hx, fun hp => ?_⟩
 obtain ⟨h0, inner, hown, hrep⟩ := h
 obtain ⟨hil, ho⟩ := hown
 rcases ho with ⟨_, hz⟩ | ⟨g, cap, cur, e, hg, hh, hn, hcap, hcs, htk⟩
 ·omega
 ·injection e with e1 _ e3
  refine ⟨g, cur, e1, hh, fun j y hj => ?_⟩
  have hj1 := (List.getElem?_eq_some_iff.1 hj).1
  have hm := hrep.2 j y hj
  have hm2 : ((inner.drop (j * 1)).take 1) = [Value.int .i8 y] := hm
  have hi : inner[j]? = some (Value.int .i8 y) := by
   have := congrArg (fun l => l[0]?) hm2
   simpa using this
  rw [← htk, List.getElem?_take, if_pos (by show j < x.length * 1; omega), Array.getElem?_toList] at hi
  exact hi
theorem nil : RdI w A [] := ⟨by simp, fun h => absurd h (by simp)⟩
end RdI
def LsR (B : Nat) (w : World) (v : Value) (xs : List (List Int)) : Prop := ∃ ss : List ShpM, ss.length = xs.length ∧ Kd.R kdH 53 w B (fun _ => True) v ss ∧ ∀ (j : Nat) x, xs[j]? = some x → ∃ A c, ss[j]? = some (A, x.length, c) ∧ x.length ≤ c ∧ RdI w A x
theorem kdH_set {e base : Nat} {w : World} {ok ok' : Nat → Prop} {v : Value} {ss : List ShpM} (h : Kd.R kdH e w base ok v ss) (hk : ∀ k, v.ownBlock = some k → ok' k) : Kd.R kdH e w base ok' v ss := ⟨hk, h.2⟩
theorem kdH_grown {e base : Nat} {w w1 : World} {v : Value} {ss : List ShpM} (h : Kd.R kdH e w base (fun _ => True) v ss) {row : Option Nat} (hg : w.grownBy w1 row) (hk : ∀ k, v.ownBlock = some k → row ≠ some k) : Kd.R kdH e w1 base (fun _ => True) v ss :=
 Kd.R_mono (Kd.R_grown (kdH_set (ok' := fun k => row ≠ some k) h hk) hg fun k hk e => hk e.symm) fun _ _ => trivial
namespace LsR
variable {B : Nat} {w w1 : World} {v : Value} {xs : List (List Int)}
theorem below (h : LsR B w v xs) (hb : Below w.heap.size w w1) : LsR B w1 v xs := by
 obtain ⟨ss, h1, h2, h3⟩ := h
 refine ⟨ss, h1, Kd.R_below h2 hb, fun j x hj => ?_⟩
 obtain ⟨A, c, e, hc, hr⟩ := h3 j x hj
 exact ⟨A, c, e, hc, hr.below hb⟩
theorem grown (h : LsR B w v xs) {row : Option Nat} (hg : w.grownBy w1 row) (hk : ∀ k, v.ownBlock = some k → row ≠ some k) (hr : ∀ k, row = some k → ∃ cells, w.heap[k]? = some (.cells cells 53 (0, 0))) : LsR B w1 v xs := by
 obtain ⟨ss, h1, h2, h3⟩ := h
 refine ⟨ss, h1, kdH_grown h2 hg hk, fun j x hj => ?_⟩
 obtain ⟨A, c, e, hc, hrd⟩ := h3 j x hj
 exact ⟨A, c, e, hc, hrd.grown hg hr⟩
theorem typed (h : LsR B w v xs) : ∀ k, v.ownBlock = some k → ∃ cells, w.heap[k]? = some (.cells cells 53 (0, 0)) := by
 obtain ⟨ss, _, h2, _⟩ := h
 exact Kd.R_typed h2
theorem slice (h : LsR B w v xs) : ∃ A c, v = .slice A xs.length c ∧ xs.length ≤ c := by
 obtain ⟨ss, h1, h2, _⟩ := h
 obtain ⟨A, c, e, hc, _⟩ := Kd.R_reads h2
 exact ⟨A, c, by rw [e, h1], by omega⟩
theorem at_ (h : LsR B w v xs) (j : Nat) (hj : j < xs.length) : ∃ ad c A cm, v = .slice (some ad) xs.length c ∧ w.cell? (ad.add j) = some (.slice A (xs[j]).length cm) ∧ (xs[j]).length ≤ cm ∧ RdI w A xs[j] := by
 obtain ⟨ss, h1, h2, h3⟩ := h
 obtain ⟨A, c, e, hc, hC⟩ := Kd.R_reads h2
 obtain ⟨_, _, hC3⟩ := hC
 obtain ⟨ad, e2, hcell⟩ := hC3 (by omega)
 obtain ⟨A1, c1, hs, hle, hrd⟩ := h3 j _ (List.getElem?_eq_getElem hj)
 obtain ⟨cs, _, hk, hq⟩ := hcell j _ hs
 have hk : cs = [Value.slice A1 (xs[j]).length c1] := hk
 refine ⟨ad, c, A1, c1, by rw [e, h1, e2], ?_, hle, hrd⟩
 have := hq 0 _ (by rw [hk]; rfl)
 simpa [kdH, Kd.scalar] using this
theorem push {ss : List ShpM} (h1 : ss.length = xs.length) (h2 : Kd.R kdH 53 w B (fun _ => True) v ss) (h3 : ∀ (j : Nat) x, xs[j]? = some x → ∃ A c, ss[j]? = some (A, x.length, c) ∧ x.length ≤ c ∧ RdI w A x) {w2 : World} {v2 : Value} {x : List Int} {A : Option Addr} {c : Nat} (hg : w.grownBy w2 v.ownBlock) (hc : x.length ≤ c) (hrd : RdI w2 A x)
  (hR : Kd.R kdH 53 w2 B (fun _ => True) v2 (ss ++ [(A, x.length, c)])) : LsR B w2 v2 (xs ++ [x]) := by
 have ht := Kd.R_typed h2
 refine ⟨ss ++ [(A, x.length, c)], by simp [h1], hR, fun j y hj => ?_⟩
 rcases Nat.lt_or_ge j xs.length with hlt | hge
 ·rw [List.getElem?_append_left hlt] at hj
  obtain ⟨A1, c1, e, hc1, hr1⟩ := h3 j y hj
  exact ⟨A1, c1, by rw [List.getElem?_append_left (by omega)]; exact e, hc1, hr1.grown hg ht⟩
 ·have hj1 := (List.getElem?_eq_some_iff.1 hj).1
  simp at hj1
  obtain rfl : j = xs.length := by omega
  simp at hj
  subst hj
  exact ⟨A, c, by rw [← h1]; simp, hc, hrd⟩
end LsR
structure Rows (w : World) (N : Nat) (Bx : List (Nat × Array Value × TypeId)) (wr : World) (vo vl vn : Value) (outs ls ns : List (List Int)) : Prop where
 out : Kd.S kM 53 wr w.heap.size (fun k => (some k ≠ vl.ownBlock ∧ k < N) ∧ some k ≠ vn.ownBlock) vo outs
 last : LsR w.heap.size wr vl ls
 next : LsR w.heap.size wr vn ns
 ln : ∀ k, vl.ownBlock = some k → vn.ownBlock ≠ some k
 box : ∀ b ∈ Bx, wr.heap[b.1]? = some (.cells b.2.1 b.2.2 (0, 0)) ∧ b.2.2 ≠ 53
 le : N ≤ wr.heap.size
 bel : Below w.heap.size w wr
namespace Rows
variable {w wr w1 : World} {N : Nat} {Bx : List (Nat × Array Value × TypeId)} {vo vl vn : Value} {outs ls ns : List (List Int)}
theorem renew (h : Rows w N Bx wr vo vl vn outs ls ns) : Rows w wr.heap.size Bx wr vo vl vn outs ls ns :=
 ⟨Kd.S_mono (Kd.S_bound h.out) fun k hk => ⟨⟨hk.1.1.1, hk.2.2.1⟩, hk.1.2⟩, h.last, h.next, h.ln, h.box, Nat.le_refl _, h.bel⟩
theorem below (h : Rows w N Bx wr vo vl vn outs ls ns) (hb : Below wr.heap.size wr w1) : Rows w N Bx w1 vo vl vn outs ls ns :=
 ⟨Kd.S_below h.out hb, h.last.below hb, h.next.below hb, h.ln, fun b hm => ⟨(hb.block b.1 (lt_of_some (h.box b hm).1)).trans (h.box b hm).1, (h.box b hm).2⟩, Nat.le_trans h.le hb.size, h.bel.trans (hb.mono h.bel.size)⟩
theorem cell (h : Rows w N Bx wr vo vl vn outs ls ns) {g : Nat} {cs : Array Value} {t : TypeId} (hb : (g, cs, t) ∈ Bx) (i : Nat) : wr.cell? ⟨g, i, none⟩ = cs[i]? := cell_of_row wr g i cs t (0, 0) (h.box _ hb).1
theorem boxed (h : Rows w N Bx wr vo vl vn outs ls ns) {row : Option Nat} (hg : wr.grownBy w1 row) (hr : ∀ k, row = some k → ∃ cells, wr.heap[k]? = some (.cells cells 53 (0, 0))) :
  ∀ b ∈ Bx, w1.heap[b.1]? = some (.cells b.2.1 b.2.2 (0, 0)) ∧ b.2.2 ≠ 53 := fun b hm => by
 obtain ⟨h1, h2⟩ := h.box b hm
 refine ⟨(hg.block b.1 (lt_of_some h1) (fun e => ?_)).trans h1, h2⟩
 obtain ⟨cells, hc⟩ := hr b.1 e.symm
 rw [h1] at hc
 injection hc with hc
 injection hc with _ hc
 exact h2 hc
theorem not_old {u : Value} (hu : ∀ k, u.ownBlock = some k → k < wr.heap.size) {v : Value} (hv : v.ownBlock = u.ownBlock ∨ ∃ b, v.ownBlock = some b ∧ wr.heap.size ≤ b) {x : Value} (hx : ∀ k, x.ownBlock = some k → k < wr.heap.size ∧ u.ownBlock ≠ some k) : ∀ k, x.ownBlock = some k → v.ownBlock ≠ some k := fun k hk e => by
 have h1 := hx k hk
 rcases hv with hv | ⟨b, hb, hle⟩
 ·rw [hv] at e; exact h1.2 e
 ·rw [hb] at e; injection e with e; omega
theorem typed_lt {w : World} {v : Value} {t : TypeId} (h : ∀ k, v.ownBlock = some k → ∃ cells, w.heap[k]? = some (.cells cells t (0, 0))) : ∀ k, v.ownBlock = some k → k < w.heap.size := fun k hk => by
 obtain ⟨cells, hc⟩ := h k hk; exact lt_of_some hc
theorem pushNext (h : Rows w N Bx wr vo vl vn outs ls ns) {ss : List ShpM} (h1 : ss.length = ns.length) (h2 : Kd.R kdH 53 wr w.heap.size (fun _ => True) vn ss) (h3 : ∀ (j : Nat) x, ns[j]? = some x → ∃ A c, ss[j]? = some (A, x.length, c) ∧ x.length ≤ c ∧ RdI wr A x) {v2 : Value} {x : List Int} {A : Option Addr} {c : Nat} (hg : wr.grownBy w1 vn.ownBlock) (hat : v2.ownBlock = vn.ownBlock ∨ ∃ b, v2.ownBlock = some b ∧ wr.heap.size ≤ b) (hb : Below w.heap.size w w1) (hc : x.length ≤ c) (hrd : RdI wr A x)
  (hR : Kd.R kdH 53 w1 w.heap.size (fun _ => True) v2 (ss ++ [(A, x.length, c)])) : Rows w N Bx w1 vo vl v2 outs ls (ns ++ [x]) := by
 have ht := h.next.typed
 refine ⟨Kd.S_after h.out hg hat, h.last.grown hg (fun k hk => h.ln k hk) ht, LsR.push h1 h2 h3 hg hc (hrd.grown hg ht) hR, ?_, h.boxed hg ht, Nat.le_trans h.le hg.size, hb⟩
 exact not_old (typed_lt ht) hat fun k hk => ⟨typed_lt h.last.typed k hk, h.ln k hk⟩
theorem out_block (h : Rows w N Bx wr vo vl vn outs ls ns) : ∀ k, vo.ownBlock = some k → some k ≠ vl.ownBlock ∧ some k ≠ vn.ownBlock := fun k hk => by
 have := (Kd.S_R h.out).1 k hk
 exact ⟨this.1.1, this.2⟩
theorem pushOut (h : Rows w N Bx wr vo vl vn outs ls ns) {v2 : Value} {x : List Int} (hg : wr.grownBy w1 vo.ownBlock) (hb : Below w.heap.size w w1)
  (hS : Kd.S kM 53 w1 w.heap.size (fun k => some k ≠ vl.ownBlock ∧ some k ≠ vn.ownBlock) v2 (outs ++ [x])) : Rows w w1.heap.size Bx w1 v2 vl vn (outs ++ [x]) ls ns := by
 have ht : ∀ k, vo.ownBlock = some k → ∃ cells, wr.heap[k]? = some (.cells cells 53 (0, 0)) := Kd.S_typed h.out
 refine ⟨Kd.S_mono (Kd.S_bound hS) fun k hk => ⟨⟨hk.1.1, hk.2.2.1⟩, hk.1.2⟩, h.last.grown hg (fun k hk e => (h.out_block k e).1 hk.symm) ht, h.next.grown hg (fun k hk e => (h.out_block k e).2 hk.symm) ht, h.ln, h.boxed hg ht, Nat.le_refl _, hb⟩
theorem own_typed {base : Nat} {v : Value} {x : List Int} (ho : Own base wr v x) : ∀ k, v.ownBlock = some k → ∃ cells, wr.heap[k]? = some (.cells cells 22 (0, 0)) := Kd.R_typed ho
theorem ne_types {u v : Value} {t t' : TypeId} (hne : t ≠ t') (hu : ∀ k, u.ownBlock = some k → ∃ cells, wr.heap[k]? = some (.cells cells t (0, 0))) (hv : ∀ k, v.ownBlock = some k → ∃ cells, wr.heap[k]? = some (.cells cells t' (0, 0))) : ∀ k, some k = u.ownBlock → some k ≠ v.ownBlock := fun k hk e => by
 obtain ⟨c1, h1⟩ := hu k hk.symm
 obtain ⟨c2, h2⟩ := hv k e.symm
 rw [h1] at h2
 injection h2 with h2
 injection h2 with _ h2
 exact hne h2
theorem give (h : Rows w N Bx wr vo vl vn outs ls ns) {v : Value} {x : List Int} (ho : Own N wr v x) (hwN : w.heap.size ≤ N) : kM.M wr w.heap.size (fun k => some k = v.ownBlock) x [v] ∧ (∀ k, some k = v.ownBlock → (some k ≠ vl.ownBlock ∧ some k ≠ vn.ownBlock) ∧ some k ≠ vo.ownBlock) ∧
  (∀ k, wr.heap.size ≤ k → some k ≠ vl.ownBlock ∧ some k ≠ vn.ownBlock) ∧ Kd.S kM 53 wr w.heap.size (fun k => (some k ≠ vl.ownBlock ∧ some k ≠ vn.ownBlock) ∧ ¬ some k = v.ownBlock) vo outs := by
 have hN : ∀ k, v.ownBlock = some k → N ≤ k := fun k hk => Kd.R_base ho k hk
 have h48 : 22 ≠ 53 := by decide
 have ht := own_typed ho
 refine ⟨⟨v, rfl, ?_⟩, fun k hk => ⟨⟨ne_types h48 ht h.last.typed k hk, ne_types h48 ht h.next.typed k hk⟩, ne_types h48 ht (Kd.S_typed h.out) k hk⟩, fun k hk => ⟨fun e => ?_, fun e => ?_⟩, Kd.S_mono h.out fun k hk => ⟨⟨hk.1.1, hk.2⟩, fun e => ?_⟩⟩
 ·refine Kd.R_lower (Kd.R_mono (ok := fun k => some k = v.ownBlock) ⟨fun k hk => hk.symm, ?_⟩ fun _ hk => hk) hwN
  exact ho.2
 ·have := typed_lt h.last.typed k e.symm; omega
 ·have := typed_lt h.next.typed k e.symm; omega
 ·have := hN k e.symm
  have := hk.1.2
  omega
end Rows
end Go.Proofs.YtdgecgfgekmhcaaDoor.Arr
namespace Go.Proofs.YtdgecgfgekmhcaaDoor.Arr
open Go.RowKit Go.Proofs.YtdgecgfgekmhcaaDoorW.PrintWords Go.Proofs.YtdgecgfgekmhcaaDoorW.PrintLast Go.Proofs.YtdgecgfgekmhcaaDoorW.PrintMore Go.Proofs.YtdgecgfgekmhcaaDoor.U Go.Proofs.YtdgecgfgekmhcaaDoor.J
set_option linter.unusedVariables false
set_option linter.unusedSimpArgs false
set_option maxHeartbeats 1000000 in
set_option maxRecDepth 100000 in
theorem cloneM_calls (A0 : Option Addr) (c0 : Nat) (l0 : List Int) (w : World) (hr0 : Kd.C (Kd.int .i8) w A0 l0.length l0) (hc0 : l0.length ≤ c0) (hl : l0.length < 140737488355328) :
  Calls Tryd.prog 66 #[.slice A0 l0.length c0] w fun e w' => ∃ v0 : Value, e = .returned v0 ∧ Own w.heap.size w' v0 l0 ∧ Below w.heap.size w w' := by
 have HR0 := Aside0.mk hr0
 have hm := Kd.C_max hr0
 have HL := Aside0.mk hl
 clear hr0 hl
 have heq := fun (W : World) (n c : Nat) => Lib.run_eql_slice_nil (P := Tryd.prog) W 53 22 A0 n c 0 0 Tryd.underlying53
 cases A0 with
 | none =>
  have h0 : l0 = [] := by
   rcases Nat.eq_zero_or_pos l0.length with h | h
   ·exact List.eq_nil_of_length_eq_zero h
   ·obtain ⟨ad, e, _⟩ := HR0.out.2.2 h; cases e
  go_enter Tryd.func66, Tryd.ntmps66
  go_wp2_with fail
  go_ret
  exact ⟨_, rfl, by rw [h0]; exact Kd.R_nil _ _ _ _ _, Below.refl _ _⟩
 | some ad =>
  go_enter Tryd.func66, Tryd.ntmps66
  go_wp2_with (first
   | ((with_reducible refine gate_dst (N := 5) rfl ?_); refine Kd.R_lit (Kd.int .i8) _ 22 ?hg (N := 5) ?hd (xs := ([] : List Int)) (inner := []) (ok := fun _ => True) (okp := fun _ => True) ?hr ?hp (fun _ hk => hk) trivial (Below.refl _ _) (Nat.le_refl _) (by simp) ?_; (case hd => rfl); (case hg => rfl); (case hr => first | (go_simp; done) | (go_simp; rfl)); (case hp => exact (Reps.none _ _)); intro v1 w1 ho hb _ _; have HO := Aside0.mk ho; have HB := Aside0.mk hb; clear ho hb)
   | ((with_reducible refine gate_builtin (b := .append) (xs := #[.tmp 5, .tmp 6]) rfl ?_); at_builtin; refine Kd.R_append_rows (Kd.int .i8) (w0 := w) w.heap.size rfl (.tmp 5) (.tmp 6) 53 22 (.int .i8 0) 1 rfl Tryd.underlying53 infoI8 rfl (by decide) (by omega) v1 [] l0 _ _ _ (fun _ => True) (fun _ => False) rfl rfl ?aO ?aR (fun _ _ h => h) (fun _ h => h.elim) (fun _ _ => trivial) ?aB ?aS ?aL ?_; (case aR => exact Kd.C_below HR0.out HB.out); (case aB => exact HB.out); (case aO => exact HO.out); (case aS => exact HB.out.size); (case aL => have := HL.out; simp; omega); intro v2 w2 ho hb _ _; have HO2 := Aside0.mk ho; have HB2 := Aside0.mk hb; clear ho hb))
  go_ret
  exact ⟨_, rfl, HO2.out, HB2.out⟩
theorem goodFirst_calls (A : Option Addr) (c : Nat) (m : List Int) (S : Nat) (W : World) (hr : Kd.C (Kd.int .i8) W A m.length m) (hc : m.length ≤ c) (hm : ∀ x ∈ m, PlainN x) (hl : m.length ≤ 1000) (hS : S ≤ 4) :
  Calls Tryd.prog 62 #[.slice A m.length c, .agg (vals .i64 (evenL 1 S))] W fun e w' => ∃ v, e = .returned (.tuple #[v, .bool (goodM S m)]) ∧ Below W.heap.size W w' := by
 refine (first_calls A c m (evenL 1 S) W hr hc hm hl (evenL_length 1 S (by omega)) (evenL_b 1 S (by omega) (by omega) (by omega))).mono ?_
 rintro e w' ⟨v, b, rfl, hf, hb⟩
 rw [find_even hm 1 S (by omega) (by omega) (by omega), Int.toNat_natCast] at hf
 refine ⟨v, ?_, hb⟩
 unfold goodM
 cases hL : findL m 1 S with
 | nil => rw [hL] at hf; rw [hf.2]; rfl
 | cons h r => rw [hL] at hf; rw [hf.1]; rfl
theorem snoc_len (m : List Int) (y : Int) : (m ++ [y]).length = m.length + 1 := by simp
theorem plain_snoc {m : List Int} {K q : Nat} (hm : ∀ y ∈ m, 0 ≤ y ∧ y < (K : Int)) (hK : K ≤ 10) (hq : q < K) : ∀ y ∈ m ++ [(q : Int)], PlainN y := fun y hy => by
 rcases List.mem_append.1 hy with hy | hy
 ·have := hm y hy; exact Or.inr (by omega)
 ·rw [List.mem_singleton] at hy; subst hy; exact Or.inr (by omega)
theorem lit_none2 (w : World) (base : Nat) (hb : base ≤ w.heap.size) : LsR base (w.alloc (.cells #[] 53)) (.slice (some ⟨w.heap.size, 0, none⟩) 0 0) [] := by
 refine ⟨[], rfl, ⟨fun k hk => trivial, [], ?_, Reps.none _ _⟩, fun j x hj => by simp at hj⟩
 have h2 := World.ownsRow_lit (base := base) (e := 53) (size := 1) w #[] 0 hb (by simp [maxLen]) (by simp)
 have h3 : (w.alloc (.cells #[] 53)).ownsRow base 53 1 (.slice (some ⟨w.heap.size, 0, none⟩) 0 0) 0 [] := by simpa using h2
 exact h3
structure Rows2 (w : World) (Bx : List (Nat × Array Value × TypeId)) (wr : World) (vo vl : Value) (outs ls : List (List Int)) : Prop where
 out : Kd.S kM 53 wr w.heap.size (fun k => some k ≠ vl.ownBlock ∧ k < wr.heap.size) vo outs
 last : LsR w.heap.size wr vl ls
 box : ∀ b ∈ Bx, wr.heap[b.1]? = some (.cells b.2.1 b.2.2 (0, 0)) ∧ b.2.2 ≠ 53
 bel : Below w.heap.size w wr
theorem Rows.two {w wr : World} {N : Nat} {Bx : List (Nat × Array Value × TypeId)} {vo vl vn : Value} {outs ls ns : List (List Int)} (h : Rows w N Bx wr vo vl vn outs ls ns) : Rows2 w Bx wr vo vn outs ns :=
 ⟨Kd.S_mono (Kd.S_bound h.out) fun k hk => ⟨hk.1.2, hk.2.2.1⟩, h.next, h.box, h.bel⟩
theorem Rows2.three {w wr : World} {Bx : List (Nat × Array Value × TypeId)} {vo vl : Value} {outs ls : List (List Int)} (h : Rows2 w Bx wr vo vl outs ls) : Rows w wr.heap.size Bx (wr.alloc (.cells #[] 53)) vo vl (.slice (some ⟨wr.heap.size, 0, none⟩) 0 0) outs ls [] := by
 have hb := below_alloc (Below.refl wr.heap.size wr) (.cells #[] 53)
 have hsz : (wr.alloc (.cells #[] 53)).heap.size = wr.heap.size + 1 := by simp
 have hlt := Rows.typed_lt h.last.typed
 refine ⟨Kd.S_below (Kd.S_mono h.out fun k hk => ⟨⟨hk.1, hk.2⟩, fun e => ?_⟩) hb, h.last.below hb, lit_none2 wr _ h.bel.size, fun k hk e => ?_, fun b hm => ⟨(hb.block b.1 (lt_of_some (h.box b hm).1)).trans (h.box b hm).1, (h.box b hm).2⟩, by omega, h.bel.trans (hb.mono h.bel.size)⟩
 ·have : k = wr.heap.size := by simpa [Value.ownBlock] using e
  have := hk.2; omega
 ·have h1 := hlt k hk
  have : wr.heap.size = k := by simpa [Value.ownBlock] using e
  omega
theorem Rows2.cell {w wr : World} {Bx : List (Nat × Array Value × TypeId)} {vo vl : Value} {outs ls : List (List Int)} (h : Rows2 w Bx wr vo vl outs ls) {g : Nat} {cs : Array Value} {t : TypeId} (hb : (g, cs, t) ∈ Bx) (i : Nat) : wr.cell? ⟨g, i, none⟩ = cs[i]? := cell_of_row wr g i cs t (0, 0) (h.box _ hb).1
theorem Rows.row {w wr : World} {N : Nat} {Bx : List (Nat × Array Value × TypeId)} {vo vl vn : Value} {outs ls ns : List (List Int)} (h : Rows w N Bx wr vo vl vn outs ls ns) {g : Nat} {cs : Array Value} {t : TypeId} (hb : (g, cs, t) ∈ Bx) : wr.heap[g]? = some (.cells cs t (0, 0)) := (h.box _ hb).1
section
variable {P : Program} {ops : Array Oper} {rest : List Oper} {o : Oper} {a : Act} {w0 w : World} {M : List Ent} {Q : Exit → Act → World → Prop}
theorem st_litv (hgd : o.guard = none) {N n : Nat} (hd : o.dst = some N) (hm : Mem w0 w M) {cs : Array Value} {e : TypeId} (hrun : (execOp a.eval o).run P w = .ok (.value (.slice (some ⟨w.heap.size, 0, none⟩) n n)) (w.alloc (.cells cs e)))
  (h : ∀ g w1, Mem w0 w1 (⟨g, cs, e, true⟩ :: M) → wpList P ops Q rest (a.put (some N) (.slice (some ⟨g, 0, none⟩) n n)) w1) : wpList P ops Q (o :: rest) a w := by
 refine Kd.event_run hgd hrun ?_
 rw [hd]
 exact h _ _ (hm.new cs e)
theorem st_loadRow (hgd : o.guard = none) (ty : TypeId) (x : Operand) (ho : o.op = .load ty x) {g : Nat} (hx : a.eval x = .pointer (some ⟨g, 0, none⟩)) {k : IntKind} {L : List Int} {m : Nat} {t : TypeId}
  (hc : w.heap[g]? = some (.cells (vals k L) t (0, 0))) (hi2 : AggTy P ty m) (hl : L.length = m) (h : wpList P ops Q rest (a.put o.dst (.agg (vals k L))) w) : wpList P ops Q (o :: rest) a w := by
 obtain ⟨hd, hi0⟩ := hi2
 have hi : (P.info? ty).map (·.size) = some (vals k L).size := by rw [vals_size, hl]; exact hi0
 cases hu : P.underlying ty with
 | none => simp [hu] at hd
 | some d =>
  refine wpList_load_row hgd ty x ho g hx t (vals k L) (0, 0) d hc hu ?_ hi h
  cases d <;> simp_all
end
theorem S_block0 {w : World} {g base : Nat} {ok : Nat → Prop} (h : w.heap[g]? = some (.cells #[] 53 (0, 0))) (hb : base ≤ g) (hk : ok g) : Kd.S kM 53 w base ok (.slice (some ⟨g, 0, none⟩) 0 0) [] := by
 refine ⟨fun _ => 0, fun k hk2 => ?_, [], ⟨rfl, Or.inr ⟨g, 0, #[], rfl, hb, h, Nat.le_refl _, by simp [maxLen], rfl, rfl⟩⟩, Reps.none _ _⟩
 have : g = k := by simpa [Value.ownBlock] using hk2
 subst this; exact hk
theorem Ls_block1 {w : World} {g base : Nat} {A : Option Addr} {c : Nat} (h : w.heap[g]? = some (.cells #[.slice A 0 c] 53 (0, 0))) (hb : base ≤ g) : LsR base w (.slice (some ⟨g, 0, none⟩) 1 1) [[]] := by
 refine ⟨[(A, 0, c)], rfl, ⟨fun k hk => trivial, [.slice A 0 c], ⟨rfl, Or.inr ⟨g, 1, #[.slice A 0 c], rfl, hb, h, Nat.le_refl _, by simp [maxLen], rfl, rfl⟩⟩, ⟨rfl, fun j p hj => ?_⟩⟩, fun j x hj => ?_⟩
 ·rcases j with _ | j
  ·cases hj; rfl
  ·simp at hj
 ·rcases j with _ | j
  ·cases hj; exact ⟨A, c, rfl, Nat.zero_le _, RdI.nil⟩
  ·simp at hj
theorem filter_snoc (p : List Int → Bool) (l : List (List Int)) (x : List Int) : (l ++ [x]).filter p = l.filter p ++ (if p x = true then [x] else []) := by
 rw [List.filter_append]; cases h : p x <;> simp [h]
theorem ne27 : 28 ≠ 53 := by decide
theorem ne105 : 89 ≠ 53 := by decide
end Go.Proofs.YtdgecgfgekmhcaaDoor.Arr
namespace Go.Proofs.YtdgecgfgekmhcaaDoor.Arr
open Go.RowKit Go.Proofs.YtdgecgfgekmhcaaDoorW.PrintWords Go.Proofs.YtdgecgfgekmhcaaDoorW.PrintLast Go.Proofs.YtdgecgfgekmhcaaDoorW.PrintMore Go.Proofs.YtdgecgfgekmhcaaDoor.U Go.Proofs.YtdgecgfgekmhcaaDoor.J
set_option linter.unusedVariables false
set_option linter.unusedSimpArgs false
set_option maxHeartbeats 16000000 in
set_option maxRecDepth 100000 in
theorem implMeanings_calls (K L S : Nat) (A3 : Option Addr) (n3 c3 : Nat) (w : World) (hK0 : 1 ≤ K) (hK : K ≤ 10) (hL : L ≤ 3) (hS : S ≤ 4) :
  Calls Tryd.prog 51 #[.agg #[.int .i8 (K : Int), .int .i8 (L : Int), .int .i8 (S : Int), .slice A3 n3 c3]] w fun e w' => ∃ v, e = .returned v ∧ Kd.S kM 53 w' w.heap.size (fun _ => True) v (outL K S L) ∧ Below w.heap.size w w' := by
 have hm := Mem.start w
 have HEV : Aside0 (∀ W, Calls Tryd.prog 63 #[.int .i64 1, .int .i64 (S : Int)] W fun e w' => e = .returned (.agg (vals .i64 (evenL 1 S))) ∧ Below W.heap.size W w') := ⟨fun W => even_calls 1 (S : Int) W (by omega) (by omega)⟩
 have hwS : wrap64 (S : Int) = (S : Int) := w64 (by omega) (by omega)
 have hEL := Aside0.mk (evenL_length 1 (S : Int) (by omega))
 go_enter Tryd.func51, Tryd.ntmps51
 go_wp2_with (first
  | ((with_reducible refine gt_box 1 28 ?_); refine st_box rfl 1 rfl 28 _ rfl hm rfl (cs := #[.int .i8 (K : Int), .int .i8 (L : Int), .int .i8 (S : Int), .slice A3 n3 c3]) rfl ?_; clear hm; intro g1 w1 hm)
  | (((with_reducible refine gate_dst (N := 13) rfl ?_); refine st_litv rfl (N := 13) (n := 0) rfl hm (cs := #[]) (e := 53) ?hr13 ?_; (case hr13 => first | (go_simp; done) | (go_simp; rfl)); clear hm; intro g13 w13 hm); have hc2 := hm.cell (n := 1) rfl 2; simp only [List.getElem?_toArray, List.getElem?_cons_zero, List.getElem?_cons_succ] at hc2)
  | (go_at_call 63; refine (HEV.out _).mono ?_; rintro e w17 ⟨rfl, hb17⟩; replace hm := hm.after hb17; clear hb17 hc2)
  | ((with_reducible refine gt_alloc 4 89 ?_); refine st_alloc rfl 4 rfl 89 rfl hm zero89 ?_; clear hm; intro g4 w4 hm)
  | ((with_reducible refine gt_store 89 ?_); refine st_full rfl 89 _ _ rfl hm rfl rfl 0 rfl agg89 hEL.out zs_length ?_; clear hm; intro ws hm; simp only [List.set_cons_zero] at hm)
  | ((with_reducible refine gate_dst (N := 18) rfl ?_); refine st_litv rfl (N := 18) (n := 0) rfl hm (cs := #[]) (e := 22) ?hr18 ?_; (case hr18 => first | (go_simp; done) | (go_simp; rfl)); clear hm; intro g18 w18 hm)
  | (((with_reducible refine gate_dst (N := 19) rfl ?_); refine st_litv rfl (N := 19) (n := 1) rfl hm (cs := #[.slice (some ⟨g18, 0, none⟩) 0 0]) (e := 53) ?hr19 ?_; (case hr19 => first | (go_simp; done) | (go_simp; rfl)); clear hm; intro g19 w19 hm; have hc1 := hm.cell (n := 4) rfl 1; simp only [List.getElem?_toArray, List.getElem?_cons_zero, List.getElem?_cons_succ] at hc1)))
 have h1 := hm.mem (n := 4) rfl
 have h13 := hm.mem (n := 3) rfl
 have h4 := hm.mem (n := 2) rfl
 have h19 := hm.mem (n := 0) rfl
 have o13 := hm.own_ge 3 rfl
 have o19 := hm.own_ge 0 rfl
 have n13 := hm.ne 3 0 (by decide) rfl rfl
 have HR0 : Aside0 (Rows2 w [(g1, #[.int .i8 (K : Int), .int .i8 (L : Int), .int .i8 (S : Int), .slice A3 n3 c3], 28), (g4, vals .i64 (evenL 1 S), 89)] w19 (.slice (some ⟨g13, 0, none⟩) 0 0) (.slice (some ⟨g19, 0, none⟩) 1 1) [] [[]]) := ⟨S_block0 h13 o13 ⟨by simp [Value.ownBlock]; exact n13, lt_of_some h13⟩, Ls_block1 h19 o19, fun b hb => by
  simp only [List.mem_cons, List.not_mem_nil, or_false] at hb
  rcases hb with rfl | rfl
  ·exact ⟨h1, ne27⟩
  ·exact ⟨h4, ne105⟩, hm.done rfl⟩
 clear h1 h13 h4 h19 o13 o19 n13 hm hc1
 go_loopw [22, 3, 5, 6, 8, 9, 10, 11, 12] (fun v22 v3 v5 _ _ _ _ _ _ wr => ∃ i : Nat, i ≤ L ∧ v22 = .int .i8 (i : Int) ∧ Aside0 (Rows2 w [(g1, #[.int .i8 (K : Int), .int .i8 (L : Int), .int .i8 (S : Int), .slice A3 n3 c3], 28), (g4, vals .i64 (evenL 1 S), 89)] wr v3 v5 (outL K S i) (lastL K i))) (fun v22 _ _ _ _ _ _ _ _ _ => L + 1 - (intOf v22).toNat)
 case atStart => exact ⟨0, by omega, rfl, HR0⟩
 case round =>
  clear HR0
  obtain ⟨i, hi, rfl, HR2⟩ := hrel
  obtain ⟨wo, rfl⟩ : ∃ wo : World, wo = wr := ⟨_, rfl⟩
  by_cases hlt : i < L
  ·have HMEM := Aside0.mk (lastL_mem K i)
   have hll := lastL_le2 K hK i (by omega)
   have HOL := Aside0.mk (outL_le K S hK i (by omega))
   have HOS := Aside0.mk (show outL K S (i + 1) = outL K S i ++ (lastL K (i + 1)).filter (goodM S) from rfl)
   have HLS := Aside0.mk (show lastL K (i + 1) = (lastL K i).flatMap (fun m => kidsTo m K) from rfl)
   have HR3 := Aside0.mk HR2.out.three.renew
   obtain ⟨A5, c5, rfl, hc5⟩ := HR2.out.last.slice
   have hwi : IntKind.i8.wrap ((i : Int) + 1) = (i : Int) + 1 := i8w (by omega) (by omega)
   generalize lastL K i = ls at *
   generalize outL K S i = os at *
   go_wp2_with fail
   go_loopw [27, 3, 6, 8, 9, 10, 11, 12] (fun v27 v3 v6 _ _ _ _ _ wr => ∃ p : Nat, p ≤ ls.length ∧ v27 = .int .i64 p ∧ Aside0 (Rows w wr.heap.size [(g1, #[.int .i8 (K : Int), .int .i8 (L : Int), .int .i8 (S : Int), .slice A3 n3 c3], 28), (g4, vals .i64 (evenL 1 S), 89)] wr v3 (.slice A5 ls.length c5) v6 (os ++ ((ls.take p).flatMap (fun m => kidsTo m K)).filter (goodM S)) ls ((ls.take p).flatMap (fun m => kidsTo m K)))) (fun v27 _ _ _ _ _ _ _ _ => ls.length - (intOf v27).toNat)
   case atStart => exact ⟨0, by omega, rfl, ⟨by simpa using HR3.out⟩⟩
   case round =>
    clear HR3
    obtain ⟨p, hp, rfl, HRM⟩ := hrel
    obtain ⟨wm, rfl⟩ : ∃ wm : World, wm = wr := ⟨_, rfl⟩
    by_cases hlt2 : p < ls.length
    ·obtain ⟨ad, c6, Am, cm, e5, hcell, hcm, hrd⟩ := HRM.out.last.at_ p hlt2
     cases e5
     have hcK := HRM.out.cell (g := g1) (List.mem_cons_self ..) 0
     simp only [List.getElem?_toArray, List.getElem?_cons_zero] at hcK
     have HPS := Aside0.mk (flat_take_succ ls K p hlt2)
     have hpl := flat_len K (ls.take p)
     have HMX := Aside0.mk (HMEM.out ls[p] (List.getElem_mem hlt2))
     have hml : ls[p].length = i := HMX.out.1
     have HPL : Aside0 (((ls.take p).flatMap fun m => kidsTo m K).length ≤ 1000) := ⟨by
      rw [hpl, List.length_take]
      have : min p ls.length * K ≤ 100 * 10 := Nat.mul_le_mul (by omega) hK
      omega⟩
     clear hpl
     have hml2 : ls[p].length ≤ 3 := by omega
     clear hml
     generalize ls[p] = m at *
     generalize (ls.take p).flatMap (fun m => kidsTo m K) = pre at *
     have HMc := Aside0.mk hcm
     have HRD := Aside0.mk hrd
     clear hcm hrd
     go_wp2_with fail
     go_loopw [33, 3, 6, 9, 10, 11, 12] (fun v33 v3 v6 _ _ _ _ wr => ∃ q : Nat, q ≤ K ∧ v33 = .int .i8 q ∧ Aside0 (Rows w wr.heap.size [(g1, #[.int .i8 (K : Int), .int .i8 (L : Int), .int .i8 (S : Int), .slice A3 n3 c3], 28), (g4, vals .i64 (evenL 1 S), 89)] wr v3 (.slice (some ad) ls.length c5) v6 (os ++ (pre ++ kidsTo m q).filter (goodM S)) ls (pre ++ kidsTo m q)) ∧ Aside0 (RdI wr Am m)) (fun v33 _ _ _ _ _ _ _ => K - (intOf v33).toNat)
     case atStart => exact ⟨0, by omega, rfl, ⟨by simpa [kidsTo] using HRM.out⟩, HRD⟩
     case round =>
      clear HRM HRD
      obtain ⟨q, hq, rfl, HRQ, HMm⟩ := hrel
      by_cases hlt3 : q < K
      ·have hwq : IntKind.i8.wrap ((q : Int) + 1) = (q : Int) + 1 := i8w (by omega) (by omega)
       have HKS := Aside0.mk (kidsTo_succ m q)
       have HLN : Aside0 ((pre ++ kidsTo m q).length ≤ 1010) := ⟨by rw [List.length_append, kidsTo_len]; have := HPL.out; omega⟩
       have HLO : Aside0 ((os ++ (pre ++ kidsTo m q).filter (goodM S)).length ≤ 4010) := ⟨by rw [List.length_append]; have := List.length_filter_le (goodM S) (pre ++ kidsTo m q); have := HLN.out; have := HOL.out; omega⟩
       have HPN := Aside0.mk (plain_snoc HMX.out.2 hK hlt3)
       have HWN := Aside0.mk HRQ.out.bel.size
       have hxl : (m ++ [(q : Int)]).length ≤ 4 := by rw [snoc_len]; omega
       generalize hx : m ++ [(q : Int)] = x at *
       have HX := Aside0.mk hx
       clear hx
       cases hg : goodM S x with
       | true =>
        have HGD := Aside0.mk hg
        have HFS := Aside0.mk (filter_snoc (goodM S) (pre ++ kidsTo m q) x)
        clear hg
        go_wp2_with (first
         | (go_at_call 66; refine (cloneM_calls Am cm m _ HMm.out.C HMc.out (by omega)).mono ?_; rintro e w1 ⟨v1, rfl, ho1, hb1⟩; have HO1 := Aside0.mk ho1; have HB1 := Aside0.mk hb1; clear ho1 hb1)
         | ((with_reducible refine gate_builtin (b := .append) (xs := #[.tmp 37, .tmp 39]) rfl ?_); at_builtin; refine Kd.R_append (Kd.int .i8) (w0 := wr) wr.heap.size rfl (.tmp 37) (.tmp 39) 53 22 (.int .i8 0) 1 rfl Tryd.underlying53 infoI8 rfl (by decide) (by omega) v1 m (q : Int) [.int .i8 (q : Int)] (fun _ => True) (fun _ => False) rfl rfl rfl (fun _ hk => hk.elim) (fun _ _ => trivial) HO1.out HB1.out HB1.out.size (by omega) ?_; intro v2 w2 ho2 hb2 hg2 hat2; rw [HX.out] at ho2; obtain ⟨A2, c2, rfl, hc2, hrd2⟩ := RdI.of_own ho2 (by omega); have HO2 := Aside0.mk ho2; have HB2 := Aside0.mk hb2; have HC2 := Aside0.mk hc2; have HRD2 := Aside0.mk hrd2; clear ho2 hb2 hg2 hat2 hc2 hrd2)
         | ((with_reducible refine gate_builtin (b := .append) (xs := #[.tmp 41, .tmp 43]) rfl ?_); at_builtin; obtain ⟨ss, hs1, hs2, hs3⟩ := (HRQ.out.below HB2.out).next; refine Kd.R_append kdH (w0 := w) w.heap.size rfl (.tmp 41) (.tmp 43) 70 53 (.slice none 0 0) 24 rfl Tryd.underlying70 infoM rfl (by decide) (by decide) u6 ss (A2, x.length, c2) [.slice A2 x.length c2] (fun _ => True) (fun _ => False) rfl rfl rfl (fun _ hk => hk.elim) (fun _ _ => trivial) hs2 (HRQ.out.bel.trans (HB2.out.mono HRQ.out.bel.size)) (Nat.le_trans HRQ.out.bel.size HB2.out.size) (by rw [hs1]; have := HLN.out; omega) ?_; intro v6n w3 ho3 hb3 hg3 hat3; have hrw2 := HRQ.out.below HB2.out; have HRW3 := Aside0.mk (hrw2.pushNext hs1 hs2 hs3 hg3 hat3 hb3 HC2.out HRD2.out ho3); have HRD3 := Aside0.mk (HRD2.out.grown hg3 hrw2.next.typed); have HM3 := Aside0.mk ((HMm.out.below HB2.out).grown hg3 hrw2.next.typed); have HO3 := Aside0.mk (Kd.R_over' HO2.out hrw2.next.typed (fun q hq => by simp [Kd.int, Kd.scalar] at hq; subst hq; decide) hg3); clear hs1 hs2 hs3 ho3 hb3 hg3 hat3 hrw2)
         | ((with_reducible refine gt_load 89 ?_); refine st_loadRow rfl 89 _ rfl rfl (HRW3.out.row (g := g4) (List.mem_cons_of_mem _ (List.mem_cons_self ..))) agg89 (evenL_length 1 (S : Int) (by omega)) ?_)
         | (go_at_call 62; refine (goodFirst_calls A2 c2 x S _ HRD3.out.C HC2.out HPN.out (by omega) (by omega)).mono ?_; rw [HGD.out]; rintro e w4 ⟨v4, rfl, hb4⟩; have HB4 := Aside0.mk hb4; clear hb4)
         | ((with_reducible refine gate_builtin (b := .append) (xs := #[.tmp 52, .tmp 54]) rfl ?_); at_builtin; obtain ⟨hp1, hp2, hp3, hp4⟩ := (HRW3.out.below HB4.out).give (own_later HO3.out (FrB.below (B := []) HB4.out) (by simp)) HWN.out; refine Kd.S_append kM (w0 := w) w.heap.size rfl (.tmp 52) (.tmp 54) 70 53 (.slice none 0 0) 24 rfl Tryd.underlying70 infoM rfl (by decide) (by decide) u3 _ x [.slice A2 x.length c2] _ _ rfl rfl hp1 hp2 hp3 hp4 (HRW3.out.below HB4.out).bel (HRW3.out.below HB4.out).bel.size (by have := HLO.out; omega) ?_; intro v3n w5 ho5 hb5 hg5 hat5; have HRW5 := Aside0.mk ((HRW3.out.below HB4.out).pushOut hg5 hb5 ho5); have HM5 := Aside0.mk ((HM3.out.below HB4.out).grown hg5 (Kd.S_typed (HRW3.out.below HB4.out).out)); clear hp1 hp2 hp3 hp4 ho5 hb5 hg5 hat5))
        go_roundw
        case rel => exact ⟨q + 1, by omega, by go_num, ⟨by
         have h9 := HRW5.out
         rw [HKS.out, ← List.append_assoc, HFS.out, HGD.out, if_pos rfl, ← List.append_assoc]
         exact h9⟩, HM5⟩
        case measure => simp [intOf]; omega
       | false =>
        have HGD := Aside0.mk hg
        have HFS := Aside0.mk (filter_snoc (goodM S) (pre ++ kidsTo m q) x)
        clear hg
        go_wp2_with (first
         | (go_at_call 66; refine (cloneM_calls Am cm m _ HMm.out.C HMc.out (by omega)).mono ?_; rintro e w1 ⟨v1, rfl, ho1, hb1⟩; have HO1 := Aside0.mk ho1; have HB1 := Aside0.mk hb1; clear ho1 hb1)
         | ((with_reducible refine gate_builtin (b := .append) (xs := #[.tmp 37, .tmp 39]) rfl ?_); at_builtin; refine Kd.R_append (Kd.int .i8) (w0 := wr) wr.heap.size rfl (.tmp 37) (.tmp 39) 53 22 (.int .i8 0) 1 rfl Tryd.underlying53 infoI8 rfl (by decide) (by omega) v1 m (q : Int) [.int .i8 (q : Int)] (fun _ => True) (fun _ => False) rfl rfl rfl (fun _ hk => hk.elim) (fun _ _ => trivial) HO1.out HB1.out HB1.out.size (by omega) ?_; intro v2 w2 ho2 hb2 hg2 hat2; rw [HX.out] at ho2; obtain ⟨A2, c2, rfl, hc2, hrd2⟩ := RdI.of_own ho2 (by omega); have HO2 := Aside0.mk ho2; have HB2 := Aside0.mk hb2; have HC2 := Aside0.mk hc2; have HRD2 := Aside0.mk hrd2; clear ho2 hb2 hg2 hat2 hc2 hrd2)
         | ((with_reducible refine gate_builtin (b := .append) (xs := #[.tmp 41, .tmp 43]) rfl ?_); at_builtin; obtain ⟨ss, hs1, hs2, hs3⟩ := (HRQ.out.below HB2.out).next; refine Kd.R_append kdH (w0 := w) w.heap.size rfl (.tmp 41) (.tmp 43) 70 53 (.slice none 0 0) 24 rfl Tryd.underlying70 infoM rfl (by decide) (by decide) u6 ss (A2, x.length, c2) [.slice A2 x.length c2] (fun _ => True) (fun _ => False) rfl rfl rfl (fun _ hk => hk.elim) (fun _ _ => trivial) hs2 (HRQ.out.bel.trans (HB2.out.mono HRQ.out.bel.size)) (Nat.le_trans HRQ.out.bel.size HB2.out.size) (by rw [hs1]; have := HLN.out; omega) ?_; intro v6n w3 ho3 hb3 hg3 hat3; have hrw2 := HRQ.out.below HB2.out; have HRW3 := Aside0.mk (hrw2.pushNext hs1 hs2 hs3 hg3 hat3 hb3 HC2.out HRD2.out ho3); have HRD3 := Aside0.mk (HRD2.out.grown hg3 hrw2.next.typed); have HM3 := Aside0.mk ((HMm.out.below HB2.out).grown hg3 hrw2.next.typed); have HO3 := Aside0.mk (Kd.R_over' HO2.out hrw2.next.typed (fun q hq => by simp [Kd.int, Kd.scalar] at hq; subst hq; decide) hg3); clear hs1 hs2 hs3 ho3 hb3 hg3 hat3 hrw2)
         | ((with_reducible refine gt_load 89 ?_); refine st_loadRow rfl 89 _ rfl rfl (HRW3.out.row (g := g4) (List.mem_cons_of_mem _ (List.mem_cons_self ..))) agg89 (evenL_length 1 (S : Int) (by omega)) ?_)
         | (go_at_call 62; refine (goodFirst_calls A2 c2 x S _ HRD3.out.C HC2.out HPN.out (by omega) (by omega)).mono ?_; rw [HGD.out]; rintro e w4 ⟨v4, rfl, hb4⟩; have HB4 := Aside0.mk hb4; clear hb4))
        go_roundw
        case rel => exact ⟨q + 1, by omega, by go_num, ⟨by
         have h9 := (HRW3.out.below HB4.out).renew
         rw [HKS.out, ← List.append_assoc, HFS.out, HGD.out, if_neg (by simp), List.append_nil]
         exact h9⟩, ⟨HM3.out.below HB4.out⟩⟩
        case measure => simp [intOf]; omega
      ·have HQ := Aside0.mk (show q = K by omega)
       go_wp2_with fail
       go_roundw
       case rel => exact ⟨p + 1, by omega, by go_num, ⟨by
        have h9 := HRQ.out
        rw [HQ.out, ← HPS.out] at h9
        exact h9⟩⟩
       case measure => simp [intOf]; omega
    ·have HP := Aside0.mk (show p = ls.length by omega)
     go_wp2_with fail
     go_roundw
     case rel => exact ⟨i + 1, by omega, by go_num, ⟨by
      have h9 := HRM.out.two
      rw [HP.out, List.take_length, ← HLS.out, ← HOS.out] at h9
      exact h9⟩⟩
     case measure => simp [intOf]; omega
  ·have HI := Aside0.mk (show i = L by omega)
   go_wp2_with fail
   go_ret
   exact ⟨_, rfl, by rw [← HI.out]; exact Kd.S_mono HR2.out.out fun _ _ => trivial, HR2.out.bel⟩
end Go.Proofs.YtdgecgfgekmhcaaDoor.Arr
namespace Go.Proofs.YtdgecgfgekmhcaaDoor.Arr
open Go.RowKit Go.Proofs.YtdgecgfgekmhcaaDoorW.PrintWords Go.Proofs.YtdgecgfgekmhcaaDoorW.PrintLast Go.Proofs.YtdgecgfgekmhcaaDoorW.PrintMore Go.Proofs.YtdgecgfgekmhcaaDoor.U Go.Proofs.YtdgecgfgekmhcaaDoor.J
set_option linter.unusedVariables false
set_option linter.unusedSimpArgs false
set_option maxHeartbeats 16000000 in
set_option maxRecDepth 100000 in
theorem specMeanings_calls (K L S : Nat) (A3 : Option Addr) (n3 c3 g1 : Nat) (w : World) (hbk : w.heap[g1]? = some (.cells #[.int .i8 (K : Int), .int .i8 (L : Int), .int .i8 (S : Int), .slice A3 n3 c3] 28 (0, 0))) (hK0 : 1 ≤ K) (hK : K ≤ 10) (hL : L ≤ 3) (hS : S ≤ 4) :
  Calls Tryd.prog 48 #[.pointer (some ⟨g1, 0, none⟩)] w fun e w' => ∃ v, e = .returned v ∧ Kd.S kM 53 w' w.heap.size (fun _ => True) v (outL K S L) ∧ Below w.heap.size w w' := by
 have hm := Mem.start w
 have hwS : wrap64 (S : Int) = (S : Int) := w64 (by omega) (by omega)
 have HBK := Aside0.mk hbk
 clear hbk
 go_enter Tryd.func48, Tryd.ntmps48
 go_wp2_with (first
  | ((with_reducible refine gate_dst (N := 12) rfl ?_); refine st_litv rfl (N := 12) (n := 0) rfl hm (cs := #[]) (e := 53) ?hr12 ?_; (case hr12 => first | (go_simp; done) | (go_simp; rfl)); clear hm; intro g12 w12 hm)
  | ((with_reducible refine gate_dst (N := 13) rfl ?_); refine st_litv rfl (N := 13) (n := 0) rfl hm (cs := #[]) (e := 22) ?hr13 ?_; (case hr13 => first | (go_simp; done) | (go_simp; rfl)); clear hm; intro g13 w13 hm)
  | ((with_reducible refine gate_dst (N := 14) rfl ?_); refine st_litv rfl (N := 14) (n := 1) rfl hm (cs := #[.slice (some ⟨g13, 0, none⟩) 0 0]) (e := 53) ?hr14 ?_; (case hr14 => first | (go_simp; done) | (go_simp; rfl)); clear hm; intro g14 w14 hm))
 have h12 := hm.mem (n := 2) rfl
 have h14 := hm.mem (n := 0) rfl
 have o12 := hm.own_ge 2 rfl
 have o14 := hm.own_ge 0 rfl
 have n12 := hm.ne 2 0 (by decide) rfl rfl
 have HR0 : Aside0 (Rows2 w [(g1, #[.int .i8 (K : Int), .int .i8 (L : Int), .int .i8 (S : Int), .slice A3 n3 c3], 28)] w14 (.slice (some ⟨g12, 0, none⟩) 0 0) (.slice (some ⟨g14, 0, none⟩) 1 1) [] [[]]) := ⟨S_block0 h12 o12 ⟨by simp [Value.ownBlock]; exact n12, lt_of_some h12⟩, Ls_block1 h14 o14, fun b hb => by
  rw [List.mem_singleton] at hb
  subst hb
  exact ⟨((hm.done rfl).block _ (lt_of_some HBK.out)).trans HBK.out, ne27⟩, hm.done rfl⟩
 clear h12 h14 o12 o14 n12 hm
 go_loopw [5, 3, 4, 6, 7, 8, 9, 10, 11] (fun v5 v3 v4 _ _ _ _ _ _ wr => ∃ i : Nat, i ≤ L ∧ v5 = .int .i8 ((i : Int) + 1) ∧ Aside0 (Rows2 w [(g1, #[.int .i8 (K : Int), .int .i8 (L : Int), .int .i8 (S : Int), .slice A3 n3 c3], 28)] wr v3 v4 (outL K S i) (lastL K i))) (fun v5 _ _ _ _ _ _ _ _ _ => L + 1 - (intOf v5).toNat)
 case atStart => exact ⟨0, by omega, by simp, HR0⟩
 case round =>
  clear HR0
  obtain ⟨i, hi, rfl, HR2⟩ := hrel
  obtain ⟨wo, rfl⟩ : ∃ wo : World, wo = wr := ⟨_, rfl⟩
  have hcL := HR2.out.cell (g := g1) (List.mem_cons_self ..) 1
  simp only [List.getElem?_toArray, List.getElem?_cons_zero, List.getElem?_cons_succ] at hcL
  by_cases hlt : i < L
  ·have HMEM := Aside0.mk (lastL_mem K i)
   have hll := lastL_le2 K hK i (by omega)
   have hdL := decide_eq_true (show (i : Int) + 1 ≤ (L : Int) by omega)
   have HOL := Aside0.mk (outL_le K S hK i (by omega))
   have HOS := Aside0.mk (show outL K S (i + 1) = outL K S i ++ (lastL K (i + 1)).filter (goodM S) from rfl)
   have HLS := Aside0.mk (show lastL K (i + 1) = (lastL K i).flatMap (fun m => kidsTo m K) from rfl)
   have HR3 := Aside0.mk HR2.out.three.renew
   obtain ⟨A5, c5, rfl, hc5⟩ := HR2.out.last.slice
   have hwi : IntKind.i8.wrap (((i : Int) + 1) + 1) = ((i : Int) + 1) + 1 := i8w (by omega) (by omega)
   generalize lastL K i = ls at *
   generalize outL K S i = os at *
   go_wp2_with fail
   go_loopw [7, 3, 6, 8, 9, 10, 11] (fun v7 v3 v6 _ _ _ _ wr => ∃ p : Nat, p ≤ ls.length ∧ v7 = .int .i64 p ∧ Aside0 (Rows w wr.heap.size [(g1, #[.int .i8 (K : Int), .int .i8 (L : Int), .int .i8 (S : Int), .slice A3 n3 c3], 28)] wr v3 (.slice A5 ls.length c5) v6 (os ++ ((ls.take p).flatMap (fun m => kidsTo m K)).filter (goodM S)) ls ((ls.take p).flatMap (fun m => kidsTo m K)))) (fun v7 _ _ _ _ _ _ _ => ls.length - (intOf v7).toNat)
   case atStart => exact ⟨0, by omega, rfl, ⟨by simpa using HR3.out⟩⟩
   case round =>
    clear HR3
    obtain ⟨p, hp, rfl, HRM⟩ := hrel
    obtain ⟨wm, rfl⟩ : ∃ wm : World, wm = wr := ⟨_, rfl⟩
    by_cases hlt2 : p < ls.length
    ·have HPS := Aside0.mk (flat_take_succ ls K p hlt2)
     have hpl := flat_len K (ls.take p)
     have HMX := Aside0.mk (HMEM.out ls[p] (List.getElem_mem hlt2))
     have hml : ls[p].length = i := HMX.out.1
     have HPL : Aside0 (((ls.take p).flatMap fun m => kidsTo m K).length ≤ 1000) := ⟨by
      rw [hpl, List.length_take]
      have : min p ls.length * K ≤ 100 * 10 := Nat.mul_le_mul (by omega) hK
      omega⟩
     clear hpl
     have hml2 : ls[p].length ≤ 3 := by omega
     clear hml
     generalize hmq : ls[p] = m at *
     have HMQ := Aside0.mk hmq
     clear hmq
     generalize (ls.take p).flatMap (fun m => kidsTo m K) = pre at *
     go_wp2_with fail
     go_loopw [8, 3, 6, 9, 10, 11] (fun v8 v3 v6 _ _ _ wr => ∃ q : Nat, q ≤ K ∧ v8 = .int .i8 q ∧ Aside0 (Rows w wr.heap.size [(g1, #[.int .i8 (K : Int), .int .i8 (L : Int), .int .i8 (S : Int), .slice A3 n3 c3], 28)] wr v3 (.slice A5 ls.length c5) v6 (os ++ (pre ++ kidsTo m q).filter (goodM S)) ls (pre ++ kidsTo m q))) (fun v8 _ _ _ _ _ _ => K - (intOf v8).toNat)
     case atStart => exact ⟨0, by omega, rfl, ⟨by simpa [kidsTo] using HRM.out⟩⟩
     case round =>
      clear HRM
      obtain ⟨q, hq, rfl, HRQ⟩ := hrel
      have hcKq := HRQ.out.cell (g := g1) (List.mem_cons_self ..) 0
      simp only [List.getElem?_toArray, List.getElem?_cons_zero, List.getElem?_cons_succ] at hcKq
      obtain ⟨ad, c6, Am, cm, e5, hcell, hcm, hrd⟩ := HRQ.out.last.at_ p hlt2
      cases e5
      rw [HMQ.out] at hcell hcm hrd
      have HMm := Aside0.mk hrd
      have HMc := Aside0.mk hcm
      have HCELL := Aside0.mk hcell
      have HKB := Aside0.mk (HRQ.out.row (g := g1) (List.mem_cons_self ..))
      clear hcell hcm hrd
      by_cases hlt3 : q < K
      ·have hwq : IntKind.i8.wrap ((q : Int) + 1) = (q : Int) + 1 := i8w (by omega) (by omega)
       have HKS := Aside0.mk (kidsTo_succ m q)
       have HLN : Aside0 ((pre ++ kidsTo m q).length ≤ 1010) := ⟨by rw [List.length_append, kidsTo_len]; have := HPL.out; omega⟩
       have HLO : Aside0 ((os ++ (pre ++ kidsTo m q).filter (goodM S)).length ≤ 4010) := ⟨by rw [List.length_append]; have := List.length_filter_le (goodM S) (pre ++ kidsTo m q); have := HLN.out; have := HOL.out; omega⟩
       have HPN := Aside0.mk (plain_snoc HMX.out.2 hK hlt3)
       have HWN := Aside0.mk HRQ.out.bel.size
       have HSM : Aside0 (Small8 (m ++ [(q : Int)])) := ⟨by rw [snoc_len]; omega, fun y hy => by have := HPN.out y hy; unfold PlainN at this; omega⟩
       have HCC := Aside0.mk (hoistW_flags S (flags_snoc HMX.out.2 hK hlt3) (by rw [snoc_len]; omega) (by rw [snoc_len]; omega) hS)
       have hxl : (m ++ [(q : Int)]).length ≤ 4 := by rw [snoc_len]; omega
       generalize hx : m ++ [(q : Int)] = x at *
       have HX := Aside0.mk hx
       clear hx
       cases hg : goodM S x with
       | true =>
        have HGD := Aside0.mk hg
        rw [hg] at HCC
        have HCD : Aside0 ((hoistW x 1 (S : Int)).2 = 0) := ⟨HCC.out⟩
        have HFS := Aside0.mk (filter_snoc (goodM S) (pre ++ kidsTo m q) x)
        clear hg
        go_wp2_with (first
         | ((with_reducible refine gate_dst (N := 38) rfl ?_); refine Kd.R_lit (Kd.int .i8) wr.heap.size 22 ?hg (N := 38) ?hd (xs := ([] : List Int)) (inner := []) (ok := fun _ => True) (okp := fun _ => True) ?hr ?hp (fun _ hk => hk) trivial (Below.refl _ _) (Nat.le_refl _) (by simp) ?_; (case hd => rfl); (case hg => rfl); (case hr => first | (go_simp; done) | (go_simp; rfl)); (case hp => exact (Reps.none _ _)); intro v0 w0 ho0 hb0 _ _; have HO0 := Aside0.mk ho0; have HB0 := Aside0.mk hb0; have hcA := (hb0.cell (World.block_lt_of_cell? wr _ HCELL.out)).trans HCELL.out; clear ho0 hb0)
         | ((with_reducible refine gate_builtin (b := .append) (xs := #[.tmp 38, .tmp 42]) rfl ?_); at_builtin; refine Kd.R_append_rows (Kd.int .i8) (w0 := wr) wr.heap.size rfl (.tmp 38) (.tmp 42) 53 22 (.int .i8 0) 1 rfl Tryd.underlying53 infoI8 rfl (by decide) (by omega) v0 [] m Am m.length cm (fun _ => True) (fun _ => False) rfl rfl HO0.out (HMm.out.below HB0.out).C (fun _ _ h => h) (fun _ h => h.elim) (fun _ _ => trivial) HB0.out HB0.out.size (by simp; omega) ?_; intro v1 w1 ho1 hb1 _ _; have HO1 := Aside0.mk ho1; have HB1 := Aside0.mk hb1; clear ho1 hb1)
         | ((with_reducible refine gate_builtin (b := .append) (xs := #[.tmp 43, .tmp 45]) rfl ?_); at_builtin; refine Kd.R_append (Kd.int .i8) (w0 := wr) wr.heap.size rfl (.tmp 43) (.tmp 45) 53 22 (.int .i8 0) 1 rfl Tryd.underlying53 infoI8 rfl (by decide) (by omega) v1 m (q : Int) [.int .i8 (q : Int)] (fun _ => True) (fun _ => False) rfl rfl rfl (fun _ hk => hk.elim) (fun _ _ => trivial) HO1.out HB1.out HB1.out.size (by omega) ?_; intro v2 w2 ho2 hb2 hg2 hat2; rw [HX.out] at ho2; obtain ⟨A2, c2, rfl, hc2, hrd2⟩ := RdI.of_own ho2 (by omega); have HO2 := Aside0.mk ho2; have HB2 := Aside0.mk hb2; have HC2 := Aside0.mk hc2; have HRD2 := Aside0.mk hrd2; clear ho2 hb2 hg2 hat2 hc2 hrd2)
         | (((with_reducible refine gate_builtin (b := .append) (xs := #[.tmp 47, .tmp 49]) rfl ?_); at_builtin; obtain ⟨ss, hs1, hs2, hs3⟩ := (HRQ.out.below HB2.out).next; refine Kd.R_append kdH (w0 := w) w.heap.size rfl (.tmp 47) (.tmp 49) 70 53 (.slice none 0 0) 24 rfl Tryd.underlying70 infoM rfl (by decide) (by decide) u6 ss (A2, x.length, c2) [.slice A2 x.length c2] (fun _ => True) (fun _ => False) rfl rfl rfl (fun _ hk => hk.elim) (fun _ _ => trivial) hs2 (HRQ.out.bel.trans (HB2.out.mono HRQ.out.bel.size)) (Nat.le_trans HRQ.out.bel.size HB2.out.size) (by rw [hs1]; have := HLN.out; omega) ?_; intro v6n w3 ho3 hb3 hg3 hat3; have hrw2 := HRQ.out.below HB2.out; have HRW3 := Aside0.mk (hrw2.pushNext hs1 hs2 hs3 hg3 hat3 hb3 HC2.out HRD2.out ho3); have HRD3 := Aside0.mk (HRD2.out.grown hg3 hrw2.next.typed); have HM3 := Aside0.mk ((HMm.out.below HB2.out).grown hg3 hrw2.next.typed); have HO3 := Aside0.mk (Kd.R_over' HO2.out hrw2.next.typed (fun q hq => by simp [Kd.int, Kd.scalar] at hq; subst hq; decide) hg3); clear hs1 hs2 hs3 ho3 hb3 hg3 hat3 hrw2); have hcS := HRW3.out.cell (g := g1) (List.mem_cons_self ..) 2; simp only [List.getElem?_toArray, List.getElem?_cons_zero, List.getElem?_cons_succ] at hcS)
         | (go_at_call 31; refine (specHoistFor_calls A2 c2 x 1 (S : Int) _ HRD3.out.C HC2.out HSM.out).mono ?_; rw [HCD.out]; rintro e w4 ⟨v4, rfl, _, hb4⟩; have HB4 := Aside0.mk hb4; clear hb4)
         | ((with_reducible refine gate_builtin (b := .append) (xs := #[.tmp 63, .tmp 65]) rfl ?_); at_builtin; obtain ⟨hp1, hp2, hp3, hp4⟩ := (HRW3.out.below HB4.out).give (own_later HO3.out (FrB.below (B := []) HB4.out) (by simp)) HWN.out; refine Kd.S_append kM (w0 := w) w.heap.size rfl (.tmp 63) (.tmp 65) 70 53 (.slice none 0 0) 24 rfl Tryd.underlying70 infoM rfl (by decide) (by decide) u3 _ x [.slice A2 x.length c2] _ _ rfl rfl hp1 hp2 hp3 hp4 (HRW3.out.below HB4.out).bel (HRW3.out.below HB4.out).bel.size (by have := HLO.out; omega) ?_; intro v3n w5 ho5 hb5 hg5 hat5; have HRW5 := Aside0.mk ((HRW3.out.below HB4.out).pushOut hg5 hb5 ho5); have HM5 := Aside0.mk ((HM3.out.below HB4.out).grown hg5 (Kd.S_typed (HRW3.out.below HB4.out).out)); clear hp1 hp2 hp3 hp4 ho5 hb5 hg5 hat5))
        go_roundw
        case rel => exact ⟨q + 1, by omega, by go_num, ⟨by
         have h9 := HRW5.out
         rw [HKS.out, ← List.append_assoc, HFS.out, HGD.out, if_pos rfl, ← List.append_assoc]
         exact h9⟩⟩
        case measure => simp [intOf]; omega
       | false =>
        have HGD := Aside0.mk hg
        rw [hg] at HCC
        have HCD : Aside0 ((hoistW x 1 (S : Int)).2 = 6) := ⟨HCC.out⟩
        have HFS := Aside0.mk (filter_snoc (goodM S) (pre ++ kidsTo m q) x)
        clear hg
        go_wp2_with (first
         | ((with_reducible refine gate_dst (N := 38) rfl ?_); refine Kd.R_lit (Kd.int .i8) wr.heap.size 22 ?hg (N := 38) ?hd (xs := ([] : List Int)) (inner := []) (ok := fun _ => True) (okp := fun _ => True) ?hr ?hp (fun _ hk => hk) trivial (Below.refl _ _) (Nat.le_refl _) (by simp) ?_; (case hd => rfl); (case hg => rfl); (case hr => first | (go_simp; done) | (go_simp; rfl)); (case hp => exact (Reps.none _ _)); intro v0 w0 ho0 hb0 _ _; have HO0 := Aside0.mk ho0; have HB0 := Aside0.mk hb0; have hcA := (hb0.cell (World.block_lt_of_cell? wr _ HCELL.out)).trans HCELL.out; clear ho0 hb0)
         | ((with_reducible refine gate_builtin (b := .append) (xs := #[.tmp 38, .tmp 42]) rfl ?_); at_builtin; refine Kd.R_append_rows (Kd.int .i8) (w0 := wr) wr.heap.size rfl (.tmp 38) (.tmp 42) 53 22 (.int .i8 0) 1 rfl Tryd.underlying53 infoI8 rfl (by decide) (by omega) v0 [] m Am m.length cm (fun _ => True) (fun _ => False) rfl rfl HO0.out (HMm.out.below HB0.out).C (fun _ _ h => h) (fun _ h => h.elim) (fun _ _ => trivial) HB0.out HB0.out.size (by simp; omega) ?_; intro v1 w1 ho1 hb1 _ _; have HO1 := Aside0.mk ho1; have HB1 := Aside0.mk hb1; clear ho1 hb1)
         | ((with_reducible refine gate_builtin (b := .append) (xs := #[.tmp 43, .tmp 45]) rfl ?_); at_builtin; refine Kd.R_append (Kd.int .i8) (w0 := wr) wr.heap.size rfl (.tmp 43) (.tmp 45) 53 22 (.int .i8 0) 1 rfl Tryd.underlying53 infoI8 rfl (by decide) (by omega) v1 m (q : Int) [.int .i8 (q : Int)] (fun _ => True) (fun _ => False) rfl rfl rfl (fun _ hk => hk.elim) (fun _ _ => trivial) HO1.out HB1.out HB1.out.size (by omega) ?_; intro v2 w2 ho2 hb2 hg2 hat2; rw [HX.out] at ho2; obtain ⟨A2, c2, rfl, hc2, hrd2⟩ := RdI.of_own ho2 (by omega); have HO2 := Aside0.mk ho2; have HB2 := Aside0.mk hb2; have HC2 := Aside0.mk hc2; have HRD2 := Aside0.mk hrd2; clear ho2 hb2 hg2 hat2 hc2 hrd2)
         | (((with_reducible refine gate_builtin (b := .append) (xs := #[.tmp 47, .tmp 49]) rfl ?_); at_builtin; obtain ⟨ss, hs1, hs2, hs3⟩ := (HRQ.out.below HB2.out).next; refine Kd.R_append kdH (w0 := w) w.heap.size rfl (.tmp 47) (.tmp 49) 70 53 (.slice none 0 0) 24 rfl Tryd.underlying70 infoM rfl (by decide) (by decide) u6 ss (A2, x.length, c2) [.slice A2 x.length c2] (fun _ => True) (fun _ => False) rfl rfl rfl (fun _ hk => hk.elim) (fun _ _ => trivial) hs2 (HRQ.out.bel.trans (HB2.out.mono HRQ.out.bel.size)) (Nat.le_trans HRQ.out.bel.size HB2.out.size) (by rw [hs1]; have := HLN.out; omega) ?_; intro v6n w3 ho3 hb3 hg3 hat3; have hrw2 := HRQ.out.below HB2.out; have HRW3 := Aside0.mk (hrw2.pushNext hs1 hs2 hs3 hg3 hat3 hb3 HC2.out HRD2.out ho3); have HRD3 := Aside0.mk (HRD2.out.grown hg3 hrw2.next.typed); have HM3 := Aside0.mk ((HMm.out.below HB2.out).grown hg3 hrw2.next.typed); have HO3 := Aside0.mk (Kd.R_over' HO2.out hrw2.next.typed (fun q hq => by simp [Kd.int, Kd.scalar] at hq; subst hq; decide) hg3); clear hs1 hs2 hs3 ho3 hb3 hg3 hat3 hrw2); have hcS := HRW3.out.cell (g := g1) (List.mem_cons_self ..) 2; simp only [List.getElem?_toArray, List.getElem?_cons_zero, List.getElem?_cons_succ] at hcS)
         | (go_at_call 31; refine (specHoistFor_calls A2 c2 x 1 (S : Int) _ HRD3.out.C HC2.out HSM.out).mono ?_; rw [HCD.out]; rintro e w4 ⟨v4, rfl, _, hb4⟩; have HB4 := Aside0.mk hb4; clear hb4))
        go_roundw
        case rel => exact ⟨q + 1, by omega, by go_num, ⟨by
         have h9 := (HRW3.out.below HB4.out).renew
         rw [HKS.out, ← List.append_assoc, HFS.out, HGD.out, if_neg (by simp), List.append_nil]
         exact h9⟩⟩
        case measure => simp [intOf]; omega
      ·have HQ := Aside0.mk (show q = K by omega)
       go_wp2_with fail
       go_roundw
       case rel => exact ⟨p + 1, by omega, by go_num, ⟨by
        have h9 := HRQ.out
        rw [HQ.out, ← HPS.out] at h9
        exact h9⟩⟩
       case measure => simp [intOf]; omega
    ·have HP := Aside0.mk (show p = ls.length by omega)
     go_wp2_with fail
     go_roundw
     case rel => exact ⟨i + 1, by omega, by go_num, ⟨by
      have h9 := HRM.out.two
      rw [HP.out, List.take_length, ← HLS.out, ← HOS.out] at h9
      exact h9⟩⟩
     case measure => simp [intOf]; omega
  ·have HI := Aside0.mk (show i = L by omega)
   go_wp2_with fail
   go_ret
   exact ⟨_, rfl, by rw [← HI.out]; exact Kd.S_mono HR2.out.out fun _ _ => trivial, HR2.out.bel⟩
end Go.Proofs.YtdgecgfgekmhcaaDoor.Arr
namespace Go.Proofs.YtdgecgfgekmhcaaDoor.J
open Go.RowKit Go.Proofs.YtdgecgfgekmhcaaDoorW.PrintWords Go.Proofs.YtdgecgfgekmhcaaDoorW.PrintLast Go.Proofs.YtdgecgfgekmhcaaDoorW.PrintMore
attribute [local go_sem] max2_int min2_int max_two min_two max_three min_three max_four min_four
set_option linter.unusedVariables false
set_option linter.unusedSimpArgs false
def IsS28 (w0 W : World) (g : Nat) (f0 : Int) (f1 : Int) (f2 : Int) (f3 : List ByteArray) : Prop := ∃ A3 c3, W.heap[g]? = some (.cells #[.int .i8 f0, .int .i8 f1, .int .i8 f2, .slice A3 f3.length c3] 28 (0, 0)) ∧ w0.heap.size ≤ g ∧ Kd.C Kd.string w0 A3 f3.length f3
def impl_isPhrase.l0 : Nat → ByteArray → Int → Int → Option (Bool)
 | 0, _, _, _ => none
 | k + 1, x0, x5, x6 => if x6 < x5 then (if 0 ≤ x6 then (if x6 < (x0.size : Int) then (if (bt x0 x6) < 32 then (some false) else (if (bt x0 x6) > 126 then (some false) else (impl_isPhrase.l0 k x0 x5 (wrap64 (x6 + 1))))) else (none)) else (none)) else ((impl_within.f (x0.size : Int) 1 40).bind fun t170 => (some t170))
def impl_isPhrase.f (k : Nat) (a0 : ByteArray) : Option (Bool) := impl_isPhrase.l0 k a0 (a0.size : Int) 0
set_option maxHeartbeats 8000000 in
set_option maxRecDepth 100000 in
theorem impl_isPhrase.calls (k : Nat) (a0 : ByteArray) (r : Bool) (w : World) (h : impl_isPhrase.f k a0 = some r) :
  Calls Tryd.prog 52 #[.string a0] w fun e w' => e = .returned (.bool r) ∧ Drawn0 w w' := by
 have H : (impl_isPhrase.l0 k a0 (a0.size : Int) 0) = some r := h
 clear h
 have H' := Aside0.mk H
 clear H
 go_enter Tryd.func52, Tryd.ntmps52
 go_wp2
 go_loopg [6] k (fun kq v6 w' => ∃ (x6_1 : Int), v6 = .int .i64 x6_1 ∧ Aside0 (impl_isPhrase.l0 kq a0 (a0.size : Int) x6_1 = some r) ∧ Aside0 (kq ≤ k) ∧ Drawn0 w w')
 case atStart => exact ⟨(0), (by first | rfl | (simp; done) | (simp [*]; done)), H', ⟨Nat.le_refl _⟩, by repeat (first | exact Drawn0.refl _ | apply Drawn0.step)⟩
 case round =>
  clear H'
  obtain ⟨x6_1, rfl, HA, HK1, ⟨m1, rfl⟩⟩ := hrel
  cases gk with
  | zero => exact absurd HA.out (by simp [impl_isPhrase.l0])
  | succ k1 =>
   have H := HA.out
   clear HA
   simp only [impl_isPhrase.l0] at H
   by_cases c2 : x6_1 < (a0.size : Int)
   ·rw [if_pos c2] at H
    have c2b0 : decide (x6_1 < (a0.size : Int)) = true := decide_eq_true c2
    clear c2
    by_cases c3 : 0 ≤ x6_1
    ·rw [if_pos c3] at H
     have c3b0 : decide (0 ≤ x6_1) = true := decide_eq_true c3
     clear c3
     by_cases c4 : x6_1 < (a0.size : Int)
     ·rw [if_pos c4] at H
      have c4b0 : decide (x6_1 < (a0.size : Int)) = true := decide_eq_true c4
      clear c4
      by_cases c6 : (bt a0 x6_1) < 32
      ·rw [if_pos c6] at H
       have c6b0 : decide ((bt a0 x6_1) < 32) = true := decide_eq_true c6
       clear c6
       obtain rfl := Option.some.inj H
       have p5 : 0 ≤ (x6_1 : Int) := of_decide_eq_true (by first | (with_reducible assumption) | assumption)
       have q5 : x6_1 < (a0.size : Int) := of_decide_eq_true (by first | (with_reducible assumption) | assumption)
       have hx5 := bt_at a0 x6_1
       replace p5 := eq_true p5
       replace q5 := eq_true q5
       go_wp2
       go_ret
       exact ⟨by first | rfl | (simp; done) | (simp [*]; done), by repeat (first | exact Drawn0.refl _ | apply Drawn0.step)⟩
      ·rw [if_neg c6] at H
       have c6b0 : decide ((bt a0 x6_1) < 32) = false := decide_eq_false c6
       clear c6
       by_cases c8 : (bt a0 x6_1) > 126
       ·rw [if_pos c8] at H
        have c8b0 : decide (126 < (bt a0 x6_1)) = true := decide_eq_true c8
        clear c8
        obtain rfl := Option.some.inj H
        have p5 : 0 ≤ (x6_1 : Int) := of_decide_eq_true (by first | (with_reducible assumption) | assumption)
        have q5 : x6_1 < (a0.size : Int) := of_decide_eq_true (by first | (with_reducible assumption) | assumption)
        have hx5 := bt_at a0 x6_1
        replace p5 := eq_true p5
        replace q5 := eq_true q5
        have p7 : 0 ≤ (x6_1 : Int) := of_decide_eq_true (by first | (with_reducible assumption) | assumption)
        have q7 : x6_1 < (a0.size : Int) := of_decide_eq_true (by first | (with_reducible assumption) | assumption)
        have hx7 := bt_at a0 x6_1
        replace p7 := eq_true p7
        replace q7 := eq_true q7
        go_wp2
        go_ret
        exact ⟨by first | rfl | (simp; done) | (simp [*]; done), by repeat (first | exact Drawn0.refl _ | apply Drawn0.step)⟩
       ·rw [if_neg c8] at H
        have c8b0 : decide (126 < (bt a0 x6_1)) = false := decide_eq_false c8
        clear c8
        have H' := Aside0.mk H
        clear H
        have p5 : 0 ≤ (x6_1 : Int) := of_decide_eq_true (by first | (with_reducible assumption) | assumption)
        have q5 : x6_1 < (a0.size : Int) := of_decide_eq_true (by first | (with_reducible assumption) | assumption)
        have hx5 := bt_at a0 x6_1
        replace p5 := eq_true p5
        replace q5 := eq_true q5
        have p7 : 0 ≤ (x6_1 : Int) := of_decide_eq_true (by first | (with_reducible assumption) | assumption)
        have q7 : x6_1 < (a0.size : Int) := of_decide_eq_true (by first | (with_reducible assumption) | assumption)
        have hx7 := bt_at a0 x6_1
        replace p7 := eq_true p7
        replace q7 := eq_true q7
        go_wp2
        go_roundg k1
        case measure => have := HK1.out; omega
        case rel => exact ⟨(wrap64 (x6_1 + 1)), (by first | rfl | (simp; done) | (simp [*]; done)), H', ⟨by have := HK1.out; omega⟩, by repeat (first | exact Drawn0.refl _ | apply Drawn0.step)⟩
     ·rw [if_neg c4] at H
      exact absurd H (by simp)
    ·rw [if_neg c3] at H
     exact absurd H (by simp)
   ·rw [if_neg c2] at H
    have c2b0 : decide (x6_1 < (a0.size : Int)) = false := decide_eq_false c2
    clear c2
    replace H := Option.bind_eq_some_iff.mp H
    obtain ⟨t170, A90, H⟩ := H
    replace H : (some t170) = some r := H
    have A9 := Aside0.mk A90
    clear A90
    obtain rfl := Option.some.inj H
    go_wp2_with (first | ((with_reducible refine gate_callee (f := 32) rfl ?_); refine goesL_ (some 22) rfl rfl Tryd.func32 (by kernel_rfl) rfl #[.int .i64 (a0.size : Int), .int .i64 1, .int .i64 40] rfl (by (try simp only [List.map_toArray, List.map_cons, List.map_nil]); first | done | rfl | (simp only [List.length_drop, List.length_take]; rfl)) ?_; (with_reducible refine (impl_within.calls (a0.size : Int) 1 40 t170 _ A9.out).mono ?_); rintro e w' ⟨rfl, ⟨nd, rfl⟩⟩; refine ⟨_, rfl, ?_⟩))
    go_ret
    exact ⟨by first | rfl | (simp; done) | (simp [*]; done), by repeat (first | exact Drawn0.refl _ | apply Drawn0.step)⟩
def slices_Index_string_string.l0 : Nat → List ByteArray → ByteArray → Int → Int → Option (Int)
 | 0, _, _, _, _ => none
 | k + 1, x0, x1, x7, x8 => if x8 < x7 then (if 0 ≤ x8 then (if x8 < (x0.length : Int) then (if x1.toList = (rdOf ByteArray.empty x0 x8).toList then (some x8) else (slices_Index_string_string.l0 k x0 x1 x7 (wrap64 (x8 + 1)))) else (none)) else (none)) else (some (-1))
def slices_Index_string_string.f (k : Nat) (l0 : List ByteArray) (a1 : ByteArray) : Option (Int) := slices_Index_string_string.l0 k l0 a1 (l0.length : Int) 0
set_option maxHeartbeats 8000000 in
set_option maxRecDepth 100000 in
theorem slices_Index_string_string.calls (k : Nat) (A0 : Option Addr) (c0 : Nat) (l0 : List ByteArray) (a1 : ByteArray) (r : Int) (w : World) (hr0 : Kd.C Kd.string w A0 l0.length l0) (hc0 : l0.length ≤ c0) (h : slices_Index_string_string.f k l0 a1 = some r) :
  Calls Tryd.prog 67 #[.slice A0 l0.length c0, .string a1] w fun e w' => e = .returned (.int .i64 r) ∧ Drawn0 w w' := by
 have HR0 := Aside0.mk hr0
 have HC0 := Aside0.mk hc0
 clear hr0 hc0
 have H : (slices_Index_string_string.l0 k l0 a1 (l0.length : Int) 0) = some r := h
 clear h
 have H' := Aside0.mk H
 clear H
 go_enter Tryd.func67, Tryd.ntmps67
 go_wp2
 go_loopg [8] k (fun kq v8 w' => ∃ (x8_1 : Int), v8 = .int .i64 x8_1 ∧ Aside0 (slices_Index_string_string.l0 kq l0 a1 (l0.length : Int) x8_1 = some r) ∧ Aside0 (kq ≤ k) ∧ Drawn0 w w')
 case atStart => exact ⟨(0), (by first | rfl | (simp; done) | (simp [*]; done)), H', ⟨Nat.le_refl _⟩, by repeat (first | exact Drawn0.refl _ | apply Drawn0.step)⟩
 case round =>
  clear H'
  try clear p2
  obtain ⟨x8_1, rfl, HA, HK1, ⟨m1, rfl⟩⟩ := hrel
  cases gk with
  | zero => exact absurd HA.out (by simp [slices_Index_string_string.l0])
  | succ k1 =>
   have H := HA.out
   clear HA
   simp only [slices_Index_string_string.l0] at H
   by_cases c3 : x8_1 < (l0.length : Int)
   ·rw [if_pos c3] at H
    have c3b0 : decide (x8_1 < (l0.length : Int)) = true := decide_eq_true c3
    clear c3
    by_cases c4 : 0 ≤ x8_1
    ·rw [if_pos c4] at H
     have c4b0 : decide (0 ≤ x8_1) = true := decide_eq_true c4
     clear c4
     by_cases c5 : x8_1 < (l0.length : Int)
     ·rw [if_pos c5] at H
      have c5b0 : decide (x8_1 < (l0.length : Int)) = true := decide_eq_true c5
      clear c5
      by_cases c6 : a1.toList = (rdOf ByteArray.empty l0 x8_1).toList
      ·rw [if_pos c6] at H
       have c6b0 : (a1.toList == (rdOf ByteArray.empty l0 x8_1).toList) = true := beq_iff_eq.mpr c6
       have c6b1 : (a1.toList != (rdOf ByteArray.empty l0 x8_1).toList) = false := bne_eq_false_iff_eq.mpr c6
       clear c6
       obtain rfl := Option.some.inj H
       have p171 : 0 ≤ (x8_1 : Int) := of_decide_eq_true (by first | (with_reducible assumption) | assumption)
       have q171 : x8_1 < (l0.length : Int) := of_decide_eq_true (by first | (with_reducible assumption) | assumption)
       obtain ⟨ad171, e171, hx171_0⟩ := Kd.at_string HR0.out x8_1 p171 q171
       cases e171
       replace p171 := eq_true p171
       replace q171 := eq_true q171
       go_wp2
       go_ret
       exact ⟨by first | rfl | (simp; done) | (simp [*]; done), by repeat (first | exact Drawn0.refl _ | apply Drawn0.step)⟩
      ·rw [if_neg c6] at H
       have c6b0 : (a1.toList == (rdOf ByteArray.empty l0 x8_1).toList) = false := beq_eq_false_iff_ne.mpr c6
       have c6b1 : (a1.toList != (rdOf ByteArray.empty l0 x8_1).toList) = true := bne_iff_ne.mpr c6
       have H' := Aside0.mk H
       clear H
       have p171 : 0 ≤ (x8_1 : Int) := of_decide_eq_true (by first | (with_reducible assumption) | assumption)
       have q171 : x8_1 < (l0.length : Int) := of_decide_eq_true (by first | (with_reducible assumption) | assumption)
       obtain ⟨ad171, e171, hx171_0⟩ := Kd.at_string HR0.out x8_1 p171 q171
       cases e171
       replace p171 := eq_true p171
       replace q171 := eq_true q171
       go_wp2
       go_roundg k1
       case measure => have := HK1.out; omega
       case rel => exact ⟨(wrap64 (x8_1 + 1)), (by first | rfl | (simp; done) | (simp [*]; done)), H', ⟨by have := HK1.out; omega⟩, by repeat (first | exact Drawn0.refl _ | apply Drawn0.step)⟩
     ·rw [if_neg c5] at H
      exact absurd H (by simp)
    ·rw [if_neg c4] at H
     exact absurd H (by simp)
   ·rw [if_neg c3] at H
    have c3b0 : decide (x8_1 < (l0.length : Int)) = false := decide_eq_false c3
    clear c3
    obtain rfl := Option.some.inj H
    go_wp2
    go_ret
    exact ⟨by first | rfl | (simp; done) | (simp [*]; done), by repeat (first | exact Drawn0.refl _ | apply Drawn0.step)⟩
def slices_Contains_string_string.f (k : Nat) (l0 : List ByteArray) (a1 : ByteArray) : Option (Bool) := (slices_Index_string_string.f k l0 a1).bind fun t172 => (some (decide (t172 ≥ 0)))
set_option maxHeartbeats 8000000 in
set_option maxRecDepth 100000 in
theorem slices_Contains_string_string.calls (k : Nat) (A0 : Option Addr) (c0 : Nat) (l0 : List ByteArray) (a1 : ByteArray) (r : Bool) (w : World) (hr0 : Kd.C Kd.string w A0 l0.length l0) (hc0 : l0.length ≤ c0) (h : slices_Contains_string_string.f k l0 a1 = some r) :
  Calls Tryd.prog 53 #[.slice A0 l0.length c0, .string a1] w fun e w' => e = .returned (.bool r) ∧ Drawn0 w w' := by
 have HR0 := Aside0.mk hr0
 have HC0 := Aside0.mk hc0
 clear hr0 hc0
 have H : ((slices_Index_string_string.f k l0 a1).bind fun t172 => (some (decide (t172 ≥ 0)))) = some r := h
 clear h
 replace H := Option.bind_eq_some_iff.mp H
 obtain ⟨t172, A30, H⟩ := H
 replace H : (some (decide (t172 ≥ 0))) = some r := H
 have A3 := Aside0.mk A30
 clear A30
 obtain rfl := Option.some.inj H
 go_enter Tryd.func53, Tryd.ntmps53
 go_wp2_with (first | ((with_reducible refine gate_callee (f := 67) rfl ?_); refine goesL_ (some 7) rfl rfl Tryd.func67 (by kernel_rfl) rfl #[.slice A0 l0.length c0, .string a1] rfl (by (try simp only [List.map_toArray, List.map_cons, List.map_nil]); first | done | rfl | (simp only [List.length_drop, List.length_take]; rfl)) ?_; (with_reducible refine (slices_Index_string_string.calls k _ _ l0 a1 t172 _ ?side1 ?side2 A3.out).mono ?_); (case side1 => repeat (first | exact HR0.out | (with_reducible refine Kd.C_alloc ?_ _) | (with_reducible refine Kd.C_drewN ?_ _) | (with_reducible refine Kd.C_drew ?_))); (case side2 => exact HC0.out); rintro e w' ⟨rfl, ⟨nd, rfl⟩⟩; refine ⟨_, rfl, ?_⟩))
 go_ret
 exact ⟨by first | rfl | (simp; done) | (simp [*]; done), by repeat (first | exact Drawn0.refl _ | apply Drawn0.step)⟩
def impl_Book_isFrame.f (a0_0 : Int) (a0_1 : Int) (a0_2 : Int) (l0_3 : List ByteArray) : Option (Bool) := (impl_within.f (wrap64 (a0_0)) 1 10).bind fun t174 => (if t174 = true then ((impl_within.f (wrap64 (a0_1)) 1 3).bind fun t175 => (if t175 = true then ((impl_within.f (wrap64 (a0_2)) 0 4).bind fun t176 => (some t176)) else (some false))) else (some false))
set_option maxHeartbeats 8000000 in
set_option maxRecDepth 100000 in
theorem impl_Book_isFrame.calls (a0_0 : Int) (a0_1 : Int) (a0_2 : Int) (A0_3 : Option Addr) (c0_3 : Nat) (l0_3 : List ByteArray) (r : Bool) (w : World) (hr0_3 : Kd.C Kd.string w A0_3 l0_3.length l0_3) (hc0_3 : l0_3.length ≤ c0_3) (h : impl_Book_isFrame.f a0_0 a0_1 a0_2 l0_3 = some r) :
  Calls Tryd.prog 50 #[.agg #[.int .i8 a0_0, .int .i8 a0_1, .int .i8 a0_2, .slice A0_3 l0_3.length c0_3]] w fun e w' => e = .returned (.bool r) ∧ Below w.heap.size w w' := by
 have hu28 := Tryd.underlying28
 have HR0_3 := Aside0.mk hr0_3
 have HC0_3 := Aside0.mk hc0_3
 clear hr0_3 hc0_3
 have HB := Aside0.mk (Below.refl w.heap.size w)
 have H : ((impl_within.f (wrap64 (a0_0)) 1 10).bind fun t174 => (if t174 = true then ((impl_within.f (wrap64 (a0_1)) 1 3).bind fun t175 => (if t175 = true then ((impl_within.f (wrap64 (a0_2)) 0 4).bind fun t176 => (some t176)) else (some false))) else (some false))) = some r := h
 clear h
 replace H := Option.bind_eq_some_iff.mp H
 obtain ⟨t174, A20, H⟩ := H
 replace H : (if t174 = true then ((impl_within.f (wrap64 (a0_1)) 1 3).bind fun t175 => (if t175 = true then ((impl_within.f (wrap64 (a0_2)) 0 4).bind fun t176 => (some t176)) else (some false))) else (some false)) = some r := H
 have A2 := Aside0.mk A20
 clear A20
 by_cases c3 : t174 = true
 ·subst c3
  have H1 : ((impl_within.f (wrap64 (a0_1)) 1 3).bind fun t175 => (if t175 = true then ((impl_within.f (wrap64 (a0_2)) 0 4).bind fun t176 => (some t176)) else (some false))) = some r := by rw [if_pos rfl] at H; exact H
  clear H
  have H := H1
  clear H1
  replace H := Option.bind_eq_some_iff.mp H
  obtain ⟨t175, A40, H⟩ := H
  replace H : (if t175 = true then ((impl_within.f (wrap64 (a0_2)) 0 4).bind fun t176 => (some t176)) else (some false)) = some r := H
  have A4 := Aside0.mk A40
  clear A40
  by_cases c5 : t175 = true
  ·subst c5
   have H1 : ((impl_within.f (wrap64 (a0_2)) 0 4).bind fun t176 => (some t176)) = some r := by rw [if_pos rfl] at H; exact H
   clear H
   have H := H1
   clear H1
   replace H := Option.bind_eq_some_iff.mp H
   obtain ⟨t176, A60, H⟩ := H
   replace H : (some t176) = some r := H
   have A6 := Aside0.mk A60
   clear A60
   obtain rfl := Option.some.inj H
   go_enter Tryd.func50, Tryd.ntmps50
   go_wp2_with (first | ((with_reducible refine gate_dst (N := 1) rfl ?_); refine box_event ?hg (N := 1) ?hd (cs := #[.int .i8 a0_0, .int .i8 a0_1, .int .i8 a0_2, .slice A0_3 l0_3.length c0_3]) (t := 28) ?hr ?_; (case hd => rfl); (case hg => rfl); (case hr => first | (go_simp; done) | (go_simp; rfl)); intro gb173 hg w7 hbox hb; have n0_ := Aside0.mk (below_step (by repeat (first | (with_reducible first | exact HB.out | apply below_alloc | apply pw_below_drewN | apply below_drew1) | exact HB.out)) hb); have n1_ := Aside0.mk (hbox); have n2_ := Aside0.mk ((by rw [hg]; exact (below_size (by repeat (first | (with_reducible first | exact HB.out | apply below_alloc | apply pw_below_drewN | apply below_drew1) | exact HB.out))) : w.heap.size ≤ gb173)); have n3_ := Aside0.mk ((by rw [hg]; exact (below_size (by repeat (first | (with_reducible first | exact HB.out | apply below_alloc | apply pw_below_drewN | apply below_drew1) | exact HB.out))) : w.heap.size ≤ gb173)); clear HB; have HB := n0_; have BK173 := n1_; have GW173 := n2_; have GE173 := n3_; clear n0_ n1_ n2_ n3_; clear hb hbox hg; have hcz8_0 : w7.cell? ⟨gb173, 0, none⟩ = some (.int .i8 a0_0) := (blk_cell BK173.out 0).trans rfl; have hcz8_1 : w7.cell? ⟨gb173, 1, none⟩ = some (.int .i8 a0_1) := (blk_cell BK173.out 1).trans rfl; have hcz8_2 : w7.cell? ⟨gb173, 2, none⟩ = some (.int .i8 a0_2) := (blk_cell BK173.out 2).trans rfl; have hcz8_3 : w7.cell? ⟨gb173, 3, none⟩ = some (.slice A0_3 l0_3.length c0_3) := (blk_cell BK173.out 3).trans rfl; have hfz8_0 := blk_frozen BK173.out 0; have hfz8_1 := blk_frozen BK173.out 1; have hfz8_2 := blk_frozen BK173.out 2; have hfz8_3 := blk_frozen BK173.out 3) | ((with_reducible refine gate_callee (f := 32) rfl ?_); refine goesL_ (some 6) rfl rfl Tryd.func32 (by kernel_rfl) rfl #[.int .i64 (wrap64 (a0_0)), .int .i64 1, .int .i64 10] rfl (by (try simp only [List.map_toArray, List.map_cons, List.map_nil]); first | done | rfl | (simp only [List.length_drop, List.length_take]; rfl)) ?_; (with_reducible refine (impl_within.calls (wrap64 (a0_0)) 1 10 true _ A2.out).mono ?_); rintro e w' ⟨rfl, ⟨nd, rfl⟩⟩; refine ⟨_, rfl, ?_⟩) | (go_at_call 32; (with_reducible refine (impl_within.calls (wrap64 (a0_1)) 1 3 true _ A4.out).mono ?_); rintro e w' ⟨rfl, ⟨nd, rfl⟩⟩) | (go_at_call 32; (with_reducible refine (impl_within.calls (wrap64 (a0_2)) 0 4 t176 _ A6.out).mono ?_); rintro e w' ⟨rfl, ⟨nd, rfl⟩⟩))
   go_ret
   exact ⟨by first | rfl | (simp [errW_none, errW_some] <;> rfl) | (simp [*, errW_none, errW_some] <;> rfl), by repeat (first | (with_reducible first | exact HB.out | apply below_alloc | apply pw_below_drewN | apply below_drew1 | refine below_set ?_ GE173.out) | exact HB.out)⟩
  ·replace c5 := Bool.eq_false_iff.mpr c5
   subst c5
   have H1 : (some false) = some r := by rw [if_neg (show ¬ (false = true) by decide)] at H; exact H
   clear H
   have H := H1
   clear H1
   obtain rfl := Option.some.inj H
   go_enter Tryd.func50, Tryd.ntmps50
   go_wp2_with (first | ((with_reducible refine gate_dst (N := 1) rfl ?_); refine box_event ?hg (N := 1) ?hd (cs := #[.int .i8 a0_0, .int .i8 a0_1, .int .i8 a0_2, .slice A0_3 l0_3.length c0_3]) (t := 28) ?hr ?_; (case hd => rfl); (case hg => rfl); (case hr => first | (go_simp; done) | (go_simp; rfl)); intro gb173 hg w9 hbox hb; have n0_ := Aside0.mk (below_step (by repeat (first | (with_reducible first | exact HB.out | apply below_alloc | apply pw_below_drewN | apply below_drew1) | exact HB.out)) hb); have n1_ := Aside0.mk (hbox); have n2_ := Aside0.mk ((by rw [hg]; exact (below_size (by repeat (first | (with_reducible first | exact HB.out | apply below_alloc | apply pw_below_drewN | apply below_drew1) | exact HB.out))) : w.heap.size ≤ gb173)); have n3_ := Aside0.mk ((by rw [hg]; exact (below_size (by repeat (first | (with_reducible first | exact HB.out | apply below_alloc | apply pw_below_drewN | apply below_drew1) | exact HB.out))) : w.heap.size ≤ gb173)); clear HB; have HB := n0_; have BK173 := n1_; have GW173 := n2_; have GE173 := n3_; clear n0_ n1_ n2_ n3_; clear hb hbox hg; have hcz10_0 : w9.cell? ⟨gb173, 0, none⟩ = some (.int .i8 a0_0) := (blk_cell BK173.out 0).trans rfl; have hcz10_1 : w9.cell? ⟨gb173, 1, none⟩ = some (.int .i8 a0_1) := (blk_cell BK173.out 1).trans rfl; have hcz10_2 : w9.cell? ⟨gb173, 2, none⟩ = some (.int .i8 a0_2) := (blk_cell BK173.out 2).trans rfl; have hcz10_3 : w9.cell? ⟨gb173, 3, none⟩ = some (.slice A0_3 l0_3.length c0_3) := (blk_cell BK173.out 3).trans rfl; have hfz10_0 := blk_frozen BK173.out 0; have hfz10_1 := blk_frozen BK173.out 1; have hfz10_2 := blk_frozen BK173.out 2; have hfz10_3 := blk_frozen BK173.out 3) | ((with_reducible refine gate_callee (f := 32) rfl ?_); refine goesL_ (some 6) rfl rfl Tryd.func32 (by kernel_rfl) rfl #[.int .i64 (wrap64 (a0_0)), .int .i64 1, .int .i64 10] rfl (by (try simp only [List.map_toArray, List.map_cons, List.map_nil]); first | done | rfl | (simp only [List.length_drop, List.length_take]; rfl)) ?_; (with_reducible refine (impl_within.calls (wrap64 (a0_0)) 1 10 true _ A2.out).mono ?_); rintro e w' ⟨rfl, ⟨nd, rfl⟩⟩; refine ⟨_, rfl, ?_⟩) | (go_at_call 32; (with_reducible refine (impl_within.calls (wrap64 (a0_1)) 1 3 false _ A4.out).mono ?_); rintro e w' ⟨rfl, ⟨nd, rfl⟩⟩))
   go_ret
   exact ⟨by first | rfl | (simp [errW_none, errW_some] <;> rfl) | (simp [*, errW_none, errW_some] <;> rfl), by repeat (first | (with_reducible first | exact HB.out | apply below_alloc | apply pw_below_drewN | apply below_drew1 | refine below_set ?_ GE173.out) | exact HB.out)⟩
 ·replace c3 := Bool.eq_false_iff.mpr c3
  subst c3
  have H1 : (some false) = some r := by rw [if_neg (show ¬ (false = true) by decide)] at H; exact H
  clear H
  have H := H1
  clear H1
  obtain rfl := Option.some.inj H
  go_enter Tryd.func50, Tryd.ntmps50
  go_wp2_with (first | ((with_reducible refine gate_dst (N := 1) rfl ?_); refine box_event ?hg (N := 1) ?hd (cs := #[.int .i8 a0_0, .int .i8 a0_1, .int .i8 a0_2, .slice A0_3 l0_3.length c0_3]) (t := 28) ?hr ?_; (case hd => rfl); (case hg => rfl); (case hr => first | (go_simp; done) | (go_simp; rfl)); intro gb173 hg w11 hbox hb; have n0_ := Aside0.mk (below_step (by repeat (first | (with_reducible first | exact HB.out | apply below_alloc | apply pw_below_drewN | apply below_drew1) | exact HB.out)) hb); have n1_ := Aside0.mk (hbox); have n2_ := Aside0.mk ((by rw [hg]; exact (below_size (by repeat (first | (with_reducible first | exact HB.out | apply below_alloc | apply pw_below_drewN | apply below_drew1) | exact HB.out))) : w.heap.size ≤ gb173)); have n3_ := Aside0.mk ((by rw [hg]; exact (below_size (by repeat (first | (with_reducible first | exact HB.out | apply below_alloc | apply pw_below_drewN | apply below_drew1) | exact HB.out))) : w.heap.size ≤ gb173)); clear HB; have HB := n0_; have BK173 := n1_; have GW173 := n2_; have GE173 := n3_; clear n0_ n1_ n2_ n3_; clear hb hbox hg; have hcz12_0 : w11.cell? ⟨gb173, 0, none⟩ = some (.int .i8 a0_0) := (blk_cell BK173.out 0).trans rfl; have hcz12_1 : w11.cell? ⟨gb173, 1, none⟩ = some (.int .i8 a0_1) := (blk_cell BK173.out 1).trans rfl; have hcz12_2 : w11.cell? ⟨gb173, 2, none⟩ = some (.int .i8 a0_2) := (blk_cell BK173.out 2).trans rfl; have hcz12_3 : w11.cell? ⟨gb173, 3, none⟩ = some (.slice A0_3 l0_3.length c0_3) := (blk_cell BK173.out 3).trans rfl; have hfz12_0 := blk_frozen BK173.out 0; have hfz12_1 := blk_frozen BK173.out 1; have hfz12_2 := blk_frozen BK173.out 2; have hfz12_3 := blk_frozen BK173.out 3) | ((with_reducible refine gate_callee (f := 32) rfl ?_); refine goesL_ (some 6) rfl rfl Tryd.func32 (by kernel_rfl) rfl #[.int .i64 (wrap64 (a0_0)), .int .i64 1, .int .i64 10] rfl (by (try simp only [List.map_toArray, List.map_cons, List.map_nil]); first | done | rfl | (simp only [List.length_drop, List.length_take]; rfl)) ?_; (with_reducible refine (impl_within.calls (wrap64 (a0_0)) 1 10 false _ A2.out).mono ?_); rintro e w' ⟨rfl, ⟨nd, rfl⟩⟩; refine ⟨_, rfl, ?_⟩))
  go_ret
  exact ⟨by first | rfl | (simp [errW_none, errW_some] <;> rfl) | (simp [*, errW_none, errW_some] <;> rfl), by repeat (first | (with_reducible first | exact HB.out | apply below_alloc | apply pw_below_drewN | apply below_drew1 | refine below_set ?_ GE173.out) | exact HB.out)⟩
end Go.Proofs.YtdgecgfgekmhcaaDoor.J
namespace Go.Proofs.YtdgecgfgekmhcaaDoor.Arr
open Go.RowKit Go.Proofs.YtdgecgfgekmhcaaDoorW.PrintWords Go.Proofs.YtdgecgfgekmhcaaDoorW.PrintLast Go.Proofs.YtdgecgfgekmhcaaDoorW.PrintMore Go.Proofs.YtdgecgfgekmhcaaDoor.U Go.Proofs.YtdgecgfgekmhcaaDoor.J
set_option linter.unusedVariables false
set_option linter.unusedSimpArgs false
def phrB (s : ByteArray) : Bool := decide (∀ i : Nat, i < s.size → 32 ≤ bt s (i : Int) ∧ bt s (i : Int) ≤ 126) && decide (1 ≤ (s.size : Int) ∧ (s.size : Int) ≤ 40)
theorem l03Phrase_ev (s : ByteArray) (hs : s.size ≤ 140737488351232) : Ev (fun k => spec_l03Phrase.f k s) (phrB s) := by
 unfold spec_l03Phrase.f
 refine iter (F := fun k (x : Int) => spec_l03Phrase.l0 k s x) (fun i x => x = (i : Int) ∧ ∀ j : Nat, j < i → 32 ≤ bt s (j : Int) ∧ bt s (j : Int) ≤ 126) _ s.size ?_ ?_ 0 0 (by omega) ⟨rfl, fun j hj => absurd hj (by omega)⟩
 ·rintro i x hi ⟨rfl, hP⟩
  by_cases h1 : 32 ≤ bt s (i : Int) ∧ bt s (i : Int) ≤ 126
  ·refine .inl ⟨((i + 1 : Nat) : Int), ⟨rfl, fun j hj => ?_⟩, fun hgo => ?_⟩
   ·rcases Nat.lt_or_ge j i with h | h
    ·exact hP j h
    ·obtain rfl : j = i := by omega
     exact h1
   ·have hgo2 : Ev (fun k => spec_l03Phrase.l0 k s (wrap64 ((i : Int) + 1))) (phrB s) := by rw [w64 (by omega) (by omega)]; exact hgo
    refine Ev.step (fun k => by rw [spec_l03Phrase.l0]) ?_
    exact pos (by omega) (pos (by omega) (neg (by omega) (neg (by omega) hgo2)))
  ·refine .inr ?_
   have hf : phrB s = false := by
    unfold phrB
    rw [decide_eq_false (fun h => h1 (h i hi))]; rfl
   rw [hf]
   refine Ev.step (fun k => by rw [spec_l03Phrase.l0]) ?_
   refine pos (by omega) (pos (by omega) ?_)
   by_cases h2 : bt s (i : Int) < 32
   ·exact pos h2 (cons rfl)
   ·exact neg h2 (pos (by omega) (cons rfl))
 ·rintro x ⟨rfl, hP⟩
  refine Ev.step (fun k => by rw [spec_l03Phrase.l0]) ?_
  refine neg (by omega) (bindc (in_ev' _ _ _) (cons ?_))
  unfold phrB
  rw [decide_eq_true hP]; rfl
def fnd (ph : List ByteArray) (a : ByteArray) : Int := ixa (fun x => decide (x.toList = a.toList)) ph
theorem rdOf_get (ph : List ByteArray) (i : Nat) (hi : i < ph.length) : rdOf ByteArray.empty ph (i : Int) = ph[i] := by
 unfold rdOf; simp [List.getElem?_eq_getElem hi]
def sizedB (K L S : Int) : Bool := decide ((1 ≤ K ∧ K ≤ 10) ∧ (1 ≤ L ∧ L ≤ 3) ∧ (0 ≤ S ∧ S ≤ 4))
def phOk (ph : List ByteArray) (i : Nat) : Bool := phrB (rdOf ByteArray.empty ph (i : Int)) && decide (fnd ph (rdOf ByteArray.empty ph (i : Int)) = (i : Int))
def okBook (K L S : Int) (ph : List ByteArray) : Bool := sizedB K L S && decide (ph.length ≤ 100) && decide (∀ i : Nat, i < ph.length → phOk ph i = true) && decide (ph.length ≤ (outL K.toNat S.toNat L.toNat).length)
structure BkSt (w0 w : World) (g : Nat) (K L S : Int) (ph : List ByteArray) (w1 : World) : Prop where
 is : IsS28 w0 w1 g K L S ph
 bel : Below w0.heap.size w0 w1
 keep : KeepBut w w1 g none
theorem oneStrS : OneTy Tryd.prog 23 := ⟨by kernel_rfl, by kernel_rfl⟩
end Go.Proofs.YtdgecgfgekmhcaaDoor.Arr
namespace Go.Proofs.YtdgecgfgekmhcaaDoor.Arr
open Go.RowKit Go.Proofs.YtdgecgfgekmhcaaDoorW.PrintWords Go.Proofs.YtdgecgfgekmhcaaDoorW.PrintLast Go.Proofs.YtdgecgfgekmhcaaDoorW.PrintMore Go.Proofs.YtdgecgfgekmhcaaDoor.U Go.Proofs.YtdgecgfgekmhcaaDoor.J
set_option linter.unusedVariables false
set_option linter.unusedSimpArgs false
theorem okBook_in {K L S : Int} {ph : List ByteArray} (h : okBook K L S ph = true) : ((1 ≤ K ∧ K ≤ 10) ∧ (1 ≤ L ∧ L ≤ 3) ∧ (0 ≤ S ∧ S ≤ 4)) ∧ ph.length ≤ 100 ∧ ph.length ≤ (outL K.toNat S.toNat L.toNat).length := by
 unfold okBook at h
 rw [Bool.and_eq_true, Bool.and_eq_true, Bool.and_eq_true] at h
 exact ⟨of_decide_eq_true h.1.1.1, of_decide_eq_true h.1.1.2, of_decide_eq_true h.2⟩
structure BookP (K L S : Int) (ph : List ByteArray) : Prop where
 k : -128 ≤ K ∧ K ≤ 127
 l : -128 ≤ L ∧ L ≤ 127
 s : -128 ≤ S ∧ S ≤ 127
 n : ph.length ≤ 100000000
 p : ∀ s ∈ ph, s.size ≤ 140737488351232
end Go.Proofs.YtdgecgfgekmhcaaDoor.Arr
namespace Go.Proofs.YtdgecgfgekmhcaaDoor.Arr
open Go.RowKit Go.Proofs.YtdgecgfgekmhcaaDoorW.PrintWords Go.Proofs.YtdgecgfgekmhcaaDoorW.PrintLast Go.Proofs.YtdgecgfgekmhcaaDoorW.PrintMore Go.Proofs.YtdgecgfgekmhcaaDoor.U Go.Proofs.YtdgecgfgekmhcaaDoor.J
set_option linter.unusedVariables false
set_option linter.unusedSimpArgs false
abbrev BK := Int × Int × Int × List (List UInt8)
def okB (b : BK) : Bool := okBook b.1 b.2.1 b.2.2.1 (txs b.2.2.2)
def hdT (b : BK) : List UInt8 := dg b.1.toNat ++ 32 :: (dg b.2.1.toNat ++ 32 :: dg b.2.2.1.toNat)
def bookT (b : BK) : List UInt8 := hdT b ++ 10 :: (b.2.2.2.map (· ++ [10])).flatten
theorem tail_eq : ∀ ph : List (List UInt8), (10 : UInt8) :: (ph.map (· ++ [10])).flatten = Lib.joinTail [10] (ph ++ [[]])
 | [] => rfl
 | p :: r => by
  have ih := tail_eq r
  simp only [Lib.joinTail, List.cons_append, List.map_cons, List.flatten_cons] at ih ⊢
  rw [← ih]
  simp
theorem numGo_le : ∀ (s : List UInt8) (m n : Int), 0 ≤ m → numGo m s = (n, true) → m * 10 ^ s.length ≤ n
 | [], m, n, h0, h => by
  simp only [numGo, Prod.mk.injEq] at h
  simp [h.1]
 | c :: r, m, n, h0, h => by
  rw [numGo] at h
  split at h
  ·cases h
  ·have ih := numGo_le r _ n (by omega) h
   rw [List.length_cons, Int.pow_succ]
   refine Int.le_trans ?_ ih
   rw [show m * (10 ^ r.length * 10) = (10 * m) * 10 ^ r.length by rw [Int.mul_comm 10 m, Int.mul_assoc, Int.mul_comm (10 ^ r.length) 10]]
   exact Int.mul_le_mul_of_nonneg_right (by omega) (Int.le_of_lt (Int.pow_pos (by omega)))
theorem u8_of (c : UInt8) (h : 48 ≤ c.toNat) : UInt8.ofNat (48 + (c.toNat - 48)) = c := by
 rw [show 48 + (c.toNat - 48) = c.toNat by omega]
 exact UInt8.ofNat_toNat
theorem numS_small {s : List UInt8} {n : Int} (h : numS s = (n, true)) (hn : n ≤ 99) : 0 ≤ n ∧ s = dg n.toNat := by
 unfold numS at h
 split at h
 ·cases h
 ·rename_i hc
  match s, h, hc with
  | [], h, hc => exact absurd (Or.inl rfl) hc
  | [c], h, hc =>
   rw [numGo] at h
   split at h
   ·cases h
   ·rename_i h1
    simp only [numGo, Prod.mk.injEq, and_true] at h
    have : n.toNat = c.toNat - 48 := by omega
    refine ⟨by omega, ?_⟩
    rw [this]
    unfold dg
    rw [if_pos (by omega), u8_of c (by omega)]
  | [c, d], h, hc =>
   rw [numGo] at h
   split at h
   ·cases h
   ·rename_i h1
    rw [numGo] at h
    split at h
    ·cases h
    ·rename_i h2
     simp only [numGo, Prod.mk.injEq, and_true] at h
     have hc48 : c.toNat ≠ 48 := fun e => hc (Or.inr (Or.inr ⟨by rw [show c = 48 from UInt8.toNat_inj.1 e]; rfl, by simp⟩))
     have e1 : n.toNat = 10 * (c.toNat - 48) + (d.toNat - 48) := by omega
     refine ⟨by omega, ?_⟩
     rw [e1]
     unfold dg
     rw [if_neg (by omega), show (10 * (c.toNat - 48) + (d.toNat - 48)) / 10 = c.toNat - 48 by omega, show (10 * (c.toNat - 48) + (d.toNat - 48)) % 10 = d.toNat - 48 by omega, u8_of c (by omega), u8_of d (by omega)]
  | c :: d :: e :: r, h, hc =>
   exfalso
   rw [numGo] at h
   split at h
   ·cases h
   ·rename_i h1
    have hc48 : c.toNat ≠ 48 := fun e => hc (Or.inr (Or.inr ⟨by rw [show c = 48 from UInt8.toNat_inj.1 e]; rfl, by simp⟩))
    have h2 := numGo_le _ _ n (by omega) h
    have h3 : (100 : Int) ≤ 10 ^ (d :: e :: r).length := by
     have : (10 : Nat) ^ 2 ≤ 10 ^ (d :: e :: r).length := Nat.pow_le_pow_right (by omega) (by simp)
     exact_mod_cast this
    have h4 : (1 : Int) * 10 ^ (d :: e :: r).length ≤ (10 * 0 + ((c.toNat - 48 : Nat) : Int)) * 10 ^ (d :: e :: r).length := Int.mul_le_mul_of_nonneg_right (by omega) (by omega)
    omega
def rdS (t : List UInt8) : Option BK :=
 match sp 10 t with
 | hd :: rest =>
  if rest.length < 1 ∨ 101 < rest.length ∨ rest.getLast? ≠ some [] then none
  else match sp 32 hd with
   | [a, b, c] =>
    if ((numS a).2 = true ∧ (numS a).1 ≤ 100) ∧ ((numS b).2 = true ∧ (numS b).1 ≤ 100) ∧ ((numS c).2 = true ∧ (numS c).1 ≤ 100) then
     (if okB ((numS a).1, (numS b).1, (numS c).1, rest.dropLast) = true then some ((numS a).1, (numS b).1, (numS c).1, rest.dropLast) else none)
    else none
   | _ => none
 | [] => none
def rdI (t : List UInt8) : Option BK :=
 match sp 10 t with
 | hd :: rest =>
  match sp 32 hd with
  | [a, b, c] =>
   if rest.length < 1 then none
   else match numI 10 a, numI 10 b, numI 10 c with
    | some x, some y, some z => if (if okB ((x : Int), (y : Int), (z : Int), rest.dropLast) = true then bookT ((x : Int), (y : Int), (z : Int), rest.dropLast) else []) = t then some ((x : Int), (y : Int), (z : Int), rest.dropLast) else none
    | _, _, _ => none
  | _ => none
 | [] => none
theorem ok_ranges {b : BK} (h : okB b = true) : ((1 ≤ b.1 ∧ b.1 ≤ 10) ∧ (1 ≤ b.2.1 ∧ b.2.1 ≤ 3) ∧ (0 ≤ b.2.2.1 ∧ b.2.2.1 ≤ 4)) ∧ b.2.2.2.length ≤ 100 := by
 have := okBook_in h
 rw [txs, List.length_map] at this
 exact ⟨this.1, this.2.1⟩
theorem phr_bytes {p : List UInt8} (h : phrB ⟨p.toArray⟩ = true) : (∀ x ∈ p, x ≠ 10) ∧ p.length ≤ 40 := by
 unfold phrB at h
 rw [Bool.and_eq_true, decide_eq_true_eq, decide_eq_true_eq, bs_size] at h
 refine ⟨fun x hx e => ?_, by omega⟩
 subst e
 obtain ⟨a, c, rfl⟩ := List.append_of_mem hx
 have := h.1 a.length (by simp)
 rw [bt_app a c 10] at this
 have : (UInt8.toNat 10) = 10 := rfl
 omega
theorem ok_phr {b : BK} (h : okB b = true) : ∀ p ∈ b.2.2.2, (∀ x ∈ p, x ≠ 10) ∧ p.length ≤ 40 := by
 intro p hp
 obtain ⟨i, hi, rfl⟩ := List.getElem_of_mem hp
 unfold okB okBook at h
 simp only [Bool.and_eq_true, decide_eq_true_eq] at h
 have h1 := h.1.2 i (by rw [txs, List.length_map]; exact hi)
 unfold phOk at h1
 rw [Bool.and_eq_true, rdOf_get _ i (by rw [txs, List.length_map]; exact hi)] at h1
 have h2 := h1.1
 simp only [txs, List.getElem_map] at h2
 exact phr_bytes h2
theorem dg_fin : ∀ k : Fin 100, ((dg k.val).all fun x => x != 32 && x != 10) = true := by decide +kernel
theorem dg_no (k : Nat) (h : k < 100) : (∀ x ∈ dg k, x ≠ 32) ∧ (∀ x ∈ dg k, x ≠ 10) := by
 have := dg_fin ⟨k, h⟩
 simp only [List.all_eq_true, Bool.and_eq_true, bne_iff_ne] at this
 exact ⟨fun x hx => (this x hx).1, fun x hx => (this x hx).2⟩
theorem hd_split {b : BK} (h : okB b = true) : sp 32 (hdT b) = [dg b.1.toNat, dg b.2.1.toNat, dg b.2.2.1.toNat] ∧ ∀ x ∈ hdT b, x ≠ 10 := by
 obtain ⟨⟨h1, h2, h3⟩, _⟩ := ok_ranges h
 unfold hdT
 have a1 := dg_no b.1.toNat (by omega)
 have a2 := dg_no b.2.1.toNat (by omega)
 have a3 := dg_no b.2.2.1.toNat (by omega)
 refine ⟨by rw [sp_cut 32 _ _ a1.1, sp_cut 32 _ _ a2.1, sp_no 32 _ a3.1], fun x hx => ?_⟩
 simp only [List.mem_append, List.mem_cons] at hx
 rcases hx with hx | rfl | hx | rfl | hx
 ·exact a1.2 x hx
 ·decide
 ·exact a2.2 x hx
 ·decide
 ·exact a3.2 x hx
theorem book_split {b : BK} (h : okB b = true) : sp 10 (bookT b) = hdT b :: (b.2.2.2 ++ [[]]) := by
 unfold bookT
 rw [tail_eq]
 refine sp_join 10 _ _ (hd_split h).2 fun v hv x hx => ?_
 rcases List.mem_append.1 hv with hv | hv
 ·exact (ok_phr h v hv).1 x hx
 ·simp at hv
  subst hv
  cases hx
theorem rd_whole (b : BK) (h : okB b = true) : rdS (bookT b) = some b ∧ rdI (bookT b) = some b := by
 have hr := ok_ranges h
 have hs := hd_split h
 obtain ⟨⟨h1, h2, h3⟩, h4⟩ := hr
 have n1 := numS_dg ⟨b.1.toNat, by omega⟩
 have n2 := numS_dg ⟨b.2.1.toNat, by omega⟩
 have n3 := numS_dg ⟨b.2.2.1.toNat, by omega⟩
 simp only [Int.toNat_of_nonneg (show 0 ≤ b.1 by omega), Int.toNat_of_nonneg (show 0 ≤ b.2.1 by omega), Int.toNat_of_nonneg (show 0 ≤ b.2.2.1 by omega)] at n1 n2 n3
 have m1 := numI_eq (most := 10) (k := b.1.toNat) (by omega) (by omega)
 have m2 := numI_eq (most := 10) (k := b.2.1.toNat) (by omega) (by omega)
 have m3 := numI_eq (most := 10) (k := b.2.2.1.toNat) (by omega) (by omega)
 obtain ⟨K, L, S, ph⟩ := b
 simp only at *
 constructor
 ·unfold rdS
  rw [book_split h]
  simp only [hs.1, n1, n2, n3]
  rw [if_neg (by simp; omega), if_pos ⟨⟨trivial, by omega⟩, ⟨trivial, by omega⟩, ⟨trivial, by omega⟩⟩]
  rw [List.dropLast_concat, if_pos h]
 ·unfold rdI
  rw [book_split h]
  simp only [hs.1, m1, m2, m3]
  rw [if_neg (by simp)]
  rw [List.dropLast_concat, Int.toNat_of_nonneg (show 0 ≤ K by omega), Int.toNat_of_nonneg (show 0 ≤ L by omega), Int.toNat_of_nonneg (show 0 ≤ S by omega), if_pos h, if_pos rfl]
theorem sp_back (c : UInt8) : ∀ l : List UInt8, ∃ h t, sp c l = h :: t ∧ l = h ++ Lib.joinTail [c] t
 | [] => ⟨[], [], rfl, rfl⟩
 | x :: r => by
  obtain ⟨h, t, e, e2⟩ := sp_back c r
  rw [sp]
  by_cases hx : x = c
  ·refine ⟨[], h :: t, by rw [if_pos hx, e], ?_⟩
   rw [hx, e2]
   simp [Lib.joinTail]
  ·refine ⟨x :: h, t, by rw [if_neg hx, e], ?_⟩
   rw [e2]
   simp
theorem rdS_sound {t : List UInt8} {b : BK} (h : rdS t = some b) : okB b = true ∧ bookT b = t := by
 unfold rdS at h
 obtain ⟨hd, rest, e, et⟩ := sp_back 10 t
 rw [e] at h
 simp only at h
 split at h
 ·cases h
 ·rename_i hc
  obtain ⟨w0, ws, eh, eth⟩ := sp_back 32 hd
  rw [eh] at h
  split at h
  ·rename_i a b1 c heq
   split at h
   ·rename_i hn
    split at h
    ·rename_i hok
     obtain rfl := Option.some.inj h
     refine ⟨hok, ?_⟩
     have hr := ok_ranges hok
     simp only at hr
     have s1 := numS_small (s := a) (n := (numS a).1) (by rw [← hn.1.1]) (by omega)
     have s2 := numS_small (s := b1) (n := (numS b1).1) (by rw [← hn.2.1.1]) (by omega)
     have s3 := numS_small (s := c) (n := (numS c).1) (by rw [← hn.2.2.1]) (by omega)
     injection heq with e0 e1
     subst e0 e1
     have hl : rest.dropLast ++ [[]] = rest := by
      have hg : rest.getLast? = some [] := Classical.byContradiction fun hh => hc (Or.inr (Or.inr hh))
      have hne : rest ≠ [] := by
       intro hh; rw [hh] at hg; cases hg
      have := List.dropLast_concat_getLast hne
      rw [List.getLast?_eq_some_getLast hne] at hg
      rw [Option.some.inj hg] at this
      exact this
     unfold bookT hdT
     simp only
     rw [tail_eq, hl, ← s1.2, ← s2.2, ← s3.2, et, eth]
     simp [Lib.joinTail]
    ·cases h
   ·cases h
  ·cases h
theorem rdI_sound {t : List UInt8} {b : BK} (h : rdI t = some b) : okB b = true ∧ bookT b = t := by
 unfold rdI at h
 split at h
 ·rename_i hd rest e
  split at h
  ·split at h
   ·cases h
   ·split at h
    ·rename_i hlen _ _ _ x y z hx hy hz
     by_cases hok : okB ((x : Int), (y : Int), (z : Int), rest.dropLast) = true
     ·rw [if_pos hok] at h
      split at h
      ·rename_i e2
       obtain rfl := Option.some.inj h
       exact ⟨hok, e2⟩
      ·cases h
     ·rw [if_neg hok] at h
      split at h
      ·rename_i e2
       exfalso
       rw [← e2] at e
       have e4 : ([[]] : List (List UInt8)) = hd :: rest := e
       injection e4 with _ e3
       rw [← e3] at hlen
       exact hlen (by simp)
      ·cases h
    ·cases h
  ·cases h
 ·cases h
theorem rd_eq (t : List UInt8) : rdI t = rdS t := by
 rcases hI : rdI t with _ | b
 ·rcases hS : rdS t with _ | b
  ·rfl
  ·obtain ⟨a, rfl⟩ := rdS_sound hS
   rw [(rd_whole b a).2] at hI
   cases hI
 ·obtain ⟨a, rfl⟩ := rdI_sound hI
  rw [(rd_whole b a).1]
end Go.Proofs.YtdgecgfgekmhcaaDoor.Arr
namespace Go.Proofs.YtdgecgfgekmhcaaDoor.Arr
open Go.RowKit Go.Proofs.YtdgecgfgekmhcaaDoorW.PrintWords Go.Proofs.YtdgecgfgekmhcaaDoorW.PrintLast Go.Proofs.YtdgecgfgekmhcaaDoorW.PrintMore Go.Proofs.YtdgecgfgekmhcaaDoor.U Go.Proofs.YtdgecgfgekmhcaaDoor.J
set_option linter.unusedVariables false
set_option linter.unusedSimpArgs false
theorem isPhrase_ev (s : ByteArray) (hs : s.size ≤ 140737488351232) : Ev (fun k => impl_isPhrase.f k s) (phrB s) := by
 unfold impl_isPhrase.f
 refine iter (F := fun k (x : Int) => impl_isPhrase.l0 k s (s.size : Int) x) (fun i x => x = (i : Int) ∧ ∀ j : Nat, j < i → 32 ≤ bt s (j : Int) ∧ bt s (j : Int) ≤ 126) _ s.size ?_ ?_ 0 0 (by omega) ⟨rfl, fun j hj => absurd hj (by omega)⟩
 ·rintro i x hi ⟨rfl, hP⟩
  by_cases h1 : 32 ≤ bt s (i : Int) ∧ bt s (i : Int) ≤ 126
  ·refine .inl ⟨((i + 1 : Nat) : Int), ⟨rfl, fun j hj => ?_⟩, fun hgo => ?_⟩
   ·rcases Nat.lt_or_ge j i with h | h
    ·exact hP j h
    ·obtain rfl : j = i := by omega
     exact h1
   ·have hgo2 : Ev (fun k => impl_isPhrase.l0 k s (s.size : Int) (wrap64 ((i : Int) + 1))) (phrB s) := by rw [w64 (by omega) (by omega)]; exact hgo
    refine Ev.step (fun k => by rw [impl_isPhrase.l0]) ?_
    exact pos (by omega) (pos (by omega) (pos (by omega) (neg (by omega) (neg (by omega) hgo2))))
  ·refine .inr ?_
   have hf : phrB s = false := by
    unfold phrB
    rw [decide_eq_false (fun h => h1 (h i hi))]; rfl
   rw [hf]
   refine Ev.step (fun k => by rw [impl_isPhrase.l0]) ?_
   refine pos (by omega) (pos (by omega) (pos (by omega) ?_))
   by_cases h2 : bt s (i : Int) < 32
   ·exact pos h2 (cons rfl)
   ·exact neg h2 (pos (by omega) (cons rfl))
 ·rintro x ⟨rfl, hP⟩
  refine Ev.step (fun k => by rw [impl_isPhrase.l0]) ?_
  refine neg (by omega) (bindc (within_ev' _ _ _) (cons ?_))
  unfold phrB
  rw [decide_eq_true hP]; rfl
theorem index_ev (ph : List ByteArray) (a : ByteArray) (hn : ph.length ≤ 140737488351232) : Ev (fun k => slices_Index_string_string.f k ph a) (fnd ph a) := by
 unfold slices_Index_string_string.f
 refine iter (F := fun k (x : Int) => slices_Index_string_string.l0 k ph a (ph.length : Int) x) (fun i x => x = (i : Int) ∧ ∀ j : Nat, j < i → ∀ y, ph[j]? = some y → decide (y.toList = a.toList) = false) _ ph.length ?_ ?_ 0 0 (by omega) ⟨rfl, fun j hj => absurd hj (by omega)⟩
 ·rintro i x hi ⟨rfl, hP⟩
  have hg := rdOf_get ph i hi
  by_cases h1 : ph[i].toList = a.toList
  ·refine .inr ?_
   rw [show fnd ph a = (i : Int) from ixa_found _ ph i ph[i] (List.getElem?_eq_getElem hi) hP (decide_eq_true h1)]
   refine Ev.step (fun k => by rw [slices_Index_string_string.l0]) ?_
   exact pos (by omega) (pos (by omega) (pos (by omega) (pos (by rw [hg]; exact h1.symm) (cons rfl))))
  ·refine .inl ⟨((i + 1 : Nat) : Int), ⟨rfl, fun j hj y hy => ?_⟩, fun hgo => ?_⟩
   ·rcases Nat.lt_or_ge j i with h | h
    ·exact hP j h y hy
    ·obtain rfl : j = i := by omega
     rw [List.getElem?_eq_getElem hi] at hy
     rw [← Option.some.inj hy]; exact decide_eq_false h1
   ·have hgo2 : Ev (fun k => slices_Index_string_string.l0 k ph a (ph.length : Int) (wrap64 ((i : Int) + 1))) (fnd ph a) := by rw [w64 (by omega) (by omega)]; exact hgo
    refine Ev.step (fun k => by rw [slices_Index_string_string.l0]) ?_
    exact pos (by omega) (pos (by omega) (pos (by omega) (neg (by rw [hg]; exact fun e => h1 e.symm) hgo2)))
 ·rintro x ⟨rfl, hP⟩
  refine Ev.step (fun k => by rw [slices_Index_string_string.l0]) ?_
  exact neg (by omega) (cons (by rw [show fnd ph a = -1 from ixa_none _ ph hP]))
def hasP (ph : List ByteArray) (a : ByteArray) : Bool := decide (0 ≤ fnd ph a)
theorem contains_ev (ph : List ByteArray) (a : ByteArray) (hn : ph.length ≤ 140737488351232) : Ev (fun k => slices_Contains_string_string.f k ph a) (hasP ph a) := by
 unfold slices_Contains_string_string.f
 exact Ev.bind (index_ev ph a hn) (cons rfl)
theorem ixa_at {α : Type} (p : α → Bool) (l : List α) (i : Nat) (h : ixa p l = (i : Int)) : ∀ j, j < i → ∀ y, l[j]? = some y → p y = false := by
 unfold ixa at h
 cases hf : l.findIdx? p with
 | none => rw [hf] at h; simp at h
 | some k =>
  rw [hf] at h
  simp only [Int.natCast_inj] at h
  subst h
  rw [List.findIdx?_eq_some_iff_getElem] at hf
  obtain ⟨hk, _, hall⟩ := hf
  intro j hj y hy
  have := hall j hj
  rw [List.getElem?_eq_getElem (by omega)] at hy
  rw [← Option.some.inj hy]
  simpa using this
theorem hasP_take (ph : List ByteArray) (i : Nat) (hi : i < ph.length) : hasP (ph.take i) ph[i] = !decide (fnd ph ph[i] = (i : Int)) := by
 unfold hasP fnd
 rw [ixa_any]
 by_cases h : ixa (fun x : ByteArray => decide (x.toList = ph[i].toList)) ph = (i : Int)
 ·rw [decide_eq_true h]
  have hall := ixa_at _ ph i h
  rw [show (!true) = false from rfl, List.any_eq_false]
  intro y hy
  obtain ⟨j, hj, rfl⟩ := List.getElem_of_mem hy
  rw [List.length_take] at hj
  have := hall j (by omega) ph[j] (List.getElem?_eq_getElem (by omega))
  rw [List.getElem_take]
  simpa using this
 ·rw [decide_eq_false h]
  cases ha : (ph.take i).any fun x => decide (x.toList = ph[i].toList) with
  | true => rfl
  | false =>
   exfalso
   rw [List.any_eq_false] at ha
   refine h (ixa_found _ ph i ph[i] (List.getElem?_eq_getElem hi) (fun j hj y hy => ?_) (decide_eq_true rfl))
   have hy2 : y ∈ ph.take i := List.mem_of_getElem? (i := j) (by rw [List.getElem?_take, if_pos hj]; exact hy)
   have := ha y hy2
   simpa using this
theorem phOk_take (ph : List ByteArray) (i : Nat) (hi : i < ph.length) : phOk ph i = (phrB (rdOf ByteArray.empty ph (i : Int)) && !hasP (ph.take i) (rdOf ByteArray.empty ph (i : Int))) := by
 unfold phOk
 rw [rdOf_get ph i hi, hasP_take ph i hi, Bool.not_not]
theorem isFrame_f (K L S : Int) (ph : List ByteArray) (hK : -128 ≤ K ∧ K ≤ 127) (hL : -128 ≤ L ∧ L ≤ 127) (hS : -128 ≤ S ∧ S ≤ 127) : impl_Book_isFrame.f K L S ph = some (sizedB K L S) := by
 unfold impl_Book_isFrame.f sizedB
 rw [w64 (by omega) (by omega), w64 (by omega) (by omega), w64 (by omega) (by omega), within_ev', within_ev', within_ev']
 by_cases h1 : 1 ≤ K ∧ K ≤ 10 <;> by_cases h2 : 1 ≤ L ∧ L ≤ 3 <;> simp [h1, h2]
theorem C_takeS {w : World} {A : Option Addr} {n : Nat} {xs : List ByteArray} (h : Kd.C Kd.string w A n xs) (m : Nat) (hm : m ≤ n) : Kd.C Kd.string w A m (xs.take m) := by
 obtain ⟨h1, h2, h3⟩ := h
 refine ⟨by rw [List.length_take]; omega, by omega, fun h0 => ?_⟩
 obtain ⟨ad, e, hc⟩ := h3 (by omega)
 refine ⟨ad, e, fun j p hj => hc j p ?_⟩
 have hjm := (List.getElem?_eq_some_iff.1 hj).1
 rw [List.length_take] at hjm
 rwa [List.getElem?_take, if_pos (by omega)] at hj
section
variable {P : Program} {o : Oper} {a : Act}
theorem y_row {ty : TypeId} {x : Operand} (ho : o.op = .load ty x) {g m : Nat} (hx : a.eval x = .pointer (some ⟨g, 0, none⟩)) {cs : Array Value} {t : TypeId} {w' : World} (hc : w'.heap[g]? = some (.cells cs t (0, 0))) (hi2 : AggTy P ty m) (hl : cs.size = m) : (execOp a.eval o).run P w' = .ok (.value (.agg cs)) w' := by
 obtain ⟨hd, hi0⟩ := hi2
 have hi : (P.info? ty).map (·.size) = some cs.size := by rw [hl]; exact hi0
 cases hu : P.underlying ty with
 | none => simp [hu] at hd
 | some d =>
  have h := run_loadVar_row (P := P) w' g t ty cs (0, 0) d hc hu (by cases d <;> simp_all) hi
  unfold execOp
  simp only [ho, hx, Instr.loadAt, Instr.sureAddr, Sem.run_bind, Sem.run_pure, Result.andThen_ok, h]
end
theorem aggBook : AggTy Tryd.prog 28 4 := ⟨by kernel_rfl, by kernel_rfl⟩
def BkIn (w : World) (K L S : Int) (A3 : Option Addr) (n3 c3 : Nat) (w' : World) : Prop := Below w.heap.size w w' ∧ w'.heap[w.heap.size]? = some (.cells #[.int .i8 K, .int .i8 L, .int .i8 S, .slice A3 n3 c3] 28 (0, 0))
theorem BkIn.below {w w1 w2 : World} {K L S : Int} {A3 : Option Addr} {n3 c3 : Nat} (h : BkIn w K L S A3 n3 c3 w1) (hb : Below w1.heap.size w1 w2) : BkIn w K L S A3 n3 c3 w2 := ⟨h.1.trans (hb.mono h.1.size), (hb.block _ (lt_of_some h.2)).trans h.2⟩
theorem BkIn.drew {w w1 : World} {K L S : Int} {A3 : Option Addr} {n3 c3 : Nat} (h : BkIn w K L S A3 n3 c3 w1) : BkIn w K L S A3 n3 c3 w1.drew := ⟨below_drew1 h.1, h.2⟩
theorem bkIn_new (w : World) (K L S : Int) (A3 : Option Addr) (n3 c3 : Nat) : BkIn w K L S A3 n3 c3 (w.alloc (.cells #[.int .i8 K, .int .i8 L, .int .i8 S, .slice A3 n3 c3] 28)) := ⟨below_alloc (Below.refl _ _) _, heap_alloc_new w _⟩
set_option maxHeartbeats 8000000 in
set_option maxRecDepth 100000 in
theorem validBook_calls (bK bL bS : Int) (A3 : Option Addr) (c3 : Nat) (ph : List ByteArray) (w : World) (hp : BookP bK bL bS ph) (hr3 : Kd.C Kd.string w A3 ph.length ph) (hc3 : ph.length ≤ c3) :
  Calls Tryd.prog 24 #[.agg #[.int .i8 bK, .int .i8 bL, .int .i8 bS, .slice A3 ph.length c3]] w fun e w' => e = .returned (.bool (okBook bK bL bS ph)) ∧ Below w.heap.size w w' := by
 have HF := Aside0.mk (fun W (hW : Below w.heap.size w W) => impl_Book_isFrame.calls bK bL bS A3 c3 ph _ W (Kd.C_below hr3 hW) hc3 (isFrame_f bK bL bS ph hp.k hp.l hp.s))
 have HR3 := Aside0.mk hr3
 have hmx := Kd.C_max hr3
 have hn := hp.n
 have HB0 := Aside0.mk (bkIn_new w bK bL bS A3 ph.length c3)
 cases hz : sizedB bK bL bS with
 | false =>
  have HX := Aside0.mk (show okBook bK bL bS ph = false by unfold okBook; rw [hz]; rfl)
  rw [hz] at HF
  clear hz hr3 hp
  go_enter Tryd.func24, Tryd.ntmps24
  go_wp2_with fail
  refine start_ (n := 18) (S := fun w' => BkIn w bK bL bS A3 ph.length c3 w') (ds := []) #[false, false, false, false, false, false, false, false, false, false, false, false, false, false, false, false, false, false] (by kernel_rfl) rfl rfl (HB0.out.drew) (fun hHeld => ?_)
  refine take_ (i := 0) (N := some 5) (v := .agg #[.int .i8 bK, .int .i8 bL, .int .i8 bS, .slice A3 ph.length c3]) (a' := ?_) #[true, false, false, false, false, false, false, false, false, false, false, false, false, false, false, false, false, false] rfl rfl (by kernel_rfl) (fun _ _ _ h => h) (Or.inl ⟨by rfl, ?_⟩) hHeld ?_ ?_
  ·intro w' s0
   exact y_row (by rfl) (by rfl) s0.2 aggBook rfl
  rotate_left
  ·simp only [Act.put, List.setIfInBounds_toArray, List.set_cons_zero, List.set_cons_succ, i64_w, i32_w]
   rfl
  refine one_ (i := 1) (N := some 6) #[true, true, false, false, false, false, false, false, false, false, false, false, false, false, false, false, false, false] rfl rfl (by kernel_rfl) (by decide) (fun K hK => ?_)
  refine goes_ Tryd.func50 (by kernel_rfl) rfl #[.agg #[.int .i8 bK, .int .i8 bL, .int .i8 bS, .slice A3 ph.length c3]] (by rfl) rfl rfl (by simp only [List.map_toArray, List.map_cons, List.map_nil]; rfl) ?_
  refine (HF.out _ hHeld.1).mono ?_
  rintro e w1 ⟨rfl, hb1⟩
  refine ⟨_, rfl, ?_⟩
  refine hK.out _ _ (hHeld.below hb1) (fun hHeld => ?_)
  clear hK K
  refine norm_ (a' := ?_) ?_ ?_
  rotate_left
  ·show Act.put _ (some 6) _ = _
   simp only [Act.put, List.setIfInBounds_toArray, List.set_cons_zero, List.set_cons_succ, i64_w, i32_w]
   rfl
  refine pure_ (i := 2) (N := some 7) (v := ?_) (a' := ?_) #[true, true, true, false, false, false, false, false, false, false, false, false, false, false, false, false, false, false] rfl rfl (by kernel_rfl) (fun _ _ _ h => h) (Or.inl ⟨by rfl, ?_⟩) ?_ ?_
  rotate_left
  ·intro w'
   go_simp
   with_reducible rfl
  rotate_left
  ·simp only [Act.put, List.setIfInBounds_toArray, List.set_cons_zero, List.set_cons_succ, i64_w, i32_w]
   rfl
  refine pure_ (i := 3) (N := some 8) (v := ?_) (a' := ?_) #[true, true, true, true, false, false, false, false, false, false, false, false, false, false, false, false, false, false] rfl rfl (by kernel_rfl) (fun _ _ _ h => h) (Or.inl ⟨by rfl, ?_⟩) ?_ ?_
  rotate_left
  ·intro w'
   go_simp
   with_reducible rfl
  rotate_left
  ·simp only [Act.put, List.setIfInBounds_toArray, List.set_cons_zero, List.set_cons_succ, i64_w, i32_w]
   rfl
  refine pure_ (i := 4) (N := some 9) (v := undef) (a' := ?_) #[true, true, true, true, true, false, false, false, false, false, false, false, false, false, false, false, false, false] rfl rfl (by kernel_rfl) (fun _ _ _ h => h) (Or.inr ⟨by rfl, rfl⟩) ?_ ?_
  rotate_left
  ·simp only [Act.put, List.setIfInBounds_toArray, List.set_cons_zero, List.set_cons_succ, i64_w, i32_w]
   rfl
  refine pure_ (i := 5) (N := some 10) (v := undef) (a' := ?_) #[true, true, true, true, true, true, false, false, false, false, false, false, false, false, false, false, false, false] rfl rfl (by kernel_rfl) (fun _ _ _ h => h) (Or.inr ⟨by rfl, rfl⟩) ?_ ?_
  rotate_left
  ·simp only [Act.put, List.setIfInBounds_toArray, List.set_cons_zero, List.set_cons_succ, i64_w, i32_w]
   rfl
  refine pure_ (i := 6) (N := some 11) (v := undef) (a' := ?_) #[true, true, true, true, true, true, true, false, false, false, false, false, false, false, false, false, false, false] rfl rfl (by kernel_rfl) (fun _ _ _ h => h) (Or.inr ⟨by rfl, rfl⟩) ?_ ?_
  rotate_left
  ·simp only [Act.put, List.setIfInBounds_toArray, List.set_cons_zero, List.set_cons_succ, i64_w, i32_w]
   rfl
  refine pure_ (i := 7) (N := some 12) (v := undef) (a' := ?_) #[true, true, true, true, true, true, true, true, false, false, false, false, false, false, false, false, false, false] rfl rfl (by kernel_rfl) (fun _ _ _ h => h) (Or.inr ⟨by rfl, rfl⟩) ?_ ?_
  rotate_left
  ·simp only [Act.put, List.setIfInBounds_toArray, List.set_cons_zero, List.set_cons_succ, i64_w, i32_w]
   rfl
  refine pure_ (i := 8) (N := some 13) (v := ?_) (a' := ?_) #[true, true, true, true, true, true, true, true, true, false, false, false, false, false, false, false, false, false] rfl rfl (by kernel_rfl) (fun _ _ _ h => h) (Or.inl ⟨by rfl, ?_⟩) ?_ ?_
  rotate_left
  ·intro w'
   go_simp
   with_reducible rfl
  rotate_left
  ·simp only [Act.put, List.setIfInBounds_toArray, List.set_cons_zero, List.set_cons_succ, i64_w, i32_w]
   rfl
  refine pure_ (i := 9) (N := some 14) (v := ?_) (a' := ?_) #[true, true, true, true, true, true, true, true, true, true, false, false, false, false, false, false, false, false] rfl rfl (by kernel_rfl) (fun _ _ _ h => h) (Or.inl ⟨by rfl, ?_⟩) ?_ ?_
  rotate_left
  ·intro w'
   go_simp
   with_reducible rfl
  rotate_left
  ·simp only [Act.put, List.setIfInBounds_toArray, List.set_cons_zero, List.set_cons_succ, i64_w, i32_w]
   rfl
  refine pure_ (i := 10) (N := some 15) (v := undef) (a' := ?_) #[true, true, true, true, true, true, true, true, true, true, true, false, false, false, false, false, false, false] rfl rfl (by kernel_rfl) (fun _ _ _ h => h) (Or.inr ⟨by rfl, rfl⟩) ?_ ?_
  rotate_left
  ·simp only [Act.put, List.setIfInBounds_toArray, List.set_cons_zero, List.set_cons_succ, i64_w, i32_w]
   rfl
  refine pure_ (i := 11) (N := some 16) (v := undef) (a' := ?_) #[true, true, true, true, true, true, true, true, true, true, true, true, false, false, false, false, false, false] rfl rfl (by kernel_rfl) (fun _ _ _ h => h) (Or.inr ⟨by rfl, rfl⟩) ?_ ?_
  rotate_left
  ·simp only [Act.put, List.setIfInBounds_toArray, List.set_cons_zero, List.set_cons_succ, i64_w, i32_w]
   rfl
  refine pure_ (i := 12) (N := some 17) (v := undef) (a' := ?_) #[true, true, true, true, true, true, true, true, true, true, true, true, true, false, false, false, false, false] rfl rfl (by kernel_rfl) (fun _ _ _ h => h) (Or.inr ⟨by rfl, rfl⟩) ?_ ?_
  rotate_left
  ·simp only [Act.put, List.setIfInBounds_toArray, List.set_cons_zero, List.set_cons_succ, i64_w, i32_w]
   rfl
  refine pure_ (i := 13) (N := some 18) (v := undef) (a' := ?_) #[true, true, true, true, true, true, true, true, true, true, true, true, true, true, false, false, false, false] rfl rfl (by kernel_rfl) (fun _ _ _ h => h) (Or.inr ⟨by rfl, rfl⟩) ?_ ?_
  rotate_left
  ·simp only [Act.put, List.setIfInBounds_toArray, List.set_cons_zero, List.set_cons_succ, i64_w, i32_w]
   rfl
  refine pure_ (i := 14) (N := some 19) (v := undef) (a' := ?_) #[true, true, true, true, true, true, true, true, true, true, true, true, true, true, true, false, false, false] rfl rfl (by kernel_rfl) (fun _ _ _ h => h) (Or.inr ⟨by rfl, rfl⟩) ?_ ?_
  rotate_left
  ·simp only [Act.put, List.setIfInBounds_toArray, List.set_cons_zero, List.set_cons_succ, i64_w, i32_w]
   rfl
  refine pure_ (i := 15) (N := some 20) (v := undef) (a' := ?_) #[true, true, true, true, true, true, true, true, true, true, true, true, true, true, true, true, false, false] rfl rfl (by kernel_rfl) (fun _ _ _ h => h) (Or.inr ⟨by rfl, rfl⟩) ?_ ?_
  rotate_left
  ·simp only [Act.put, List.setIfInBounds_toArray, List.set_cons_zero, List.set_cons_succ, i64_w, i32_w]
   rfl
  refine pure_ (i := 16) (N := some 21) (v := undef) (a' := ?_) #[true, true, true, true, true, true, true, true, true, true, true, true, true, true, true, true, true, false] rfl rfl (by kernel_rfl) (fun _ _ _ h => h) (Or.inr ⟨by rfl, rfl⟩) ?_ ?_
  rotate_left
  ·simp only [Act.put, List.setIfInBounds_toArray, List.set_cons_zero, List.set_cons_succ, i64_w, i32_w]
   rfl
  refine pure_ (i := 17) (N := some 22) (v := ?_) (a' := ?_) #[true, true, true, true, true, true, true, true, true, true, true, true, true, true, true, true, true, true] rfl rfl (by kernel_rfl) (fun _ _ _ h => h) (Or.inl ⟨by rfl, ?_⟩) ?_ ?_
  rotate_left
  ·intro w'
   go_simp
   with_reducible rfl
  rotate_left
  ·simp only [Act.put, List.setIfInBounds_toArray, List.set_cons_zero, List.set_cons_succ, i64_w, i32_w]
   rfl
  refine done_ (by kernel_rfl) ?_
  skip
  go_wp2_with fail
  go_ret
  exact ⟨by rw [HX.out]; rfl, hHeld.1⟩
 | true =>
  have HZ := Aside0.mk hz
  have hzz := of_decide_eq_true hz
  rw [hz] at HF
  by_cases h100 : ph.length ≤ 100
  ·have hle : ¬ (100 : Int) < (ph.length : Int) := by omega
   have hle2 := decide_eq_false hle
   have HME : Aside0 (∀ W, Calls Tryd.prog 51 #[.agg #[.int .i8 bK, .int .i8 bL, .int .i8 bS, .slice A3 ph.length c3]] W fun e w' => ∃ A c, e = .returned (.slice A (outL bK.toNat bS.toNat bL.toNat).length c) ∧ Below W.heap.size W w') := ⟨fun W => by
    obtain ⟨bK, rfl⟩ := Int.eq_ofNat_of_zero_le (show 0 ≤ bK by omega)
    obtain ⟨bL, rfl⟩ := Int.eq_ofNat_of_zero_le (show 0 ≤ bL by omega)
    obtain ⟨bS, rfl⟩ := Int.eq_ofNat_of_zero_le (show 0 ≤ bS by omega)
    refine (implMeanings_calls bK bL bS A3 ph.length c3 W (by omega) (by omega) (by omega) (by omega)).mono ?_
    rintro e w' ⟨v, rfl, hs, hb⟩
    obtain ⟨A, c, rfl, _, _⟩ := Kd.S_reads hs
    exact ⟨A, c, rfl, hb⟩⟩
   have HOB := Aside0.mk (show okBook bK bL bS ph = (decide (∀ i : Nat, i < ph.length → phOk ph i = true) && decide (ph.length ≤ (outL bK.toNat bS.toNat bL.toNat).length)) by
    unfold okBook; rw [hz, decide_eq_true h100]; simp)
   have hle3 := outL_le bK.toNat bS.toNat (by omega) bL.toNat (by omega)
   have hout : (outL bK.toNat bS.toNat bL.toNat).length ≤ 3000 := by omega
   have HPS := Aside0.mk hp.p
   clear hz hr3 hzz hp hle3
   generalize outL bK.toNat bS.toNat bL.toNat = O at *
   by_cases hlo : ph.length ≤ O.length
   ·have hlo1 : ¬ ((O.length : Int) < (ph.length : Int)) := by omega
    have hlo2 := decide_eq_false hlo1
    have hlo3 := decide_eq_false (show ¬ O.length < ph.length by omega)
    have HOB2 := Aside0.mk (show okBook bK bL bS ph = decide (∀ i : Nat, i < ph.length → phOk ph i = true) by rw [HOB.out, decide_eq_true hlo]; simp)
    go_enter Tryd.func24, Tryd.ntmps24
    go_wp2_with fail
    refine start_ (n := 18) (S := fun w' => BkIn w bK bL bS A3 ph.length c3 w') (ds := []) #[false, false, false, false, false, false, false, false, false, false, false, false, false, false, false, false, false, false] (by kernel_rfl) rfl rfl (HB0.out.drew) (fun hHeld => ?_)
    refine take_ (i := 0) (N := some 5) (v := .agg #[.int .i8 bK, .int .i8 bL, .int .i8 bS, .slice A3 ph.length c3]) (a' := ?_) #[true, false, false, false, false, false, false, false, false, false, false, false, false, false, false, false, false, false] rfl rfl (by kernel_rfl) (fun _ _ _ h => h) (Or.inl ⟨by rfl, ?_⟩) hHeld ?_ ?_
    ·intro w' s0
     exact y_row (by rfl) (by rfl) s0.2 aggBook rfl
    rotate_left
    ·simp only [Act.put, List.setIfInBounds_toArray, List.set_cons_zero, List.set_cons_succ, i64_w, i32_w]
     rfl
    refine one_ (i := 1) (N := some 6) #[true, true, false, false, false, false, false, false, false, false, false, false, false, false, false, false, false, false] rfl rfl (by kernel_rfl) (by decide) (fun K hK => ?_)
    refine goes_ Tryd.func50 (by kernel_rfl) rfl #[.agg #[.int .i8 bK, .int .i8 bL, .int .i8 bS, .slice A3 ph.length c3]] (by rfl) rfl rfl (by simp only [List.map_toArray, List.map_cons, List.map_nil]; rfl) ?_
    refine (HF.out _ hHeld.1).mono ?_
    rintro e w1 ⟨rfl, hb1⟩
    refine ⟨_, rfl, ?_⟩
    refine hK.out _ _ (hHeld.below hb1) (fun hHeld => ?_)
    clear hK K
    refine norm_ (a' := ?_) ?_ ?_
    rotate_left
    ·show Act.put _ (some 6) _ = _
     simp only [Act.put, List.setIfInBounds_toArray, List.set_cons_zero, List.set_cons_succ, i64_w, i32_w]
     rfl
    refine pure_ (i := 2) (N := some 7) (v := ?_) (a' := ?_) #[true, true, true, false, false, false, false, false, false, false, false, false, false, false, false, false, false, false] rfl rfl (by kernel_rfl) (fun _ _ _ h => h) (Or.inl ⟨by rfl, ?_⟩) ?_ ?_
    rotate_left
    ·intro w'
     go_simp
     with_reducible rfl
    rotate_left
    ·simp only [Act.put, List.setIfInBounds_toArray, List.set_cons_zero, List.set_cons_succ, i64_w, i32_w]
     rfl
    refine pure_ (i := 3) (N := some 8) (v := ?_) (a' := ?_) #[true, true, true, true, false, false, false, false, false, false, false, false, false, false, false, false, false, false] rfl rfl (by kernel_rfl) (fun _ _ _ h => h) (Or.inl ⟨by rfl, ?_⟩) ?_ ?_
    rotate_left
    ·intro w'
     go_simp
     with_reducible rfl
    rotate_left
    ·simp only [Act.put, List.setIfInBounds_toArray, List.set_cons_zero, List.set_cons_succ, i64_w, i32_w]
     rfl
    refine pure_ (i := 4) (N := some 9) (v := ?_) (a' := ?_) #[true, true, true, true, true, false, false, false, false, false, false, false, false, false, false, false, false, false] rfl rfl (by kernel_rfl) (fun _ _ _ h => h) (Or.inl ⟨by rfl, ?_⟩) ?_ ?_
    rotate_left
    ·intro w'
     go_simp
     with_reducible rfl
    rotate_left
    ·simp only [Act.put, List.setIfInBounds_toArray, List.set_cons_zero, List.set_cons_succ, i64_w, i32_w]
     rfl
    refine take_ (i := 5) (N := some 10) (v := .slice A3 ph.length c3) (a' := ?_) #[true, true, true, true, true, true, false, false, false, false, false, false, false, false, false, false, false, false] rfl rfl (by kernel_rfl) (fun _ _ _ h => h) (Or.inl ⟨by rfl, ?_⟩) hHeld ?_ ?_
    ·intro w' s0
     exact y_cell (by rfl) (by rfl) oneStrS ((cell_of_row _ w.heap.size 3 _ _ (0, 0) s0.2).trans rfl)
    rotate_left
    ·simp only [Act.put, List.setIfInBounds_toArray, List.set_cons_zero, List.set_cons_succ, i64_w, i32_w]
     rfl
    refine pure_ (i := 6) (N := some 11) (v := ?_) (a' := ?_) #[true, true, true, true, true, true, true, false, false, false, false, false, false, false, false, false, false, false] rfl rfl (by kernel_rfl) (fun _ _ _ h => h) (Or.inl ⟨by rfl, ?_⟩) ?_ ?_
    rotate_left
    ·intro w'
     go_simp
     with_reducible rfl
    rotate_left
    ·simp only [Act.put, List.setIfInBounds_toArray, List.set_cons_zero, List.set_cons_succ, i64_w, i32_w]
     rfl
    refine pure_ (i := 7) (N := some 12) (v := ?_) (a' := ?_) #[true, true, true, true, true, true, true, true, false, false, false, false, false, false, false, false, false, false] rfl rfl (by kernel_rfl) (fun _ _ _ h => h) (Or.inl ⟨by rfl, ?_⟩) ?_ ?_
    rotate_left
    ·intro w'
     go_simp
     with_reducible rfl
    rotate_left
    ·simp only [Act.put, List.setIfInBounds_toArray, List.set_cons_zero, List.set_cons_succ, i64_w, i32_w]
     rfl
    refine pure_ (i := 8) (N := some 13) (v := ?_) (a' := ?_) #[true, true, true, true, true, true, true, true, true, false, false, false, false, false, false, false, false, false] rfl rfl (by kernel_rfl) (fun _ _ _ h => h) (Or.inl ⟨by rfl, ?_⟩) ?_ ?_
    rotate_left
    ·intro w'
     go_simp
     with_reducible rfl
    rotate_left
    ·simp only [Act.put, List.setIfInBounds_toArray, List.set_cons_zero, List.set_cons_succ, i64_w, i32_w]
     rfl
    refine pure_ (i := 9) (N := some 14) (v := ?_) (a' := ?_) #[true, true, true, true, true, true, true, true, true, true, false, false, false, false, false, false, false, false] rfl rfl (by kernel_rfl) (fun _ _ _ h => h) (Or.inl ⟨by rfl, ?_⟩) ?_ ?_
    rotate_left
    ·intro w'
     go_simp
     with_reducible rfl
    rotate_left
    ·simp only [Act.put, List.setIfInBounds_toArray, List.set_cons_zero, List.set_cons_succ, i64_w, i32_w]
     rfl
    refine pure_ (i := 10) (N := some 15) (v := ?_) (a' := ?_) #[true, true, true, true, true, true, true, true, true, true, true, false, false, false, false, false, false, false] rfl rfl (by kernel_rfl) (fun _ _ _ h => h) (Or.inl ⟨by rfl, ?_⟩) ?_ ?_
    rotate_left
    ·intro w'
     go_simp
     with_reducible rfl
    rotate_left
    ·simp only [Act.put, List.setIfInBounds_toArray, List.set_cons_zero, List.set_cons_succ, i64_w, i32_w]
     rfl
    refine take_ (i := 11) (N := some 16) (v := .slice A3 ph.length c3) (a' := ?_) #[true, true, true, true, true, true, true, true, true, true, true, true, false, false, false, false, false, false] rfl rfl (by kernel_rfl) (fun _ _ _ h => h) (Or.inl ⟨by rfl, ?_⟩) hHeld ?_ ?_
    ·intro w' s0
     exact y_cell (by rfl) (by rfl) oneStrS ((cell_of_row _ w.heap.size 3 _ _ (0, 0) s0.2).trans rfl)
    rotate_left
    ·simp only [Act.put, List.setIfInBounds_toArray, List.set_cons_zero, List.set_cons_succ, i64_w, i32_w]
     rfl
    refine pure_ (i := 12) (N := some 17) (v := ?_) (a' := ?_) #[true, true, true, true, true, true, true, true, true, true, true, true, true, false, false, false, false, false] rfl rfl (by kernel_rfl) (fun _ _ _ h => h) (Or.inl ⟨by rfl, ?_⟩) ?_ ?_
    rotate_left
    ·intro w'
     go_simp
     with_reducible rfl
    rotate_left
    ·simp only [Act.put, List.setIfInBounds_toArray, List.set_cons_zero, List.set_cons_succ, i64_w, i32_w]
     rfl
    refine take_ (i := 13) (N := some 18) (v := .agg #[.int .i8 bK, .int .i8 bL, .int .i8 bS, .slice A3 ph.length c3]) (a' := ?_) #[true, true, true, true, true, true, true, true, true, true, true, true, true, true, false, false, false, false] rfl rfl (by kernel_rfl) (fun _ _ _ h => h) (Or.inl ⟨by rfl, ?_⟩) hHeld ?_ ?_
    ·intro w' s0
     exact y_row (by rfl) (by rfl) s0.2 aggBook rfl
    rotate_left
    ·simp only [Act.put, List.setIfInBounds_toArray, List.set_cons_zero, List.set_cons_succ, i64_w, i32_w]
     rfl
    refine one_ (i := 14) (N := some 19) #[true, true, true, true, true, true, true, true, true, true, true, true, true, true, true, false, false, false] rfl rfl (by kernel_rfl) (by decide) (fun K hK => ?_)
    refine goes_ Tryd.func51 (by kernel_rfl) rfl #[.agg #[.int .i8 bK, .int .i8 bL, .int .i8 bS, .slice A3 ph.length c3]] (by rfl) rfl rfl (by simp only [List.map_toArray, List.map_cons, List.map_nil]; rfl) ?_
    refine (HME.out _).mono ?_
    rintro e w2 ⟨A7, c7, rfl, hb2⟩
    refine ⟨_, rfl, ?_⟩
    refine hK.out _ _ (hHeld.below hb2) (fun hHeld => ?_)
    clear hK K
    refine norm_ (a' := ?_) ?_ ?_
    rotate_left
    ·show Act.put _ (some 19) _ = _
     simp only [Act.put, List.setIfInBounds_toArray, List.set_cons_zero, List.set_cons_succ, i64_w, i32_w]
     rfl
    refine pure_ (i := 15) (N := some 20) (v := ?_) (a' := ?_) #[true, true, true, true, true, true, true, true, true, true, true, true, true, true, true, true, false, false] rfl rfl (by kernel_rfl) (fun _ _ _ h => h) (Or.inl ⟨by rfl, ?_⟩) ?_ ?_
    rotate_left
    ·intro w'
     go_simp
     with_reducible rfl
    rotate_left
    ·simp only [Act.put, List.setIfInBounds_toArray, List.set_cons_zero, List.set_cons_succ, i64_w, i32_w]
     rfl
    refine pure_ (i := 16) (N := some 21) (v := ?_) (a' := ?_) #[true, true, true, true, true, true, true, true, true, true, true, true, true, true, true, true, true, false] rfl rfl (by kernel_rfl) (fun _ _ _ h => h) (Or.inl ⟨by rfl, ?_⟩) ?_ ?_
    rotate_left
    ·intro w'
     go_simp
     with_reducible rfl
    rotate_left
    ·simp only [Act.put, List.setIfInBounds_toArray, List.set_cons_zero, List.set_cons_succ, i64_w, i32_w]
     rfl
    refine pure_ (i := 17) (N := some 22) (v := ?_) (a' := ?_) #[true, true, true, true, true, true, true, true, true, true, true, true, true, true, true, true, true, true] rfl rfl (by kernel_rfl) (fun _ _ _ h => h) (Or.inl ⟨by rfl, ?_⟩) ?_ ?_
    rotate_left
    ·intro w'
     go_simp
     with_reducible rfl
    rotate_left
    ·simp only [Act.put, List.setIfInBounds_toArray, List.set_cons_zero, List.set_cons_succ, i64_w, i32_w]
     rfl
    refine done_ (by kernel_rfl) ?_
    skip
    have HB2 := Aside0.mk hHeld.1
    have HG2 := Aside0.mk hHeld.2
    have hc23 := cell_of_row _ w.heap.size 3 _ _ (0, 0) hHeld.2
    clear hHeld
    go_wp2_with fail
    go_loopw [26, 3, 4] (fun v26 _ _ wr => ∃ i : Nat, i ≤ ph.length ∧ v26 = .int .i64 i ∧ Aside0 (Below w.heap.size w wr) ∧ Aside0 (wr.heap[w.heap.size]? = some (.cells #[.int .i8 bK, .int .i8 bL, .int .i8 bS, .slice A3 ph.length c3] 28 (0, 0))) ∧ Aside0 (∀ j : Nat, j < i → phOk ph j = true)) (fun v26 _ _ _ => ph.length - (intOf v26).toNat)
    case atStart => exact ⟨0, by omega, rfl, HB2, HG2, ⟨fun j hj => absurd hj (by omega)⟩⟩
    case round =>
     clear HB2 HG2 hc23
     obtain ⟨i, hi, rfl, HB, HG, HP⟩ := hrel
     by_cases hlt : i < ph.length
     ·have hcg := cell_of_row wr w.heap.size 3 _ _ (0, 0) HG.out
      obtain ⟨ad, rfl, hcs⟩ := Kd.at_string (Kd.C_below HR3.out HB.out) (i : Int) (by omega) (by omega)
      rw [Int.toNat_natCast] at hcs
      have HM : Aside0 (rdOf ByteArray.empty ph (i : Int) ∈ ph) := ⟨by rw [rdOf_get ph i hlt]; exact List.getElem_mem hlt⟩
      have HPD := Aside0.mk (phOk_take ph i hlt)
      generalize rdOf ByteArray.empty ph (i : Int) = s at *
      obtain ⟨k1, hk1⟩ := (isPhrase_ev s (HPS.out s HM.out)).rounds
      have HPH := Aside0.mk hk1
      obtain ⟨k2, hk2⟩ := (contains_ev (ph.take i) s (by rw [List.length_take]; omega)).rounds
      have HCN := Aside0.mk hk2
      have htl : (ph.take i).length = i := by rw [List.length_take]; omega
      have HCC : Aside0 (∀ W, Below w.heap.size w W → Calls Tryd.prog 53 #[.slice (some ad) i c3, .string s] W fun e w' => e = .returned (.bool (hasP (ph.take i) s)) ∧ Drawn0 W w') := ⟨fun W hW => by
       have := slices_Contains_string_string.calls k2 (some ad) c3 (ph.take i) s (hasP (ph.take i) s) W (by rw [htl]; exact C_takeS (Kd.C_below HR3.out hW) i (by omega)) (by omega) HCN.out
       rw [htl] at this
       exact this⟩
      clear hk1 hk2 htl HCN
      cases hph : phrB s with
      | false =>
       have HFX := Aside0.mk (show okBook bK bL bS ph = false by
        rw [HOB2.out, decide_eq_false (p := ∀ i : Nat, i < ph.length → phOk ph i = true) (fun h => by have := h i hlt; rw [HPD.out, hph] at this; simp at this)])
       rw [hph] at HPH
       clear hph
       go_wp2_with (go_at_call 52; refine (impl_isPhrase.calls k1 s false _ HPH.out).mono ?_; rintro e w5 ⟨rfl, ⟨n5, rfl⟩⟩)
       go_ret
       exact ⟨by rw [HFX.out]; rfl, pw_below_drewN HB.out _⟩
      | true =>
       rw [hph] at HPH
       have HPT := Aside0.mk hph
       clear hph
       have hic : i ≤ c3 := by omega
       have hic2 : (i : Int) ≤ (c3 : Int) := by omega
       cases hh : hasP (ph.take i) s with
       | true =>
        have HFX := Aside0.mk (show okBook bK bL bS ph = false by
         rw [HOB2.out, decide_eq_false (p := ∀ i : Nat, i < ph.length → phOk ph i = true) (fun h => by have := h i hlt; rw [HPD.out, hh] at this; simp at this)])
        rw [hh] at HCC
        clear hh
        go_wp2_with (first
         | (go_at_call 52; refine (impl_isPhrase.calls k1 s true _ HPH.out).mono ?_; rintro e w5 ⟨rfl, ⟨n5, rfl⟩⟩)
         | (go_at_call 53; refine (HCC.out _ (pw_below_drewN HB.out _)).mono ?_; rintro e w6 ⟨rfl, ⟨n6, rfl⟩⟩))
        go_ret
        exact ⟨by rw [HFX.out]; rfl, pw_below_drewN HB.out _⟩
       | false =>
        have HOKI := Aside0.mk (show phOk ph i = true by rw [HPD.out, HPT.out, hh]; rfl)
        rw [hh] at HCC
        clear hh
        go_wp2_with (first
         | (go_at_call 52; refine (impl_isPhrase.calls k1 s true _ HPH.out).mono ?_; rintro e w5 ⟨rfl, ⟨n5, rfl⟩⟩)
         | (go_at_call 53; refine (HCC.out _ (pw_below_drewN HB.out _)).mono ?_; rintro e w6 ⟨rfl, ⟨n6, rfl⟩⟩))
        go_roundw
        case rel => exact ⟨i + 1, by omega, by go_num, ⟨pw_below_drewN HB.out _⟩, HG, ⟨fun j hj => by
         rcases Nat.lt_or_ge j i with h | h
         ·exact HP.out j h
         ·obtain rfl : j = i := by omega
          exact HOKI.out⟩⟩
        case measure => simp [intOf]; omega
     ·have HI := Aside0.mk (show i = ph.length by omega)
      go_wp2_with fail
      go_ret
      exact ⟨by rw [HOB2.out, decide_eq_true (p := ∀ i : Nat, i < ph.length → phOk ph i = true) (fun j hj => HP.out j (by rw [HI.out]; exact hj))]; rfl, HB.out⟩
   ·have hlo1 : (O.length : Int) < (ph.length : Int) := by omega
    have hlo2 := decide_eq_true hlo1
    have hlo3 := decide_eq_true (show O.length < ph.length by omega)
    have HFX := Aside0.mk (show okBook bK bL bS ph = false by rw [HOB.out, decide_eq_false hlo]; simp)
    clear hlo
    go_enter Tryd.func24, Tryd.ntmps24
    go_wp2_with fail
    refine start_ (n := 18) (S := fun w' => BkIn w bK bL bS A3 ph.length c3 w') (ds := []) #[false, false, false, false, false, false, false, false, false, false, false, false, false, false, false, false, false, false] (by kernel_rfl) rfl rfl (HB0.out.drew) (fun hHeld => ?_)
    refine take_ (i := 0) (N := some 5) (v := .agg #[.int .i8 bK, .int .i8 bL, .int .i8 bS, .slice A3 ph.length c3]) (a' := ?_) #[true, false, false, false, false, false, false, false, false, false, false, false, false, false, false, false, false, false] rfl rfl (by kernel_rfl) (fun _ _ _ h => h) (Or.inl ⟨by rfl, ?_⟩) hHeld ?_ ?_
    ·intro w' s0
     exact y_row (by rfl) (by rfl) s0.2 aggBook rfl
    rotate_left
    ·simp only [Act.put, List.setIfInBounds_toArray, List.set_cons_zero, List.set_cons_succ, i64_w, i32_w]
     rfl
    refine one_ (i := 1) (N := some 6) #[true, true, false, false, false, false, false, false, false, false, false, false, false, false, false, false, false, false] rfl rfl (by kernel_rfl) (by decide) (fun K hK => ?_)
    refine goes_ Tryd.func50 (by kernel_rfl) rfl #[.agg #[.int .i8 bK, .int .i8 bL, .int .i8 bS, .slice A3 ph.length c3]] (by rfl) rfl rfl (by simp only [List.map_toArray, List.map_cons, List.map_nil]; rfl) ?_
    refine (HF.out _ hHeld.1).mono ?_
    rintro e w1 ⟨rfl, hb1⟩
    refine ⟨_, rfl, ?_⟩
    refine hK.out _ _ (hHeld.below hb1) (fun hHeld => ?_)
    clear hK K
    refine norm_ (a' := ?_) ?_ ?_
    rotate_left
    ·show Act.put _ (some 6) _ = _
     simp only [Act.put, List.setIfInBounds_toArray, List.set_cons_zero, List.set_cons_succ, i64_w, i32_w]
     rfl
    refine pure_ (i := 2) (N := some 7) (v := ?_) (a' := ?_) #[true, true, true, false, false, false, false, false, false, false, false, false, false, false, false, false, false, false] rfl rfl (by kernel_rfl) (fun _ _ _ h => h) (Or.inl ⟨by rfl, ?_⟩) ?_ ?_
    rotate_left
    ·intro w'
     go_simp
     with_reducible rfl
    rotate_left
    ·simp only [Act.put, List.setIfInBounds_toArray, List.set_cons_zero, List.set_cons_succ, i64_w, i32_w]
     rfl
    refine pure_ (i := 3) (N := some 8) (v := ?_) (a' := ?_) #[true, true, true, true, false, false, false, false, false, false, false, false, false, false, false, false, false, false] rfl rfl (by kernel_rfl) (fun _ _ _ h => h) (Or.inl ⟨by rfl, ?_⟩) ?_ ?_
    rotate_left
    ·intro w'
     go_simp
     with_reducible rfl
    rotate_left
    ·simp only [Act.put, List.setIfInBounds_toArray, List.set_cons_zero, List.set_cons_succ, i64_w, i32_w]
     rfl
    refine pure_ (i := 4) (N := some 9) (v := ?_) (a' := ?_) #[true, true, true, true, true, false, false, false, false, false, false, false, false, false, false, false, false, false] rfl rfl (by kernel_rfl) (fun _ _ _ h => h) (Or.inl ⟨by rfl, ?_⟩) ?_ ?_
    rotate_left
    ·intro w'
     go_simp
     with_reducible rfl
    rotate_left
    ·simp only [Act.put, List.setIfInBounds_toArray, List.set_cons_zero, List.set_cons_succ, i64_w, i32_w]
     rfl
    refine take_ (i := 5) (N := some 10) (v := .slice A3 ph.length c3) (a' := ?_) #[true, true, true, true, true, true, false, false, false, false, false, false, false, false, false, false, false, false] rfl rfl (by kernel_rfl) (fun _ _ _ h => h) (Or.inl ⟨by rfl, ?_⟩) hHeld ?_ ?_
    ·intro w' s0
     exact y_cell (by rfl) (by rfl) oneStrS ((cell_of_row _ w.heap.size 3 _ _ (0, 0) s0.2).trans rfl)
    rotate_left
    ·simp only [Act.put, List.setIfInBounds_toArray, List.set_cons_zero, List.set_cons_succ, i64_w, i32_w]
     rfl
    refine pure_ (i := 6) (N := some 11) (v := ?_) (a' := ?_) #[true, true, true, true, true, true, true, false, false, false, false, false, false, false, false, false, false, false] rfl rfl (by kernel_rfl) (fun _ _ _ h => h) (Or.inl ⟨by rfl, ?_⟩) ?_ ?_
    rotate_left
    ·intro w'
     go_simp
     with_reducible rfl
    rotate_left
    ·simp only [Act.put, List.setIfInBounds_toArray, List.set_cons_zero, List.set_cons_succ, i64_w, i32_w]
     rfl
    refine pure_ (i := 7) (N := some 12) (v := ?_) (a' := ?_) #[true, true, true, true, true, true, true, true, false, false, false, false, false, false, false, false, false, false] rfl rfl (by kernel_rfl) (fun _ _ _ h => h) (Or.inl ⟨by rfl, ?_⟩) ?_ ?_
    rotate_left
    ·intro w'
     go_simp
     with_reducible rfl
    rotate_left
    ·simp only [Act.put, List.setIfInBounds_toArray, List.set_cons_zero, List.set_cons_succ, i64_w, i32_w]
     rfl
    refine pure_ (i := 8) (N := some 13) (v := ?_) (a' := ?_) #[true, true, true, true, true, true, true, true, true, false, false, false, false, false, false, false, false, false] rfl rfl (by kernel_rfl) (fun _ _ _ h => h) (Or.inl ⟨by rfl, ?_⟩) ?_ ?_
    rotate_left
    ·intro w'
     go_simp
     with_reducible rfl
    rotate_left
    ·simp only [Act.put, List.setIfInBounds_toArray, List.set_cons_zero, List.set_cons_succ, i64_w, i32_w]
     rfl
    refine pure_ (i := 9) (N := some 14) (v := ?_) (a' := ?_) #[true, true, true, true, true, true, true, true, true, true, false, false, false, false, false, false, false, false] rfl rfl (by kernel_rfl) (fun _ _ _ h => h) (Or.inl ⟨by rfl, ?_⟩) ?_ ?_
    rotate_left
    ·intro w'
     go_simp
     with_reducible rfl
    rotate_left
    ·simp only [Act.put, List.setIfInBounds_toArray, List.set_cons_zero, List.set_cons_succ, i64_w, i32_w]
     rfl
    refine pure_ (i := 10) (N := some 15) (v := ?_) (a' := ?_) #[true, true, true, true, true, true, true, true, true, true, true, false, false, false, false, false, false, false] rfl rfl (by kernel_rfl) (fun _ _ _ h => h) (Or.inl ⟨by rfl, ?_⟩) ?_ ?_
    rotate_left
    ·intro w'
     go_simp
     with_reducible rfl
    rotate_left
    ·simp only [Act.put, List.setIfInBounds_toArray, List.set_cons_zero, List.set_cons_succ, i64_w, i32_w]
     rfl
    refine take_ (i := 11) (N := some 16) (v := .slice A3 ph.length c3) (a' := ?_) #[true, true, true, true, true, true, true, true, true, true, true, true, false, false, false, false, false, false] rfl rfl (by kernel_rfl) (fun _ _ _ h => h) (Or.inl ⟨by rfl, ?_⟩) hHeld ?_ ?_
    ·intro w' s0
     exact y_cell (by rfl) (by rfl) oneStrS ((cell_of_row _ w.heap.size 3 _ _ (0, 0) s0.2).trans rfl)
    rotate_left
    ·simp only [Act.put, List.setIfInBounds_toArray, List.set_cons_zero, List.set_cons_succ, i64_w, i32_w]
     rfl
    refine pure_ (i := 12) (N := some 17) (v := ?_) (a' := ?_) #[true, true, true, true, true, true, true, true, true, true, true, true, true, false, false, false, false, false] rfl rfl (by kernel_rfl) (fun _ _ _ h => h) (Or.inl ⟨by rfl, ?_⟩) ?_ ?_
    rotate_left
    ·intro w'
     go_simp
     with_reducible rfl
    rotate_left
    ·simp only [Act.put, List.setIfInBounds_toArray, List.set_cons_zero, List.set_cons_succ, i64_w, i32_w]
     rfl
    refine take_ (i := 13) (N := some 18) (v := .agg #[.int .i8 bK, .int .i8 bL, .int .i8 bS, .slice A3 ph.length c3]) (a' := ?_) #[true, true, true, true, true, true, true, true, true, true, true, true, true, true, false, false, false, false] rfl rfl (by kernel_rfl) (fun _ _ _ h => h) (Or.inl ⟨by rfl, ?_⟩) hHeld ?_ ?_
    ·intro w' s0
     exact y_row (by rfl) (by rfl) s0.2 aggBook rfl
    rotate_left
    ·simp only [Act.put, List.setIfInBounds_toArray, List.set_cons_zero, List.set_cons_succ, i64_w, i32_w]
     rfl
    refine one_ (i := 14) (N := some 19) #[true, true, true, true, true, true, true, true, true, true, true, true, true, true, true, false, false, false] rfl rfl (by kernel_rfl) (by decide) (fun K hK => ?_)
    refine goes_ Tryd.func51 (by kernel_rfl) rfl #[.agg #[.int .i8 bK, .int .i8 bL, .int .i8 bS, .slice A3 ph.length c3]] (by rfl) rfl rfl (by simp only [List.map_toArray, List.map_cons, List.map_nil]; rfl) ?_
    refine (HME.out _).mono ?_
    rintro e w2 ⟨A7, c7, rfl, hb2⟩
    refine ⟨_, rfl, ?_⟩
    refine hK.out _ _ (hHeld.below hb2) (fun hHeld => ?_)
    clear hK K
    refine norm_ (a' := ?_) ?_ ?_
    rotate_left
    ·show Act.put _ (some 19) _ = _
     simp only [Act.put, List.setIfInBounds_toArray, List.set_cons_zero, List.set_cons_succ, i64_w, i32_w]
     rfl
    refine pure_ (i := 15) (N := some 20) (v := ?_) (a' := ?_) #[true, true, true, true, true, true, true, true, true, true, true, true, true, true, true, true, false, false] rfl rfl (by kernel_rfl) (fun _ _ _ h => h) (Or.inl ⟨by rfl, ?_⟩) ?_ ?_
    rotate_left
    ·intro w'
     go_simp
     with_reducible rfl
    rotate_left
    ·simp only [Act.put, List.setIfInBounds_toArray, List.set_cons_zero, List.set_cons_succ, i64_w, i32_w]
     rfl
    refine pure_ (i := 16) (N := some 21) (v := ?_) (a' := ?_) #[true, true, true, true, true, true, true, true, true, true, true, true, true, true, true, true, true, false] rfl rfl (by kernel_rfl) (fun _ _ _ h => h) (Or.inl ⟨by rfl, ?_⟩) ?_ ?_
    rotate_left
    ·intro w'
     go_simp
     with_reducible rfl
    rotate_left
    ·simp only [Act.put, List.setIfInBounds_toArray, List.set_cons_zero, List.set_cons_succ, i64_w, i32_w]
     rfl
    refine pure_ (i := 17) (N := some 22) (v := ?_) (a' := ?_) #[true, true, true, true, true, true, true, true, true, true, true, true, true, true, true, true, true, true] rfl rfl (by kernel_rfl) (fun _ _ _ h => h) (Or.inl ⟨by rfl, ?_⟩) ?_ ?_
    rotate_left
    ·intro w'
     go_simp
     with_reducible rfl
    rotate_left
    ·simp only [Act.put, List.setIfInBounds_toArray, List.set_cons_zero, List.set_cons_succ, i64_w, i32_w]
     rfl
    refine done_ (by kernel_rfl) ?_
    skip
    have HB2 := Aside0.mk hHeld.1
    have HG2 := Aside0.mk hHeld.2
    have hc23 := cell_of_row _ w.heap.size 3 _ _ (0, 0) hHeld.2
    clear hHeld
    go_wp2_with fail
    go_ret
    exact ⟨by rw [HFX.out]; rfl, HB2.out⟩
  ·have hgt : (100 : Int) < (ph.length : Int) := by omega
   have hgt2 := decide_eq_true hgt
   have HFX := Aside0.mk (show okBook bK bL bS ph = false by unfold okBook; rw [decide_eq_false h100]; simp)
   clear hz hr3 hp h100 hzz
   go_enter Tryd.func24, Tryd.ntmps24
   go_wp2_with fail
   refine start_ (n := 18) (S := fun w' => BkIn w bK bL bS A3 ph.length c3 w') (ds := []) #[false, false, false, false, false, false, false, false, false, false, false, false, false, false, false, false, false, false] (by kernel_rfl) rfl rfl (HB0.out.drew) (fun hHeld => ?_)
   refine take_ (i := 0) (N := some 5) (v := .agg #[.int .i8 bK, .int .i8 bL, .int .i8 bS, .slice A3 ph.length c3]) (a' := ?_) #[true, false, false, false, false, false, false, false, false, false, false, false, false, false, false, false, false, false] rfl rfl (by kernel_rfl) (fun _ _ _ h => h) (Or.inl ⟨by rfl, ?_⟩) hHeld ?_ ?_
   ·intro w' s0
    exact y_row (by rfl) (by rfl) s0.2 aggBook rfl
   rotate_left
   ·simp only [Act.put, List.setIfInBounds_toArray, List.set_cons_zero, List.set_cons_succ, i64_w, i32_w]
    rfl
   refine one_ (i := 1) (N := some 6) #[true, true, false, false, false, false, false, false, false, false, false, false, false, false, false, false, false, false] rfl rfl (by kernel_rfl) (by decide) (fun K hK => ?_)
   refine goes_ Tryd.func50 (by kernel_rfl) rfl #[.agg #[.int .i8 bK, .int .i8 bL, .int .i8 bS, .slice A3 ph.length c3]] (by rfl) rfl rfl (by simp only [List.map_toArray, List.map_cons, List.map_nil]; rfl) ?_
   refine (HF.out _ hHeld.1).mono ?_
   rintro e w1 ⟨rfl, hb1⟩
   refine ⟨_, rfl, ?_⟩
   refine hK.out _ _ (hHeld.below hb1) (fun hHeld => ?_)
   clear hK K
   refine norm_ (a' := ?_) ?_ ?_
   rotate_left
   ·show Act.put _ (some 6) _ = _
    simp only [Act.put, List.setIfInBounds_toArray, List.set_cons_zero, List.set_cons_succ, i64_w, i32_w]
    rfl
   refine pure_ (i := 2) (N := some 7) (v := ?_) (a' := ?_) #[true, true, true, false, false, false, false, false, false, false, false, false, false, false, false, false, false, false] rfl rfl (by kernel_rfl) (fun _ _ _ h => h) (Or.inl ⟨by rfl, ?_⟩) ?_ ?_
   rotate_left
   ·intro w'
    go_simp
    with_reducible rfl
   rotate_left
   ·simp only [Act.put, List.setIfInBounds_toArray, List.set_cons_zero, List.set_cons_succ, i64_w, i32_w]
    rfl
   refine pure_ (i := 3) (N := some 8) (v := ?_) (a' := ?_) #[true, true, true, true, false, false, false, false, false, false, false, false, false, false, false, false, false, false] rfl rfl (by kernel_rfl) (fun _ _ _ h => h) (Or.inl ⟨by rfl, ?_⟩) ?_ ?_
   rotate_left
   ·intro w'
    go_simp
    with_reducible rfl
   rotate_left
   ·simp only [Act.put, List.setIfInBounds_toArray, List.set_cons_zero, List.set_cons_succ, i64_w, i32_w]
    rfl
   refine pure_ (i := 4) (N := some 9) (v := ?_) (a' := ?_) #[true, true, true, true, true, false, false, false, false, false, false, false, false, false, false, false, false, false] rfl rfl (by kernel_rfl) (fun _ _ _ h => h) (Or.inl ⟨by rfl, ?_⟩) ?_ ?_
   rotate_left
   ·intro w'
    go_simp
    with_reducible rfl
   rotate_left
   ·simp only [Act.put, List.setIfInBounds_toArray, List.set_cons_zero, List.set_cons_succ, i64_w, i32_w]
    rfl
   refine take_ (i := 5) (N := some 10) (v := .slice A3 ph.length c3) (a' := ?_) #[true, true, true, true, true, true, false, false, false, false, false, false, false, false, false, false, false, false] rfl rfl (by kernel_rfl) (fun _ _ _ h => h) (Or.inl ⟨by rfl, ?_⟩) hHeld ?_ ?_
   ·intro w' s0
    exact y_cell (by rfl) (by rfl) oneStrS ((cell_of_row _ w.heap.size 3 _ _ (0, 0) s0.2).trans rfl)
   rotate_left
   ·simp only [Act.put, List.setIfInBounds_toArray, List.set_cons_zero, List.set_cons_succ, i64_w, i32_w]
    rfl
   refine pure_ (i := 6) (N := some 11) (v := ?_) (a' := ?_) #[true, true, true, true, true, true, true, false, false, false, false, false, false, false, false, false, false, false] rfl rfl (by kernel_rfl) (fun _ _ _ h => h) (Or.inl ⟨by rfl, ?_⟩) ?_ ?_
   rotate_left
   ·intro w'
    go_simp
    with_reducible rfl
   rotate_left
   ·simp only [Act.put, List.setIfInBounds_toArray, List.set_cons_zero, List.set_cons_succ, i64_w, i32_w]
    rfl
   refine pure_ (i := 7) (N := some 12) (v := ?_) (a' := ?_) #[true, true, true, true, true, true, true, true, false, false, false, false, false, false, false, false, false, false] rfl rfl (by kernel_rfl) (fun _ _ _ h => h) (Or.inl ⟨by rfl, ?_⟩) ?_ ?_
   rotate_left
   ·intro w'
    go_simp
    with_reducible rfl
   rotate_left
   ·simp only [Act.put, List.setIfInBounds_toArray, List.set_cons_zero, List.set_cons_succ, i64_w, i32_w]
    rfl
   refine pure_ (i := 8) (N := some 13) (v := ?_) (a' := ?_) #[true, true, true, true, true, true, true, true, true, false, false, false, false, false, false, false, false, false] rfl rfl (by kernel_rfl) (fun _ _ _ h => h) (Or.inl ⟨by rfl, ?_⟩) ?_ ?_
   rotate_left
   ·intro w'
    go_simp
    with_reducible rfl
   rotate_left
   ·simp only [Act.put, List.setIfInBounds_toArray, List.set_cons_zero, List.set_cons_succ, i64_w, i32_w]
    rfl
   refine pure_ (i := 9) (N := some 14) (v := ?_) (a' := ?_) #[true, true, true, true, true, true, true, true, true, true, false, false, false, false, false, false, false, false] rfl rfl (by kernel_rfl) (fun _ _ _ h => h) (Or.inl ⟨by rfl, ?_⟩) ?_ ?_
   rotate_left
   ·intro w'
    go_simp
    with_reducible rfl
   rotate_left
   ·simp only [Act.put, List.setIfInBounds_toArray, List.set_cons_zero, List.set_cons_succ, i64_w, i32_w]
    rfl
   refine pure_ (i := 10) (N := some 15) (v := undef) (a' := ?_) #[true, true, true, true, true, true, true, true, true, true, true, false, false, false, false, false, false, false] rfl rfl (by kernel_rfl) (fun _ _ _ h => h) (Or.inr ⟨by rfl, rfl⟩) ?_ ?_
   rotate_left
   ·simp only [Act.put, List.setIfInBounds_toArray, List.set_cons_zero, List.set_cons_succ, i64_w, i32_w]
    rfl
   refine pure_ (i := 11) (N := some 16) (v := undef) (a' := ?_) #[true, true, true, true, true, true, true, true, true, true, true, true, false, false, false, false, false, false] rfl rfl (by kernel_rfl) (fun _ _ _ h => h) (Or.inr ⟨by rfl, rfl⟩) ?_ ?_
   rotate_left
   ·simp only [Act.put, List.setIfInBounds_toArray, List.set_cons_zero, List.set_cons_succ, i64_w, i32_w]
    rfl
   refine pure_ (i := 12) (N := some 17) (v := undef) (a' := ?_) #[true, true, true, true, true, true, true, true, true, true, true, true, true, false, false, false, false, false] rfl rfl (by kernel_rfl) (fun _ _ _ h => h) (Or.inr ⟨by rfl, rfl⟩) ?_ ?_
   rotate_left
   ·simp only [Act.put, List.setIfInBounds_toArray, List.set_cons_zero, List.set_cons_succ, i64_w, i32_w]
    rfl
   refine pure_ (i := 13) (N := some 18) (v := undef) (a' := ?_) #[true, true, true, true, true, true, true, true, true, true, true, true, true, true, false, false, false, false] rfl rfl (by kernel_rfl) (fun _ _ _ h => h) (Or.inr ⟨by rfl, rfl⟩) ?_ ?_
   rotate_left
   ·simp only [Act.put, List.setIfInBounds_toArray, List.set_cons_zero, List.set_cons_succ, i64_w, i32_w]
    rfl
   refine pure_ (i := 14) (N := some 19) (v := undef) (a' := ?_) #[true, true, true, true, true, true, true, true, true, true, true, true, true, true, true, false, false, false] rfl rfl (by kernel_rfl) (fun _ _ _ h => h) (Or.inr ⟨by rfl, rfl⟩) ?_ ?_
   rotate_left
   ·simp only [Act.put, List.setIfInBounds_toArray, List.set_cons_zero, List.set_cons_succ, i64_w, i32_w]
    rfl
   refine pure_ (i := 15) (N := some 20) (v := undef) (a' := ?_) #[true, true, true, true, true, true, true, true, true, true, true, true, true, true, true, true, false, false] rfl rfl (by kernel_rfl) (fun _ _ _ h => h) (Or.inr ⟨by rfl, rfl⟩) ?_ ?_
   rotate_left
   ·simp only [Act.put, List.setIfInBounds_toArray, List.set_cons_zero, List.set_cons_succ, i64_w, i32_w]
    rfl
   refine pure_ (i := 16) (N := some 21) (v := undef) (a' := ?_) #[true, true, true, true, true, true, true, true, true, true, true, true, true, true, true, true, true, false] rfl rfl (by kernel_rfl) (fun _ _ _ h => h) (Or.inr ⟨by rfl, rfl⟩) ?_ ?_
   rotate_left
   ·simp only [Act.put, List.setIfInBounds_toArray, List.set_cons_zero, List.set_cons_succ, i64_w, i32_w]
    rfl
   refine pure_ (i := 17) (N := some 22) (v := ?_) (a' := ?_) #[true, true, true, true, true, true, true, true, true, true, true, true, true, true, true, true, true, true] rfl rfl (by kernel_rfl) (fun _ _ _ h => h) (Or.inl ⟨by rfl, ?_⟩) ?_ ?_
   rotate_left
   ·intro w'
    go_simp
    with_reducible rfl
   rotate_left
   ·simp only [Act.put, List.setIfInBounds_toArray, List.set_cons_zero, List.set_cons_succ, i64_w, i32_w]
    rfl
   refine done_ (by kernel_rfl) ?_
   skip
   go_wp2_with fail
   go_ret
   exact ⟨by rw [HFX.out]; rfl, hHeld.1⟩
end Go.Proofs.YtdgecgfgekmhcaaDoor.Arr
