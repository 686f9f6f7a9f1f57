/- The texts that the statement FnExactHoistsFrom needs, part 3: contracts of the program's functions and plain laws, without what it does not reach. No condition beyond what each theorem says. -/
import Derived.Below
import Derived.Deep.Draws
import Derived.Deep.AppendLies
import Derived.Maps.AppendAt
import Derived.OwnWalk
import Derived.Laws.BytesArg
import Derived.Laws.MakeOwn
import Derived.Laws.OwnMore
import Derived.Deep.OwnRows
import Derived.Tactics
import Derived.Lib.ConvBytes
import Derived.Laws.Slices
import Derived.WalkKit
import Derived.KernelRfl
import Derived.RowKit3
import Derived.Deep.LoopGhost
import Derived.Deep.QuietTactic
import Derived.BigQuiet
import Derived.WideLaws
import Derived.Deep.DeepCutAuto
import Derived.Deep.CutBlock
import Derived.Deep.RegionHeld3
import Derived.Laws.Rows
import Derived.Lib.AppendStr
import Derived.ArgAppend
import Derived.Laws.IdiomCopy
import Derived.RowKit
import Derived.Laws.Tables
import Derived.BigFrame
import Derived.Laws.CopyRow
import Derived.Laws.ResultCell
import Derived.OrdersHeld
import Derived.Laws.BitsLemmas
import Derived.Laws.StructEq
import Derived.Test.YtfgogdhhihbcjaaProg
import Derived.WalkSpells
import Derived.StillTailTactics
import Derived.Laws.CopyOwn
import Derived.ProofKit
import Derived.OpenShut
import Derived.Deep.Slices
import Derived.Lib.SmallJoins
import Derived.ChangeSame
import Derived.Test.YtfgogdhhihbcjaaRows
import Derived.ShutString
import Derived.ChangeOld
import Derived.SizedLaws
import Derived.Test.YtfgogdhhihbcjaaZFnExactHoistsFrom2
namespace Go.Proofs.Ytfgogdhhihbcjaa.Arr
open Go.RowKit Go.Proofs.YtfgogdhhihbcjaaW.PrintWords Go.Proofs.YtfgogdhhihbcjaaW.PrintLast Go.Proofs.YtfgogdhhihbcjaaW.PrintMore Go.Proofs.Ytfgogdhhihbcjaa.U Go.Proofs.Ytfgogdhhihbcjaa.H
set_option linter.unusedVariables false
set_option linter.unusedSimpArgs false
theorem oneFn : OneTy Try.prog 106 := ⟨by kernel_rfl, by kernel_rfl⟩
theorem seek_enters (a : Array Value) (W : World) : (callFunc 69 a).run Try.prog W = .ok (.enter 69 a) W := by kernel_rfl
theorem s_lit1 {P : Program} {o : Oper} {a : Act} {w : World} {ops : Array Oper} {N : Option Tmp} {K : Act → World → Prop} {Q : Exit → Act → World → Prop} {t e : TypeId} {x : Operand} {k : IntKind} {z : Int} (hw : Region.wanted o (yielded ops a.tmps) = true) (hN : o.dst = N) (ho : o.op = .buildSlice t 1 #[(0, x)]) (hx : a.eval x = .int k z) (hu : P.underlying t = some (.slice e)) (he : OneTy P e) (hz : ZeroTy P e (vals k [0]))
  (h : ∀ g w1, w1.heap[g]? = some (.cells (vals k [z]) e (0, 0)) → FrB [] w w1 → K (a.put N (.slice (some ⟨g, 0, none⟩) 1 1)) w1) : if Region.wanted o (yielded ops a.tmps) = true then Oper.wp P o a w K Q else K (a.put N undef) w :=
 value_ hw hN (run_lit1 ho hx hu he hz) (h _ _ (Go.heap_alloc_new w _) ((FrB.refl [] w).alloc _))
theorem callC_ {P : Program} {oi : Oper} {N : Option Tmp} {a : Act} {w : World} {ops : Array Oper} {K : Act → World → Prop} {Q : Exit → Act → World → Prop} (f : FuncId) (caps args all : Array Value) (hall : args ++ caps = all) (hw : Region.wanted oi (yielded ops a.tmps) = true) (hN : oi.dst = N)
  {x : Operand} {bs : Array Operand} {ts : Array TypeId} (ho : oi.op = .call { callee := .value x, args := bs, argTypes := ts }) (hx : a.eval x = .func (.func f) #[] caps) (hargs : bs.map a.eval = args) (hg : (callFunc f (args ++ caps)).run P w = .ok (.enter f (args ++ caps)) w)
  (h : Calls P f all w fun e w' => ∃ v, e = .returned v ∧ K (a.put N v) w') : if Region.wanted oi (yielded ops a.tmps) = true then Oper.wp P oi a w K Q else K (a.put N undef) w := by
 subst hall
 exact call_ f _ hw hN (enterC ho hx hargs hg) h
section
variable {σ : Type} {step : σ → List Int → σ × Bool} {I : σ → World → Prop} {Q : List Int → Prop} {fe : FuncId} {capE : Array Value} {B : List Nat} {wS : World} {gm gh ge gc : Nat} {Am : Option Addr} {cm : Nat} {m : List Int} {H : List Int} {tm th te tc : TypeId}
set_option maxHeartbeats 8000000 in
set_option maxRecDepth 100000 in
theorem seek_calls (hge : ∀ (a : Array Value) (W : World), (callFunc fe a).run Try.prog W = .ok (.enter fe a) W)
  (hcm : wS.heap[gm]? = some (.cells #[.slice Am m.length cm] tm (0, 0))) (hce : wS.heap[ge]? = some (.cells #[.func (.func fe) #[] capE] te (0, 0)))
  (hcc : wS.heap[gc]? = some (.cells #[.func (.func 69) #[] #[.pointer (some ⟨gm, 0, none⟩), .pointer (some ⟨ge, 0, none⟩), .pointer (some ⟨gc, 0, none⟩), .pointer (some ⟨gh, 0, none⟩)]] tc (0, 0)))
  (hgm : gm ∉ gh :: B) (hgem : ge ∉ gh :: B) (hgc : gc ∉ gh :: B) (hgh : gh ∉ B) (hlt : ∀ b ∈ gh :: B, b < wS.heap.size)
  (hM : ∀ W, FrB (gh :: B) wS W → Kd.C (Kd.int .i8) W Am m.length m) (hmc : m.length ≤ cm) (hm : ∀ x ∈ m, PlainN x) (hml : m.length ≤ 1000) (hHl : H.length = 44) (hHb : ∀ j : Nat, j < 44 → 0 ≤ rd H (j : Int) ∧ rd H (j : Int) ≤ 1000000)
  (hcall : ∀ (s : σ) (h : List Int) (v : Value) (w : World), Q h → I s w → Own wS.heap.size w v h → FrB (gh :: B) wS w → Calls Try.prog fe (#[v] ++ capE) w fun e w' => e = .returned (.bool (step s h).2) ∧ I (step s h).1 w' ∧ FrB B w w')
  (hstab : ∀ (s : σ) (w w' : World), I s w → FrB [gh] w w' → I s w') : ∀ (d : Nat) (h : List Int) (g : Int) (v : Value) (s : σ) (w : World), h.length + d = m.length → 0 ≤ g → g ≤ h.length → FrB (gh :: B) wS w → w.heap[gh]? = some (.cells (vals .i64 (pile H h (-1) h.length)) 71 (0, 0)) → I s w → Own wS.heap.size w v h → (∀ x ∈ leaves m 4 (enough H) d h g, Q x) →
  Calls Try.prog 69 #[v, .int .i64 g, .pointer (some ⟨gm, 0, none⟩), .pointer (some ⟨ge, 0, none⟩), .pointer (some ⟨gc, 0, none⟩), .pointer (some ⟨gh, 0, none⟩)] w fun e w' =>
   ∃ s' on, e = .returned (.bool on) ∧ runL step s (leaves m 4 (enough H) d h g) = (s', on) ∧ I s' w' ∧ FrB B w w' := by
 intro d
 induction d with
 | zero =>
  intro h g v s w hd hg0 hg1 hf hh hI ho hQ
  have hcell := cell1 (hf.row hcm hgm)
  have hcel2 := cell1 (hf.row hce hgem)
  have hlen : h.length = m.length := by omega
  have HC := Aside0.mk (hcall s h v w (hQ h (by rw [leaves]; simp)) hI ho hf)
  have hv := Kd.R_slice ho
  obtain ⟨A, c, rfl⟩ := hv
  rw [hlen] at HC ⊢
  have HR : Aside0 (runL step s (leaves m 4 (enough H) 0 h g) = ((step s h).1, (step s h).2)) := ⟨by
   rw [leaves, runL]
   cases hs : (step s h).2 <;> rfl⟩
  clear hcm hce hcc hgm hgem hgc hgh hlt hM hmc hm hHl hHb hcall hstab hd hg0 hg1 hf hh hI ho hQ
  generalize (step s h).2 = on at *
  generalize (step s h).1 = s1 at *
  go_enter Try.func69, Try.ntmps69
  go_wp2_with (refine HC.out.mono ?_; rintro e w1 ⟨rfl, hI1, hb1⟩; have HI1 := Aside0.mk hI1; have HB1 := Aside0.mk hb1; clear hI1 hb1)
  go_ret
  exact ⟨_, _, rfl, HR.out, HI1.out, HB1.out⟩
 | succ d ih =>
  intro h g v s w hd hg0 hg1 hf hh hI ho hQ
  have hcell := cell1 (hf.row hcm hgm)
  have hlm : h.length < m.length := by omega
  have HCC := Aside0.mk (hf.row hcc hgc)
  obtain ⟨ad, rfl, hcx⟩ := Kd.at_int (hM w hf) (h.length : Int) (by omega) (by omega)
  rw [Int.toNat_natCast] at hcx
  have hx := hm _ (by rw [rd_get m h.length hlm]; exact List.getElem_mem _ : rd m (h.length : Int) ∈ m)
  obtain ⟨A, c, rfl⟩ := Kd.R_slice ho
  have hHc := (Kd.R_reads' ho).2.1
  have HO := Aside0.mk ho
  by_cases hb : rd m (h.length : Int) = -10
  ·rw [leaves_stop m (enough H) d h g hb]
   have HIH : Aside0 (∀ (v2 : Value) (w2 : World), Own wS.heap.size w2 v2 (h ++ [-10]) → FrB [] w w2 → Calls Try.prog 69 #[v2, .int .i64 ((h.length : Int) + 1), .pointer (some ⟨gm, 0, none⟩), .pointer (some ⟨ge, 0, none⟩), .pointer (some ⟨gc, 0, none⟩), .pointer (some ⟨gh, 0, none⟩)] w2 fun e w' =>
     ∃ s' on, e = .returned (.bool on) ∧ runL step s (leaves m 4 (enough H) d (h ++ [-10]) ((h.length : Int) + 1)) = (s', on) ∧ I s' w' ∧ FrB B w2 w') := ⟨fun v2 w2 ho2 hf2 => by
    refine ih (h ++ [-10]) ((h.length : Int) + 1) v2 s w2 (by simp; omega) (by omega) (by simp) (hf.trans (hf2.mono (by simp))) ?_ (hstab s w w2 hI (hf2.mono (by simp))) ho2 (fun x hx => hQ x (by rw [leaves_stop m (enough H) d h g hb]; exact hx))
    rw [pile_snoc, bump, if_pos rfl]
    exact hf2.row hh (by simp)⟩
   have hSz := hf.size
   have hsw : wrap64 ((h.length : Int) + 1) = (h.length : Int) + 1 := w64 (by omega) (by omega)
   rw [hb] at hcx
   clear hcm hce hcc hgm hgem hgc hM hmc hm hHl hHb hcall hstab ih hx hge hf hI ho hh hQ
   go_enter Try.func69, Try.ntmps69
   go_wp2_with fail
   refine start_ (n := 9) (S := fun w' => FrB [] w w') (ds := [7]) #[false, false, false, false, false, false, false, false, false] (by kernel_rfl) rfl rfl (FrB.below (below_drew (Below.refl _ _))) (fun hHeld => ?_)
   refine pure_ (i := 1) (N := some 31) (v := ?_) (a' := ?_) #[false, true, false, false, false, false, false, false, false] rfl rfl (by kernel_rfl) (fun _ _ _ h => h) (Or.inl ⟨by rfl, ?_⟩) ?_ ?_
   rotate_left
   ·intro w'
    go_simp
    with_reducible rfl
   rotate_left
   ·simp only [Act.put, List.setIfInBounds_toArray, List.set_cons_zero, List.set_cons_succ, i64_w, i32_w]
    rfl
   refine pure_ (i := 5) (N := some 35) (v := ?_) (a' := ?_) #[false, true, false, false, false, true, false, false, false] rfl rfl (by kernel_rfl) (fun _ _ _ h => h) (Or.inl ⟨by rfl, ?_⟩) ?_ ?_
   rotate_left
   ·intro w'
    go_simp
    with_reducible rfl
   rotate_left
   ·simp only [Act.put, List.setIfInBounds_toArray, List.set_cons_zero, List.set_cons_succ, i64_w, i32_w]
    rfl
   refine pure_ (i := 6) (N := some 36) (v := ?_) (a' := ?_) #[false, true, false, false, false, true, true, false, false] rfl rfl (by kernel_rfl) (fun _ _ _ h => h) (Or.inl ⟨by rfl, ?_⟩) ?_ ?_
   rotate_left
   ·intro w'
    go_simp
    with_reducible rfl
   rotate_left
   ·simp only [Act.put, List.setIfInBounds_toArray, List.set_cons_zero, List.set_cons_succ, i64_w, i32_w]
    rfl
   refine take_ (i := 0) (N := some 30) (v := .func (.func 69) #[] #[.pointer (some ⟨gm, 0, none⟩), .pointer (some ⟨ge, 0, none⟩), .pointer (some ⟨gc, 0, none⟩), .pointer (some ⟨gh, 0, none⟩)]) (a' := ?_) #[true, true, false, false, false, true, true, false, false] rfl rfl (by kernel_rfl) (fun _ _ _ h => h) (Or.inl ⟨by rfl, ?_⟩) hHeld ?_ ?_
   ·intro w' s0
    exact y_cell (by rfl) (by rfl) oneFn (cell1 (s0.row HCC.out (by simp)))
   rotate_left
   ·simp only [Act.put, List.setIfInBounds_toArray, List.set_cons_zero, List.set_cons_succ, i64_w, i32_w]
    rfl
   refine two_ (i := 2) (j := 3) (Ni := some 32) (Nj := some 33) #[true, true, true, false, false, true, true, false, false] #[true, true, false, true, false, true, true, false, false] rfl rfl rfl rfl (by kernel_rfl) (by decide) (by decide) (fun K hK => ?_) (fun K hK => ?_)
   ·skip
    refine goes_ Try.func70 (by kernel_rfl) rfl #[.slice A h.length c] (by rfl) rfl rfl (by simp only [List.map_toArray, List.map_cons, List.map_nil]; rfl) ?_
    refine (cloneH_calls A c h _ (Kd.R_reads' (own_later HO.out hHeld (by simp))).2.2 hHc (by omega)).mono ?_
    rintro e w3 ⟨v1, rfl, HO1, hb1⟩
    refine ⟨_, rfl, ?_⟩
    (try replace hgb := (hb1.block _ (lt_of_some hgb)).trans hgb)
    replace HO1 := own_lower HO1 hHeld.size
    refine hK.out _ _ (hHeld.trans (FrB.below hb1)) (fun hHeld => ?_)
    clear hK K
    refine norm_ (a' := ?_) ?_ ?_
    rotate_left
    ·show Act.put _ (some 32) _ = _
     simp only [Act.put, List.setIfInBounds_toArray, List.set_cons_zero, List.set_cons_succ, i64_w, i32_w]
     rfl
    refine one_ (i := 3) (N := some 33) #[true, true, true, true, false, true, true, false, false] rfl rfl (by kernel_rfl) (by decide) (fun K hK => ?_)
    refine s_lit1 (z := -10) (by rfl) rfl rfl rfl Try.underlying28 oneI8 zeroI8 ?_
    intro gb w4 hgb hfb
    (try replace HO1 := own_later HO1 hfb (by simp))
    refine hK.out _ _ (hHeld.trans hfb) (fun hHeld => ?_)
    clear hK K
    refine norm_ (a' := ?_) ?_ ?_
    rotate_left
    ·show Act.put _ (some 33) _ = _
     simp only [Act.put, List.setIfInBounds_toArray, List.set_cons_zero, List.set_cons_succ, i64_w, i32_w]
     rfl
    refine one_ (i := 4) (N := some 34) #[true, true, true, true, true, true, true, false, false] rfl rfl (by kernel_rfl) (by decide) (fun K hK => ?_)
    refine Kd.R_append_rows_step (Kd.int .i8) (w0 := _) w.heap.size (by rfl) (.tmp 32) (.tmp 33) 28 64 (.int .i8 0) 1 rfl Try.underlying28 infoI8 rfl (by decide) (by omega) v1 h [-10] (some ⟨gb, 0, none⟩) 1 1 (fun _ => True) (fun _ => False) rfl rfl HO1 (row1 hgb) (fun _ _ h => h) (fun _ h => h.elim) (fun _ _ => trivial) (Below.refl _ _) hHeld.size (by omega) ?_
    intro v2 w5 HO2 hb5 hg5 hat5
    refine hK.out _ _ (hHeld.grown hg5 (fun k hk => Kd.R_base HO1 k hk)) (fun hHeld => ?_)
    clear hK K
    refine norm_ (a' := ?_) ?_ ?_
    rotate_left
    ·show Act.put _ (some 34) _ = _
     simp only [Act.put, List.setIfInBounds_toArray, List.set_cons_zero, List.set_cons_succ, i64_w, i32_w]
     rfl
    refine last_ (i := 7) (N := some 37) #[true, true, true, true, true, true, true, true, false] rfl rfl (by kernel_rfl) (by decide) (fun K hK => ?_)
    refine callC_ 69 #[.pointer (some ⟨gm, 0, none⟩), .pointer (some ⟨ge, 0, none⟩), .pointer (some ⟨gc, 0, none⟩), .pointer (some ⟨gh, 0, none⟩)] #[v2, .int .i64 ((h.length : Int) + 1)] #[v2, .int .i64 ((h.length : Int) + 1), .pointer (some ⟨gm, 0, none⟩), .pointer (some ⟨ge, 0, none⟩), .pointer (some ⟨gc, 0, none⟩), .pointer (some ⟨gh, 0, none⟩)] (by simp) (by rfl) rfl (by rfl) (by rfl) (by simp only [List.map_toArray, List.map_cons, List.map_nil, hsw]; rfl) (seek_enters _ _) ?_
    refine (HIH.out v2 _ (own_lower HO2 hSz) hHeld).mono ?_
    rintro e w6 ⟨s1, on, rfl, hrun, hI6, hf6⟩
    refine ⟨_, rfl, ?_⟩
    refine hK.out _ _ ?_
    clear hK K
    refine norm_ (a' := ?_) ?_ ?_
    rotate_left
    ·show Act.put _ (some 37) _ = _
     simp only [Act.put, List.setIfInBounds_toArray, List.set_cons_zero, List.set_cons_succ, i64_w, i32_w]
     rfl
    refine pure_ (i := 8) (N := some 8) (v := ?_) (a' := ?_) #[true, true, true, true, true, true, true, true, true] rfl rfl (by kernel_rfl) (fun _ _ _ h => h) (Or.inl ⟨by rfl, ?_⟩) ?_ ?_
    rotate_left
    ·intro w'
     go_simp
     with_reducible rfl
    rotate_left
    ·simp only [Act.put, List.setIfInBounds_toArray, List.set_cons_zero, List.set_cons_succ, i64_w, i32_w]
     rfl
    refine done_ (by kernel_rfl) ?_
    go_wp2_with fail
    go_ret
    exact ⟨s1, on, rfl, hrun, hI6, (hHeld.mono (by simp)).trans hf6⟩
   ·skip
    refine s_lit1 (z := -10) (by rfl) rfl rfl rfl Try.underlying28 oneI8 zeroI8 ?_
    intro gb w4 hgb hfb
    (try replace HO1 := own_later HO1 hfb (by simp))
    refine hK.out _ _ (hHeld.trans hfb) (fun hHeld => ?_)
    clear hK K
    refine norm_ (a' := ?_) ?_ ?_
    rotate_left
    ·show Act.put _ (some 33) _ = _
     simp only [Act.put, List.setIfInBounds_toArray, List.set_cons_zero, List.set_cons_succ, i64_w, i32_w]
     rfl
    refine one_ (i := 2) (N := some 32) #[true, true, true, true, false, true, true, false, false] rfl rfl (by kernel_rfl) (by decide) (fun K hK => ?_)
    refine goes_ Try.func70 (by kernel_rfl) rfl #[.slice A h.length c] (by rfl) rfl rfl (by simp only [List.map_toArray, List.map_cons, List.map_nil]; rfl) ?_
    refine (cloneH_calls A c h _ (Kd.R_reads' (own_later HO.out hHeld (by simp))).2.2 hHc (by omega)).mono ?_
    rintro e w3 ⟨v1, rfl, HO1, hb1⟩
    refine ⟨_, rfl, ?_⟩
    (try replace hgb := (hb1.block _ (lt_of_some hgb)).trans hgb)
    replace HO1 := own_lower HO1 hHeld.size
    refine hK.out _ _ (hHeld.trans (FrB.below hb1)) (fun hHeld => ?_)
    clear hK K
    refine norm_ (a' := ?_) ?_ ?_
    rotate_left
    ·show Act.put _ (some 32) _ = _
     simp only [Act.put, List.setIfInBounds_toArray, List.set_cons_zero, List.set_cons_succ, i64_w, i32_w]
     rfl
    refine one_ (i := 4) (N := some 34) #[true, true, true, true, true, true, true, false, false] rfl rfl (by kernel_rfl) (by decide) (fun K hK => ?_)
    refine Kd.R_append_rows_step (Kd.int .i8) (w0 := _) w.heap.size (by rfl) (.tmp 32) (.tmp 33) 28 64 (.int .i8 0) 1 rfl Try.underlying28 infoI8 rfl (by decide) (by omega) v1 h [-10] (some ⟨gb, 0, none⟩) 1 1 (fun _ => True) (fun _ => False) rfl rfl HO1 (row1 hgb) (fun _ _ h => h) (fun _ h => h.elim) (fun _ _ => trivial) (Below.refl _ _) hHeld.size (by omega) ?_
    intro v2 w5 HO2 hb5 hg5 hat5
    refine hK.out _ _ (hHeld.grown hg5 (fun k hk => Kd.R_base HO1 k hk)) (fun hHeld => ?_)
    clear hK K
    refine norm_ (a' := ?_) ?_ ?_
    rotate_left
    ·show Act.put _ (some 34) _ = _
     simp only [Act.put, List.setIfInBounds_toArray, List.set_cons_zero, List.set_cons_succ, i64_w, i32_w]
     rfl
    refine last_ (i := 7) (N := some 37) #[true, true, true, true, true, true, true, true, false] rfl rfl (by kernel_rfl) (by decide) (fun K hK => ?_)
    refine callC_ 69 #[.pointer (some ⟨gm, 0, none⟩), .pointer (some ⟨ge, 0, none⟩), .pointer (some ⟨gc, 0, none⟩), .pointer (some ⟨gh, 0, none⟩)] #[v2, .int .i64 ((h.length : Int) + 1)] #[v2, .int .i64 ((h.length : Int) + 1), .pointer (some ⟨gm, 0, none⟩), .pointer (some ⟨ge, 0, none⟩), .pointer (some ⟨gc, 0, none⟩), .pointer (some ⟨gh, 0, none⟩)] (by simp) (by rfl) rfl (by rfl) (by rfl) (by simp only [List.map_toArray, List.map_cons, List.map_nil, hsw]; rfl) (seek_enters _ _) ?_
    refine (HIH.out v2 _ (own_lower HO2 hSz) hHeld).mono ?_
    rintro e w6 ⟨s1, on, rfl, hrun, hI6, hf6⟩
    refine ⟨_, rfl, ?_⟩
    refine hK.out _ _ ?_
    clear hK K
    refine norm_ (a' := ?_) ?_ ?_
    rotate_left
    ·show Act.put _ (some 37) _ = _
     simp only [Act.put, List.setIfInBounds_toArray, List.set_cons_zero, List.set_cons_succ, i64_w, i32_w]
     rfl
    refine pure_ (i := 8) (N := some 8) (v := ?_) (a' := ?_) #[true, true, true, true, true, true, true, true, true] rfl rfl (by kernel_rfl) (fun _ _ _ h => h) (Or.inl ⟨by rfl, ?_⟩) ?_ ?_
    rotate_left
    ·intro w'
     go_simp
     with_reducible rfl
    rotate_left
    ·simp only [Act.put, List.setIfInBounds_toArray, List.set_cons_zero, List.set_cons_succ, i64_w, i32_w]
     rfl
    refine done_ (by kernel_rfl) ?_
    go_wp2_with fail
    go_ret
    exact ⟨s1, on, rfl, hrun, hI6, (hHeld.mono (by simp)).trans hf6⟩
  ·rw [leaves_go m (enough H) d h g hb]
   have hHc44 := (pile_length H h (-1) h.length).trans hHl
   have HIH : Aside0 (∀ (n : Int) (v2 : Value) (s2 : σ) (w2 : World), NumH n → (∀ x ∈ leaves m 4 (enough H) d (h ++ [n]) g, Q x) → Own wS.heap.size w2 v2 (h ++ [n]) → FrB (gh :: B) wS w2 → w2.heap[gh]? = some (.cells (vals .i64 (bump (pile H h (-1) h.length) n (-1))) 71 (0, 0)) → I s2 w2 → Calls Try.prog 69 #[v2, .int .i64 g, .pointer (some ⟨gm, 0, none⟩), .pointer (some ⟨ge, 0, none⟩), .pointer (some ⟨gc, 0, none⟩), .pointer (some ⟨gh, 0, none⟩)] w2 fun e w' =>
     ∃ s' on, e = .returned (.bool on) ∧ runL step s2 (leaves m 4 (enough H) d (h ++ [n]) g) = (s', on) ∧ I s' w' ∧ FrB B w2 w') := ⟨fun n v2 s2 w2 hn hq2 ho2 hf2 hh2 hI2 => by
    refine ih (h ++ [n]) g v2 s2 w2 (by simp; omega) hg0 (by simp; omega) hf2 ?_ hI2 ho2 hq2
    rw [pile_snoc]
    exact hh2⟩
   have HQ := Aside0.mk (fun (n : Int) (hk : enough H h n = true) (ho : n ∈ opts m h.length g 4) (x : List Int) (hx : x ∈ leaves m 4 (enough H) d (h ++ [n]) g) => hQ x (by rw [leaves_go m (enough H) d h g hb]; unfold goes; exact List.mem_flatMap.2 ⟨n, ho, by rw [if_pos hk]; exact hx⟩))
   have HM := Aside0.mk hM
   have HF := Aside0.mk hf
   have HH := Aside0.mk hh
   have HI := Aside0.mk hI
   have HST := Aside0.mk hstab
   have HCM := Aside0.mk (hf.row hcm hgm)
   have HGM := Aside0.mk hgm
   have HGC := Aside0.mk hgc
   have HGH := Aside0.mk hgh
   have HLT := Aside0.mk hlt
   have HON := Aside0.mk (opts_num hm (k := h.length) (g := g) hlm hb)
   have HEN : Aside0 (∀ n : Int, enough H h n = decide (rd (pile H h (-1) h.length) (slot n : Nat) ≠ 0)) := ⟨fun n => rfl⟩
   have HPB := Aside0.mk (pile_b H h hHl 1000000 hHb h.length)
   have hSz := hf.size
   clear hcm hce hcc hgm hgem hgc hM hmc hm hHl hHb hcall hstab ih hx hge hf hI ho hh hgh hlt hQ
   generalize hHc : pile H h (-1) h.length = Hc at *
   clear hHc
   generalize hxv : rd m (h.length : Int) = x at *
   go_enter Try.func69, Try.ntmps69
   go_wp2_with ((with_reducible refine gate_dst (N := 38) rfl ?_); refine Kd.R_lit (Kd.int .i8) _ 64 ?hg (N := 38) ?hd (xs := ([] : List Int)) (inner := []) (ok := fun _ => True) (okp := fun _ => True) ?hr ?hp (fun _ hk => hk) trivial (Below.refl _ _) (Nat.le_refl _) (by simp) ?_; (case hd => rfl); (case hg => rfl); (case hr => first | (go_simp; done) | (go_simp; rfl)); (case hp => exact (Reps.none _ _)); intro v1 w1 ho1 hb1 _ _; have HO1 := Aside0.mk ho1; have HF1 := Aside0.mk (FrB.below (B := []) hb1); clear ho1 hb1)
   go_loopw [10, 11, 12] (fun v10 v11 v12 wr => ∃ (i : Nat) (xs : List Int), i ≤ 4 ∧ v11 = .int .i8 ((i : Int) - 4) ∧ Aside0 (xs ++ subsTo m h.length g (4 - i) = subsTo m h.length g 4) ∧ Aside0 (Own w.heap.size wr v10 xs) ∧ Aside0 (FrB [] w wr)) (fun _ v11 _ _ => (-(intOf v11)).toNat)
   case atStart => exact ⟨0, [], by omega, by simp, ⟨rfl⟩, HO1, HF1⟩
   case round =>
    clear HO1 HF1
    obtain ⟨i, xs, hi, rfl, HX, HO1, HF1⟩ := hrel
    have hcellr := cell1 (HF1.out.row HCM.out (by simp))
    have hcxr := (Kd.at_int (HM.out _ (HF.out.trans (HF1.out.mono (by simp)))) (h.length : Int) (by omega) (by omega))
    rw [Int.toNat_natCast, hxv] at hcxr
    obtain ⟨ad1, e1, hcxr⟩ := hcxr
    cases e1
    by_cases hlt : i < 4
    ·have HSS := Aside0.mk (subsTo_step m h.length g i hlt)
     have HNX : Aside0 (((i + 1 : Nat) : Int) - 4 = ((i : Int) - 4) + 1) := ⟨by omega⟩
     have hq1 : -4 ≤ (i : Int) - 4 := by omega
     have hq2 : (i : Int) - 4 < 0 := by omega
     have HMS := Aside0.mk (show (-((((i : Int) - 4) + 1))).toNat < (-((i : Int) - 4)).toNat by omega)
     generalize (i : Int) - 4 = q at *
     have hw1 : wrap64 q = q := w64 (by omega) (by omega)
     have hw2 : wrap64 (g - q) = g - q := w64 (by omega) (by omega)
     obtain ⟨p, hp⟩ : ∃ p, g - q - 1 = p := ⟨_, rfl⟩
     have hw3 : wrap64 (g - q - 1) = g - q - 1 := w64 (by omega) (by omega)
     have HPE := Aside0.mk hp
     have hat0 : 0 ≤ p := by omega
     have HSO : Aside0 (subOk m h.length g q = decide (p < (h.length : Int) ∧ rd m p = x)) := ⟨by rw [← hxv, ← hp]; rfl⟩
     clear hp
     have hw4 : IntKind.i8.wrap (q + 1) = q + 1 := i8w (by omega) (by omega)
     by_cases hat : p < (h.length : Int)
     ·obtain ⟨ad2, e2, hca⟩ := Kd.at_int (HM.out _ (HF.out.trans (HF1.out.mono (by simp)))) p (by omega) (by omega)
      cases e2
      have hat1 : p < (m.length : Int) := by omega
      have hat2 := decide_eq_true hat
      generalize rd m p = y at *
      by_cases heq : y = x
      ·subst heq
       have HXS := Aside0.mk (show subsTo m h.length g (4 - i) = [q] ++ subsTo m h.length g (4 - (i + 1)) by rw [HSS.out, if_pos (by rw [HSO.out]; exact decide_eq_true ⟨hat, rfl⟩)])
       have HLX := Aside0.mk (show xs.length ≤ 4 by have h1 := congrArg List.length HX.out; rw [List.length_append] at h1; have := subsTo_len m h.length g 4; omega)
       clear HSS HSO
       go_wp2_with fail
       rw [HPE.out]
       refine start_ (n := 14) (S := fun w' => FrB [] wr w') (ds := []) #[false, false, false, false, false, false, false, false, false, false, false, false, false, false] (by kernel_rfl) rfl rfl (FrB.below (below_drew (Below.refl _ _))) (fun hHeld => ?_)
       refine pure_ (i := 0) (N := some 48) (v := ?_) (a' := ?_) #[true, false, false, false, false, false, false, false, false, false, false, false, false, false] rfl rfl (by kernel_rfl) (fun _ _ _ h => h) (Or.inl ⟨by rfl, ?_⟩) ?_ ?_
       rotate_left
       ·intro w'
        go_simp
        with_reducible rfl
       rotate_left
       ·simp only [Act.put, List.setIfInBounds_toArray, List.set_cons_zero, List.set_cons_succ, i64_w, i32_w]
        rfl
       refine pure_ (i := 1) (N := some 49) (v := ?_) (a' := ?_) #[true, true, false, false, false, false, false, false, false, false, false, false, false, false] rfl rfl (by kernel_rfl) (fun _ _ _ h => h) (Or.inl ⟨by rfl, ?_⟩) ?_ ?_
       rotate_left
       ·intro w'
        go_simp
        with_reducible rfl
       rotate_left
       ·simp only [Act.put, List.setIfInBounds_toArray, List.set_cons_zero, List.set_cons_succ, i64_w, i32_w]
        rfl
       refine pure_ (i := 2) (N := some 50) (v := ?_) (a' := ?_) #[true, true, true, false, false, false, false, false, false, false, false, false, false, false] rfl rfl (by kernel_rfl) (fun _ _ _ h => h) (Or.inl ⟨by rfl, ?_⟩) ?_ ?_
       rotate_left
       ·intro w'
        go_simp
        with_reducible rfl
       rotate_left
       ·simp only [Act.put, List.setIfInBounds_toArray, List.set_cons_zero, List.set_cons_succ, i64_w, i32_w]
        rfl
       refine pure_ (i := 3) (N := some 51) (v := ?_) (a' := ?_) #[true, true, true, true, false, false, false, false, false, false, false, false, false, false] rfl rfl (by kernel_rfl) (fun _ _ _ h => h) (Or.inl ⟨by rfl, ?_⟩) ?_ ?_
       rotate_left
       ·intro w'
        go_simp
        with_reducible rfl
       rotate_left
       ·simp only [Act.put, List.setIfInBounds_toArray, List.set_cons_zero, List.set_cons_succ, i64_w, i32_w]
        rfl
       refine pure_ (i := 5) (N := some 53) (v := ?_) (a' := ?_) #[true, true, true, true, false, true, false, false, false, false, false, false, false, false] rfl rfl (by kernel_rfl) (fun _ _ _ h => h) (Or.inl ⟨by rfl, ?_⟩) ?_ ?_
       rotate_left
       ·intro w'
        go_simp
        with_reducible rfl
       rotate_left
       ·simp only [Act.put, List.setIfInBounds_toArray, List.set_cons_zero, List.set_cons_succ, i64_w, i32_w]
        rfl
       refine pure_ (i := 9) (N := some 57) (v := ?_) (a' := ?_) #[true, true, true, true, false, true, false, false, false, true, false, false, false, false] rfl rfl (by kernel_rfl) (fun _ _ _ h => h) (Or.inl ⟨by rfl, ?_⟩) ?_ ?_
       rotate_left
       ·intro w'
        go_simp
        with_reducible rfl
       rotate_left
       ·simp only [Act.put, List.setIfInBounds_toArray, List.set_cons_zero, List.set_cons_succ, i64_w, i32_w]
        rfl
       refine take_ (i := 4) (N := some 52) (v := .slice (some ad) m.length cm) (a' := ?_) #[true, true, true, true, true, true, false, false, false, true, false, false, false, false] rfl rfl (by kernel_rfl) (fun _ _ _ h => h) (Or.inl ⟨by rfl, ?_⟩) hHeld ?_ ?_
       ·intro w' s0
        exact y_cell (by rfl) (by rfl) oneMean (s0.read hcellr)
       rotate_left
       ·simp only [Act.put, List.setIfInBounds_toArray, List.set_cons_zero, List.set_cons_succ, i64_w, i32_w]
        rfl
       refine pure_ (i := 6) (N := some 54) (v := ?_) (a' := ?_) #[true, true, true, true, true, true, true, false, false, true, false, false, false, false] rfl rfl (by kernel_rfl) (fun _ _ _ h => h) (Or.inl ⟨by rfl, ?_⟩) ?_ ?_
       rotate_left
       ·intro w'
        go_simp
        with_reducible rfl
       rotate_left
       ·simp only [Act.put, List.setIfInBounds_toArray, List.set_cons_zero, List.set_cons_succ, i64_w, i32_w]
        rfl
       refine take_ (i := 7) (N := some 55) (v := .int .i8 y) (a' := ?_) #[true, true, true, true, true, true, true, true, false, true, false, false, false, false] rfl rfl (by kernel_rfl) (fun _ _ _ h => h) (Or.inl ⟨by rfl, ?_⟩) hHeld ?_ ?_
       ·intro w' s0
        exact y_cell (by rfl) (by rfl) oneI8 (s0.read hca)
       rotate_left
       ·simp only [Act.put, List.setIfInBounds_toArray, List.set_cons_zero, List.set_cons_succ, i64_w, i32_w]
        rfl
       refine take_ (i := 8) (N := some 56) (v := .slice (some ad) m.length cm) (a' := ?_) #[true, true, true, true, true, true, true, true, true, true, false, false, false, false] rfl rfl (by kernel_rfl) (fun _ _ _ h => h) (Or.inl ⟨by rfl, ?_⟩) hHeld ?_ ?_
       ·intro w' s0
        exact y_cell (by rfl) (by rfl) oneMean (s0.read hcellr)
       rotate_left
       ·simp only [Act.put, List.setIfInBounds_toArray, List.set_cons_zero, List.set_cons_succ, i64_w, i32_w]
        rfl
       refine pure_ (i := 10) (N := some 58) (v := ?_) (a' := ?_) #[true, true, true, true, true, true, true, true, true, true, true, false, false, false] rfl rfl (by kernel_rfl) (fun _ _ _ h => h) (Or.inl ⟨by rfl, ?_⟩) ?_ ?_
       rotate_left
       ·intro w'
        go_simp
        with_reducible rfl
       rotate_left
       ·simp only [Act.put, List.setIfInBounds_toArray, List.set_cons_zero, List.set_cons_succ, i64_w, i32_w]
        rfl
       refine take_ (i := 11) (N := some 59) (v := .int .i8 y) (a' := ?_) #[true, true, true, true, true, true, true, true, true, true, true, true, false, false] rfl rfl (by kernel_rfl) (fun _ _ _ h => h) (Or.inl ⟨by rfl, ?_⟩) hHeld ?_ ?_
       ·intro w' s0
        exact y_cell (by rfl) (by rfl) oneI8 (s0.read hcxr)
       rotate_left
       ·simp only [Act.put, List.setIfInBounds_toArray, List.set_cons_zero, List.set_cons_succ, i64_w, i32_w]
        rfl
       refine pure_ (i := 12) (N := some 60) (v := ?_) (a' := ?_) #[true, true, true, true, true, true, true, true, true, true, true, true, true, false] rfl rfl (by kernel_rfl) (fun _ _ _ h => h) (Or.inl ⟨by rfl, ?_⟩) ?_ ?_
       rotate_left
       ·intro w'
        go_simp
        with_reducible rfl
       rotate_left
       ·simp only [Act.put, List.setIfInBounds_toArray, List.set_cons_zero, List.set_cons_succ, i64_w, i32_w]
        rfl
       refine pure_ (i := 13) (N := some 61) (v := ?_) (a' := ?_) #[true, true, true, true, true, true, true, true, true, true, true, true, true, true] rfl rfl (by kernel_rfl) (fun _ _ _ h => h) (Or.inl ⟨by rfl, ?_⟩) ?_ ?_
       rotate_left
       ·intro w'
        go_simp
        with_reducible rfl
       rotate_left
       ·simp only [Act.put, List.setIfInBounds_toArray, List.set_cons_zero, List.set_cons_succ, i64_w, i32_w]
        rfl
       refine done_ (by kernel_rfl) ?_
       skip
       have HOq := Aside0.mk (Kd.R_drew HO1.out)
       have HFq := Aside0.mk (HF1.out.trans hHeld)
       generalize wr.drew = wq at *
       go_wp2_with ((with_reducible refine gate_builtin (b := .append) (xs := #[.tmp 62, .tmp 64]) rfl ?_); (try (refine gate_guard (by rfl) ?_; dsimp only)); at_builtin; refine Kd.R_append (Kd.int .i8) (w0 := wq) w.heap.size rfl (.tmp 62) (.tmp 64) 27 64 (.int .i8 0) 1 rfl Try.underlying27 infoI8 rfl (by decide) (by omega) _ xs q [.int .i8 q] (fun _ => True) (fun _ => False) rfl rfl rfl (fun _ hk => hk.elim) (fun _ _ => trivial) HOq.out (Below.refl _ _) HFq.out.size (by have := HLX.out; omega) ?_; intro v2 w2 ho2 hb2 hg2 hat2; have HO2 := Aside0.mk ho2; have HF2 := Aside0.mk (HFq.out.grown hg2 (fun k hk => Kd.R_base HOq.out k hk)); clear ho2 hb2 hg2 hat2)
       go_roundw
       case rel => exact ⟨i + 1, xs ++ [q], by omega, by rw [HNX.out], ⟨by rw [List.append_assoc, ← HXS.out]; exact HX.out⟩, HO2, HF2⟩
       case measure => simp only [intOf]; exact HMS.out
      ·have HXS := Aside0.mk (show subsTo m h.length g (4 - i) = subsTo m h.length g (4 - (i + 1)) by rw [HSS.out, if_neg (by rw [HSO.out, decide_eq_false (fun e => heq e.2)]; simp)]; rfl)
       clear HSS HSO
       have hne := Aside0.mk (show (y == x) = false by simpa using heq)
       go_wp2_with fail
       rw [HPE.out]
       refine start_ (n := 14) (S := fun w' => FrB [] wr w') (ds := []) #[false, false, false, false, false, false, false, false, false, false, false, false, false, false] (by kernel_rfl) rfl rfl (FrB.below (below_drew (Below.refl _ _))) (fun hHeld => ?_)
       refine pure_ (i := 0) (N := some 48) (v := ?_) (a' := ?_) #[true, false, false, false, false, false, false, false, false, false, false, false, false, false] rfl rfl (by kernel_rfl) (fun _ _ _ h => h) (Or.inl ⟨by rfl, ?_⟩) ?_ ?_
       rotate_left
       ·intro w'
        go_simp
        with_reducible rfl
       rotate_left
       ·simp only [Act.put, List.setIfInBounds_toArray, List.set_cons_zero, List.set_cons_succ, i64_w, i32_w]
        rfl
       refine pure_ (i := 1) (N := some 49) (v := ?_) (a' := ?_) #[true, true, false, false, false, false, false, false, false, false, false, false, false, false] rfl rfl (by kernel_rfl) (fun _ _ _ h => h) (Or.inl ⟨by rfl, ?_⟩) ?_ ?_
       rotate_left
       ·intro w'
        go_simp
        with_reducible rfl
       rotate_left
       ·simp only [Act.put, List.setIfInBounds_toArray, List.set_cons_zero, List.set_cons_succ, i64_w, i32_w]
        rfl
       refine pure_ (i := 2) (N := some 50) (v := ?_) (a' := ?_) #[true, true, true, false, false, false, false, false, false, false, false, false, false, false] rfl rfl (by kernel_rfl) (fun _ _ _ h => h) (Or.inl ⟨by rfl, ?_⟩) ?_ ?_
       rotate_left
       ·intro w'
        go_simp
        with_reducible rfl
       rotate_left
       ·simp only [Act.put, List.setIfInBounds_toArray, List.set_cons_zero, List.set_cons_succ, i64_w, i32_w]
        rfl
       refine pure_ (i := 3) (N := some 51) (v := ?_) (a' := ?_) #[true, true, true, true, false, false, false, false, false, false, false, false, false, false] rfl rfl (by kernel_rfl) (fun _ _ _ h => h) (Or.inl ⟨by rfl, ?_⟩) ?_ ?_
       rotate_left
       ·intro w'
        go_simp
        with_reducible rfl
       rotate_left
       ·simp only [Act.put, List.setIfInBounds_toArray, List.set_cons_zero, List.set_cons_succ, i64_w, i32_w]
        rfl
       refine pure_ (i := 5) (N := some 53) (v := ?_) (a' := ?_) #[true, true, true, true, false, true, false, false, false, false, false, false, false, false] rfl rfl (by kernel_rfl) (fun _ _ _ h => h) (Or.inl ⟨by rfl, ?_⟩) ?_ ?_
       rotate_left
       ·intro w'
        go_simp
        with_reducible rfl
       rotate_left
       ·simp only [Act.put, List.setIfInBounds_toArray, List.set_cons_zero, List.set_cons_succ, i64_w, i32_w]
        rfl
       refine pure_ (i := 9) (N := some 57) (v := ?_) (a' := ?_) #[true, true, true, true, false, true, false, false, false, true, false, false, false, false] rfl rfl (by kernel_rfl) (fun _ _ _ h => h) (Or.inl ⟨by rfl, ?_⟩) ?_ ?_
       rotate_left
       ·intro w'
        go_simp
        with_reducible rfl
       rotate_left
       ·simp only [Act.put, List.setIfInBounds_toArray, List.set_cons_zero, List.set_cons_succ, i64_w, i32_w]
        rfl
       refine take_ (i := 4) (N := some 52) (v := .slice (some ad) m.length cm) (a' := ?_) #[true, true, true, true, true, true, false, false, false, true, false, false, false, false] rfl rfl (by kernel_rfl) (fun _ _ _ h => h) (Or.inl ⟨by rfl, ?_⟩) hHeld ?_ ?_
       ·intro w' s0
        exact y_cell (by rfl) (by rfl) oneMean (s0.read hcellr)
       rotate_left
       ·simp only [Act.put, List.setIfInBounds_toArray, List.set_cons_zero, List.set_cons_succ, i64_w, i32_w]
        rfl
       refine pure_ (i := 6) (N := some 54) (v := ?_) (a' := ?_) #[true, true, true, true, true, true, true, false, false, true, false, false, false, false] rfl rfl (by kernel_rfl) (fun _ _ _ h => h) (Or.inl ⟨by rfl, ?_⟩) ?_ ?_
       rotate_left
       ·intro w'
        go_simp
        with_reducible rfl
       rotate_left
       ·simp only [Act.put, List.setIfInBounds_toArray, List.set_cons_zero, List.set_cons_succ, i64_w, i32_w]
        rfl
       refine take_ (i := 7) (N := some 55) (v := .int .i8 y) (a' := ?_) #[true, true, true, true, true, true, true, true, false, true, false, false, false, false] rfl rfl (by kernel_rfl) (fun _ _ _ h => h) (Or.inl ⟨by rfl, ?_⟩) hHeld ?_ ?_
       ·intro w' s0
        exact y_cell (by rfl) (by rfl) oneI8 (s0.read hca)
       rotate_left
       ·simp only [Act.put, List.setIfInBounds_toArray, List.set_cons_zero, List.set_cons_succ, i64_w, i32_w]
        rfl
       refine take_ (i := 8) (N := some 56) (v := .slice (some ad) m.length cm) (a' := ?_) #[true, true, true, true, true, true, true, true, true, true, false, false, false, false] rfl rfl (by kernel_rfl) (fun _ _ _ h => h) (Or.inl ⟨by rfl, ?_⟩) hHeld ?_ ?_
       ·intro w' s0
        exact y_cell (by rfl) (by rfl) oneMean (s0.read hcellr)
       rotate_left
       ·simp only [Act.put, List.setIfInBounds_toArray, List.set_cons_zero, List.set_cons_succ, i64_w, i32_w]
        rfl
       refine pure_ (i := 10) (N := some 58) (v := ?_) (a' := ?_) #[true, true, true, true, true, true, true, true, true, true, true, false, false, false] rfl rfl (by kernel_rfl) (fun _ _ _ h => h) (Or.inl ⟨by rfl, ?_⟩) ?_ ?_
       rotate_left
       ·intro w'
        go_simp
        with_reducible rfl
       rotate_left
       ·simp only [Act.put, List.setIfInBounds_toArray, List.set_cons_zero, List.set_cons_succ, i64_w, i32_w]
        rfl
       refine take_ (i := 11) (N := some 59) (v := .int .i8 x) (a' := ?_) #[true, true, true, true, true, true, true, true, true, true, true, true, false, false] rfl rfl (by kernel_rfl) (fun _ _ _ h => h) (Or.inl ⟨by rfl, ?_⟩) hHeld ?_ ?_
       ·intro w' s0
        exact y_cell (by rfl) (by rfl) oneI8 (s0.read hcxr)
       rotate_left
       ·simp only [Act.put, List.setIfInBounds_toArray, List.set_cons_zero, List.set_cons_succ, i64_w, i32_w]
        rfl
       refine pure_ (i := 12) (N := some 60) (v := ?_) (a' := ?_) #[true, true, true, true, true, true, true, true, true, true, true, true, true, false] rfl rfl (by kernel_rfl) (fun _ _ _ h => h) (Or.inl ⟨by rfl, ?_⟩) ?_ ?_
       rotate_left
       ·intro w'
        go_simp
        with_reducible rfl
       rotate_left
       ·simp only [Act.put, List.setIfInBounds_toArray, List.set_cons_zero, List.set_cons_succ, i64_w, i32_w]
        rfl
       refine pure_ (i := 13) (N := some 61) (v := ?_) (a' := ?_) #[true, true, true, true, true, true, true, true, true, true, true, true, true, true] rfl rfl (by kernel_rfl) (fun _ _ _ h => h) (Or.inl ⟨by rfl, ?_⟩) ?_ ?_
       rotate_left
       ·intro w'
        go_simp
        with_reducible rfl
       rotate_left
       ·simp only [Act.put, List.setIfInBounds_toArray, List.set_cons_zero, List.set_cons_succ, i64_w, i32_w]
        rfl
       refine done_ (by kernel_rfl) ?_
       skip
       have HOq := Aside0.mk (Kd.R_drew HO1.out)
       have HFq := Aside0.mk (HF1.out.trans hHeld)
       (try rw [hne.out])
       go_wp2_with fail
       go_roundw
       case rel => exact ⟨i + 1, xs, by omega, by rw [HNX.out], ⟨by rw [← HXS.out]; exact HX.out⟩, HOq, HFq⟩
       case measure => simp only [intOf]; exact HMS.out
     ·have HXS := Aside0.mk (show subsTo m h.length g (4 - i) = subsTo m h.length g (4 - (i + 1)) by rw [HSS.out, if_neg (by rw [HSO.out, decide_eq_false (fun e => hat e.1)]; simp)]; rfl)
      clear HSS HSO
      have hat1 := eq_false hat
      have hat2 := decide_eq_false hat
      go_wp2_with fail
      rw [HPE.out]
      refine start_ (n := 14) (S := fun w' => FrB [] wr w') (ds := []) #[false, false, false, false, false, false, false, false, false, false, false, false, false, false] (by kernel_rfl) rfl rfl (FrB.below (below_drew (Below.refl _ _))) (fun hHeld => ?_)
      refine pure_ (i := 0) (N := some 48) (v := ?_) (a' := ?_) #[true, false, false, false, false, false, false, false, false, false, false, false, false, false] rfl rfl (by kernel_rfl) (fun _ _ _ h => h) (Or.inl ⟨by rfl, ?_⟩) ?_ ?_
      rotate_left
      ·intro w'
       go_simp
       with_reducible rfl
      rotate_left
      ·simp only [Act.put, List.setIfInBounds_toArray, List.set_cons_zero, List.set_cons_succ, i64_w, i32_w]
       rfl
      refine pure_ (i := 1) (N := some 49) (v := ?_) (a' := ?_) #[true, true, false, false, false, false, false, false, false, false, false, false, false, false] rfl rfl (by kernel_rfl) (fun _ _ _ h => h) (Or.inl ⟨by rfl, ?_⟩) ?_ ?_
      rotate_left
      ·intro w'
       go_simp
       with_reducible rfl
      rotate_left
      ·simp only [Act.put, List.setIfInBounds_toArray, List.set_cons_zero, List.set_cons_succ, i64_w, i32_w]
       rfl
      refine pure_ (i := 2) (N := some 50) (v := ?_) (a' := ?_) #[true, true, true, false, false, false, false, false, false, false, false, false, false, false] rfl rfl (by kernel_rfl) (fun _ _ _ h => h) (Or.inl ⟨by rfl, ?_⟩) ?_ ?_
      rotate_left
      ·intro w'
       go_simp
       with_reducible rfl
      rotate_left
      ·simp only [Act.put, List.setIfInBounds_toArray, List.set_cons_zero, List.set_cons_succ, i64_w, i32_w]
       rfl
      refine pure_ (i := 3) (N := some 51) (v := ?_) (a' := ?_) #[true, true, true, true, false, false, false, false, false, false, false, false, false, false] rfl rfl (by kernel_rfl) (fun _ _ _ h => h) (Or.inl ⟨by rfl, ?_⟩) ?_ ?_
      rotate_left
      ·intro w'
       go_simp
       with_reducible rfl
      rotate_left
      ·simp only [Act.put, List.setIfInBounds_toArray, List.set_cons_zero, List.set_cons_succ, i64_w, i32_w]
       rfl
      refine pure_ (i := 4) (N := some 52) (v := undef) (a' := ?_) #[true, true, true, true, true, false, false, false, false, false, false, false, false, false] rfl rfl (by kernel_rfl) (fun _ _ _ h => h) (Or.inr ⟨by rfl, rfl⟩) ?_ ?_
      rotate_left
      ·simp only [Act.put, List.setIfInBounds_toArray, List.set_cons_zero, List.set_cons_succ, i64_w, i32_w]
       rfl
      refine pure_ (i := 5) (N := some 53) (v := undef) (a' := ?_) #[true, true, true, true, true, true, false, false, false, false, false, false, false, false] rfl rfl (by kernel_rfl) (fun _ _ _ h => h) (Or.inr ⟨by rfl, rfl⟩) ?_ ?_
      rotate_left
      ·simp only [Act.put, List.setIfInBounds_toArray, List.set_cons_zero, List.set_cons_succ, i64_w, i32_w]
       rfl
      refine pure_ (i := 6) (N := some 54) (v := undef) (a' := ?_) #[true, true, true, true, true, true, true, false, false, false, false, false, false, false] rfl rfl (by kernel_rfl) (fun _ _ _ h => h) (Or.inr ⟨by rfl, rfl⟩) ?_ ?_
      rotate_left
      ·simp only [Act.put, List.setIfInBounds_toArray, List.set_cons_zero, List.set_cons_succ, i64_w, i32_w]
       rfl
      refine pure_ (i := 7) (N := some 55) (v := undef) (a' := ?_) #[true, true, true, true, true, true, true, true, false, false, false, false, false, false] rfl rfl (by kernel_rfl) (fun _ _ _ h => h) (Or.inr ⟨by rfl, rfl⟩) ?_ ?_
      rotate_left
      ·simp only [Act.put, List.setIfInBounds_toArray, List.set_cons_zero, List.set_cons_succ, i64_w, i32_w]
       rfl
      refine pure_ (i := 8) (N := some 56) (v := undef) (a' := ?_) #[true, true, true, true, true, true, true, true, true, false, false, false, false, false] rfl rfl (by kernel_rfl) (fun _ _ _ h => h) (Or.inr ⟨by rfl, rfl⟩) ?_ ?_
      rotate_left
      ·simp only [Act.put, List.setIfInBounds_toArray, List.set_cons_zero, List.set_cons_succ, i64_w, i32_w]
       rfl
      refine pure_ (i := 9) (N := some 57) (v := undef) (a' := ?_) #[true, true, true, true, true, true, true, true, true, true, false, false, false, false] rfl rfl (by kernel_rfl) (fun _ _ _ h => h) (Or.inr ⟨by rfl, rfl⟩) ?_ ?_
      rotate_left
      ·simp only [Act.put, List.setIfInBounds_toArray, List.set_cons_zero, List.set_cons_succ, i64_w, i32_w]
       rfl
      refine pure_ (i := 10) (N := some 58) (v := undef) (a' := ?_) #[true, true, true, true, true, true, true, true, true, true, true, false, false, false] rfl rfl (by kernel_rfl) (fun _ _ _ h => h) (Or.inr ⟨by rfl, rfl⟩) ?_ ?_
      rotate_left
      ·simp only [Act.put, List.setIfInBounds_toArray, List.set_cons_zero, List.set_cons_succ, i64_w, i32_w]
       rfl
      refine pure_ (i := 11) (N := some 59) (v := undef) (a' := ?_) #[true, true, true, true, true, true, true, true, true, true, true, true, false, false] rfl rfl (by kernel_rfl) (fun _ _ _ h => h) (Or.inr ⟨by rfl, rfl⟩) ?_ ?_
      rotate_left
      ·simp only [Act.put, List.setIfInBounds_toArray, List.set_cons_zero, List.set_cons_succ, i64_w, i32_w]
       rfl
      refine pure_ (i := 12) (N := some 60) (v := undef) (a' := ?_) #[true, true, true, true, true, true, true, true, true, true, true, true, true, false] rfl rfl (by kernel_rfl) (fun _ _ _ h => h) (Or.inr ⟨by rfl, rfl⟩) ?_ ?_
      rotate_left
      ·simp only [Act.put, List.setIfInBounds_toArray, List.set_cons_zero, List.set_cons_succ, i64_w, i32_w]
       rfl
      refine pure_ (i := 13) (N := some 61) (v := ?_) (a' := ?_) #[true, true, true, true, true, true, true, true, true, true, true, true, true, true] rfl rfl (by kernel_rfl) (fun _ _ _ h => h) (Or.inl ⟨by rfl, ?_⟩) ?_ ?_
      rotate_left
      ·intro w'
       go_simp
       with_reducible rfl
      rotate_left
      ·simp only [Act.put, List.setIfInBounds_toArray, List.set_cons_zero, List.set_cons_succ, i64_w, i32_w]
       rfl
      refine done_ (by kernel_rfl) ?_
      skip
      have HOq := Aside0.mk (Kd.R_drew HO1.out)
      have HFq := Aside0.mk (HF1.out.trans hHeld)
      go_wp2_with fail
      go_roundw
      case rel => exact ⟨i + 1, xs, by omega, by rw [HNX.out], ⟨by rw [← HXS.out]; exact HX.out⟩, HOq, HFq⟩
      case measure => simp only [intOf]; exact HMS.out
    ·have hq : ¬ ((i : Int) - 4 < 0) := by omega
     have HXE := Aside0.mk (show xs = subsTo m h.length g 4 by
      have h1 := HX.out
      rw [show 4 - i = 0 by omega] at h1
      simpa [subsTo] using h1)
     have HLX := Aside0.mk (show xs.length ≤ 4 by rw [HXE.out]; exact subsTo_len m h.length g 4)
     go_wp2_with ((with_reducible refine gate_builtin (b := .append) (xs := #[.tmp 66, .tmp 71]) rfl ?_); (try (refine gate_guard (by rfl) ?_; dsimp only)); at_builtin; refine Kd.R_append (Kd.int .i8) (w0 := wr) w.heap.size rfl (.tmp 66) (.tmp 71) 27 64 (.int .i8 0) 1 rfl Try.underlying27 infoI8 rfl (by decide) (by omega) _ xs x [.int .i8 x] (fun _ => True) (fun _ => False) rfl rfl rfl (fun _ hk => hk.elim) (fun _ _ => trivial) HO1.out (Below.refl _ _) HF1.out.size (by have := HLX.out; omega) ?_; intro v2 w2 ho2 hb2 hg2 hat2; generalize hO : xs ++ [x] = O at ho2; have HOX := Aside0.mk hO; clear hO; obtain ⟨A2, c2, rfl⟩ := Kd.R_slice ho2; have HO2 := Aside0.mk ho2; have HF2 := Aside0.mk (HF1.out.grown hg2 (fun k hk => Kd.R_base HO1.out k hk)); clear ho2 hb2 hg2 hat2)
     have HOE := Aside0.mk (show opts m h.length g 4 = O by unfold opts; rw [hxv, ← HXE.out]; exact HOX.out)
     have hOl : O.length ≤ 5 := by have := HLX.out; rw [← HOX.out]; simp; omega
     clear HX HO1 HF1 HXE HLX HOX
     go_loopw [74, 14, 15] (fun v74 v14 v15 wr => ∃ (j : Nat) (s1 : σ), j ≤ O.length ∧ v74 = .int .i64 j ∧ Aside0 (runL step s (goes m (enough H) d h g (O.take j)) = (s1, true)) ∧ Aside0 (I s1 wr) ∧ Aside0 (FrB B w2 wr)) (fun v74 _ _ _ => O.length - (intOf v74).toNat)
     case atStart => exact ⟨0, s, by omega, rfl, ⟨rfl⟩, ⟨HST.out s w w2 HI.out (HF2.out.mono (by simp))⟩, ⟨FrB.refl B w2⟩⟩
     case round =>
      obtain ⟨j, s1, hj, rfl, HRj, HIj, HFj⟩ := hrel
      have HHj := Aside0.mk (HFj.out.row (HF2.out.row HH.out (by simp)) HGH.out)
      have HFw : Aside0 (FrB (gh :: B) wS wr) := ⟨(HF.out.trans (HF2.out.mono (by simp))).trans (HFj.out.mono (by simp +contextual))⟩
      by_cases hlt2 : j < O.length
      ·obtain ⟨ad2, rfl, hcn⟩ := Kd.at_int (Kd.R_reads' (own_later HO2.out HFj.out (fun b hb => Nat.lt_of_lt_of_le (HLT.out b (by simp [hb])) hSz))).2.2 (j : Int) (by omega) (by omega)
       rw [Int.toNat_natCast] at hcn
       have HTK := Aside0.mk (show O.take (j + 1) = O.take j ++ [rd O (j : Int)] by rw [rd_get O j hlt2, List.take_succ_eq_append_getElem hlt2])
       have HMEM := Aside0.mk (show rd O (j : Int) ∈ opts m h.length g 4 by rw [HOE.out, rd_get O j hlt2]; exact List.getElem_mem _)
       have hn := HON.out (rd O (j : Int)) (by rw [HOE.out, rd_get O j hlt2]; exact List.getElem_mem _)
       generalize rd O (j : Int) = n at *
       have hnn := hn.1
       have hnN := hn.2
       have hE := HEN.out n
       have HOF := Aside0.mk (fun W hW => of_calls gh Hc n W hW hHc44 hnN hnn)
       have HAD := Aside0.mk (fun W hW => add_calls gh Hc n (-1) W hW hHc44 hnN (fun j hj => by have := HPB.out j hj; omega) (by omega))
       have HAB := Aside0.mk (fun W hW => add_calls gh (bump Hc n (-1)) n 1 W hW (by rw [bump_length]; exact hHc44) hnN (fun j hj => by have := HPB.out j hj; rw [rd_bump _ _ _ j (by omega)]; split <;> omega) (by omega))
       have HBB := Aside0.mk (bump_back Hc n hHc44)
       generalize rd Hc (slot n : Nat) = y at *
       clear hn
       by_cases hy : y = 0
       ·have HSK := Aside0.mk (show enough H h n = false by rw [hE]; simp [hy])
        subst hy
        clear hE
        go_wp2_with (go_at_call 71; refine (HOF.out _ HHj.out).mono ?_; rintro e wa ⟨rfl, hwa⟩; obtain rfl := hwa.symm)
        go_roundw
        case rel => exact ⟨j + 1, s1, by omega, by go_num, ⟨by rw [HTK.out]; exact run_skip HRj.out HSK.out⟩, HIj, HFj⟩
        case measure => simp [intOf]; omega
       ·have HSK := Aside0.mk (show enough H h n = true by rw [hE]; simp [hy])
        have hy0 : (y == 0) = false := by simpa using hy
        clear hE
        go_wp2_with (first
         | (go_at_call 71; refine (HOF.out _ HHj.out).mono ?_; rintro e wa ⟨rfl, hwa⟩; obtain rfl := hwa.symm)
         | (go_at_call 58; refine (HAD.out _ HHj.out).mono ?_; rintro e wb ⟨rfl, hfa⟩; have HFA := Aside0.mk hfa; clear hfa))
        have HFb : Aside0 (FrB (gh :: B) wS wb) := ⟨HFw.out.trans (FrB.fr1 HFA.out (by simp))⟩
        have HCB := Aside0.mk ((FrB.fr1 (B := [gh]) HFA.out (by simp)).row ((HFj.out.mono (B' := gh :: B) (by simp +contextual)).row ((HF2.out.mono (B' := gh :: B) (by simp)).row HCC.out HGC.out) HGC.out) (by have := HGC.out; simp at this ⊢; exact this.1))
        have HOB := Aside0.mk (own_later HO.out (((HF2.out.mono (B' := gh :: B) (by simp)).trans (HFj.out.mono (by simp +contextual))).trans (FrB.fr1 HFA.out (by simp))) (fun b hb => HLT.out b hb))
        have HSB := Aside0.mk (HFb.out.size)
        have HIB := Aside0.mk (HST.out s1 wr wb HIj.out (FrB.fr1 HFA.out (by simp)))
        have HEND : Aside0 (∀ w5 w6 w7 : World, FrB [] wb w5 → FrB B w5 w6 → Fr1 gh (vals .i64 (bump (bump Hc n (-1)) n 1)) 71 w6 w7 → FrB B wr w7) := ⟨fun w5 w6 w7 h5 h6 h7 => by
         refine FrB.same (g := gh) ((((FrB.fr1 HFA.out (by simp)).trans (h5.mono (by simp))).trans (h6.mono (by simp +contextual))).trans (FrB.fr1 h7 (by simp))) ?_
         rw [h7.now, HBB.out, HHj.out]⟩
        have HADV := Aside0.mk (fun w5 w6 (h5 : FrB [] wb w5) (h6 : FrB B w5 w6) => HAB.out w6 (h6.row (h5.row HFA.out.now (by simp)) HGH.out))
        have HREC := Aside0.mk (fun v2 w5 (ho : Own wS.heap.size w5 v2 (h ++ [n])) (h5 : FrB [] wb w5) => HIH.out n v2 s1 w5 hnN (HQ.out n HSK.out HMEM.out) ho (HFb.out.trans (h5.mono (by simp))) (h5.row HFA.out.now (by simp)) (HST.out s1 wb w5 HIB.out (h5.mono (by simp))))
        clear HAB HIH HAD HOF HHj HBB hy0
        refine start_ (n := 9) (S := fun w' => FrB [] wb w') (ds := [7]) #[false, false, false, false, false, false, false, false, false] (by kernel_rfl) rfl rfl (FrB.below (below_drew (Below.refl _ _))) (fun hHeld => ?_)
        refine pure_ (i := 1) (N := some 84) (v := ?_) (a' := ?_) #[false, true, false, false, false, false, false, false, false] rfl rfl (by kernel_rfl) (fun _ _ _ h => h) (Or.inl ⟨by rfl, ?_⟩) ?_ ?_
        rotate_left
        ·intro w'
         go_simp
         with_reducible rfl
        rotate_left
        ·simp only [Act.put, List.setIfInBounds_toArray, List.set_cons_zero, List.set_cons_succ, i64_w, i32_w]
         rfl
        refine pure_ (i := 3) (N := some 86) (v := ?_) (a' := ?_) #[false, true, false, true, false, false, false, false, false] rfl rfl (by kernel_rfl) (fun _ _ _ h => h) (Or.inl ⟨by rfl, ?_⟩) ?_ ?_
        rotate_left
        ·intro w'
         go_simp
         with_reducible rfl
        rotate_left
        ·simp only [Act.put, List.setIfInBounds_toArray, List.set_cons_zero, List.set_cons_succ, i64_w, i32_w]
         rfl
        refine pure_ (i := 6) (N := some 89) (v := ?_) (a' := ?_) #[false, true, false, true, false, false, true, false, false] rfl rfl (by kernel_rfl) (fun _ _ _ h => h) (Or.inl ⟨by rfl, ?_⟩) ?_ ?_
        rotate_left
        ·intro w'
         go_simp
         with_reducible rfl
        rotate_left
        ·simp only [Act.put, List.setIfInBounds_toArray, List.set_cons_zero, List.set_cons_succ, i64_w, i32_w]
         rfl
        refine take_ (i := 0) (N := some 83) (v := .func (.func 69) #[] #[.pointer (some ⟨gm, 0, none⟩), .pointer (some ⟨ge, 0, none⟩), .pointer (some ⟨gc, 0, none⟩), .pointer (some ⟨gh, 0, none⟩)]) (a' := ?_) #[true, true, false, true, false, false, true, false, false] rfl rfl (by kernel_rfl) (fun _ _ _ h => h) (Or.inl ⟨by rfl, ?_⟩) hHeld ?_ ?_
        ·intro w' s0
         exact y_cell (by rfl) (by rfl) oneFn (cell1 (s0.row HCB.out (by simp)))
        rotate_left
        ·simp only [Act.put, List.setIfInBounds_toArray, List.set_cons_zero, List.set_cons_succ, i64_w, i32_w]
         rfl
        refine two_ (i := 2) (j := 4) (Ni := some 85) (Nj := some 87) #[true, true, true, true, false, false, true, false, false] #[true, true, false, true, true, false, true, false, false] rfl rfl rfl rfl (by kernel_rfl) (by decide) (by decide) (fun K hK => ?_) (fun K hK => ?_)
        ·skip
         refine goes_ Try.func70 (by kernel_rfl) rfl #[.slice A h.length c] (by rfl) rfl rfl (by simp only [List.map_toArray, List.map_cons, List.map_nil]; rfl) ?_
         refine (cloneH_calls A c h _ (Kd.R_reads' (own_later HOB.out hHeld (by simp))).2.2 hHc (by omega)).mono ?_
         rintro e w3 ⟨v1, rfl, HO1, hb1⟩
         refine ⟨_, rfl, ?_⟩
         (try replace hgb := (hb1.block _ (lt_of_some hgb)).trans hgb)
         replace HO1 := own_lower HO1 hHeld.size
         refine hK.out _ _ (hHeld.trans (FrB.below hb1)) (fun hHeld => ?_)
         clear hK K
         refine norm_ (a' := ?_) ?_ ?_
         rotate_left
         ·show Act.put _ (some 85) _ = _
          simp only [Act.put, List.setIfInBounds_toArray, List.set_cons_zero, List.set_cons_succ, i64_w, i32_w]
          rfl
         refine one_ (i := 4) (N := some 87) #[true, true, true, true, true, false, true, false, false] rfl rfl (by kernel_rfl) (by decide) (fun K hK => ?_)
         refine s_lit1 (z := n) (by rfl) rfl rfl rfl Try.underlying28 oneI8 zeroI8 ?_
         intro gb w4 hgb hfb
         (try replace HO1 := own_later HO1 hfb (by simp))
         refine hK.out _ _ (hHeld.trans hfb) (fun hHeld => ?_)
         clear hK K
         refine norm_ (a' := ?_) ?_ ?_
         rotate_left
         ·show Act.put _ (some 87) _ = _
          simp only [Act.put, List.setIfInBounds_toArray, List.set_cons_zero, List.set_cons_succ, i64_w, i32_w]
          rfl
         refine one_ (i := 5) (N := some 88) #[true, true, true, true, true, true, true, false, false] rfl rfl (by kernel_rfl) (by decide) (fun K hK => ?_)
         refine Kd.R_append_rows_step (Kd.int .i8) (w0 := _) wb.heap.size (by rfl) (.tmp 85) (.tmp 87) 28 64 (.int .i8 0) 1 rfl Try.underlying28 infoI8 rfl (by decide) (by omega) v1 h [n] (some ⟨gb, 0, none⟩) 1 1 (fun _ => True) (fun _ => False) rfl rfl HO1 (row1 hgb) (fun _ _ h => h) (fun _ h => h.elim) (fun _ _ => trivial) (Below.refl _ _) hHeld.size (by omega) ?_
         intro v3 w5 HO2 hb5 hg5 hat5
         refine hK.out _ _ (hHeld.grown hg5 (fun k hk => Kd.R_base HO1 k hk)) (fun hHeld => ?_)
         clear hK K
         refine norm_ (a' := ?_) ?_ ?_
         rotate_left
         ·show Act.put _ (some 88) _ = _
          simp only [Act.put, List.setIfInBounds_toArray, List.set_cons_zero, List.set_cons_succ, i64_w, i32_w]
          rfl
         refine last_ (i := 7) (N := some 90) #[true, true, true, true, true, true, true, true, false] rfl rfl (by kernel_rfl) (by decide) (fun K hK => ?_)
         refine callC_ 69 #[.pointer (some ⟨gm, 0, none⟩), .pointer (some ⟨ge, 0, none⟩), .pointer (some ⟨gc, 0, none⟩), .pointer (some ⟨gh, 0, none⟩)] #[v3, .int .i64 g] #[v3, .int .i64 g, .pointer (some ⟨gm, 0, none⟩), .pointer (some ⟨ge, 0, none⟩), .pointer (some ⟨gc, 0, none⟩), .pointer (some ⟨gh, 0, none⟩)] (by simp) (by rfl) rfl (by rfl) (by rfl) (by simp only [List.map_toArray, List.map_cons, List.map_nil]; rfl) (seek_enters _ _) ?_
         refine (HREC.out v3 _ (own_lower HO2 HSB.out) hHeld).mono ?_
         rintro e w6 ⟨s2, on, rfl, hrun, hI6, hf6⟩
         refine ⟨_, rfl, ?_⟩
         refine hK.out _ _ ?_
         clear hK K
         refine norm_ (a' := ?_) ?_ ?_
         rotate_left
         ·show Act.put _ (some 90) _ = _
          simp only [Act.put, List.setIfInBounds_toArray, List.set_cons_zero, List.set_cons_succ, i64_w, i32_w]
          rfl
         refine pure_ (i := 8) (N := some 15) (v := ?_) (a' := ?_) #[true, true, true, true, true, true, true, true, true] rfl rfl (by kernel_rfl) (fun _ _ _ h => h) (Or.inl ⟨by rfl, ?_⟩) ?_ ?_
         rotate_left
         ·intro w'
          go_simp
          with_reducible rfl
         rotate_left
         ·simp only [Act.put, List.setIfInBounds_toArray, List.set_cons_zero, List.set_cons_succ, i64_w, i32_w]
          rfl
         refine done_ (by kernel_rfl) ?_
         have HRUN := Aside0.mk hrun
         have HI6 := Aside0.mk hI6
         have HF6 := Aside0.mk hf6
         have HAV := Aside0.mk (HADV.out _ _ hHeld hf6)
         have HH5 := Aside0.mk hHeld
         clear hrun hI6 hf6 hHeld hb1 hb5 hg5 hat5
         cases on
         ·go_wp2_with (go_at_call 58; refine HAV.out.mono ?_; rintro e w7 ⟨rfl, hfb7⟩; have HFB := Aside0.mk hfb7; clear hfb7)
          go_ret
          have hfin : runL step s (goes m (enough H) d h g (opts m h.length g 4)) = (s2, false) := by rw [HOE.out, ← List.take_append_drop (j + 1) O]; exact run_end (by rw [HTK.out, run_more HRj.out HSK.out]; exact HRUN.out)
          have hfr := (HF2.out.mono (by simp)).trans (HFj.out.trans (HEND.out _ _ _ HH5.out HF6.out HFB.out))
          have hst := HST.out s2 _ _ HI6.out (FrB.fr1 (B := [gh]) HFB.out (by simp))
          first
           | exact ⟨s2, Or.inl ⟨rfl, hfin, hst, hfr⟩⟩
           | exact ⟨s2, false, rfl, hfin, hst, hfr⟩
         ·go_wp2_with (go_at_call 58; refine HAV.out.mono ?_; rintro e w7 ⟨rfl, hfb7⟩; have HFB := Aside0.mk hfb7; clear hfb7)
          go_roundw
          case rel => exact ⟨j + 1, s2, by omega, by go_num, ⟨by rw [HTK.out, run_more HRj.out HSK.out]; exact HRUN.out⟩, ⟨HST.out s2 _ _ HI6.out (FrB.fr1 (B := [gh]) HFB.out (by simp))⟩, ⟨HFj.out.trans (HEND.out _ _ _ HH5.out HF6.out HFB.out)⟩⟩
          case measure => simp [intOf]; omega
        ·skip
         refine s_lit1 (z := n) (by rfl) rfl rfl rfl Try.underlying28 oneI8 zeroI8 ?_
         intro gb w4 hgb hfb
         (try replace HO1 := own_later HO1 hfb (by simp))
         refine hK.out _ _ (hHeld.trans hfb) (fun hHeld => ?_)
         clear hK K
         refine norm_ (a' := ?_) ?_ ?_
         rotate_left
         ·show Act.put _ (some 87) _ = _
          simp only [Act.put, List.setIfInBounds_toArray, List.set_cons_zero, List.set_cons_succ, i64_w, i32_w]
          rfl
         refine one_ (i := 2) (N := some 85) #[true, true, true, true, true, false, true, false, false] rfl rfl (by kernel_rfl) (by decide) (fun K hK => ?_)
         refine goes_ Try.func70 (by kernel_rfl) rfl #[.slice A h.length c] (by rfl) rfl rfl (by simp only [List.map_toArray, List.map_cons, List.map_nil]; rfl) ?_
         refine (cloneH_calls A c h _ (Kd.R_reads' (own_later HOB.out hHeld (by simp))).2.2 hHc (by omega)).mono ?_
         rintro e w3 ⟨v1, rfl, HO1, hb1⟩
         refine ⟨_, rfl, ?_⟩
         (try replace hgb := (hb1.block _ (lt_of_some hgb)).trans hgb)
         replace HO1 := own_lower HO1 hHeld.size
         refine hK.out _ _ (hHeld.trans (FrB.below hb1)) (fun hHeld => ?_)
         clear hK K
         refine norm_ (a' := ?_) ?_ ?_
         rotate_left
         ·show Act.put _ (some 85) _ = _
          simp only [Act.put, List.setIfInBounds_toArray, List.set_cons_zero, List.set_cons_succ, i64_w, i32_w]
          rfl
         refine one_ (i := 5) (N := some 88) #[true, true, true, true, true, true, true, false, false] rfl rfl (by kernel_rfl) (by decide) (fun K hK => ?_)
         refine Kd.R_append_rows_step (Kd.int .i8) (w0 := _) wb.heap.size (by rfl) (.tmp 85) (.tmp 87) 28 64 (.int .i8 0) 1 rfl Try.underlying28 infoI8 rfl (by decide) (by omega) v1 h [n] (some ⟨gb, 0, none⟩) 1 1 (fun _ => True) (fun _ => False) rfl rfl HO1 (row1 hgb) (fun _ _ h => h) (fun _ h => h.elim) (fun _ _ => trivial) (Below.refl _ _) hHeld.size (by omega) ?_
         intro v3 w5 HO2 hb5 hg5 hat5
         refine hK.out _ _ (hHeld.grown hg5 (fun k hk => Kd.R_base HO1 k hk)) (fun hHeld => ?_)
         clear hK K
         refine norm_ (a' := ?_) ?_ ?_
         rotate_left
         ·show Act.put _ (some 88) _ = _
          simp only [Act.put, List.setIfInBounds_toArray, List.set_cons_zero, List.set_cons_succ, i64_w, i32_w]
          rfl
         refine last_ (i := 7) (N := some 90) #[true, true, true, true, true, true, true, true, false] rfl rfl (by kernel_rfl) (by decide) (fun K hK => ?_)
         refine callC_ 69 #[.pointer (some ⟨gm, 0, none⟩), .pointer (some ⟨ge, 0, none⟩), .pointer (some ⟨gc, 0, none⟩), .pointer (some ⟨gh, 0, none⟩)] #[v3, .int .i64 g] #[v3, .int .i64 g, .pointer (some ⟨gm, 0, none⟩), .pointer (some ⟨ge, 0, none⟩), .pointer (some ⟨gc, 0, none⟩), .pointer (some ⟨gh, 0, none⟩)] (by simp) (by rfl) rfl (by rfl) (by rfl) (by simp only [List.map_toArray, List.map_cons, List.map_nil]; rfl) (seek_enters _ _) ?_
         refine (HREC.out v3 _ (own_lower HO2 HSB.out) hHeld).mono ?_
         rintro e w6 ⟨s2, on, rfl, hrun, hI6, hf6⟩
         refine ⟨_, rfl, ?_⟩
         refine hK.out _ _ ?_
         clear hK K
         refine norm_ (a' := ?_) ?_ ?_
         rotate_left
         ·show Act.put _ (some 90) _ = _
          simp only [Act.put, List.setIfInBounds_toArray, List.set_cons_zero, List.set_cons_succ, i64_w, i32_w]
          rfl
         refine pure_ (i := 8) (N := some 15) (v := ?_) (a' := ?_) #[true, true, true, true, true, true, true, true, true] rfl rfl (by kernel_rfl) (fun _ _ _ h => h) (Or.inl ⟨by rfl, ?_⟩) ?_ ?_
         rotate_left
         ·intro w'
          go_simp
          with_reducible rfl
         rotate_left
         ·simp only [Act.put, List.setIfInBounds_toArray, List.set_cons_zero, List.set_cons_succ, i64_w, i32_w]
          rfl
         refine done_ (by kernel_rfl) ?_
         have HRUN := Aside0.mk hrun
         have HI6 := Aside0.mk hI6
         have HF6 := Aside0.mk hf6
         have HAV := Aside0.mk (HADV.out _ _ hHeld hf6)
         have HH5 := Aside0.mk hHeld
         clear hrun hI6 hf6 hHeld hb1 hb5 hg5 hat5
         cases on
         ·go_wp2_with (go_at_call 58; refine HAV.out.mono ?_; rintro e w7 ⟨rfl, hfb7⟩; have HFB := Aside0.mk hfb7; clear hfb7)
          go_ret
          have hfin : runL step s (goes m (enough H) d h g (opts m h.length g 4)) = (s2, false) := by rw [HOE.out, ← List.take_append_drop (j + 1) O]; exact run_end (by rw [HTK.out, run_more HRj.out HSK.out]; exact HRUN.out)
          have hfr := (HF2.out.mono (by simp)).trans (HFj.out.trans (HEND.out _ _ _ HH5.out HF6.out HFB.out))
          have hst := HST.out s2 _ _ HI6.out (FrB.fr1 (B := [gh]) HFB.out (by simp))
          first
           | exact ⟨s2, Or.inl ⟨rfl, hfin, hst, hfr⟩⟩
           | exact ⟨s2, false, rfl, hfin, hst, hfr⟩
         ·go_wp2_with (go_at_call 58; refine HAV.out.mono ?_; rintro e w7 ⟨rfl, hfb7⟩; have HFB := Aside0.mk hfb7; clear hfb7)
          go_roundw
          case rel => exact ⟨j + 1, s2, by omega, by go_num, ⟨by rw [HTK.out, run_more HRj.out HSK.out]; exact HRUN.out⟩, ⟨HST.out s2 _ _ HI6.out (FrB.fr1 (B := [gh]) HFB.out (by simp))⟩, ⟨HFj.out.trans (HEND.out _ _ _ HH5.out HF6.out HFB.out)⟩⟩
          case measure => simp [intOf]; omega
      ·have HJ := Aside0.mk (show O.take j = O by rw [List.take_of_length_le (by omega)])
       have hjn : ¬ ((j : Int) < (O.length : Int)) := by omega
       go_wp2_with fail
       go_ret
       have hfin : runL step s (goes m (enough H) d h g (opts m h.length g 4)) = (s1, true) := by rw [HOE.out, ← HJ.out]; exact HRj.out
       first
        | exact ⟨s1, Or.inr ⟨rfl, hfin, HIj.out, (HF2.out.mono (by simp)).trans HFj.out⟩⟩
        | exact ⟨s1, true, rfl, hfin, HIj.out, (HF2.out.mono (by simp)).trans HFj.out⟩
end
end Go.Proofs.Ytfgogdhhihbcjaa.Arr
namespace Go.Proofs.Ytfgogdhhihbcjaa.Arr
open Go.RowKit Go.Proofs.YtfgogdhhihbcjaaW.PrintWords Go.Proofs.YtfgogdhhihbcjaaW.PrintLast Go.Proofs.YtfgogdhhihbcjaaW.PrintMore Go.Proofs.Ytfgogdhhihbcjaa.U Go.Proofs.Ytfgogdhhihbcjaa.H
set_option linter.unusedVariables false
set_option linter.unusedSimpArgs false
theorem flat_le {f : Int → List (List Int)} {b : Nat} (hf : ∀ n, (f n).length ≤ b) : ∀ l : List Int, (l.flatMap f).length ≤ l.length * b
 | [] => by simp
 | a :: l => by
  rw [List.flatMap_cons, List.length_append, List.length_cons, Nat.add_mul, Nat.one_mul]
  have := flat_le hf l
  have := hf a
  omega
theorem leaves_le (m : List Int) (top : Nat) (ht : top ≤ 4) (ok : List Int → Int → Bool) : ∀ (d : Nat) (h : List Int) (g : Int), (leaves m top ok d h g).length ≤ 5 ^ d
 | 0, h, g => by simp [leaves]
 | d + 1, h, g => by
  have h5 : 5 ^ (d + 1) = 5 ^ d * 5 := Nat.pow_succ ..
  rw [leaves]
  split
  ·have := leaves_le m top ht ok d (h ++ [-10]) ((h.length : Int) + 1)
   omega
  ·have h1 := flat_le (f := fun n => if ok h n = true then leaves m top ok d (h ++ [n]) g else []) (b := 5 ^ d) (fun n => by
    split
    ·exact leaves_le m top ht ok d _ _
    ·simp) (opts m h.length g top)
   have h2 : (opts m h.length g top).length ≤ 5 := by
    unfold opts
    have := subsTo_len m h.length g top
    simp; omega
   have h3 := Nat.mul_le_mul_right (5 ^ d) h2
   omega
theorem leaves_len (m : List Int) (top : Nat) (ok : List Int → Int → Bool) : ∀ (d : Nat) (h : List Int) (g : Int), ∀ x ∈ leaves m top ok d h g, x.length = h.length + d
 | 0, h, g, x, hx => by
  rw [leaves, List.mem_singleton] at hx
  rw [hx]
  rfl
 | d + 1, h, g, x, hx => by
  rw [leaves] at hx
  split at hx
  ·have := leaves_len m top ok d _ _ x hx
   rw [this]
   simp
   omega
  ·obtain ⟨n, _, hn⟩ := List.mem_flatMap.1 hx
   split at hn
   ·have := leaves_len m top ok d _ _ x hn
    rw [this]
    simp
    omega
   ·cases hn
abbrev kH : Kd (List Int) := Kd.slice 64 (Kd.int .i8)
structure LS (w0 : World) (v : Value) (out : List (List Int)) (W : World) : Prop where
 bel : Below w0.heap.size w0 W
 own : Kd.S kH 28 W w0.heap.size (fun _ => True) v out
theorem LS.fr {w0 W W' : World} {v : Value} {out : List (List Int)} (h : LS w0 v out W) (hf : FrB [] W W') : LS w0 v out W' :=
 ⟨h.bel.trans (hf.to_below.mono h.bel.size), Kd.S_below h.own hf.to_below⟩
structure Gr (W W' : World) (v v' : Value) : Prop where
 grown : W.grownBy W' v.ownBlock
 at_ : v'.ownBlock = v.ownBlock ∨ ∃ b, v'.ownBlock = some b ∧ W.heap.size ≤ b
theorem Gr.of {W W' : World} {v : Value} (hf : FrB [] W W') : Gr W W' v v := ⟨⟨hf.os, hf.tape, hf.output, hf.size, fun k hk _ => hf.other k hk (by simp)⟩, .inl rfl⟩
theorem Gr.trans {W W1 W2 : World} {v v1 v2 : Value} (h : Gr W W1 v v1) (h2 : Gr W1 W2 v1 v2) : Gr W W2 v v2 := by
 refine ⟨⟨h2.grown.os.trans h.grown.os, h2.grown.tape.trans h.grown.tape, h2.grown.output.trans h.grown.output, Nat.le_trans h.grown.size h2.grown.size, fun k hk hn => (h2.grown.block k (Nat.lt_of_lt_of_le hk h.grown.size) (fun e => ?_)).trans (h.grown.block k hk hn)⟩, ?_⟩
 ·rcases h.at_ with ha | ⟨b, hb, hle⟩
  ·exact hn (e.trans ha)
  ·rw [hb] at e
   injection e with e
   omega
 ·rcases h2.at_ with h3 | ⟨b, hb, hle⟩
  ·rw [h3]
   exact h.at_
  ·exact .inr ⟨b, hb, Nat.le_trans h.grown.size hle⟩
theorem Gr.fr {W W1 W2 : World} {v v1 : Value} (h : Gr W W1 v v1) (hf : FrB [] W1 W2) : Gr W W2 v v1 := h.trans (Gr.of hf)
theorem Gr.blk {w0 W W' : World} {v v' : Value} {out : List (List Int)} (h : Gr W W' v v') (hs : LS w0 v out W) {g t : Nat} {cs : Array Value} (hg : W.heap[g]? = some (.cells cs t (0, 0))) (ht : 28 ≠ t) : W'.heap[g]? = some (.cells cs t (0, 0)) :=
 (h.grown.block g (lt_of_some hg) (Kd.S_ne hs.own hg ht)).trans hg
theorem Gr.own {w0 W W' : World} {v v' : Value} {out : List (List Int)} (h : Gr W W' v v') (hs : LS w0 v out W) {b : Nat} {u : Value} {x : List Int} (ho : Own b W u x) : Own b W' u x :=
 Kd.R_over' ho (fun k hk => Kd.S_typed hs.own k hk) (fun q hq => by simp [Kd.int, Kd.scalar] at hq; subst hq; decide) h.grown
section
variable {P : Program} {o : Oper} {a : Act} {w : World}
theorem y_rowA {ty : TypeId} {x : Operand} (ho : o.op = .load ty x) {g : Nat} (hx : a.eval x = .pointer (some ⟨g, 0, none⟩)) {cs : Array Value} {t m : Nat} (hb : w.heap[g]? = some (.cells cs t (0, 0))) (hi2 : AggTy P ty m) (hl : cs.size = m) : (execOp a.eval o).run P w = .ok (.value (.agg cs)) w := by
 obtain ⟨hd, hi0⟩ := hi2
 have hi : (P.info? ty).map (·.size) = some cs.size := by rw [hl]; exact hi0
 cases hu : P.underlying ty with
 | none => simp [hu] at hd
 | some d =>
  have h := run_loadVar_row (P := P) w g t ty cs (0, 0) d hb hu (by cases d <;> simp_all) hi
  unfold execOp
  simp only [ho, hx, Instr.loadAt, Instr.sureAddr, Sem.run_bind, Sem.run_pure, Result.andThen_ok, h]
end
theorem s_lit2 {P : Program} {o : Oper} {a : Act} {w : World} {ops : Array Oper} {N : Option Tmp} {K : Act → World → Prop} {Q : Exit → Act → World → Prop} {t e : TypeId} {x : Operand} {k : IntKind} {z : Int} (hw : Region.wanted o (yielded ops a.tmps) = true) (hN : o.dst = N) (ho : o.op = .buildSlice t 1 #[(0, x)]) (hx : a.eval x = .int k z) (hu : P.underlying t = some (.slice e)) (he : OneTy P e) (hz : ZeroTy P e (vals k [0]))
  (h : ∀ g w1, w1.heap[g]? = some (.cells (vals k [z]) e (0, 0)) → w.heap.size ≤ g → FrB [] w w1 → K (a.put N (.slice (some ⟨g, 0, none⟩) 1 1)) w1) : if Region.wanted o (yielded ops a.tmps) = true then Oper.wp P o a w K Q else K (a.put N undef) w :=
 value_ hw hN (run_lit1 ho hx hu he hz) (h _ _ (Go.heap_alloc_new w _) (Nat.le_refl _) ((FrB.refl [] w).alloc _))
theorem infoH : (Try.prog.info? 28).map (fun i => (i.zero, i.size, i.bytes)) = some (some (.slice none 0 0), 1, 24) := by kernel_rfl
theorem aggLk : AggTy Try.prog 31 44 := ⟨by kernel_rfl, by kernel_rfl⟩
end Go.Proofs.Ytfgogdhhihbcjaa.Arr
namespace Go.Proofs.Ytfgogdhhihbcjaa.Arr
open Go.RowKit Go.Proofs.YtfgogdhhihbcjaaW.PrintWords Go.Proofs.YtfgogdhhihbcjaaW.PrintLast Go.Proofs.YtfgogdhhihbcjaaW.PrintMore Go.Proofs.Ytfgogdhhihbcjaa.U Go.Proofs.Ytfgogdhhihbcjaa.H
set_option linter.unusedVariables false
set_option linter.unusedSimpArgs false
section
variable {w0 : World} {Am : Option Addr} {cm : Nat} {m L0 : List Int}
set_option maxHeartbeats 8000000 in
set_option maxRecDepth 100000 in
theorem look_calls (hM : Kd.C (Kd.int .i8) w0 Am m.length m) (hm : ∀ x ∈ m, PlainN x) (hml : m.length ≤ 1000) (hL0 : L0.length = 44) :
  ∀ (d : Nat) (h : List Int) (g : Nat) (A : Option Addr) (c : Nat) (v : Value) (out : List (List Int)) (Lc : List Int) (w : World), h.length + d = m.length → g ≤ h.length → LS w0 v out w → Own w0.heap.size w (.slice A h.length c) h → pile L0 h (-1) h.length = Lc → (∀ j : Nat, j < 44 → 0 ≤ rd Lc (j : Int) ∧ rd Lc (j : Int) ≤ 20000) → out.length + 2 * 5 ^ d ≤ 1000000000000 →
  Calls Try.prog 49 #[v, .agg (vals .i16 Lc), .slice Am m.length cm, .slice A h.length c, .int .i64 (g : Int)] w fun e w' =>
   ∃ v', e = .returned v' ∧ LS w0 v' (out ++ leaves m 4 (enough L0) d h (g : Int)) w' ∧ Gr w w' v v' := by
 intro d
 induction d with
 | zero =>
  intro h g A c v out Lc w hd hg hS ho hLc hLb hbd
  have hxl : Lc.length = 44 := by rw [← hLc, pile_length]; exact hL0
  have hbq : ((h.length : Int) == (m.length : Int)) = true := by rw [beq_iff_eq]; omega
  have hhl : h.length ≤ 1000 := by omega
  have HS := Aside0.mk hS
  have HOH := Aside0.mk ho
  have HBD := Aside0.mk hbd
  have hm0 := Mem.start w
  rw [show leaves m 4 (enough L0) 0 h (g : Int) = [h] from rfl]
  clear hM hm hml hL0 hd hg hS ho hLc hLb hbd
  go_enter Try.func49, Try.ntmps49
  go_wp2_with (first
   | ((with_reducible refine gt_box 6 31 ?_); refine st_box rfl 6 rfl 31 _ rfl hm0 (v := .agg (vals _ _)) rfl (cs := vals _ _) rfl ?_; clear hm0; intro g6 w6 hm6; have HF6 := Aside0.mk (FrB.below (B := []) (hm6.done rfl)); clear hm6)
   | ((with_reducible refine gate_dst (N := 22) rfl ?_); refine Kd.R_lit (Kd.int .i8) _ 64 ?hg (N := 22) ?hd (xs := ([] : List Int)) (inner := []) (ok := fun _ => True) (okp := fun _ => True) ?hr ?hp (fun _ hk => hk) trivial (Below.refl _ _) (Nat.le_refl _) (by simp) ?_; (case hd => rfl); (case hg => rfl); (case hr => first | (go_simp; done) | (go_simp; rfl)); (case hp => exact (Reps.none _ _)); intro v1 w1 ho1 hb1 _ _; have HO1 := Aside0.mk ho1; have HF1 := Aside0.mk (FrB.below (B := []) hb1); clear ho1 hb1)
   | ((with_reducible refine gate_builtin (b := .append) (xs := #[.tmp 22, .tmp 23]) rfl ?_); at_builtin; refine Kd.R_append_rows (Kd.int .i8) (w0 := w1) _ rfl (.tmp 22) (.tmp 23) 28 64 (.int .i8 0) 1 rfl Try.underlying28 infoI8 rfl (by decide) (by omega) v1 [] h A h.length c (fun _ => True) (fun _ => False) rfl rfl HO1.out (Kd.R_reads' (own_later HOH.out (HF6.out.trans HF1.out) (by simp))).2.2 (fun _ _ h => h) (fun _ h => h.elim) (fun _ _ => trivial) (Below.refl _ _) HF1.out.size (by simp; omega) ?_; intro v2 w2 ho2 hb2 hg2 hat2; obtain ⟨A2, c2, rfl⟩ := Kd.R_slice ho2; have HO2 := Aside0.mk ho2; have HF2 := Aside0.mk (HF1.out.grown hg2 (fun k hk => Kd.R_base HO1.out k hk)); clear ho2 hb2 hg2 hat2; have HS2 := Aside0.mk (HS.out.fr (HF6.out.trans HF2.out)))
   | ((with_reducible refine gate_builtin (b := .append) (xs := #[.tmp 21, .tmp 25]) rfl ?_); at_builtin; refine Kd.S_append kH (w0 := w0) w0.heap.size rfl (.tmp 21) (.tmp 25) 52 28 (.slice none 0 0) 24 rfl Try.underlying52 infoH rfl (by decide) (by omega) v out h [.slice A2 h.length c2] (fun _ => True) (fun k => w6.heap.size ≤ k) rfl rfl ⟨_, rfl, Kd.R_mono (Kd.R_lower (Kd.R_bound HO2.out) (Nat.le_trans HS.out.bel.size HF6.out.size)) (fun k hk => hk.2.1)⟩ (fun k hk => ⟨trivial, fun e => by have := Kd.S_lt (HS.out.fr HF6.out).own k e.symm; omega⟩) (fun _ _ => trivial) (Kd.S_mono (Kd.S_old (HS.out.fr HF6.out).own HF2.out.to_below) (fun k hk => ⟨trivial, by omega⟩)) HS2.out.bel HS2.out.bel.size (by have := HBD.out; omega) ?_; intro v3 w3 hs3 hb3 hg3 hat3; have HE := Aside0.mk (And.intro (LS.mk hb3 hs3) (Gr.trans (Gr.of (v := v) (HF6.out.trans HF2.out)) ⟨hg3, hat3⟩)); clear hs3 hb3 hg3 hat3))
  go_ret
  exact ⟨_, rfl, HE.out.1, HE.out.2⟩
 | succ d ih =>
  intro h g A c v out Lc w hd hg hS ho hLc hLb hbd
  have hxl : Lc.length = 44 := by rw [← hLc, pile_length]; exact hL0
  have hlm : h.length < m.length := by omega
  have hhl : h.length ≤ 1000 := by omega
  have hbq : ((h.length : Int) == (m.length : Int)) = false := by rw [beq_eq_false_iff_ne]; omega
  have hC0 := Kd.C_below hM hS.bel
  obtain ⟨ad, rfl, hcx⟩ := Kd.at_int hC0 (h.length : Int) (by omega) (by omega)
  rw [Int.toNat_natCast] at hcx
  have HCX := Aside0.mk (fun W (hW : FrB [] w W) => hW.read hcx)
  have hx := hm _ (by rw [rd_get m h.length hlm]; exact List.getElem_mem _ : rd m (h.length : Int) ∈ m)
  have HS := Aside0.mk hS
  have HXL := Aside0.mk hxl
  have hm0 := Mem.start w
  by_cases hb : rd m (h.length : Int) = -10
  ·rw [leaves_stop m (enough L0) d h (g : Int) hb]
   have HREC : Aside0 (∀ (st : Int) (v3 : Value) (w3 : World), st = (h.length : Int) + 1 → Own w.heap.size w3 v3 (h ++ [-10]) → FrB [] w w3 → Calls Try.prog 49 #[v, .agg (vals .i16 Lc), .slice (some ad) m.length cm, v3, .int .i64 st] w3 fun e w' => ∃ v', e = .returned v' ∧ LS w0 v' (out ++ leaves m 4 (enough L0) d (h ++ [-10]) ((h.length : Int) + 1)) w' ∧ Gr w3 w' v v') := ⟨fun st v3 w3 hst ho3 hf3 => by
    subst hst
    obtain ⟨A3, c3, rfl⟩ := Kd.R_slice ho3
    exact ih (h ++ [-10]) (h.length + 1) A3 c3 v out Lc w3 (by simp; omega) (by simp) (hS.fr hf3) (own_lower ho3 hS.bel.size) (by rw [pile_snoc, bump, if_pos rfl]; exact hLc) hLb (by have h5 : 5 ^ (d + 1) = 5 ^ d * 5 := Nat.pow_succ ..; omega)⟩
   have hsw : wrap64 ((h.length : Int) + 1) = (h.length : Int) + 1 := w64 (by omega) (by omega)
   have HCB := Aside0.mk (fun W (hW : FrB [] w W) => (show W.cell? (ad.add h.length) = some (.int .i8 (-10)) by rw [← hb]; exact HCX.out W hW))
   have HOW := Aside0.mk ho
   clear hM hm hml hL0 hd hg hS ho hLc hLb hbd ih hcx HCX hx hC0
   go_enter Try.func49, Try.ntmps49
   go_wp2_with (first
    | ((with_reducible refine gt_box 6 31 ?_); refine st_box rfl 6 rfl 31 _ rfl hm0 (v := .agg (vals _ _)) rfl (cs := vals _ _) rfl ?_; clear hm0; intro g6 w6 hm6; have HF6 := Aside0.mk (FrB.below (B := []) (hm6.done rfl)); have HGX := Aside0.mk (hm6.mem (n := 0) rfl); clear hm6; have hcx := HCB.out w6 HF6.out; have HOH := Aside0.mk (own_later HOW.out HF6.out (by simp))))
   have HREC6 := Aside0.mk (fun v3 w3 (ho3 : Own w6.heap.size w3 v3 (h ++ [-10])) (hf3 : FrB [] w6 w3) => HREC.out (wrap64 ((h.length : Int) + 1)) v3 w3 hsw (own_lower ho3 HF6.out.size) (HF6.out.trans hf3))
   refine start_ (n := 12) (S := fun w' => FrB [] w6 w') (ds := [10]) #[false, false, false, false, false, false, false, false, false, false, false, false] (by kernel_rfl) rfl rfl (FrB.below (below_drew (Below.refl _ _))) (fun hHeld => ?_)
   refine pure_ (i := 0) (N := some 32) (v := ?_) (a' := ?_) #[true, false, false, false, false, false, false, false, false, false, false, false] rfl rfl (by kernel_rfl) (fun _ _ _ h => h) (Or.inl ⟨by rfl, ?_⟩) ?_ ?_
   rotate_left
   ·intro w'
    go_simp
    with_reducible rfl
   rotate_left
   ·simp only [Act.put, List.setIfInBounds_toArray, List.set_cons_zero, List.set_cons_succ, i64_w, i32_w]
    rfl
   refine pure_ (i := 2) (N := some 34) (v := ?_) (a' := ?_) #[true, false, true, false, false, false, false, false, false, false, false, false] rfl rfl (by kernel_rfl) (fun _ _ _ h => h) (Or.inl ⟨by rfl, ?_⟩) ?_ ?_
   rotate_left
   ·intro w'
    go_simp
    with_reducible rfl
   rotate_left
   ·simp only [Act.put, List.setIfInBounds_toArray, List.set_cons_zero, List.set_cons_succ, i64_w, i32_w]
    rfl
   refine pure_ (i := 4) (N := some 36) (v := ?_) (a' := ?_) #[true, false, true, false, true, false, false, false, false, false, false, false] rfl rfl (by kernel_rfl) (fun _ _ _ h => h) (Or.inl ⟨by rfl, ?_⟩) ?_ ?_
   rotate_left
   ·intro w'
    go_simp
    with_reducible rfl
   rotate_left
   ·simp only [Act.put, List.setIfInBounds_toArray, List.set_cons_zero, List.set_cons_succ, i64_w, i32_w]
    rfl
   refine pure_ (i := 8) (N := some 40) (v := ?_) (a' := ?_) #[true, false, true, false, true, false, false, false, true, false, false, false] rfl rfl (by kernel_rfl) (fun _ _ _ h => h) (Or.inl ⟨by rfl, ?_⟩) ?_ ?_
   rotate_left
   ·intro w'
    go_simp
    with_reducible rfl
   rotate_left
   ·simp only [Act.put, List.setIfInBounds_toArray, List.set_cons_zero, List.set_cons_succ, i64_w, i32_w]
    rfl
   refine pure_ (i := 9) (N := some 41) (v := ?_) (a' := ?_) #[true, false, true, false, true, false, false, false, true, true, false, false] rfl rfl (by kernel_rfl) (fun _ _ _ h => h) (Or.inl ⟨by rfl, ?_⟩) ?_ ?_
   rotate_left
   ·intro w'
    go_simp
    with_reducible rfl
   rotate_left
   ·simp only [Act.put, List.setIfInBounds_toArray, List.set_cons_zero, List.set_cons_succ, i64_w, i32_w]
    rfl
   refine take_ (i := 1) (N := some 33) (v := .agg (vals .i16 Lc)) (a' := ?_) #[true, true, true, false, true, false, false, false, true, true, false, false] rfl rfl (by kernel_rfl) (fun _ _ _ h => h) (Or.inl ⟨by rfl, ?_⟩) hHeld ?_ ?_
   ·intro w' s0
    exact y_rowA (by rfl) (by rfl) (s0.row HGX.out (by simp)) aggLk (by rw [vals_size]; exact HXL.out)
   rotate_left
   ·simp only [Act.put, List.setIfInBounds_toArray, List.set_cons_zero, List.set_cons_succ, i64_w, i32_w]
    rfl
   refine join_ (σ := Value × Value × Nat) 3 #[true, true, true, true, true, true, true, false, true, true, false, false] (fun s => [(35, s.1), (37, s.2.1), (38, .slice (some ⟨s.2.2, 0, none⟩) 1 1)]) (fun s w' => FrB [] w6 w' ∧ Own w6.heap.size w' s.2.1 h ∧ w'.heap[s.2.2]? = some (.cells (vals .i8 [(-10)]) 64 (0, 0))) ?_ ?_
   rotate_left
   ·intro hJ
    refine two_ (i := 3) (j := 6) (Ni := some 35) (Nj := some 38) #[true, true, true, true, true, false, false, false, true, true, false, false] #[true, true, true, false, true, false, true, false, true, true, false, false] rfl rfl rfl rfl (by kernel_rfl) (by decide) (by decide) (fun K hK => ?_) (fun K hK => ?_)
    ·skip
     refine Kd.R_lit_step (Kd.int .i8) (w0 := w6) w6.heap.size 64 (by rfl) (N := 35) rfl (xs := []) (inner := []) (ok := fun _ => True) (okp := fun _ => True) (by first | (go_simp; done) | (go_simp; rfl)) (Reps.none _ _) (fun _ h => h) trivial hHeld.to_below hHeld.size (by simp) ?_
     intro v1 w1 ho1 hb1 hg1 hat1
     have HO1 := Aside0.mk ho1
     (try have HNE := Aside0.mk (show some gb ≠ v1.ownBlock from fun e => by obtain ⟨b, hb, hle⟩ := hat1; rw [hb] at e; injection e with e; have := lt_of_some HGB.out; omega))
     (try replace HGB := Aside0.mk ((hg1.block _ (lt_of_some HGB.out) (by simp)).trans HGB.out))
     clear ho1 hg1 hat1
     refine hK.out _ _ (FrB.below hb1) (fun hHeld => ?_)
     clear hK K
     refine norm_ (a' := ?_) ?_ ?_
     rotate_left
     ·show Act.put _ (some 35) _ = _
      simp only [Act.put, List.setIfInBounds_toArray, List.set_cons_zero, List.set_cons_succ, i64_w, i32_w]
      rfl
     refine two_ (i := 5) (j := 6) (Ni := some 37) (Nj := some 38) #[true, true, true, true, true, true, false, false, true, true, false, false] #[true, true, true, true, true, false, true, false, true, true, false, false] rfl rfl rfl rfl (by kernel_rfl) (by decide) (by decide) (fun K hK => ?_) (fun K hK => ?_)
     ·skip
      refine Kd.R_append_rows_step (Kd.int .i8) (w0 := w6) w6.heap.size (by rfl) (.tmp 35) (.tmp 36) 28 64 (.int .i8 0) 1 rfl Try.underlying28 infoI8 rfl (by decide) (by omega) v1 [] h A h.length c (fun _ => True) (fun _ => False) rfl rfl HO1.out (Kd.R_reads' (own_later HOH.out hHeld (by simp))).2.2 (fun _ _ h => h) (fun _ h => h.elim) (fun _ _ => trivial) hHeld.to_below hHeld.size (by simp; omega) ?_
      intro v2 w2 ho2 hb2 hg2 hat2
      have HO2 := Aside0.mk ho2
      (try replace HGB := Aside0.mk ((hg2.block _ (lt_of_some HGB.out) HNE.out).trans HGB.out))
      clear ho2 hg2 hat2
      refine hK.out _ _ (FrB.below hb2) (fun hHeld => ?_)
      clear hK K
      refine norm_ (a' := ?_) ?_ ?_
      rotate_left
      ·show Act.put _ (some 37) _ = _
       simp only [Act.put, List.setIfInBounds_toArray, List.set_cons_zero, List.set_cons_succ, i64_w, i32_w]
       rfl
      refine one_ (i := 6) (N := some 38) #[true, true, true, true, true, true, true, false, true, true, false, false] rfl rfl (by kernel_rfl) (by decide) (fun K hK => ?_)
      refine s_lit2 (z := (-10)) (by rfl) rfl rfl rfl Try.underlying28 oneI8 zeroI8 ?_
      intro gb wg hgb hge hfb
      (try have HNE := Aside0.mk (show some gb ≠ v1.ownBlock from fun e => by have := Kd.R_lt HO1.out gb e.symm; omega))
      have HGB := Aside0.mk hgb
      (try replace HO2 := Aside0.mk (own_later HO2.out hfb (by simp)))
      (try replace HO1 := Aside0.mk (own_later HO1.out hfb (by simp)))
      clear hgb hge
      refine hK.out _ _ (hHeld.trans hfb) (fun hHeld => ?_)
      clear hK K
      refine norm_ (a' := ?_) ?_ ?_
      rotate_left
      ·show Act.put _ (some 38) _ = _
       simp only [Act.put, List.setIfInBounds_toArray, List.set_cons_zero, List.set_cons_succ, i64_w, i32_w]
       rfl
      exact norm_ (by first | (simp only [putAll, Act.put, List.setIfInBounds_toArray, List.set_cons_zero, List.set_cons_succ]; done) | (simp only [putAll, Act.put, List.setIfInBounds_toArray, List.set_cons_zero, List.set_cons_succ]; rfl)) (hJ (v1, v2, gb) _ ⟨hHeld, HO2.out, HGB.out⟩)
     ·skip
      refine s_lit2 (z := (-10)) (by rfl) rfl rfl rfl Try.underlying28 oneI8 zeroI8 ?_
      intro gb wg hgb hge hfb
      (try have HNE := Aside0.mk (show some gb ≠ v1.ownBlock from fun e => by have := Kd.R_lt HO1.out gb e.symm; omega))
      have HGB := Aside0.mk hgb
      (try replace HO2 := Aside0.mk (own_later HO2.out hfb (by simp)))
      (try replace HO1 := Aside0.mk (own_later HO1.out hfb (by simp)))
      clear hgb hge
      refine hK.out _ _ (hHeld.trans hfb) (fun hHeld => ?_)
      clear hK K
      refine norm_ (a' := ?_) ?_ ?_
      rotate_left
      ·show Act.put _ (some 38) _ = _
       simp only [Act.put, List.setIfInBounds_toArray, List.set_cons_zero, List.set_cons_succ, i64_w, i32_w]
       rfl
      refine one_ (i := 5) (N := some 37) #[true, true, true, true, true, true, true, false, true, true, false, false] rfl rfl (by kernel_rfl) (by decide) (fun K hK => ?_)
      refine Kd.R_append_rows_step (Kd.int .i8) (w0 := w6) w6.heap.size (by rfl) (.tmp 35) (.tmp 36) 28 64 (.int .i8 0) 1 rfl Try.underlying28 infoI8 rfl (by decide) (by omega) v1 [] h A h.length c (fun _ => True) (fun _ => False) rfl rfl HO1.out (Kd.R_reads' (own_later HOH.out hHeld (by simp))).2.2 (fun _ _ h => h) (fun _ h => h.elim) (fun _ _ => trivial) hHeld.to_below hHeld.size (by simp; omega) ?_
      intro v2 w2 ho2 hb2 hg2 hat2
      have HO2 := Aside0.mk ho2
      (try replace HGB := Aside0.mk ((hg2.block _ (lt_of_some HGB.out) HNE.out).trans HGB.out))
      clear ho2 hg2 hat2
      refine hK.out _ _ (FrB.below hb2) (fun hHeld => ?_)
      clear hK K
      refine norm_ (a' := ?_) ?_ ?_
      rotate_left
      ·show Act.put _ (some 37) _ = _
       simp only [Act.put, List.setIfInBounds_toArray, List.set_cons_zero, List.set_cons_succ, i64_w, i32_w]
       rfl
      exact norm_ (by first | (simp only [putAll, Act.put, List.setIfInBounds_toArray, List.set_cons_zero, List.set_cons_succ]; done) | (simp only [putAll, Act.put, List.setIfInBounds_toArray, List.set_cons_zero, List.set_cons_succ]; rfl)) (hJ (v1, v2, gb) _ ⟨hHeld, HO2.out, HGB.out⟩)
    ·skip
     refine s_lit2 (z := (-10)) (by rfl) rfl rfl rfl Try.underlying28 oneI8 zeroI8 ?_
     intro gb wg hgb hge hfb
     (try have HNE := Aside0.mk (show some gb ≠ v1.ownBlock from fun e => by have := Kd.R_lt HO1.out gb e.symm; omega))
     have HGB := Aside0.mk hgb
     (try replace HO2 := Aside0.mk (own_later HO2.out hfb (by simp)))
     (try replace HO1 := Aside0.mk (own_later HO1.out hfb (by simp)))
     clear hgb hge
     refine hK.out _ _ (hHeld.trans hfb) (fun hHeld => ?_)
     clear hK K
     refine norm_ (a' := ?_) ?_ ?_
     rotate_left
     ·show Act.put _ (some 38) _ = _
      simp only [Act.put, List.setIfInBounds_toArray, List.set_cons_zero, List.set_cons_succ, i64_w, i32_w]
      rfl
     refine one_ (i := 3) (N := some 35) #[true, true, true, true, true, false, true, false, true, true, false, false] rfl rfl (by kernel_rfl) (by decide) (fun K hK => ?_)
     refine Kd.R_lit_step (Kd.int .i8) (w0 := w6) w6.heap.size 64 (by rfl) (N := 35) rfl (xs := []) (inner := []) (ok := fun _ => True) (okp := fun _ => True) (by first | (go_simp; done) | (go_simp; rfl)) (Reps.none _ _) (fun _ h => h) trivial hHeld.to_below hHeld.size (by simp) ?_
     intro v1 w1 ho1 hb1 hg1 hat1
     have HO1 := Aside0.mk ho1
     (try have HNE := Aside0.mk (show some gb ≠ v1.ownBlock from fun e => by obtain ⟨b, hb, hle⟩ := hat1; rw [hb] at e; injection e with e; have := lt_of_some HGB.out; omega))
     (try replace HGB := Aside0.mk ((hg1.block _ (lt_of_some HGB.out) (by simp)).trans HGB.out))
     clear ho1 hg1 hat1
     refine hK.out _ _ (FrB.below hb1) (fun hHeld => ?_)
     clear hK K
     refine norm_ (a' := ?_) ?_ ?_
     rotate_left
     ·show Act.put _ (some 35) _ = _
      simp only [Act.put, List.setIfInBounds_toArray, List.set_cons_zero, List.set_cons_succ, i64_w, i32_w]
      rfl
     refine one_ (i := 5) (N := some 37) #[true, true, true, true, true, true, true, false, true, true, false, false] rfl rfl (by kernel_rfl) (by decide) (fun K hK => ?_)
     refine Kd.R_append_rows_step (Kd.int .i8) (w0 := w6) w6.heap.size (by rfl) (.tmp 35) (.tmp 36) 28 64 (.int .i8 0) 1 rfl Try.underlying28 infoI8 rfl (by decide) (by omega) v1 [] h A h.length c (fun _ => True) (fun _ => False) rfl rfl HO1.out (Kd.R_reads' (own_later HOH.out hHeld (by simp))).2.2 (fun _ _ h => h) (fun _ h => h.elim) (fun _ _ => trivial) hHeld.to_below hHeld.size (by simp; omega) ?_
     intro v2 w2 ho2 hb2 hg2 hat2
     have HO2 := Aside0.mk ho2
     (try replace HGB := Aside0.mk ((hg2.block _ (lt_of_some HGB.out) HNE.out).trans HGB.out))
     clear ho2 hg2 hat2
     refine hK.out _ _ (FrB.below hb2) (fun hHeld => ?_)
     clear hK K
     refine norm_ (a' := ?_) ?_ ?_
     rotate_left
     ·show Act.put _ (some 37) _ = _
      simp only [Act.put, List.setIfInBounds_toArray, List.set_cons_zero, List.set_cons_succ, i64_w, i32_w]
      rfl
     exact norm_ (by first | (simp only [putAll, Act.put, List.setIfInBounds_toArray, List.set_cons_zero, List.set_cons_succ]; done) | (simp only [putAll, Act.put, List.setIfInBounds_toArray, List.set_cons_zero, List.set_cons_succ]; rfl)) (hJ (v1, v2, gb) _ ⟨hHeld, HO2.out, HGB.out⟩)
   rintro ⟨v1, v2, gb⟩ wj ⟨hHeld, hj1, hj2⟩
   have HO2 := Aside0.mk hj1
   have HGB := Aside0.mk hj2
   clear hj1 hj2
   dsimp only at HO2 HGB
   refine norm_ (a' := ?_) ?_ ?_
   rotate_left
   ·simp only [putAll, Act.put, List.setIfInBounds_toArray, List.set_cons_zero, List.set_cons_succ]
    rfl
   refine one_ (i := 7) (N := some 39) #[true, true, true, true, true, true, true, true, true, true, false, false] rfl rfl (by kernel_rfl) (by decide) (fun K hK => ?_)
   refine Kd.R_append_rows_step (Kd.int .i8) (w0 := w6) w6.heap.size (by rfl) (.tmp 37) (.tmp 38) 28 64 (.int .i8 0) 1 rfl Try.underlying28 infoI8 rfl (by decide) (by omega) v2 h [(-10)] (some ⟨gb, 0, none⟩) 1 1 (fun _ => True) (fun _ => False) rfl rfl HO2.out (row1 HGB.out) (fun _ _ h => h) (fun _ h => h.elim) (fun _ _ => trivial) hHeld.to_below hHeld.size (by omega) ?_
   intro v3 w3 ho3 hb3 hg3 hat3
   have HO3 := Aside0.mk ho3
   clear ho3 hg3 hat3
   refine hK.out _ _ (FrB.below hb3) (fun hHeld => ?_)
   clear hK K
   refine norm_ (a' := ?_) ?_ ?_
   rotate_left
   ·show Act.put _ (some 39) _ = _
    simp only [Act.put, List.setIfInBounds_toArray, List.set_cons_zero, List.set_cons_succ, i64_w, i32_w]
    rfl
   refine last_ (i := 10) (N := some 42) #[true, true, true, true, true, true, true, true, true, true, true, false] rfl rfl (by kernel_rfl) (by decide) (fun K hK => ?_)
   refine goes_ Try.func49 (by kernel_rfl) rfl #[v, .agg (vals .i16 Lc), .slice (some ad) m.length cm, v3, .int .i64 (wrap64 ((h.length : Int) + 1))] (by rfl) rfl rfl (by simp only [List.map_toArray, List.map_cons, List.map_nil]; rfl) ?_
   refine (HREC6.out v3 _ HO3.out hHeld).mono ?_
   rintro e w7 ⟨v7, rfl, hLS, hGr⟩
   refine ⟨_, rfl, ?_⟩
   refine hK.out _ _ ?_
   clear hK K
   refine norm_ (a' := ?_) ?_ ?_
   rotate_left
   ·show Act.put _ (some 42) _ = _
    simp only [Act.put, List.setIfInBounds_toArray, List.set_cons_zero, List.set_cons_succ, i64_w, i32_w]
    rfl
   refine pure_ (i := 11) (N := some 10) (v := ?_) (a' := ?_) #[true, true, true, true, true, true, true, true, true, true, true, true] rfl rfl (by kernel_rfl) (fun _ _ _ h => h) (Or.inl ⟨by rfl, ?_⟩) ?_ ?_
   rotate_left
   ·intro w'
    go_simp
    with_reducible rfl
   rotate_left
   ·simp only [Act.put, List.setIfInBounds_toArray, List.set_cons_zero, List.set_cons_succ, i64_w, i32_w]
    rfl
   refine done_ (by kernel_rfl) ?_
   have HE := Aside0.mk (And.intro hLS (Gr.trans (Gr.of (v := v) (HF6.out.trans hHeld)) hGr))
   clear hLS hGr hHeld
   go_wp2_with fail
   go_ret
   exact ⟨_, rfl, HE.out.1, HE.out.2⟩
  ·rw [leaves_go m (enough L0) d h (g : Int) hb]
   have hx2 : 0 ≤ rd m (h.length : Int) ∧ rd m (h.length : Int) ≤ 39 := by rcases hx with h1 | h1; exact absurd h1 hb; exact h1
   have HEN := Aside0.mk (fun n => show enough L0 h n = decide (rd Lc (slot n : Nat) ≠ 0) by unfold enough; rw [hLc])
   have HIH : Aside0 (∀ (n : Int) (v3 : Value) (w3 : World) (v0 : Value) (o0 : List (List Int)), enough L0 h n = true → n ≠ -10 → NumH n → LS w0 v0 o0 w3 → Own w0.heap.size w3 v3 (h ++ [n]) → o0.length + 2 * 5 ^ d ≤ 1000000000000 → Calls Try.prog 49 #[v0, .agg (vals .i16 (bump Lc n (-1))), .slice (some ad) m.length cm, v3, .int .i64 (g : Int)] w3 fun e w' => ∃ v', e = .returned v' ∧ LS w0 v' (o0 ++ leaves m 4 (enough L0) d (h ++ [n]) (g : Int)) w' ∧ Gr w3 w' v0 v') := ⟨fun n v3 w3 v0 o0 he hn10 hnn hls ho3 hbd3 => by
    obtain ⟨A3, c3, rfl⟩ := Kd.R_slice ho3
    refine ih (h ++ [n]) g A3 c3 v0 o0 (bump Lc n (-1)) w3 (by simp; omega) (by simp; omega) hls ho3 (by rw [pile_snoc, hLc]) (fun j hj => ?_) hbd3
    rw [HEN.out n, decide_eq_true_eq] at he
    rw [rd_bump _ _ _ j (by omega)]
    have h1 := hLb j hj
    have h2 := hLb (slot n) (slot_lt hnn hn10)
    split
    ·rename_i hc
     rw [hc.2] at h1 ⊢
     omega
    ·omega⟩
   have HGL := Aside0.mk (fun (D : List Int) (hD : D.length ≤ 4) => show (goes m (enough L0) d h (g : Int) D).length ≤ 4 * 5 ^ d by
    have h1 := flat_le (f := fun n => if enough L0 h n = true then leaves m 4 (enough L0) d (h ++ [n]) (g : Int) else []) (b := 5 ^ d) (fun n => by
     split
     ·exact leaves_le m 4 (by omega) (enough L0) d _ _
     ·simp) D
    exact Nat.le_trans h1 (Nat.mul_le_mul_right _ hD))
   have hbd2 : out.length + 4 * 5 ^ d + 2 * 5 ^ d ≤ 1000000000000 := by have h5 : 5 ^ (d + 1) = 5 ^ d * 5 := Nat.pow_succ ..; omega
   have HBD := Aside0.mk hbd2
   have HLB := Aside0.mk hLb
   have HOW := Aside0.mk ho
   have HMW := Aside0.mk (fun W (hW : Below w0.heap.size w0 W) (i : Nat) (hi : i < m.length) => show W.cell? (ad.add i) = some (.int .i8 (rd m (i : Int))) by
    obtain ⟨ad2, e2, h2⟩ := Kd.at_int (Kd.C_below hM hW) (i : Int) (by omega) (by omega)
    cases e2
    rw [Int.toNat_natCast] at h2
    exact h2)
   have HSO := Aside0.mk (fun (s : Nat) => show subOk m h.length (g : Int) (-((s : Int) + 1)) = decide ((g : Int) + s < (h.length : Int) ∧ rd m ((g + s : Nat) : Int) = rd m (h.length : Int)) by
    unfold subOk
    rw [show (g : Int) - -((s : Int) + 1) - 1 = ((g + s : Nat) : Int) by omega]
    congr 2)
   have hgm : g ≤ h.length := hg
   clear hM hm hL0 hd hg hS ho hLc hLb hbd hbd2 ih hcx hx hC0
   generalize hxv : rd m (h.length : Int) = x at *
   have HXV := Aside0.mk hxv
   obtain ⟨xn, rfl⟩ := Int.eq_ofNat_of_zero_le hx2.1
   have hxb : ((xn : Int) == -10) = false := by rw [beq_eq_false_iff_ne]; omega
   have hxn40 : xn < 40 := by omega
   clear hxv
   go_enter Try.func49, Try.ntmps49
   go_wp2_with (first
    | ((with_reducible refine gt_box 6 31 ?_); refine st_box rfl 6 rfl 31 _ rfl hm0 (v := .agg (vals _ _)) rfl (cs := vals _ _) rfl ?_; clear hm0; intro g6 w6 hm6; have HF6 := Aside0.mk (FrB.below (B := []) (hm6.done rfl)); have HG6 := Aside0.mk (hm6.mem (n := 0) rfl); clear hm6; have hcx := HCX.out w6 HF6.out; have HOH := Aside0.mk (own_later HOW.out HF6.out (by simp)); have HS6 := Aside0.mk (HS.out.fr HF6.out)))
   go_loopw [12, 0] (fun v12 v0 wr => ∃ (t : Nat) (D : List Int), t ≤ 4 ∧ v12 = .int .i64 (t : Int) ∧ Aside0 (D ++ subsTo m h.length (g : Int) t = subsTo m h.length (g : Int) 4) ∧ Aside0 (LS w0 v0 (out ++ goes m (enough L0) d h (g : Int) D) wr ∧ Gr w6 wr v v0)) (fun v12 _ _ => (intOf v12).toNat)
   case atStart => exact ⟨4, [], by omega, rfl, ⟨List.nil_append _⟩, ⟨by rw [show goes m (enough L0) d h (g : Int) [] = [] from rfl, List.append_nil]; exact HS6.out, Gr.of (FrB.refl [] _)⟩⟩
   case round =>
    clear hcx
    obtain ⟨t, D, ht, rfl, HD, HLG⟩ := hrel
    have HG6r := Aside0.mk (HLG.out.2.blk HS6.out HG6.out (by decide))
    have HOr := Aside0.mk (HLG.out.2.own HS6.out HOH.out)
    have HMr := Aside0.mk (HMW.out wr HLG.out.1.bel)
    have hcx := HMr.out h.length (by omega)
    rw [HXV.out] at hcx
    by_cases ht0 : t = 0
    ·subst ht0
     have HDD := Aside0.mk (show D = subsTo m h.length (g : Int) 4 by have := HD.out; rwa [show subsTo m h.length (g : Int) 0 = [] from rfl, List.append_nil] at this)
     have hzb := HLB.out xn (by omega)
     have hsx : slot (xn : Int) = xn := by rw [slot_flag (by omega), Int.toNat_natCast]
     have HFIN := Aside0.mk (show goes m (enough L0) d h (g : Int) (opts m h.length (g : Int) 4) = goes m (enough L0) d h (g : Int) D ++ (if enough L0 h (xn : Int) = true then leaves m 4 (enough L0) d (h ++ [(xn : Int)]) (g : Int) else []) by unfold opts; rw [goes_snoc, HDD.out, HXV.out])
     have HEX := Aside0.mk (show enough L0 h (xn : Int) = decide (rd Lc (xn : Int) ≠ 0) by rw [HEN.out, hsx])
     have HCZ := Aside0.mk (show wr.cell? ⟨g6, 0 + 0 + ((xn : Int)).toNat, none⟩ = some (.int .i16 (rd Lc (xn : Int))) by rw [show 0 + 0 + ((xn : Int)).toNat = xn by omega]; exact (blk_cell HG6r.out xn).trans (vals_get (by omega)))
     have hm := Mem.start wr
     by_cases hz : rd Lc (xn : Int) = 0
     ·have hz1 : ¬ (0 < rd Lc (xn : Int)) := by omega
      have HEF := Aside0.mk (show enough L0 h (xn : Int) = false by rw [HEX.out]; exact decide_eq_false (fun h => h hz))
      clear hsx
      go_wp2_with (first
       | (first | fail | ((with_reducible refine gt_box 6 31 ?_); refine st_box rfl 6 rfl 31 _ rfl hm (v := .agg (vals _ _)) rfl (cs := vals _ _) rfl ?_; clear hm; intro g6 w6 hm) | ((with_reducible refine gt_load 64 ?_); (first | (refine st_get rfl 64 _ rfl hm rfl 0 rfl one64 (by first | omega | assumption | (simp only [lens]; first | omega | assumption) | (simp [lens]; done) | (simp [lens]; omega)) ?_) | (refine st_get rfl 64 _ rfl hm rfl 1 rfl one64 (by first | omega | assumption | (simp only [lens]; first | omega | assumption) | (simp [lens]; done) | (simp [lens]; omega)) ?_) | (refine st_get rfl 64 _ rfl hm rfl 2 rfl one64 (by first | omega | assumption | (simp only [lens]; first | omega | assumption) | (simp [lens]; done) | (simp [lens]; omega)) ?_) | (refine st_get rfl 64 _ rfl hm rfl 3 rfl one64 (by first | omega | assumption | (simp only [lens]; first | omega | assumption) | (simp [lens]; done) | (simp [lens]; omega)) ?_) | (refine st_get rfl 64 _ rfl hm rfl 4 rfl one64 (by first | omega | assumption | (simp only [lens]; first | omega | assumption) | (simp [lens]; done) | (simp [lens]; omega)) ?_))) | ((with_reducible refine gt_load 31 ?_); (first | (refine st_load rfl 31 _ rfl hm rfl 0 rfl agg31 (by first | omega | assumption | (simp only [lens]; first | omega | assumption) | (simp [lens]; done) | (simp [lens]; omega)) ?_) | (refine st_load rfl 31 _ rfl hm rfl 1 rfl agg31 (by first | omega | assumption | (simp only [lens]; first | omega | assumption) | (simp [lens]; done) | (simp [lens]; omega)) ?_) | (refine st_load rfl 31 _ rfl hm rfl 2 rfl agg31 (by first | omega | assumption | (simp only [lens]; first | omega | assumption) | (simp [lens]; done) | (simp [lens]; omega)) ?_) | (refine st_load rfl 31 _ rfl hm rfl 3 rfl agg31 (by first | omega | assumption | (simp only [lens]; first | omega | assumption) | (simp [lens]; done) | (simp [lens]; omega)) ?_) | (refine st_load rfl 31 _ rfl hm rfl 4 rfl agg31 (by first | omega | assumption | (simp only [lens]; first | omega | assumption) | (simp [lens]; done) | (simp [lens]; omega)) ?_))) | ((with_reducible refine gt_field 31 1 ?_); refine st_field rfl 31 _ 1 rfl rfl field31_1 ?_) | ((with_reducible refine gt_elem 24 ?_); refine st_elem rfl 24 _ _ rfl rfl rfl arr24 (by first | omega | assumption | (simp only [lens]; first | omega | assumption) | (simp [lens]; done) | (simp [lens]; omega)) (by first | omega | assumption | (simp only [lens]; first | omega | assumption) | (simp [lens]; done) | (simp [lens]; omega)) ?_) | ((with_reducible refine gt_load 22 ?_); (first | (refine st_get rfl 22 _ rfl hm rfl 0 rfl one22 (by first | omega | assumption | (simp only [lens]; first | omega | assumption) | (simp [lens]; done) | (simp [lens]; omega)) ?_) | (refine st_get rfl 22 _ rfl hm rfl 1 rfl one22 (by first | omega | assumption | (simp only [lens]; first | omega | assumption) | (simp [lens]; done) | (simp [lens]; omega)) ?_) | (refine st_get rfl 22 _ rfl hm rfl 2 rfl one22 (by first | omega | assumption | (simp only [lens]; first | omega | assumption) | (simp [lens]; done) | (simp [lens]; omega)) ?_) | (refine st_get rfl 22 _ rfl hm rfl 3 rfl one22 (by first | omega | assumption | (simp only [lens]; first | omega | assumption) | (simp [lens]; done) | (simp [lens]; omega)) ?_) | (refine st_get rfl 22 _ rfl hm rfl 4 rfl one22 (by first | omega | assumption | (simp only [lens]; first | omega | assumption) | (simp [lens]; done) | (simp [lens]; omega)) ?_))) | ((with_reducible refine gt_alloc 13 31 ?_); refine st_alloc rfl 13 rfl 31 rfl hm zero31 ?_; clear hm; intro g13 w13 hm) | ((with_reducible refine gt_store 31 ?_); (first | (refine st_full rfl 31 _ _ rfl hm rfl rfl 0 rfl agg31 (by first | omega | assumption | (simp only [lens]; first | omega | assumption) | (simp [lens]; done) | (simp [lens]; omega)) (by first | omega | assumption | (simp only [lens]; first | omega | assumption) | (simp [lens]; done) | (simp [lens]; omega)) ?_) | (refine st_full rfl 31 _ _ rfl hm rfl rfl 1 rfl agg31 (by first | omega | assumption | (simp only [lens]; first | omega | assumption) | (simp [lens]; done) | (simp [lens]; omega)) (by first | omega | assumption | (simp only [lens]; first | omega | assumption) | (simp [lens]; done) | (simp [lens]; omega)) ?_) | (refine st_full rfl 31 _ _ rfl hm rfl rfl 2 rfl agg31 (by first | omega | assumption | (simp only [lens]; first | omega | assumption) | (simp [lens]; done) | (simp [lens]; omega)) (by first | omega | assumption | (simp only [lens]; first | omega | assumption) | (simp [lens]; done) | (simp [lens]; omega)) ?_) | (refine st_full rfl 31 _ _ rfl hm rfl rfl 3 rfl agg31 (by first | omega | assumption | (simp only [lens]; first | omega | assumption) | (simp [lens]; done) | (simp [lens]; omega)) (by first | omega | assumption | (simp only [lens]; first | omega | assumption) | (simp [lens]; done) | (simp [lens]; omega)) ?_) | (refine st_full rfl 31 _ _ rfl hm rfl rfl 4 rfl agg31 (by first | omega | assumption | (simp only [lens]; first | omega | assumption) | (simp [lens]; done) | (simp [lens]; omega)) (by first | omega | assumption | (simp only [lens]; first | omega | assumption) | (simp [lens]; done) | (simp [lens]; omega)) ?_)); clear hm; intro ws hm; simp only [List.set_cons_zero, List.set_cons_succ] at hm) | ((with_reducible refine gt_store 22 ?_); (first | (refine st_set rfl 22 _ _ rfl hm rfl rfl 0 rfl one22 (by first | omega | assumption | (simp only [lens]; first | omega | assumption) | (simp [lens]; done) | (simp [lens]; omega)) ?_) | (refine st_set rfl 22 _ _ rfl hm rfl rfl 1 rfl one22 (by first | omega | assumption | (simp only [lens]; first | omega | assumption) | (simp [lens]; done) | (simp [lens]; omega)) ?_) | (refine st_set rfl 22 _ _ rfl hm rfl rfl 2 rfl one22 (by first | omega | assumption | (simp only [lens]; first | omega | assumption) | (simp [lens]; done) | (simp [lens]; omega)) ?_) | (refine st_set rfl 22 _ _ rfl hm rfl rfl 3 rfl one22 (by first | omega | assumption | (simp only [lens]; first | omega | assumption) | (simp [lens]; done) | (simp [lens]; omega)) ?_) | (refine st_set rfl 22 _ _ rfl hm rfl rfl 4 rfl one22 (by first | omega | assumption | (simp only [lens]; first | omega | assumption) | (simp [lens]; done) | (simp [lens]; omega)) ?_)); clear hm; intro ws hm; simp only [List.set_cons_zero, List.set_cons_succ] at hm) | ((with_reducible refine gt_field 31 0 ?_); refine st_field rfl 31 _ 0 rfl rfl field31_0 ?_) | ((with_reducible refine gt_elem 23 ?_); refine st_elem rfl 23 _ _ rfl rfl rfl arr23 (by first | omega | assumption | (simp only [lens]; first | omega | assumption) | (simp [lens]; done) | (simp [lens]; omega)) (by first | omega | assumption | (simp only [lens]; first | omega | assumption) | (simp [lens]; done) | (simp [lens]; omega)) ?_) | ((with_reducible refine gt_alloc 14 31 ?_); refine st_alloc rfl 14 rfl 31 rfl hm zero31 ?_; clear hm; intro g14 w14 hm))
       | ((with_reducible refine gt_load 22 ?_); refine Kd.event_run rfl (y_cell (by rfl) (by rfl) one22 HCZ.out) ?_))
      go_ret
      exact ⟨_, rfl, by rw [HFIN.out, HEF.out, if_neg (by simp), List.append_nil]; exact HLG.out.1, (Gr.of (v := v) HF6.out).trans HLG.out.2⟩
     ·have hz1 : 0 < rd Lc (xn : Int) := by omega
      have HEF := Aside0.mk (show enough L0 h (xn : Int) = true by rw [HEX.out]; exact decide_eq_true hz)
      have HBP := Aside0.mk (show Lc.set (0 + 0 + ((xn : Int)).toNat) (rd Lc (xn : Int) - 1) = bump Lc (xn : Int) (-1) by
       unfold bump
       rw [if_neg (by omega), hsx, show 0 + 0 + ((xn : Int)).toNat = xn by omega]
       rfl)
      have HNH := Aside0.mk (show NumH (xn : Int) from Or.inr (Or.inl (by omega)))
      have HDL := Aside0.mk (show D.length ≤ 4 by rw [HDD.out]; exact subsTo_len m h.length (g : Int) 4)
      have HCXR := Aside0.mk (fun W (hW : FrB [] wr W) => hW.read hcx)
      clear hsx
      go_wp2_with (first
       | (first | fail | ((with_reducible refine gt_box 6 31 ?_); refine st_box rfl 6 rfl 31 _ rfl hm (v := .agg (vals _ _)) rfl (cs := vals _ _) rfl ?_; clear hm; intro g6 w6 hm) | ((with_reducible refine gt_load 64 ?_); (first | (refine st_get rfl 64 _ rfl hm rfl 0 rfl one64 (by first | omega | assumption | (simp only [lens]; first | omega | assumption) | (simp [lens]; done) | (simp [lens]; omega)) ?_) | (refine st_get rfl 64 _ rfl hm rfl 1 rfl one64 (by first | omega | assumption | (simp only [lens]; first | omega | assumption) | (simp [lens]; done) | (simp [lens]; omega)) ?_) | (refine st_get rfl 64 _ rfl hm rfl 2 rfl one64 (by first | omega | assumption | (simp only [lens]; first | omega | assumption) | (simp [lens]; done) | (simp [lens]; omega)) ?_) | (refine st_get rfl 64 _ rfl hm rfl 3 rfl one64 (by first | omega | assumption | (simp only [lens]; first | omega | assumption) | (simp [lens]; done) | (simp [lens]; omega)) ?_) | (refine st_get rfl 64 _ rfl hm rfl 4 rfl one64 (by first | omega | assumption | (simp only [lens]; first | omega | assumption) | (simp [lens]; done) | (simp [lens]; omega)) ?_))) | ((with_reducible refine gt_load 31 ?_); (first | (refine st_load rfl 31 _ rfl hm rfl 0 rfl agg31 (by first | omega | assumption | (simp only [lens]; first | omega | assumption) | (simp [lens]; done) | (simp [lens]; omega)) ?_) | (refine st_load rfl 31 _ rfl hm rfl 1 rfl agg31 (by first | omega | assumption | (simp only [lens]; first | omega | assumption) | (simp [lens]; done) | (simp [lens]; omega)) ?_) | (refine st_load rfl 31 _ rfl hm rfl 2 rfl agg31 (by first | omega | assumption | (simp only [lens]; first | omega | assumption) | (simp [lens]; done) | (simp [lens]; omega)) ?_) | (refine st_load rfl 31 _ rfl hm rfl 3 rfl agg31 (by first | omega | assumption | (simp only [lens]; first | omega | assumption) | (simp [lens]; done) | (simp [lens]; omega)) ?_) | (refine st_load rfl 31 _ rfl hm rfl 4 rfl agg31 (by first | omega | assumption | (simp only [lens]; first | omega | assumption) | (simp [lens]; done) | (simp [lens]; omega)) ?_))) | ((with_reducible refine gt_field 31 1 ?_); refine st_field rfl 31 _ 1 rfl rfl field31_1 ?_) | ((with_reducible refine gt_elem 24 ?_); refine st_elem rfl 24 _ _ rfl rfl rfl arr24 (by first | omega | assumption | (simp only [lens]; first | omega | assumption) | (simp [lens]; done) | (simp [lens]; omega)) (by first | omega | assumption | (simp only [lens]; first | omega | assumption) | (simp [lens]; done) | (simp [lens]; omega)) ?_) | ((with_reducible refine gt_load 22 ?_); (first | (refine st_get rfl 22 _ rfl hm rfl 0 rfl one22 (by first | omega | assumption | (simp only [lens]; first | omega | assumption) | (simp [lens]; done) | (simp [lens]; omega)) ?_) | (refine st_get rfl 22 _ rfl hm rfl 1 rfl one22 (by first | omega | assumption | (simp only [lens]; first | omega | assumption) | (simp [lens]; done) | (simp [lens]; omega)) ?_) | (refine st_get rfl 22 _ rfl hm rfl 2 rfl one22 (by first | omega | assumption | (simp only [lens]; first | omega | assumption) | (simp [lens]; done) | (simp [lens]; omega)) ?_) | (refine st_get rfl 22 _ rfl hm rfl 3 rfl one22 (by first | omega | assumption | (simp only [lens]; first | omega | assumption) | (simp [lens]; done) | (simp [lens]; omega)) ?_) | (refine st_get rfl 22 _ rfl hm rfl 4 rfl one22 (by first | omega | assumption | (simp only [lens]; first | omega | assumption) | (simp [lens]; done) | (simp [lens]; omega)) ?_))) | ((with_reducible refine gt_alloc 13 31 ?_); refine st_alloc rfl 13 rfl 31 rfl hm zero31 ?_; clear hm; intro g13 w13 hm) | ((with_reducible refine gt_store 31 ?_); (first | (refine st_full rfl 31 _ _ rfl hm rfl rfl 0 rfl agg31 (by first | omega | assumption | (simp only [lens]; first | omega | assumption) | (simp [lens]; done) | (simp [lens]; omega)) (by first | omega | assumption | (simp only [lens]; first | omega | assumption) | (simp [lens]; done) | (simp [lens]; omega)) ?_) | (refine st_full rfl 31 _ _ rfl hm rfl rfl 1 rfl agg31 (by first | omega | assumption | (simp only [lens]; first | omega | assumption) | (simp [lens]; done) | (simp [lens]; omega)) (by first | omega | assumption | (simp only [lens]; first | omega | assumption) | (simp [lens]; done) | (simp [lens]; omega)) ?_) | (refine st_full rfl 31 _ _ rfl hm rfl rfl 2 rfl agg31 (by first | omega | assumption | (simp only [lens]; first | omega | assumption) | (simp [lens]; done) | (simp [lens]; omega)) (by first | omega | assumption | (simp only [lens]; first | omega | assumption) | (simp [lens]; done) | (simp [lens]; omega)) ?_) | (refine st_full rfl 31 _ _ rfl hm rfl rfl 3 rfl agg31 (by first | omega | assumption | (simp only [lens]; first | omega | assumption) | (simp [lens]; done) | (simp [lens]; omega)) (by first | omega | assumption | (simp only [lens]; first | omega | assumption) | (simp [lens]; done) | (simp [lens]; omega)) ?_) | (refine st_full rfl 31 _ _ rfl hm rfl rfl 4 rfl agg31 (by first | omega | assumption | (simp only [lens]; first | omega | assumption) | (simp [lens]; done) | (simp [lens]; omega)) (by first | omega | assumption | (simp only [lens]; first | omega | assumption) | (simp [lens]; done) | (simp [lens]; omega)) ?_)); clear hm; intro ws hm; simp only [List.set_cons_zero, List.set_cons_succ] at hm) | ((with_reducible refine gt_store 22 ?_); (first | (refine st_set rfl 22 _ _ rfl hm rfl rfl 0 rfl one22 (by first | omega | assumption | (simp only [lens]; first | omega | assumption) | (simp [lens]; done) | (simp [lens]; omega)) ?_) | (refine st_set rfl 22 _ _ rfl hm rfl rfl 1 rfl one22 (by first | omega | assumption | (simp only [lens]; first | omega | assumption) | (simp [lens]; done) | (simp [lens]; omega)) ?_) | (refine st_set rfl 22 _ _ rfl hm rfl rfl 2 rfl one22 (by first | omega | assumption | (simp only [lens]; first | omega | assumption) | (simp [lens]; done) | (simp [lens]; omega)) ?_) | (refine st_set rfl 22 _ _ rfl hm rfl rfl 3 rfl one22 (by first | omega | assumption | (simp only [lens]; first | omega | assumption) | (simp [lens]; done) | (simp [lens]; omega)) ?_) | (refine st_set rfl 22 _ _ rfl hm rfl rfl 4 rfl one22 (by first | omega | assumption | (simp only [lens]; first | omega | assumption) | (simp [lens]; done) | (simp [lens]; omega)) ?_)); clear hm; intro ws hm; simp only [List.set_cons_zero, List.set_cons_succ] at hm) | ((with_reducible refine gt_field 31 0 ?_); refine st_field rfl 31 _ 0 rfl rfl field31_0 ?_) | ((with_reducible refine gt_elem 23 ?_); refine st_elem rfl 23 _ _ rfl rfl rfl arr23 (by first | omega | assumption | (simp only [lens]; first | omega | assumption) | (simp [lens]; done) | (simp [lens]; omega)) (by first | omega | assumption | (simp only [lens]; first | omega | assumption) | (simp [lens]; done) | (simp [lens]; omega)) ?_) | ((with_reducible refine gt_alloc 14 31 ?_); refine st_alloc rfl 14 rfl 31 rfl hm zero31 ?_; clear hm; intro g14 w14 hm))
       | ((with_reducible refine gt_load 31 ?_); refine Kd.event_run rfl (y_rowA (by rfl) (by rfl) HG6r.out aggLk (by rw [vals_size]; exact HXL.out)) ?_)
       | ((with_reducible refine gt_load 22 ?_); refine Kd.event_run rfl (y_cell (by rfl) (by rfl) one22 HCZ.out) ?_)
       | ((with_reducible refine gt_load 64 ?_); refine Kd.event_run rfl (y_cell (by rfl) (by rfl) oneI8 (HCXR.out _ (FrB.below (hm.done rfl)))) ?_))
      have HGX : Aside0 (ws.heap[g14]? = some (.cells (vals .i16 (bump Lc (xn : Int) (-1))) 31 (0, 0))) := ⟨by rw [← HBP.out]; exact hm.mem (n := 0) rfl⟩
      have HW1 := Aside0.mk (FrB.below (B := []) (hm.done rfl))
      clear hm
      have hcy := HCXR.out ws HW1.out
      have HOH := Aside0.mk (own_later HOr.out HW1.out (by simp))
      have HREC := Aside0.mk (fun v3 w3 (ho3 : Own ws.heap.size w3 v3 (h ++ [(xn : Int)])) (hf3 : FrB [] ws w3) => HIH.out (xn : Int) v3 w3 u0 (out ++ goes m (enough L0) d h (g : Int) D) HEF.out (by omega) HNH.out (HLG.out.1.fr (HW1.out.trans hf3)) (own_lower ho3 (Nat.le_trans HLG.out.1.bel.size HW1.out.size)) (by have h1 := HGL.out D HDL.out; have h2 := HBD.out; rw [List.length_append]; omega))
      refine start_ (n := 15) (S := fun w' => FrB [] ws w') (ds := [13]) #[false, false, false, false, false, false, false, false, false, false, false, false, false, false, false] (by kernel_rfl) rfl rfl (FrB.below (below_drew (Below.refl _ _))) (fun hHeld => ?_)
      refine pure_ (i := 0) (N := some 116) (v := ?_) (a' := ?_) #[true, false, false, false, false, false, false, false, false, false, false, false, false, false, false] rfl rfl (by kernel_rfl) (fun _ _ _ h => h) (Or.inl ⟨by rfl, ?_⟩) ?_ ?_
      rotate_left
      ·intro w'
       go_simp
       with_reducible rfl
      rotate_left
      ·simp only [Act.put, List.setIfInBounds_toArray, List.set_cons_zero, List.set_cons_succ, i64_w, i32_w]
       rfl
      refine pure_ (i := 2) (N := some 118) (v := ?_) (a' := ?_) #[true, false, true, false, false, false, false, false, false, false, false, false, false, false, false] rfl rfl (by kernel_rfl) (fun _ _ _ h => h) (Or.inl ⟨by rfl, ?_⟩) ?_ ?_
      rotate_left
      ·intro w'
       go_simp
       with_reducible rfl
      rotate_left
      ·simp only [Act.put, List.setIfInBounds_toArray, List.set_cons_zero, List.set_cons_succ, i64_w, i32_w]
       rfl
      refine pure_ (i := 4) (N := some 120) (v := ?_) (a' := ?_) #[true, false, true, false, true, false, false, false, false, false, false, false, false, false, false] rfl rfl (by kernel_rfl) (fun _ _ _ h => h) (Or.inl ⟨by rfl, ?_⟩) ?_ ?_
      rotate_left
      ·intro w'
       go_simp
       with_reducible rfl
      rotate_left
      ·simp only [Act.put, List.setIfInBounds_toArray, List.set_cons_zero, List.set_cons_succ, i64_w, i32_w]
       rfl
      refine pure_ (i := 6) (N := some 122) (v := ?_) (a' := ?_) #[true, false, true, false, true, false, true, false, false, false, false, false, false, false, false] rfl rfl (by kernel_rfl) (fun _ _ _ h => h) (Or.inl ⟨by rfl, ?_⟩) ?_ ?_
      rotate_left
      ·intro w'
       go_simp
       with_reducible rfl
      rotate_left
      ·simp only [Act.put, List.setIfInBounds_toArray, List.set_cons_zero, List.set_cons_succ, i64_w, i32_w]
       rfl
      refine pure_ (i := 7) (N := some 123) (v := ?_) (a' := ?_) #[true, false, true, false, true, false, true, true, false, false, false, false, false, false, false] rfl rfl (by kernel_rfl) (fun _ _ _ h => h) (Or.inl ⟨by rfl, ?_⟩) ?_ ?_
      rotate_left
      ·intro w'
       go_simp
       with_reducible rfl
      rotate_left
      ·simp only [Act.put, List.setIfInBounds_toArray, List.set_cons_zero, List.set_cons_succ, i64_w, i32_w]
       rfl
      refine pure_ (i := 8) (N := some 124) (v := ?_) (a' := ?_) #[true, false, true, false, true, false, true, true, true, false, false, false, false, false, false] rfl rfl (by kernel_rfl) (fun _ _ _ h => h) (Or.inl ⟨by rfl, ?_⟩) ?_ ?_
      rotate_left
      ·intro w'
       go_simp
       with_reducible rfl
      rotate_left
      ·simp only [Act.put, List.setIfInBounds_toArray, List.set_cons_zero, List.set_cons_succ, i64_w, i32_w]
       rfl
      refine pure_ (i := 12) (N := some 128) (v := ?_) (a' := ?_) #[true, false, true, false, true, false, true, true, true, false, false, false, true, false, false] rfl rfl (by kernel_rfl) (fun _ _ _ h => h) (Or.inl ⟨by rfl, ?_⟩) ?_ ?_
      rotate_left
      ·intro w'
       go_simp
       with_reducible rfl
      rotate_left
      ·simp only [Act.put, List.setIfInBounds_toArray, List.set_cons_zero, List.set_cons_succ, i64_w, i32_w]
       rfl
      refine take_ (i := 1) (N := some 117) (v := .agg (vals .i16 (bump Lc (xn : Int) (-1)))) (a' := ?_) #[true, true, true, false, true, false, true, true, true, false, false, false, true, false, false] rfl rfl (by kernel_rfl) (fun _ _ _ h => h) (Or.inl ⟨by rfl, ?_⟩) hHeld ?_ ?_
      ·intro w' s0
       exact y_rowA (by rfl) (by rfl) (s0.row HGX.out (by simp)) aggLk (by rw [vals_size, bump_length]; exact HXL.out)
      rotate_left
      ·simp only [Act.put, List.setIfInBounds_toArray, List.set_cons_zero, List.set_cons_succ, i64_w, i32_w]
       rfl
      refine take_ (i := 9) (N := some 125) (v := .int .i8 (xn : Int)) (a' := ?_) #[true, true, true, false, true, false, true, true, true, true, false, false, true, false, false] rfl rfl (by kernel_rfl) (fun _ _ _ h => h) (Or.inl ⟨by rfl, ?_⟩) hHeld ?_ ?_
      ·intro w' s0
       exact y_cell (by rfl) (by rfl) oneI8 (s0.read hcy)
      rotate_left
      ·simp only [Act.put, List.setIfInBounds_toArray, List.set_cons_zero, List.set_cons_succ, i64_w, i32_w]
       rfl
      refine join_ (σ := Value × Value × Nat) 3 #[true, true, true, true, true, true, true, true, true, true, true, false, true, false, false] (fun s => [(119, s.1), (121, s.2.1), (126, .slice (some ⟨s.2.2, 0, none⟩) 1 1)]) (fun s w' => FrB [] ws w' ∧ Own ws.heap.size w' s.2.1 h ∧ w'.heap[s.2.2]? = some (.cells (vals .i8 [(xn : Int)]) 64 (0, 0))) ?_ ?_
      rotate_left
      ·intro hJ
       refine two_ (i := 3) (j := 10) (Ni := some 119) (Nj := some 126) #[true, true, true, true, true, false, true, true, true, true, false, false, true, false, false] #[true, true, true, false, true, false, true, true, true, true, true, false, true, false, false] rfl rfl rfl rfl (by kernel_rfl) (by decide) (by decide) (fun K hK => ?_) (fun K hK => ?_)
       ·skip
        refine Kd.R_lit_step (Kd.int .i8) (w0 := ws) ws.heap.size 64 (by rfl) (N := 119) rfl (xs := []) (inner := []) (ok := fun _ => True) (okp := fun _ => True) (by first | (go_simp; done) | (go_simp; rfl)) (Reps.none _ _) (fun _ h => h) trivial hHeld.to_below hHeld.size (by simp) ?_
        intro v1 w1 ho1 hb1 hg1 hat1
        have HO1 := Aside0.mk ho1
        (try have HNE := Aside0.mk (show some gb ≠ v1.ownBlock from fun e => by obtain ⟨b, hb, hle⟩ := hat1; rw [hb] at e; injection e with e; have := lt_of_some HGB.out; omega))
        (try replace HGB := Aside0.mk ((hg1.block _ (lt_of_some HGB.out) (by simp)).trans HGB.out))
        clear ho1 hg1 hat1
        refine hK.out _ _ (FrB.below hb1) (fun hHeld => ?_)
        clear hK K
        refine norm_ (a' := ?_) ?_ ?_
        rotate_left
        ·show Act.put _ (some 119) _ = _
         simp only [Act.put, List.setIfInBounds_toArray, List.set_cons_zero, List.set_cons_succ, i64_w, i32_w]
         rfl
        refine two_ (i := 5) (j := 10) (Ni := some 121) (Nj := some 126) #[true, true, true, true, true, true, true, true, true, true, false, false, true, false, false] #[true, true, true, true, true, false, true, true, true, true, true, false, true, false, false] rfl rfl rfl rfl (by kernel_rfl) (by decide) (by decide) (fun K hK => ?_) (fun K hK => ?_)
        ·skip
         refine Kd.R_append_rows_step (Kd.int .i8) (w0 := ws) ws.heap.size (by rfl) (.tmp 119) (.tmp 120) 28 64 (.int .i8 0) 1 rfl Try.underlying28 infoI8 rfl (by decide) (by omega) v1 [] h A h.length c (fun _ => True) (fun _ => False) rfl rfl HO1.out (Kd.R_reads' (own_later HOH.out hHeld (by simp))).2.2 (fun _ _ h => h) (fun _ h => h.elim) (fun _ _ => trivial) hHeld.to_below hHeld.size (by simp; omega) ?_
         intro v2 w2 ho2 hb2 hg2 hat2
         have HO2 := Aside0.mk ho2
         (try replace HGB := Aside0.mk ((hg2.block _ (lt_of_some HGB.out) HNE.out).trans HGB.out))
         clear ho2 hg2 hat2
         refine hK.out _ _ (FrB.below hb2) (fun hHeld => ?_)
         clear hK K
         refine norm_ (a' := ?_) ?_ ?_
         rotate_left
         ·show Act.put _ (some 121) _ = _
          simp only [Act.put, List.setIfInBounds_toArray, List.set_cons_zero, List.set_cons_succ, i64_w, i32_w]
          rfl
         refine one_ (i := 10) (N := some 126) #[true, true, true, true, true, true, true, true, true, true, true, false, true, false, false] rfl rfl (by kernel_rfl) (by decide) (fun K hK => ?_)
         refine s_lit2 (z := (xn : Int)) (by rfl) rfl rfl rfl Try.underlying28 oneI8 zeroI8 ?_
         intro gb wg hgb hge hfb
         (try have HNE := Aside0.mk (show some gb ≠ v1.ownBlock from fun e => by have := Kd.R_lt HO1.out gb e.symm; omega))
         have HGB := Aside0.mk hgb
         (try replace HO2 := Aside0.mk (own_later HO2.out hfb (by simp)))
         (try replace HO1 := Aside0.mk (own_later HO1.out hfb (by simp)))
         clear hgb hge
         refine hK.out _ _ (hHeld.trans hfb) (fun hHeld => ?_)
         clear hK K
         refine norm_ (a' := ?_) ?_ ?_
         rotate_left
         ·show Act.put _ (some 126) _ = _
          simp only [Act.put, List.setIfInBounds_toArray, List.set_cons_zero, List.set_cons_succ, i64_w, i32_w]
          rfl
         exact norm_ (by first | (simp only [putAll, Act.put, List.setIfInBounds_toArray, List.set_cons_zero, List.set_cons_succ]; done) | (simp only [putAll, Act.put, List.setIfInBounds_toArray, List.set_cons_zero, List.set_cons_succ]; rfl)) (hJ (v1, v2, gb) _ ⟨hHeld, HO2.out, HGB.out⟩)
        ·skip
         refine s_lit2 (z := (xn : Int)) (by rfl) rfl rfl rfl Try.underlying28 oneI8 zeroI8 ?_
         intro gb wg hgb hge hfb
         (try have HNE := Aside0.mk (show some gb ≠ v1.ownBlock from fun e => by have := Kd.R_lt HO1.out gb e.symm; omega))
         have HGB := Aside0.mk hgb
         (try replace HO2 := Aside0.mk (own_later HO2.out hfb (by simp)))
         (try replace HO1 := Aside0.mk (own_later HO1.out hfb (by simp)))
         clear hgb hge
         refine hK.out _ _ (hHeld.trans hfb) (fun hHeld => ?_)
         clear hK K
         refine norm_ (a' := ?_) ?_ ?_
         rotate_left
         ·show Act.put _ (some 126) _ = _
          simp only [Act.put, List.setIfInBounds_toArray, List.set_cons_zero, List.set_cons_succ, i64_w, i32_w]
          rfl
         refine one_ (i := 5) (N := some 121) #[true, true, true, true, true, true, true, true, true, true, true, false, true, false, false] rfl rfl (by kernel_rfl) (by decide) (fun K hK => ?_)
         refine Kd.R_append_rows_step (Kd.int .i8) (w0 := ws) ws.heap.size (by rfl) (.tmp 119) (.tmp 120) 28 64 (.int .i8 0) 1 rfl Try.underlying28 infoI8 rfl (by decide) (by omega) v1 [] h A h.length c (fun _ => True) (fun _ => False) rfl rfl HO1.out (Kd.R_reads' (own_later HOH.out hHeld (by simp))).2.2 (fun _ _ h => h) (fun _ h => h.elim) (fun _ _ => trivial) hHeld.to_below hHeld.size (by simp; omega) ?_
         intro v2 w2 ho2 hb2 hg2 hat2
         have HO2 := Aside0.mk ho2
         (try replace HGB := Aside0.mk ((hg2.block _ (lt_of_some HGB.out) HNE.out).trans HGB.out))
         clear ho2 hg2 hat2
         refine hK.out _ _ (FrB.below hb2) (fun hHeld => ?_)
         clear hK K
         refine norm_ (a' := ?_) ?_ ?_
         rotate_left
         ·show Act.put _ (some 121) _ = _
          simp only [Act.put, List.setIfInBounds_toArray, List.set_cons_zero, List.set_cons_succ, i64_w, i32_w]
          rfl
         exact norm_ (by first | (simp only [putAll, Act.put, List.setIfInBounds_toArray, List.set_cons_zero, List.set_cons_succ]; done) | (simp only [putAll, Act.put, List.setIfInBounds_toArray, List.set_cons_zero, List.set_cons_succ]; rfl)) (hJ (v1, v2, gb) _ ⟨hHeld, HO2.out, HGB.out⟩)
       ·skip
        refine s_lit2 (z := (xn : Int)) (by rfl) rfl rfl rfl Try.underlying28 oneI8 zeroI8 ?_
        intro gb wg hgb hge hfb
        (try have HNE := Aside0.mk (show some gb ≠ v1.ownBlock from fun e => by have := Kd.R_lt HO1.out gb e.symm; omega))
        have HGB := Aside0.mk hgb
        (try replace HO2 := Aside0.mk (own_later HO2.out hfb (by simp)))
        (try replace HO1 := Aside0.mk (own_later HO1.out hfb (by simp)))
        clear hgb hge
        refine hK.out _ _ (hHeld.trans hfb) (fun hHeld => ?_)
        clear hK K
        refine norm_ (a' := ?_) ?_ ?_
        rotate_left
        ·show Act.put _ (some 126) _ = _
         simp only [Act.put, List.setIfInBounds_toArray, List.set_cons_zero, List.set_cons_succ, i64_w, i32_w]
         rfl
        refine one_ (i := 3) (N := some 119) #[true, true, true, true, true, false, true, true, true, true, true, false, true, false, false] rfl rfl (by kernel_rfl) (by decide) (fun K hK => ?_)
        refine Kd.R_lit_step (Kd.int .i8) (w0 := ws) ws.heap.size 64 (by rfl) (N := 119) rfl (xs := []) (inner := []) (ok := fun _ => True) (okp := fun _ => True) (by first | (go_simp; done) | (go_simp; rfl)) (Reps.none _ _) (fun _ h => h) trivial hHeld.to_below hHeld.size (by simp) ?_
        intro v1 w1 ho1 hb1 hg1 hat1
        have HO1 := Aside0.mk ho1
        (try have HNE := Aside0.mk (show some gb ≠ v1.ownBlock from fun e => by obtain ⟨b, hb, hle⟩ := hat1; rw [hb] at e; injection e with e; have := lt_of_some HGB.out; omega))
        (try replace HGB := Aside0.mk ((hg1.block _ (lt_of_some HGB.out) (by simp)).trans HGB.out))
        clear ho1 hg1 hat1
        refine hK.out _ _ (FrB.below hb1) (fun hHeld => ?_)
        clear hK K
        refine norm_ (a' := ?_) ?_ ?_
        rotate_left
        ·show Act.put _ (some 119) _ = _
         simp only [Act.put, List.setIfInBounds_toArray, List.set_cons_zero, List.set_cons_succ, i64_w, i32_w]
         rfl
        refine one_ (i := 5) (N := some 121) #[true, true, true, true, true, true, true, true, true, true, true, false, true, false, false] rfl rfl (by kernel_rfl) (by decide) (fun K hK => ?_)
        refine Kd.R_append_rows_step (Kd.int .i8) (w0 := ws) ws.heap.size (by rfl) (.tmp 119) (.tmp 120) 28 64 (.int .i8 0) 1 rfl Try.underlying28 infoI8 rfl (by decide) (by omega) v1 [] h A h.length c (fun _ => True) (fun _ => False) rfl rfl HO1.out (Kd.R_reads' (own_later HOH.out hHeld (by simp))).2.2 (fun _ _ h => h) (fun _ h => h.elim) (fun _ _ => trivial) hHeld.to_below hHeld.size (by simp; omega) ?_
        intro v2 w2 ho2 hb2 hg2 hat2
        have HO2 := Aside0.mk ho2
        (try replace HGB := Aside0.mk ((hg2.block _ (lt_of_some HGB.out) HNE.out).trans HGB.out))
        clear ho2 hg2 hat2
        refine hK.out _ _ (FrB.below hb2) (fun hHeld => ?_)
        clear hK K
        refine norm_ (a' := ?_) ?_ ?_
        rotate_left
        ·show Act.put _ (some 121) _ = _
         simp only [Act.put, List.setIfInBounds_toArray, List.set_cons_zero, List.set_cons_succ, i64_w, i32_w]
         rfl
        exact norm_ (by first | (simp only [putAll, Act.put, List.setIfInBounds_toArray, List.set_cons_zero, List.set_cons_succ]; done) | (simp only [putAll, Act.put, List.setIfInBounds_toArray, List.set_cons_zero, List.set_cons_succ]; rfl)) (hJ (v1, v2, gb) _ ⟨hHeld, HO2.out, HGB.out⟩)
      rintro ⟨v1, v2, gb⟩ wj ⟨hHeld, hj1, hj2⟩
      have HO2 := Aside0.mk hj1
      have HGB := Aside0.mk hj2
      clear hj1 hj2
      dsimp only at HO2 HGB
      refine norm_ (a' := ?_) ?_ ?_
      rotate_left
      ·simp only [putAll, Act.put, List.setIfInBounds_toArray, List.set_cons_zero, List.set_cons_succ]
       rfl
      refine one_ (i := 11) (N := some 127) #[true, true, true, true, true, true, true, true, true, true, true, true, true, false, false] rfl rfl (by kernel_rfl) (by decide) (fun K hK => ?_)
      refine Kd.R_append_rows_step (Kd.int .i8) (w0 := ws) ws.heap.size (by rfl) (.tmp 121) (.tmp 126) 28 64 (.int .i8 0) 1 rfl Try.underlying28 infoI8 rfl (by decide) (by omega) v2 h [(xn : Int)] (some ⟨gb, 0, none⟩) 1 1 (fun _ => True) (fun _ => False) rfl rfl HO2.out (row1 HGB.out) (fun _ _ h => h) (fun _ h => h.elim) (fun _ _ => trivial) hHeld.to_below hHeld.size (by omega) ?_
      intro v3 w3 ho3 hb3 hg3 hat3
      have HO3 := Aside0.mk ho3
      clear ho3 hg3 hat3
      refine hK.out _ _ (FrB.below hb3) (fun hHeld => ?_)
      clear hK K
      refine norm_ (a' := ?_) ?_ ?_
      rotate_left
      ·show Act.put _ (some 127) _ = _
       simp only [Act.put, List.setIfInBounds_toArray, List.set_cons_zero, List.set_cons_succ, i64_w, i32_w]
       rfl
      refine last_ (i := 13) (N := some 129) #[true, true, true, true, true, true, true, true, true, true, true, true, true, true, false] rfl rfl (by kernel_rfl) (by decide) (fun K hK => ?_)
      refine goes_ Try.func49 (by kernel_rfl) rfl #[u0, .agg (vals .i16 (bump Lc (xn : Int) (-1))), .slice (some ad) m.length cm, v3, .int .i64 (g : Int)] (by rfl) rfl rfl (by simp only [List.map_toArray, List.map_cons, List.map_nil]; rfl) ?_
      refine (HREC.out v3 _ HO3.out hHeld).mono ?_
      rintro e w7 ⟨v7, rfl, hLS, hGr⟩
      refine ⟨_, rfl, ?_⟩
      refine hK.out _ _ ?_
      clear hK K
      refine norm_ (a' := ?_) ?_ ?_
      rotate_left
      ·show Act.put _ (some 129) _ = _
       simp only [Act.put, List.setIfInBounds_toArray, List.set_cons_zero, List.set_cons_succ, i64_w, i32_w]
       rfl
      refine pure_ (i := 14) (N := some 0) (v := ?_) (a' := ?_) #[true, true, true, true, true, true, true, true, true, true, true, true, true, true, true] rfl rfl (by kernel_rfl) (fun _ _ _ h => h) (Or.inl ⟨by rfl, ?_⟩) ?_ ?_
      rotate_left
      ·intro w'
       go_simp
       with_reducible rfl
      rotate_left
      ·simp only [Act.put, List.setIfInBounds_toArray, List.set_cons_zero, List.set_cons_succ, i64_w, i32_w]
       rfl
      refine done_ (by kernel_rfl) ?_
      have HE := Aside0.mk (And.intro hLS (Gr.trans (HLG.out.2.fr (HW1.out.trans hHeld)) hGr))
      clear hLS hGr hHeld
      go_wp2_with fail
      go_ret
      exact ⟨_, rfl, by rw [HFIN.out, HEF.out, if_pos rfl, ← List.append_assoc]; exact HE.out.1, (Gr.of (v := v) HF6.out).trans HE.out.2⟩
    ·obtain ⟨s, rfl⟩ : ∃ s, t = s + 1 := ⟨t - 1, by omega⟩
     have HDS := Aside0.mk (show subsTo m h.length (g : Int) (s + 1) = (if subOk m h.length (g : Int) (-((s : Int) + 1)) = true then [-((s : Int) + 1)] else []) ++ subsTo m h.length (g : Int) s from rfl)
     have hcz0 := (blk_cell HG6r.out (40 + s)).trans (vals_get (k := .i16) (by omega : 40 + s < Lc.length))
     have HEZ := Aside0.mk (show enough L0 h (-((s : Int) + 1)) = decide (rd Lc ((40 + s : Nat) : Int) ≠ 0) by rw [HEN.out, slot_sub (by omega), show (-(-((s : Int) + 1)) - 1).toNat = s by omega])
     have hs4 : s < 4 := by omega
     generalize hnn : ((s + 1 : Nat) : Int) = n at *
     have HNN : Aside0 (n - 1 = (s : Int)) := ⟨by omega⟩
     have HNM : Aside0 (-((s : Int) + 1) = -n) := ⟨by omega⟩
     have hn1 : 1 ≤ n := by omega
     have hn4 : n ≤ 4 := by omega
     have hv1 : wrap64 (-n) = -n := w64 (by omega) (by omega)
     have hv2 : IntKind.i8.wrap (-n) = -n := i8w (by omega) (by omega)
     have hv3 : wrap64 ((g : Int) + n) = (g : Int) + n := w64 (by omega) (by omega)
     have hv4 : wrap64 ((g : Int) + n - 1) = (g : Int) + n - 1 := w64 (by omega) (by omega)
     have hv5 : wrap64 (n - 1) = n - 1 := w64 (by omega) (by omega)
     have hv6 : n - 1 < 4 := by omega
     have hv7 : 0 ≤ n - 1 := by omega
     have hv8 : n < 5 := by omega
     have hp0 : 1 ≤ (g : Int) + n := by omega
     have hgs : (g : Int) + s = (g : Int) + n - 1 := by omega
     rw [HNM.out] at HDS HEZ
     have HSO1 := Aside0.mk (HSO.out s)
     rw [HNM.out, hgs] at HSO1
     generalize hzv : rd Lc ((40 + s : Nat) : Int) = z at *
     have hcz : wr.cell? ⟨g6, 40 + (n.toNat - 1), none⟩ = some (.int .i16 z) := by rw [show 40 + (n.toNat - 1) = 40 + s by omega]; exact hcz0
     clear hcz0
     by_cases hat : (g : Int) + n - 1 < (h.length : Int)
     ·have hca := HMr.out (g + s) (by omega)
      rw [show ad.add (g + s) = ad.add (((g : Int) + n).toNat - 1) by congr 1; omega] at hca
      have hge1 : decide ((h.length : Int) ≤ (g : Int) + n - 1) = false := decide_eq_false (by omega)
      have hge2 : decide ((h.length : Int) < (g : Int) + n) = false := decide_eq_false (by omega)
      have hge3 : ¬ ((h.length : Int) < (g : Int) + n) := by omega
      have hpm1 : (g : Int) + n - 1 < (m.length : Int) := by omega
      have hpm2 : (g : Int) + n ≤ (m.length : Int) := by omega
      generalize rd m ((g + s : Nat) : Int) = y at *
      by_cases heq : y = (xn : Int)
      ·subst heq
       have HRS := Aside0.mk (show subOk m h.length (g : Int) (-n) = true by rw [HSO1.out]; exact decide_eq_true ⟨hat, rfl⟩)
       by_cases hz : z = 0
       ·subst hz
        have HEF := Aside0.mk (show enough L0 h (-n) = false by rw [HEZ.out]; rfl)
        clear hzv hnn
        go_wp2_with fail
        refine start_ (n := 28) (S := fun w' => FrB [] wr w') (ds := []) #[false, false, false, false, false, false, false, false, false, false, false, false, false, false, false, false, false, false, false, false, false, false, false, false, false, false, false, false] (by kernel_rfl) rfl rfl (FrB.below (below_drew (Below.refl _ _))) (fun hHeld => ?_)
        refine pure_ (i := 0) (N := some 47) (v := ?_) (a' := ?_) #[true, false, false, false, false, false, false, false, false, false, false, false, false, false, false, false, false, false, false, false, false, false, false, false, false, false, false, false] rfl rfl (by kernel_rfl) (fun _ _ _ h => h) (Or.inl ⟨by rfl, ?_⟩) ?_ ?_
        rotate_left
        ·intro w'
         go_simp
         with_reducible rfl
        rotate_left
        ·simp only [Act.put, List.setIfInBounds_toArray, List.set_cons_zero, List.set_cons_succ, i64_w, i32_w]
         rfl
        refine pure_ (i := 1) (N := some 48) (v := ?_) (a' := ?_) #[true, true, false, false, false, false, false, false, false, false, false, false, false, false, false, false, false, false, false, false, false, false, false, false, false, false, false, false] rfl rfl (by kernel_rfl) (fun _ _ _ h => h) (Or.inl ⟨by rfl, ?_⟩) ?_ ?_
        rotate_left
        ·intro w'
         go_simp
         with_reducible rfl
        rotate_left
        ·simp only [Act.put, List.setIfInBounds_toArray, List.set_cons_zero, List.set_cons_succ, i64_w, i32_w]
         rfl
        refine pure_ (i := 2) (N := some 49) (v := ?_) (a' := ?_) #[true, true, true, false, false, false, false, false, false, false, false, false, false, false, false, false, false, false, false, false, false, false, false, false, false, false, false, false] rfl rfl (by kernel_rfl) (fun _ _ _ h => h) (Or.inl ⟨by rfl, ?_⟩) ?_ ?_
        rotate_left
        ·intro w'
         go_simp
         with_reducible rfl
        rotate_left
        ·simp only [Act.put, List.setIfInBounds_toArray, List.set_cons_zero, List.set_cons_succ, i64_w, i32_w]
         rfl
        refine pure_ (i := 3) (N := some 50) (v := ?_) (a' := ?_) #[true, true, true, true, false, false, false, false, false, false, false, false, false, false, false, false, false, false, false, false, false, false, false, false, false, false, false, false] rfl rfl (by kernel_rfl) (fun _ _ _ h => h) (Or.inl ⟨by rfl, ?_⟩) ?_ ?_
        rotate_left
        ·intro w'
         go_simp
         with_reducible rfl
        rotate_left
        ·simp only [Act.put, List.setIfInBounds_toArray, List.set_cons_zero, List.set_cons_succ, i64_w, i32_w]
         rfl
        refine pure_ (i := 4) (N := some 51) (v := ?_) (a' := ?_) #[true, true, true, true, true, false, false, false, false, false, false, false, false, false, false, false, false, false, false, false, false, false, false, false, false, false, false, false] rfl rfl (by kernel_rfl) (fun _ _ _ h => h) (Or.inl ⟨by rfl, ?_⟩) ?_ ?_
        rotate_left
        ·intro w'
         go_simp
         with_reducible rfl
        rotate_left
        ·simp only [Act.put, List.setIfInBounds_toArray, List.set_cons_zero, List.set_cons_succ, i64_w, i32_w]
         rfl
        refine pure_ (i := 5) (N := some 52) (v := ?_) (a' := ?_) #[true, true, true, true, true, true, false, false, false, false, false, false, false, false, false, false, false, false, false, false, false, false, false, false, false, false, false, false] rfl rfl (by kernel_rfl) (fun _ _ _ h => h) (Or.inl ⟨by rfl, ?_⟩) ?_ ?_
        rotate_left
        ·intro w'
         go_simp
         with_reducible rfl
        rotate_left
        ·simp only [Act.put, List.setIfInBounds_toArray, List.set_cons_zero, List.set_cons_succ, i64_w, i32_w]
         rfl
        refine pure_ (i := 6) (N := some 53) (v := ?_) (a' := ?_) #[true, true, true, true, true, true, true, false, false, false, false, false, false, false, false, false, false, false, false, false, false, false, false, false, false, false, false, false] rfl rfl (by kernel_rfl) (fun _ _ _ h => h) (Or.inl ⟨by rfl, ?_⟩) ?_ ?_
        rotate_left
        ·intro w'
         go_simp
         with_reducible rfl
        rotate_left
        ·simp only [Act.put, List.setIfInBounds_toArray, List.set_cons_zero, List.set_cons_succ, i64_w, i32_w]
         rfl
        refine pure_ (i := 7) (N := some 54) (v := ?_) (a' := ?_) #[true, true, true, true, true, true, true, true, false, false, false, false, false, false, false, false, false, false, false, false, false, false, false, false, false, false, false, false] rfl rfl (by kernel_rfl) (fun _ _ _ h => h) (Or.inl ⟨by rfl, ?_⟩) ?_ ?_
        rotate_left
        ·intro w'
         go_simp
         with_reducible rfl
        rotate_left
        ·simp only [Act.put, List.setIfInBounds_toArray, List.set_cons_zero, List.set_cons_succ, i64_w, i32_w]
         rfl
        refine pure_ (i := 8) (N := some 55) (v := ?_) (a' := ?_) #[true, true, true, true, true, true, true, true, true, false, false, false, false, false, false, false, false, false, false, false, false, false, false, false, false, false, false, false] rfl rfl (by kernel_rfl) (fun _ _ _ h => h) (Or.inl ⟨by rfl, ?_⟩) ?_ ?_
        rotate_left
        ·intro w'
         go_simp
         with_reducible rfl
        rotate_left
        ·simp only [Act.put, List.setIfInBounds_toArray, List.set_cons_zero, List.set_cons_succ, i64_w, i32_w]
         rfl
        refine pure_ (i := 9) (N := some 56) (v := ?_) (a' := ?_) #[true, true, true, true, true, true, true, true, true, true, false, false, false, false, false, false, false, false, false, false, false, false, false, false, false, false, false, false] rfl rfl (by kernel_rfl) (fun _ _ _ h => h) (Or.inl ⟨by rfl, ?_⟩) ?_ ?_
        rotate_left
        ·intro w'
         go_simp
         with_reducible rfl
        rotate_left
        ·simp only [Act.put, List.setIfInBounds_toArray, List.set_cons_zero, List.set_cons_succ, i64_w, i32_w]
         rfl
        refine pure_ (i := 10) (N := some 57) (v := ?_) (a' := ?_) #[true, true, true, true, true, true, true, true, true, true, true, false, false, false, false, false, false, false, false, false, false, false, false, false, false, false, false, false] rfl rfl (by kernel_rfl) (fun _ _ _ h => h) (Or.inl ⟨by rfl, ?_⟩) ?_ ?_
        rotate_left
        ·intro w'
         go_simp
         with_reducible rfl
        rotate_left
        ·simp only [Act.put, List.setIfInBounds_toArray, List.set_cons_zero, List.set_cons_succ, i64_w, i32_w]
         rfl
        refine pure_ (i := 11) (N := some 58) (v := ?_) (a' := ?_) #[true, true, true, true, true, true, true, true, true, true, true, true, false, false, false, false, false, false, false, false, false, false, false, false, false, false, false, false] rfl rfl (by kernel_rfl) (fun _ _ _ h => h) (Or.inl ⟨by rfl, ?_⟩) ?_ ?_
        rotate_left
        ·intro w'
         go_simp
         with_reducible rfl
        rotate_left
        ·simp only [Act.put, List.setIfInBounds_toArray, List.set_cons_zero, List.set_cons_succ, i64_w, i32_w]
         rfl
        refine pure_ (i := 12) (N := some 59) (v := ?_) (a' := ?_) #[true, true, true, true, true, true, true, true, true, true, true, true, true, false, false, false, false, false, false, false, false, false, false, false, false, false, false, false] rfl rfl (by kernel_rfl) (fun _ _ _ h => h) (Or.inl ⟨by rfl, ?_⟩) ?_ ?_
        rotate_left
        ·intro w'
         go_simp
         with_reducible rfl
        rotate_left
        ·simp only [Act.put, List.setIfInBounds_toArray, List.set_cons_zero, List.set_cons_succ, i64_w, i32_w]
         rfl
        refine pure_ (i := 14) (N := some 61) (v := ?_) (a' := ?_) #[true, true, true, true, true, true, true, true, true, true, true, true, true, false, true, false, false, false, false, false, false, false, false, false, false, false, false, false] rfl rfl (by kernel_rfl) (fun _ _ _ h => h) (Or.inl ⟨by rfl, ?_⟩) ?_ ?_
        rotate_left
        ·intro w'
         go_simp
         with_reducible rfl
        rotate_left
        ·simp only [Act.put, List.setIfInBounds_toArray, List.set_cons_zero, List.set_cons_succ, i64_w, i32_w]
         rfl
        refine pure_ (i := 15) (N := some 62) (v := ?_) (a' := ?_) #[true, true, true, true, true, true, true, true, true, true, true, true, true, false, true, true, false, false, false, false, false, false, false, false, false, false, false, false] rfl rfl (by kernel_rfl) (fun _ _ _ h => h) (Or.inl ⟨by rfl, ?_⟩) ?_ ?_
        rotate_left
        ·intro w'
         go_simp
         with_reducible rfl
        rotate_left
        ·simp only [Act.put, List.setIfInBounds_toArray, List.set_cons_zero, List.set_cons_succ, i64_w, i32_w]
         rfl
        refine pure_ (i := 16) (N := some 63) (v := ?_) (a' := ?_) #[true, true, true, true, true, true, true, true, true, true, true, true, true, false, true, true, true, false, false, false, false, false, false, false, false, false, false, false] rfl rfl (by kernel_rfl) (fun _ _ _ h => h) (Or.inl ⟨by rfl, ?_⟩) ?_ ?_
        rotate_left
        ·intro w'
         go_simp
         with_reducible rfl
        rotate_left
        ·simp only [Act.put, List.setIfInBounds_toArray, List.set_cons_zero, List.set_cons_succ, i64_w, i32_w]
         rfl
        refine take_ (i := 13) (N := some 60) (v := .int .i8 (xn : Int)) (a' := ?_) #[true, true, true, true, true, true, true, true, true, true, true, true, true, true, true, true, true, false, false, false, false, false, false, false, false, false, false, false] rfl rfl (by kernel_rfl) (fun _ _ _ h => h) (Or.inl ⟨by rfl, ?_⟩) hHeld ?_ ?_
        ·intro w' s0
         exact y_cell (by rfl) (by rfl) oneI8 (s0.read hca)
        rotate_left
        ·simp only [Act.put, List.setIfInBounds_toArray, List.set_cons_zero, List.set_cons_succ, i64_w, i32_w]
         rfl
        refine take_ (i := 17) (N := some 64) (v := .int .i8 (xn : Int)) (a' := ?_) #[true, true, true, true, true, true, true, true, true, true, true, true, true, true, true, true, true, true, false, false, false, false, false, false, false, false, false, false] rfl rfl (by kernel_rfl) (fun _ _ _ h => h) (Or.inl ⟨by rfl, ?_⟩) hHeld ?_ ?_
        ·intro w' s0
         exact y_cell (by rfl) (by rfl) oneI8 (s0.read hcx)
        rotate_left
        ·simp only [Act.put, List.setIfInBounds_toArray, List.set_cons_zero, List.set_cons_succ, i64_w, i32_w]
         rfl
        refine pure_ (i := 18) (N := some 65) (v := ?_) (a' := ?_) #[true, true, true, true, true, true, true, true, true, true, true, true, true, true, true, true, true, true, true, false, false, false, false, false, false, false, false, false] rfl rfl (by kernel_rfl) (fun _ _ _ h => h) (Or.inl ⟨by rfl, ?_⟩) ?_ ?_
        rotate_left
        ·intro w'
         go_simp
         with_reducible rfl
        rotate_left
        ·simp only [Act.put, List.setIfInBounds_toArray, List.set_cons_zero, List.set_cons_succ, i64_w, i32_w]
         rfl
        refine pure_ (i := 19) (N := some 66) (v := ?_) (a' := ?_) #[true, true, true, true, true, true, true, true, true, true, true, true, true, true, true, true, true, true, true, true, false, false, false, false, false, false, false, false] rfl rfl (by kernel_rfl) (fun _ _ _ h => h) (Or.inl ⟨by rfl, ?_⟩) ?_ ?_
        rotate_left
        ·intro w'
         go_simp
         with_reducible rfl
        rotate_left
        ·simp only [Act.put, List.setIfInBounds_toArray, List.set_cons_zero, List.set_cons_succ, i64_w, i32_w]
         rfl
        refine pure_ (i := 20) (N := some 67) (v := ?_) (a' := ?_) #[true, true, true, true, true, true, true, true, true, true, true, true, true, true, true, true, true, true, true, true, true, false, false, false, false, false, false, false] rfl rfl (by kernel_rfl) (fun _ _ _ h => h) (Or.inl ⟨by rfl, ?_⟩) ?_ ?_
        rotate_left
        ·intro w'
         go_simp
         with_reducible rfl
        rotate_left
        ·simp only [Act.put, List.setIfInBounds_toArray, List.set_cons_zero, List.set_cons_succ, i64_w, i32_w]
         rfl
        refine pure_ (i := 21) (N := some 68) (v := ?_) (a' := ?_) #[true, true, true, true, true, true, true, true, true, true, true, true, true, true, true, true, true, true, true, true, true, true, false, false, false, false, false, false] rfl rfl (by kernel_rfl) (fun _ _ _ h => h) (Or.inl ⟨by rfl, ?_⟩) ?_ ?_
        rotate_left
        ·intro w'
         go_simp
         with_reducible rfl
        rotate_left
        ·simp only [Act.put, List.setIfInBounds_toArray, List.set_cons_zero, List.set_cons_succ, i64_w, i32_w]
         rfl
        refine pure_ (i := 22) (N := some 69) (v := ?_) (a' := ?_) #[true, true, true, true, true, true, true, true, true, true, true, true, true, true, true, true, true, true, true, true, true, true, true, false, false, false, false, false] rfl rfl (by kernel_rfl) (fun _ _ _ h => h) (Or.inl ⟨by rfl, ?_⟩) ?_ ?_
        rotate_left
        ·intro w'
         go_simp
         with_reducible rfl
        rotate_left
        ·simp only [Act.put, List.setIfInBounds_toArray, List.set_cons_zero, List.set_cons_succ, i64_w, i32_w]
         rfl
        refine pure_ (i := 23) (N := some 70) (v := ?_) (a' := ?_) #[true, true, true, true, true, true, true, true, true, true, true, true, true, true, true, true, true, true, true, true, true, true, true, true, false, false, false, false] rfl rfl (by kernel_rfl) (fun _ _ _ h => h) (Or.inl ⟨by rfl, ?_⟩) ?_ ?_
        rotate_left
        ·intro w'
         go_simp
         with_reducible rfl
        rotate_left
        ·simp only [Act.put, List.setIfInBounds_toArray, List.set_cons_zero, List.set_cons_succ, i64_w, i32_w]
         rfl
        refine pure_ (i := 24) (N := some 71) (v := ?_) (a' := ?_) #[true, true, true, true, true, true, true, true, true, true, true, true, true, true, true, true, true, true, true, true, true, true, true, true, true, false, false, false] rfl rfl (by kernel_rfl) (fun _ _ _ h => h) (Or.inl ⟨by rfl, ?_⟩) ?_ ?_
        rotate_left
        ·intro w'
         go_simp
         with_reducible rfl
        rotate_left
        ·simp only [Act.put, List.setIfInBounds_toArray, List.set_cons_zero, List.set_cons_succ, i64_w, i32_w]
         rfl
        refine take_ (i := 25) (N := some 72) (v := .int .i16 0) (a' := ?_) #[true, true, true, true, true, true, true, true, true, true, true, true, true, true, true, true, true, true, true, true, true, true, true, true, true, true, false, false] rfl rfl (by kernel_rfl) (fun _ _ _ h => h) (Or.inl ⟨by rfl, ?_⟩) hHeld ?_ ?_
        ·intro w' s0
         exact y_cell (by rfl) (by rfl) one22 (s0.read hcz)
        rotate_left
        ·simp only [Act.put, List.setIfInBounds_toArray, List.set_cons_zero, List.set_cons_succ, i64_w, i32_w]
         rfl
        refine pure_ (i := 26) (N := some 73) (v := ?_) (a' := ?_) #[true, true, true, true, true, true, true, true, true, true, true, true, true, true, true, true, true, true, true, true, true, true, true, true, true, true, true, false] rfl rfl (by kernel_rfl) (fun _ _ _ h => h) (Or.inl ⟨by rfl, ?_⟩) ?_ ?_
        rotate_left
        ·intro w'
         go_simp
         with_reducible rfl
        rotate_left
        ·simp only [Act.put, List.setIfInBounds_toArray, List.set_cons_zero, List.set_cons_succ, i64_w, i32_w]
         rfl
        refine pure_ (i := 27) (N := some 74) (v := ?_) (a' := ?_) #[true, true, true, true, true, true, true, true, true, true, true, true, true, true, true, true, true, true, true, true, true, true, true, true, true, true, true, true] rfl rfl (by kernel_rfl) (fun _ _ _ h => h) (Or.inl ⟨by rfl, ?_⟩) ?_ ?_
        rotate_left
        ·intro w'
         go_simp
         with_reducible rfl
        rotate_left
        ·simp only [Act.put, List.setIfInBounds_toArray, List.set_cons_zero, List.set_cons_succ, i64_w, i32_w]
         rfl
        refine done_ (by kernel_rfl) ?_
        skip
        have HW0 := Aside0.mk hHeld
        go_wp2_with fail
        go_roundw
        case rel => exact ⟨s, D ++ [-n], by omega, by rw [HNN.out], ⟨by rw [← HD.out, HDS.out, HRS.out, if_pos rfl, List.append_assoc]⟩, ⟨by rw [goes_snoc, HEF.out, if_neg (by simp), List.append_nil]; exact HLG.out.1.fr HW0.out, HLG.out.2.fr HW0.out⟩⟩
        case measure => simp [intOf]; omega
       ·have hz1 : (z == 0) = false := by rw [beq_eq_false_iff_ne]; exact hz
        have HEF := Aside0.mk (show enough L0 h (-n) = true by rw [HEZ.out]; exact decide_eq_true hz)
        have HZV := Aside0.mk hzv
        have hzb := HLB.out (40 + s) (by omega)
        rw [hzv] at hzb
        have HBP := Aside0.mk (show Lc.set (0 + 40 + (n - 1).toNat) (IntKind.i16.wrap (rd Lc (40 + ((n.toNat - 1 : Nat) : Int)) - 1)) = bump Lc (-n) (-1) by
         have h1 := HNN.out
         unfold bump
         rw [if_neg (by omega), slot_sub (by omega), show 0 + 40 + (n - 1).toNat = 40 + s by omega, show (40 : Int) + ((n.toNat - 1 : Nat) : Int) = ((40 + s : Nat) : Int) by omega, show 40 + (- -n - 1).toNat = 40 + s by omega, hzv, i16w (by omega) (by omega)]
         rfl)
        have HNH := Aside0.mk (show NumH (-n) from Or.inr (Or.inr (by omega)))
        have HDL := Aside0.mk (show D.length ≤ 4 by have h1 := congrArg List.length HD.out; rw [List.length_append] at h1; have := subsTo_len m h.length (g : Int) 4; omega)
        clear hzv hnn
        go_wp2_with fail
        refine start_ (n := 28) (S := fun w' => FrB [] wr w') (ds := []) #[false, false, false, false, false, false, false, false, false, false, false, false, false, false, false, false, false, false, false, false, false, false, false, false, false, false, false, false] (by kernel_rfl) rfl rfl (FrB.below (below_drew (Below.refl _ _))) (fun hHeld => ?_)
        refine pure_ (i := 0) (N := some 47) (v := ?_) (a' := ?_) #[true, false, false, false, false, false, false, false, false, false, false, false, false, false, false, false, false, false, false, false, false, false, false, false, false, false, false, false] rfl rfl (by kernel_rfl) (fun _ _ _ h => h) (Or.inl ⟨by rfl, ?_⟩) ?_ ?_
        rotate_left
        ·intro w'
         go_simp
         with_reducible rfl
        rotate_left
        ·simp only [Act.put, List.setIfInBounds_toArray, List.set_cons_zero, List.set_cons_succ, i64_w, i32_w]
         rfl
        refine pure_ (i := 1) (N := some 48) (v := ?_) (a' := ?_) #[true, true, false, false, false, false, false, false, false, false, false, false, false, false, false, false, false, false, false, false, false, false, false, false, false, false, false, false] rfl rfl (by kernel_rfl) (fun _ _ _ h => h) (Or.inl ⟨by rfl, ?_⟩) ?_ ?_
        rotate_left
        ·intro w'
         go_simp
         with_reducible rfl
        rotate_left
        ·simp only [Act.put, List.setIfInBounds_toArray, List.set_cons_zero, List.set_cons_succ, i64_w, i32_w]
         rfl
        refine pure_ (i := 2) (N := some 49) (v := ?_) (a' := ?_) #[true, true, true, false, false, false, false, false, false, false, false, false, false, false, false, false, false, false, false, false, false, false, false, false, false, false, false, false] rfl rfl (by kernel_rfl) (fun _ _ _ h => h) (Or.inl ⟨by rfl, ?_⟩) ?_ ?_
        rotate_left
        ·intro w'
         go_simp
         with_reducible rfl
        rotate_left
        ·simp only [Act.put, List.setIfInBounds_toArray, List.set_cons_zero, List.set_cons_succ, i64_w, i32_w]
         rfl
        refine pure_ (i := 3) (N := some 50) (v := ?_) (a' := ?_) #[true, true, true, true, false, false, false, false, false, false, false, false, false, false, false, false, false, false, false, false, false, false, false, false, false, false, false, false] rfl rfl (by kernel_rfl) (fun _ _ _ h => h) (Or.inl ⟨by rfl, ?_⟩) ?_ ?_
        rotate_left
        ·intro w'
         go_simp
         with_reducible rfl
        rotate_left
        ·simp only [Act.put, List.setIfInBounds_toArray, List.set_cons_zero, List.set_cons_succ, i64_w, i32_w]
         rfl
        refine pure_ (i := 4) (N := some 51) (v := ?_) (a' := ?_) #[true, true, true, true, true, false, false, false, false, false, false, false, false, false, false, false, false, false, false, false, false, false, false, false, false, false, false, false] rfl rfl (by kernel_rfl) (fun _ _ _ h => h) (Or.inl ⟨by rfl, ?_⟩) ?_ ?_
        rotate_left
        ·intro w'
         go_simp
         with_reducible rfl
        rotate_left
        ·simp only [Act.put, List.setIfInBounds_toArray, List.set_cons_zero, List.set_cons_succ, i64_w, i32_w]
         rfl
        refine pure_ (i := 5) (N := some 52) (v := ?_) (a' := ?_) #[true, true, true, true, true, true, false, false, false, false, false, false, false, false, false, false, false, false, false, false, false, false, false, false, false, false, false, false] rfl rfl (by kernel_rfl) (fun _ _ _ h => h) (Or.inl ⟨by rfl, ?_⟩) ?_ ?_
        rotate_left
        ·intro w'
         go_simp
         with_reducible rfl
        rotate_left
        ·simp only [Act.put, List.setIfInBounds_toArray, List.set_cons_zero, List.set_cons_succ, i64_w, i32_w]
         rfl
        refine pure_ (i := 6) (N := some 53) (v := ?_) (a' := ?_) #[true, true, true, true, true, true, true, false, false, false, false, false, false, false, false, false, false, false, false, false, false, false, false, false, false, false, false, false] rfl rfl (by kernel_rfl) (fun _ _ _ h => h) (Or.inl ⟨by rfl, ?_⟩) ?_ ?_
        rotate_left
        ·intro w'
         go_simp
         with_reducible rfl
        rotate_left
        ·simp only [Act.put, List.setIfInBounds_toArray, List.set_cons_zero, List.set_cons_succ, i64_w, i32_w]
         rfl
        refine pure_ (i := 7) (N := some 54) (v := ?_) (a' := ?_) #[true, true, true, true, true, true, true, true, false, false, false, false, false, false, false, false, false, false, false, false, false, false, false, false, false, false, false, false] rfl rfl (by kernel_rfl) (fun _ _ _ h => h) (Or.inl ⟨by rfl, ?_⟩) ?_ ?_
        rotate_left
        ·intro w'
         go_simp
         with_reducible rfl
        rotate_left
        ·simp only [Act.put, List.setIfInBounds_toArray, List.set_cons_zero, List.set_cons_succ, i64_w, i32_w]
         rfl
        refine pure_ (i := 8) (N := some 55) (v := ?_) (a' := ?_) #[true, true, true, true, true, true, true, true, true, false, false, false, false, false, false, false, false, false, false, false, false, false, false, false, false, false, false, false] rfl rfl (by kernel_rfl) (fun _ _ _ h => h) (Or.inl ⟨by rfl, ?_⟩) ?_ ?_
        rotate_left
        ·intro w'
         go_simp
         with_reducible rfl
        rotate_left
        ·simp only [Act.put, List.setIfInBounds_toArray, List.set_cons_zero, List.set_cons_succ, i64_w, i32_w]
         rfl
        refine pure_ (i := 9) (N := some 56) (v := ?_) (a' := ?_) #[true, true, true, true, true, true, true, true, true, true, false, false, false, false, false, false, false, false, false, false, false, false, false, false, false, false, false, false] rfl rfl (by kernel_rfl) (fun _ _ _ h => h) (Or.inl ⟨by rfl, ?_⟩) ?_ ?_
        rotate_left
        ·intro w'
         go_simp
         with_reducible rfl
        rotate_left
        ·simp only [Act.put, List.setIfInBounds_toArray, List.set_cons_zero, List.set_cons_succ, i64_w, i32_w]
         rfl
        refine pure_ (i := 10) (N := some 57) (v := ?_) (a' := ?_) #[true, true, true, true, true, true, true, true, true, true, true, false, false, false, false, false, false, false, false, false, false, false, false, false, false, false, false, false] rfl rfl (by kernel_rfl) (fun _ _ _ h => h) (Or.inl ⟨by rfl, ?_⟩) ?_ ?_
        rotate_left
        ·intro w'
         go_simp
         with_reducible rfl
        rotate_left
        ·simp only [Act.put, List.setIfInBounds_toArray, List.set_cons_zero, List.set_cons_succ, i64_w, i32_w]
         rfl
        refine pure_ (i := 11) (N := some 58) (v := ?_) (a' := ?_) #[true, true, true, true, true, true, true, true, true, true, true, true, false, false, false, false, false, false, false, false, false, false, false, false, false, false, false, false] rfl rfl (by kernel_rfl) (fun _ _ _ h => h) (Or.inl ⟨by rfl, ?_⟩) ?_ ?_
        rotate_left
        ·intro w'
         go_simp
         with_reducible rfl
        rotate_left
        ·simp only [Act.put, List.setIfInBounds_toArray, List.set_cons_zero, List.set_cons_succ, i64_w, i32_w]
         rfl
        refine pure_ (i := 12) (N := some 59) (v := ?_) (a' := ?_) #[true, true, true, true, true, true, true, true, true, true, true, true, true, false, false, false, false, false, false, false, false, false, false, false, false, false, false, false] rfl rfl (by kernel_rfl) (fun _ _ _ h => h) (Or.inl ⟨by rfl, ?_⟩) ?_ ?_
        rotate_left
        ·intro w'
         go_simp
         with_reducible rfl
        rotate_left
        ·simp only [Act.put, List.setIfInBounds_toArray, List.set_cons_zero, List.set_cons_succ, i64_w, i32_w]
         rfl
        refine pure_ (i := 14) (N := some 61) (v := ?_) (a' := ?_) #[true, true, true, true, true, true, true, true, true, true, true, true, true, false, true, false, false, false, false, false, false, false, false, false, false, false, false, false] rfl rfl (by kernel_rfl) (fun _ _ _ h => h) (Or.inl ⟨by rfl, ?_⟩) ?_ ?_
        rotate_left
        ·intro w'
         go_simp
         with_reducible rfl
        rotate_left
        ·simp only [Act.put, List.setIfInBounds_toArray, List.set_cons_zero, List.set_cons_succ, i64_w, i32_w]
         rfl
        refine pure_ (i := 15) (N := some 62) (v := ?_) (a' := ?_) #[true, true, true, true, true, true, true, true, true, true, true, true, true, false, true, true, false, false, false, false, false, false, false, false, false, false, false, false] rfl rfl (by kernel_rfl) (fun _ _ _ h => h) (Or.inl ⟨by rfl, ?_⟩) ?_ ?_
        rotate_left
        ·intro w'
         go_simp
         with_reducible rfl
        rotate_left
        ·simp only [Act.put, List.setIfInBounds_toArray, List.set_cons_zero, List.set_cons_succ, i64_w, i32_w]
         rfl
        refine pure_ (i := 16) (N := some 63) (v := ?_) (a' := ?_) #[true, true, true, true, true, true, true, true, true, true, true, true, true, false, true, true, true, false, false, false, false, false, false, false, false, false, false, false] rfl rfl (by kernel_rfl) (fun _ _ _ h => h) (Or.inl ⟨by rfl, ?_⟩) ?_ ?_
        rotate_left
        ·intro w'
         go_simp
         with_reducible rfl
        rotate_left
        ·simp only [Act.put, List.setIfInBounds_toArray, List.set_cons_zero, List.set_cons_succ, i64_w, i32_w]
         rfl
        refine take_ (i := 13) (N := some 60) (v := .int .i8 (xn : Int)) (a' := ?_) #[true, true, true, true, true, true, true, true, true, true, true, true, true, true, true, true, true, false, false, false, false, false, false, false, false, false, false, false] rfl rfl (by kernel_rfl) (fun _ _ _ h => h) (Or.inl ⟨by rfl, ?_⟩) hHeld ?_ ?_
        ·intro w' s0
         exact y_cell (by rfl) (by rfl) oneI8 (s0.read hca)
        rotate_left
        ·simp only [Act.put, List.setIfInBounds_toArray, List.set_cons_zero, List.set_cons_succ, i64_w, i32_w]
         rfl
        refine take_ (i := 17) (N := some 64) (v := .int .i8 (xn : Int)) (a' := ?_) #[true, true, true, true, true, true, true, true, true, true, true, true, true, true, true, true, true, true, false, false, false, false, false, false, false, false, false, false] rfl rfl (by kernel_rfl) (fun _ _ _ h => h) (Or.inl ⟨by rfl, ?_⟩) hHeld ?_ ?_
        ·intro w' s0
         exact y_cell (by rfl) (by rfl) oneI8 (s0.read hcx)
        rotate_left
        ·simp only [Act.put, List.setIfInBounds_toArray, List.set_cons_zero, List.set_cons_succ, i64_w, i32_w]
         rfl
        refine pure_ (i := 18) (N := some 65) (v := ?_) (a' := ?_) #[true, true, true, true, true, true, true, true, true, true, true, true, true, true, true, true, true, true, true, false, false, false, false, false, false, false, false, false] rfl rfl (by kernel_rfl) (fun _ _ _ h => h) (Or.inl ⟨by rfl, ?_⟩) ?_ ?_
        rotate_left
        ·intro w'
         go_simp
         with_reducible rfl
        rotate_left
        ·simp only [Act.put, List.setIfInBounds_toArray, List.set_cons_zero, List.set_cons_succ, i64_w, i32_w]
         rfl
        refine pure_ (i := 19) (N := some 66) (v := ?_) (a' := ?_) #[true, true, true, true, true, true, true, true, true, true, true, true, true, true, true, true, true, true, true, true, false, false, false, false, false, false, false, false] rfl rfl (by kernel_rfl) (fun _ _ _ h => h) (Or.inl ⟨by rfl, ?_⟩) ?_ ?_
        rotate_left
        ·intro w'
         go_simp
         with_reducible rfl
        rotate_left
        ·simp only [Act.put, List.setIfInBounds_toArray, List.set_cons_zero, List.set_cons_succ, i64_w, i32_w]
         rfl
        refine pure_ (i := 20) (N := some 67) (v := ?_) (a' := ?_) #[true, true, true, true, true, true, true, true, true, true, true, true, true, true, true, true, true, true, true, true, true, false, false, false, false, false, false, false] rfl rfl (by kernel_rfl) (fun _ _ _ h => h) (Or.inl ⟨by rfl, ?_⟩) ?_ ?_
        rotate_left
        ·intro w'
         go_simp
         with_reducible rfl
        rotate_left
        ·simp only [Act.put, List.setIfInBounds_toArray, List.set_cons_zero, List.set_cons_succ, i64_w, i32_w]
         rfl
        refine pure_ (i := 21) (N := some 68) (v := ?_) (a' := ?_) #[true, true, true, true, true, true, true, true, true, true, true, true, true, true, true, true, true, true, true, true, true, true, false, false, false, false, false, false] rfl rfl (by kernel_rfl) (fun _ _ _ h => h) (Or.inl ⟨by rfl, ?_⟩) ?_ ?_
        rotate_left
        ·intro w'
         go_simp
         with_reducible rfl
        rotate_left
        ·simp only [Act.put, List.setIfInBounds_toArray, List.set_cons_zero, List.set_cons_succ, i64_w, i32_w]
         rfl
        refine pure_ (i := 22) (N := some 69) (v := ?_) (a' := ?_) #[true, true, true, true, true, true, true, true, true, true, true, true, true, true, true, true, true, true, true, true, true, true, true, false, false, false, false, false] rfl rfl (by kernel_rfl) (fun _ _ _ h => h) (Or.inl ⟨by rfl, ?_⟩) ?_ ?_
        rotate_left
        ·intro w'
         go_simp
         with_reducible rfl
        rotate_left
        ·simp only [Act.put, List.setIfInBounds_toArray, List.set_cons_zero, List.set_cons_succ, i64_w, i32_w]
         rfl
        refine pure_ (i := 23) (N := some 70) (v := ?_) (a' := ?_) #[true, true, true, true, true, true, true, true, true, true, true, true, true, true, true, true, true, true, true, true, true, true, true, true, false, false, false, false] rfl rfl (by kernel_rfl) (fun _ _ _ h => h) (Or.inl ⟨by rfl, ?_⟩) ?_ ?_
        rotate_left
        ·intro w'
         go_simp
         with_reducible rfl
        rotate_left
        ·simp only [Act.put, List.setIfInBounds_toArray, List.set_cons_zero, List.set_cons_succ, i64_w, i32_w]
         rfl
        refine pure_ (i := 24) (N := some 71) (v := ?_) (a' := ?_) #[true, true, true, true, true, true, true, true, true, true, true, true, true, true, true, true, true, true, true, true, true, true, true, true, true, false, false, false] rfl rfl (by kernel_rfl) (fun _ _ _ h => h) (Or.inl ⟨by rfl, ?_⟩) ?_ ?_
        rotate_left
        ·intro w'
         go_simp
         with_reducible rfl
        rotate_left
        ·simp only [Act.put, List.setIfInBounds_toArray, List.set_cons_zero, List.set_cons_succ, i64_w, i32_w]
         rfl
        refine take_ (i := 25) (N := some 72) (v := .int .i16 z) (a' := ?_) #[true, true, true, true, true, true, true, true, true, true, true, true, true, true, true, true, true, true, true, true, true, true, true, true, true, true, false, false] rfl rfl (by kernel_rfl) (fun _ _ _ h => h) (Or.inl ⟨by rfl, ?_⟩) hHeld ?_ ?_
        ·intro w' s0
         exact y_cell (by rfl) (by rfl) one22 (s0.read hcz)
        rotate_left
        ·simp only [Act.put, List.setIfInBounds_toArray, List.set_cons_zero, List.set_cons_succ, i64_w, i32_w]
         rfl
        refine pure_ (i := 26) (N := some 73) (v := ?_) (a' := ?_) #[true, true, true, true, true, true, true, true, true, true, true, true, true, true, true, true, true, true, true, true, true, true, true, true, true, true, true, false] rfl rfl (by kernel_rfl) (fun _ _ _ h => h) (Or.inl ⟨by rfl, ?_⟩) ?_ ?_
        rotate_left
        ·intro w'
         go_simp
         with_reducible rfl
        rotate_left
        ·simp only [Act.put, List.setIfInBounds_toArray, List.set_cons_zero, List.set_cons_succ, i64_w, i32_w]
         rfl
        refine pure_ (i := 27) (N := some 74) (v := ?_) (a' := ?_) #[true, true, true, true, true, true, true, true, true, true, true, true, true, true, true, true, true, true, true, true, true, true, true, true, true, true, true, true] rfl rfl (by kernel_rfl) (fun _ _ _ h => h) (Or.inl ⟨by rfl, ?_⟩) ?_ ?_
        rotate_left
        ·intro w'
         go_simp
         with_reducible rfl
        rotate_left
        ·simp only [Act.put, List.setIfInBounds_toArray, List.set_cons_zero, List.set_cons_succ, i64_w, i32_w]
         rfl
        refine done_ (by kernel_rfl) ?_
        skip
        have HW0 := Aside0.mk hHeld
        clear hHeld
        generalize wr.drew = wd at *
        have HGd := Aside0.mk (HW0.out.row HG6r.out (by simp))
        have hm := Mem.start wd
        go_wp2_with (first
         | ((with_reducible refine gt_load 31 ?_); refine Kd.event_run rfl (y_rowA (by rfl) (by rfl) HGd.out aggLk (by rw [vals_size]; exact HXL.out)) ?_)
         | (first | fail | ((with_reducible refine gt_box 6 31 ?_); refine st_box rfl 6 rfl 31 _ rfl hm (v := .agg (vals _ _)) rfl (cs := vals _ _) rfl ?_; clear hm; intro g6 w6 hm) | ((with_reducible refine gt_load 64 ?_); (first | (refine st_get rfl 64 _ rfl hm rfl 0 rfl one64 (by first | omega | assumption | (simp only [lens]; first | omega | assumption) | (simp [lens]; done) | (simp [lens]; omega)) ?_) | (refine st_get rfl 64 _ rfl hm rfl 1 rfl one64 (by first | omega | assumption | (simp only [lens]; first | omega | assumption) | (simp [lens]; done) | (simp [lens]; omega)) ?_) | (refine st_get rfl 64 _ rfl hm rfl 2 rfl one64 (by first | omega | assumption | (simp only [lens]; first | omega | assumption) | (simp [lens]; done) | (simp [lens]; omega)) ?_) | (refine st_get rfl 64 _ rfl hm rfl 3 rfl one64 (by first | omega | assumption | (simp only [lens]; first | omega | assumption) | (simp [lens]; done) | (simp [lens]; omega)) ?_) | (refine st_get rfl 64 _ rfl hm rfl 4 rfl one64 (by first | omega | assumption | (simp only [lens]; first | omega | assumption) | (simp [lens]; done) | (simp [lens]; omega)) ?_))) | ((with_reducible refine gt_load 31 ?_); (first | (refine st_load rfl 31 _ rfl hm rfl 0 rfl agg31 (by first | omega | assumption | (simp only [lens]; first | omega | assumption) | (simp [lens]; done) | (simp [lens]; omega)) ?_) | (refine st_load rfl 31 _ rfl hm rfl 1 rfl agg31 (by first | omega | assumption | (simp only [lens]; first | omega | assumption) | (simp [lens]; done) | (simp [lens]; omega)) ?_) | (refine st_load rfl 31 _ rfl hm rfl 2 rfl agg31 (by first | omega | assumption | (simp only [lens]; first | omega | assumption) | (simp [lens]; done) | (simp [lens]; omega)) ?_) | (refine st_load rfl 31 _ rfl hm rfl 3 rfl agg31 (by first | omega | assumption | (simp only [lens]; first | omega | assumption) | (simp [lens]; done) | (simp [lens]; omega)) ?_) | (refine st_load rfl 31 _ rfl hm rfl 4 rfl agg31 (by first | omega | assumption | (simp only [lens]; first | omega | assumption) | (simp [lens]; done) | (simp [lens]; omega)) ?_))) | ((with_reducible refine gt_field 31 1 ?_); refine st_field rfl 31 _ 1 rfl rfl field31_1 ?_) | ((with_reducible refine gt_elem 24 ?_); refine st_elem rfl 24 _ _ rfl rfl rfl arr24 (by first | omega | assumption | (simp only [lens]; first | omega | assumption) | (simp [lens]; done) | (simp [lens]; omega)) (by first | omega | assumption | (simp only [lens]; first | omega | assumption) | (simp [lens]; done) | (simp [lens]; omega)) ?_) | ((with_reducible refine gt_load 22 ?_); (first | (refine st_get rfl 22 _ rfl hm rfl 0 rfl one22 (by first | omega | assumption | (simp only [lens]; first | omega | assumption) | (simp [lens]; done) | (simp [lens]; omega)) ?_) | (refine st_get rfl 22 _ rfl hm rfl 1 rfl one22 (by first | omega | assumption | (simp only [lens]; first | omega | assumption) | (simp [lens]; done) | (simp [lens]; omega)) ?_) | (refine st_get rfl 22 _ rfl hm rfl 2 rfl one22 (by first | omega | assumption | (simp only [lens]; first | omega | assumption) | (simp [lens]; done) | (simp [lens]; omega)) ?_) | (refine st_get rfl 22 _ rfl hm rfl 3 rfl one22 (by first | omega | assumption | (simp only [lens]; first | omega | assumption) | (simp [lens]; done) | (simp [lens]; omega)) ?_) | (refine st_get rfl 22 _ rfl hm rfl 4 rfl one22 (by first | omega | assumption | (simp only [lens]; first | omega | assumption) | (simp [lens]; done) | (simp [lens]; omega)) ?_))) | ((with_reducible refine gt_alloc 13 31 ?_); refine st_alloc rfl 13 rfl 31 rfl hm zero31 ?_; clear hm; intro g13 w13 hm) | ((with_reducible refine gt_store 31 ?_); (first | (refine st_full rfl 31 _ _ rfl hm rfl rfl 0 rfl agg31 (by first | omega | assumption | (simp only [lens]; first | omega | assumption) | (simp [lens]; done) | (simp [lens]; omega)) (by first | omega | assumption | (simp only [lens]; first | omega | assumption) | (simp [lens]; done) | (simp [lens]; omega)) ?_) | (refine st_full rfl 31 _ _ rfl hm rfl rfl 1 rfl agg31 (by first | omega | assumption | (simp only [lens]; first | omega | assumption) | (simp [lens]; done) | (simp [lens]; omega)) (by first | omega | assumption | (simp only [lens]; first | omega | assumption) | (simp [lens]; done) | (simp [lens]; omega)) ?_) | (refine st_full rfl 31 _ _ rfl hm rfl rfl 2 rfl agg31 (by first | omega | assumption | (simp only [lens]; first | omega | assumption) | (simp [lens]; done) | (simp [lens]; omega)) (by first | omega | assumption | (simp only [lens]; first | omega | assumption) | (simp [lens]; done) | (simp [lens]; omega)) ?_) | (refine st_full rfl 31 _ _ rfl hm rfl rfl 3 rfl agg31 (by first | omega | assumption | (simp only [lens]; first | omega | assumption) | (simp [lens]; done) | (simp [lens]; omega)) (by first | omega | assumption | (simp only [lens]; first | omega | assumption) | (simp [lens]; done) | (simp [lens]; omega)) ?_) | (refine st_full rfl 31 _ _ rfl hm rfl rfl 4 rfl agg31 (by first | omega | assumption | (simp only [lens]; first | omega | assumption) | (simp [lens]; done) | (simp [lens]; omega)) (by first | omega | assumption | (simp only [lens]; first | omega | assumption) | (simp [lens]; done) | (simp [lens]; omega)) ?_)); clear hm; intro ws hm; simp only [List.set_cons_zero, List.set_cons_succ] at hm) | ((with_reducible refine gt_store 22 ?_); (first | (refine st_set rfl 22 _ _ rfl hm rfl rfl 0 rfl one22 (by first | omega | assumption | (simp only [lens]; first | omega | assumption) | (simp [lens]; done) | (simp [lens]; omega)) ?_) | (refine st_set rfl 22 _ _ rfl hm rfl rfl 1 rfl one22 (by first | omega | assumption | (simp only [lens]; first | omega | assumption) | (simp [lens]; done) | (simp [lens]; omega)) ?_) | (refine st_set rfl 22 _ _ rfl hm rfl rfl 2 rfl one22 (by first | omega | assumption | (simp only [lens]; first | omega | assumption) | (simp [lens]; done) | (simp [lens]; omega)) ?_) | (refine st_set rfl 22 _ _ rfl hm rfl rfl 3 rfl one22 (by first | omega | assumption | (simp only [lens]; first | omega | assumption) | (simp [lens]; done) | (simp [lens]; omega)) ?_) | (refine st_set rfl 22 _ _ rfl hm rfl rfl 4 rfl one22 (by first | omega | assumption | (simp only [lens]; first | omega | assumption) | (simp [lens]; done) | (simp [lens]; omega)) ?_)); clear hm; intro ws hm; simp only [List.set_cons_zero, List.set_cons_succ] at hm) | ((with_reducible refine gt_field 31 0 ?_); refine st_field rfl 31 _ 0 rfl rfl field31_0 ?_) | ((with_reducible refine gt_elem 23 ?_); refine st_elem rfl 23 _ _ rfl rfl rfl arr23 (by first | omega | assumption | (simp only [lens]; first | omega | assumption) | (simp [lens]; done) | (simp [lens]; omega)) (by first | omega | assumption | (simp only [lens]; first | omega | assumption) | (simp [lens]; done) | (simp [lens]; omega)) ?_) | ((with_reducible refine gt_alloc 14 31 ?_); refine st_alloc rfl 14 rfl 31 rfl hm zero31 ?_; clear hm; intro g14 w14 hm)))
        have HGX : Aside0 (ws.heap[g13]? = some (.cells (vals .i16 (bump Lc (-n) (-1))) 31 (0, 0))) := ⟨by rw [← HBP.out]; exact hm.mem (n := 0) rfl⟩
        have HW1 := Aside0.mk (HW0.out.trans (FrB.below (B := []) (hm.done rfl)))
        clear hm
        have HOH := Aside0.mk (own_later HOr.out HW1.out (by simp))
        have HREC := Aside0.mk (fun v3 w3 (ho3 : Own ws.heap.size w3 v3 (h ++ [-n])) (hf3 : FrB [] ws w3) => HIH.out (-n) v3 w3 u0 (out ++ goes m (enough L0) d h (g : Int) D) HEF.out (by omega) HNH.out (HLG.out.1.fr (HW1.out.trans hf3)) (own_lower ho3 (Nat.le_trans HLG.out.1.bel.size HW1.out.size)) (by have h1 := HGL.out D HDL.out; have h2 := HBD.out; rw [List.length_append]; omega))
        refine start_ (n := 14) (S := fun w' => FrB [] ws w') (ds := [12]) #[false, false, false, false, false, false, false, false, false, false, false, false, false, false] (by kernel_rfl) rfl rfl (FrB.below (below_drew (Below.refl _ _))) (fun hHeld => ?_)
        refine pure_ (i := 0) (N := some 84) (v := ?_) (a' := ?_) #[true, false, false, false, false, false, false, false, false, false, false, false, false, false] rfl rfl (by kernel_rfl) (fun _ _ _ h => h) (Or.inl ⟨by rfl, ?_⟩) ?_ ?_
        rotate_left
        ·intro w'
         go_simp
         with_reducible rfl
        rotate_left
        ·simp only [Act.put, List.setIfInBounds_toArray, List.set_cons_zero, List.set_cons_succ, i64_w, i32_w]
         rfl
        refine pure_ (i := 2) (N := some 86) (v := ?_) (a' := ?_) #[true, false, true, false, false, false, false, false, false, false, false, false, false, false] rfl rfl (by kernel_rfl) (fun _ _ _ h => h) (Or.inl ⟨by rfl, ?_⟩) ?_ ?_
        rotate_left
        ·intro w'
         go_simp
         with_reducible rfl
        rotate_left
        ·simp only [Act.put, List.setIfInBounds_toArray, List.set_cons_zero, List.set_cons_succ, i64_w, i32_w]
         rfl
        refine pure_ (i := 4) (N := some 88) (v := ?_) (a' := ?_) #[true, false, true, false, true, false, false, false, false, false, false, false, false, false] rfl rfl (by kernel_rfl) (fun _ _ _ h => h) (Or.inl ⟨by rfl, ?_⟩) ?_ ?_
        rotate_left
        ·intro w'
         go_simp
         with_reducible rfl
        rotate_left
        ·simp only [Act.put, List.setIfInBounds_toArray, List.set_cons_zero, List.set_cons_succ, i64_w, i32_w]
         rfl
        refine pure_ (i := 6) (N := some 90) (v := ?_) (a' := ?_) #[true, false, true, false, true, false, true, false, false, false, false, false, false, false] rfl rfl (by kernel_rfl) (fun _ _ _ h => h) (Or.inl ⟨by rfl, ?_⟩) ?_ ?_
        rotate_left
        ·intro w'
         go_simp
         with_reducible rfl
        rotate_left
        ·simp only [Act.put, List.setIfInBounds_toArray, List.set_cons_zero, List.set_cons_succ, i64_w, i32_w]
         rfl
        refine pure_ (i := 7) (N := some 91) (v := ?_) (a' := ?_) #[true, false, true, false, true, false, true, true, false, false, false, false, false, false] rfl rfl (by kernel_rfl) (fun _ _ _ h => h) (Or.inl ⟨by rfl, ?_⟩) ?_ ?_
        rotate_left
        ·intro w'
         go_simp
         with_reducible rfl
        rotate_left
        ·simp only [Act.put, List.setIfInBounds_toArray, List.set_cons_zero, List.set_cons_succ, i64_w, i32_w]
         rfl
        refine pure_ (i := 8) (N := some 92) (v := ?_) (a' := ?_) #[true, false, true, false, true, false, true, true, true, false, false, false, false, false] rfl rfl (by kernel_rfl) (fun _ _ _ h => h) (Or.inl ⟨by rfl, ?_⟩) ?_ ?_
        rotate_left
        ·intro w'
         go_simp
         with_reducible rfl
        rotate_left
        ·simp only [Act.put, List.setIfInBounds_toArray, List.set_cons_zero, List.set_cons_succ, i64_w, i32_w]
         rfl
        refine pure_ (i := 11) (N := some 95) (v := ?_) (a' := ?_) #[true, false, true, false, true, false, true, true, true, false, false, true, false, false] rfl rfl (by kernel_rfl) (fun _ _ _ h => h) (Or.inl ⟨by rfl, ?_⟩) ?_ ?_
        rotate_left
        ·intro w'
         go_simp
         with_reducible rfl
        rotate_left
        ·simp only [Act.put, List.setIfInBounds_toArray, List.set_cons_zero, List.set_cons_succ, i64_w, i32_w]
         rfl
        refine take_ (i := 1) (N := some 85) (v := .agg (vals .i16 (bump Lc (-n) (-1)))) (a' := ?_) #[true, true, true, false, true, false, true, true, true, false, false, true, false, false] rfl rfl (by kernel_rfl) (fun _ _ _ h => h) (Or.inl ⟨by rfl, ?_⟩) hHeld ?_ ?_
        ·intro w' s0
         exact y_rowA (by rfl) (by rfl) (s0.row HGX.out (by simp)) aggLk (by rw [vals_size, bump_length]; exact HXL.out)
        rotate_left
        ·simp only [Act.put, List.setIfInBounds_toArray, List.set_cons_zero, List.set_cons_succ, i64_w, i32_w]
         rfl
        refine join_ (σ := Value × Value × Nat) 3 #[true, true, true, true, true, true, true, true, true, true, false, true, false, false] (fun s => [(87, s.1), (89, s.2.1), (93, .slice (some ⟨s.2.2, 0, none⟩) 1 1)]) (fun s w' => FrB [] ws w' ∧ Own ws.heap.size w' s.2.1 h ∧ w'.heap[s.2.2]? = some (.cells (vals .i8 [(-n)]) 64 (0, 0))) ?_ ?_
        rotate_left
        ·intro hJ
         refine two_ (i := 3) (j := 9) (Ni := some 87) (Nj := some 93) #[true, true, true, true, true, false, true, true, true, false, false, true, false, false] #[true, true, true, false, true, false, true, true, true, true, false, true, false, false] rfl rfl rfl rfl (by kernel_rfl) (by decide) (by decide) (fun K hK => ?_) (fun K hK => ?_)
         ·skip
          refine Kd.R_lit_step (Kd.int .i8) (w0 := ws) ws.heap.size 64 (by rfl) (N := 87) rfl (xs := []) (inner := []) (ok := fun _ => True) (okp := fun _ => True) (by first | (go_simp; done) | (go_simp; rfl)) (Reps.none _ _) (fun _ h => h) trivial hHeld.to_below hHeld.size (by simp) ?_
          intro v1 w1 ho1 hb1 hg1 hat1
          have HO1 := Aside0.mk ho1
          (try have HNE := Aside0.mk (show some gb ≠ v1.ownBlock from fun e => by obtain ⟨b, hb, hle⟩ := hat1; rw [hb] at e; injection e with e; have := lt_of_some HGB.out; omega))
          (try replace HGB := Aside0.mk ((hg1.block _ (lt_of_some HGB.out) (by simp)).trans HGB.out))
          clear ho1 hg1 hat1
          refine hK.out _ _ (FrB.below hb1) (fun hHeld => ?_)
          clear hK K
          refine norm_ (a' := ?_) ?_ ?_
          rotate_left
          ·show Act.put _ (some 87) _ = _
           simp only [Act.put, List.setIfInBounds_toArray, List.set_cons_zero, List.set_cons_succ, i64_w, i32_w]
           rfl
          refine two_ (i := 5) (j := 9) (Ni := some 89) (Nj := some 93) #[true, true, true, true, true, true, true, true, true, false, false, true, false, false] #[true, true, true, true, true, false, true, true, true, true, false, true, false, false] rfl rfl rfl rfl (by kernel_rfl) (by decide) (by decide) (fun K hK => ?_) (fun K hK => ?_)
          ·skip
           refine Kd.R_append_rows_step (Kd.int .i8) (w0 := ws) ws.heap.size (by rfl) (.tmp 87) (.tmp 88) 28 64 (.int .i8 0) 1 rfl Try.underlying28 infoI8 rfl (by decide) (by omega) v1 [] h A h.length c (fun _ => True) (fun _ => False) rfl rfl HO1.out (Kd.R_reads' (own_later HOH.out hHeld (by simp))).2.2 (fun _ _ h => h) (fun _ h => h.elim) (fun _ _ => trivial) hHeld.to_below hHeld.size (by simp; omega) ?_
           intro v2 w2 ho2 hb2 hg2 hat2
           have HO2 := Aside0.mk ho2
           (try replace HGB := Aside0.mk ((hg2.block _ (lt_of_some HGB.out) HNE.out).trans HGB.out))
           clear ho2 hg2 hat2
           refine hK.out _ _ (FrB.below hb2) (fun hHeld => ?_)
           clear hK K
           refine norm_ (a' := ?_) ?_ ?_
           rotate_left
           ·show Act.put _ (some 89) _ = _
            simp only [Act.put, List.setIfInBounds_toArray, List.set_cons_zero, List.set_cons_succ, i64_w, i32_w]
            rfl
           refine one_ (i := 9) (N := some 93) #[true, true, true, true, true, true, true, true, true, true, false, true, false, false] rfl rfl (by kernel_rfl) (by decide) (fun K hK => ?_)
           refine s_lit2 (z := (-n)) (by rfl) rfl rfl rfl Try.underlying28 oneI8 zeroI8 ?_
           intro gb wg hgb hge hfb
           (try have HNE := Aside0.mk (show some gb ≠ v1.ownBlock from fun e => by have := Kd.R_lt HO1.out gb e.symm; omega))
           have HGB := Aside0.mk hgb
           (try replace HO2 := Aside0.mk (own_later HO2.out hfb (by simp)))
           (try replace HO1 := Aside0.mk (own_later HO1.out hfb (by simp)))
           clear hgb hge
           refine hK.out _ _ (hHeld.trans hfb) (fun hHeld => ?_)
           clear hK K
           refine norm_ (a' := ?_) ?_ ?_
           rotate_left
           ·show Act.put _ (some 93) _ = _
            simp only [Act.put, List.setIfInBounds_toArray, List.set_cons_zero, List.set_cons_succ, i64_w, i32_w]
            rfl
           exact norm_ (by first | (simp only [putAll, Act.put, List.setIfInBounds_toArray, List.set_cons_zero, List.set_cons_succ]; done) | (simp only [putAll, Act.put, List.setIfInBounds_toArray, List.set_cons_zero, List.set_cons_succ]; rfl)) (hJ (v1, v2, gb) _ ⟨hHeld, HO2.out, HGB.out⟩)
          ·skip
           refine s_lit2 (z := (-n)) (by rfl) rfl rfl rfl Try.underlying28 oneI8 zeroI8 ?_
           intro gb wg hgb hge hfb
           (try have HNE := Aside0.mk (show some gb ≠ v1.ownBlock from fun e => by have := Kd.R_lt HO1.out gb e.symm; omega))
           have HGB := Aside0.mk hgb
           (try replace HO2 := Aside0.mk (own_later HO2.out hfb (by simp)))
           (try replace HO1 := Aside0.mk (own_later HO1.out hfb (by simp)))
           clear hgb hge
           refine hK.out _ _ (hHeld.trans hfb) (fun hHeld => ?_)
           clear hK K
           refine norm_ (a' := ?_) ?_ ?_
           rotate_left
           ·show Act.put _ (some 93) _ = _
            simp only [Act.put, List.setIfInBounds_toArray, List.set_cons_zero, List.set_cons_succ, i64_w, i32_w]
            rfl
           refine one_ (i := 5) (N := some 89) #[true, true, true, true, true, true, true, true, true, true, false, true, false, false] rfl rfl (by kernel_rfl) (by decide) (fun K hK => ?_)
           refine Kd.R_append_rows_step (Kd.int .i8) (w0 := ws) ws.heap.size (by rfl) (.tmp 87) (.tmp 88) 28 64 (.int .i8 0) 1 rfl Try.underlying28 infoI8 rfl (by decide) (by omega) v1 [] h A h.length c (fun _ => True) (fun _ => False) rfl rfl HO1.out (Kd.R_reads' (own_later HOH.out hHeld (by simp))).2.2 (fun _ _ h => h) (fun _ h => h.elim) (fun _ _ => trivial) hHeld.to_below hHeld.size (by simp; omega) ?_
           intro v2 w2 ho2 hb2 hg2 hat2
           have HO2 := Aside0.mk ho2
           (try replace HGB := Aside0.mk ((hg2.block _ (lt_of_some HGB.out) HNE.out).trans HGB.out))
           clear ho2 hg2 hat2
           refine hK.out _ _ (FrB.below hb2) (fun hHeld => ?_)
           clear hK K
           refine norm_ (a' := ?_) ?_ ?_
           rotate_left
           ·show Act.put _ (some 89) _ = _
            simp only [Act.put, List.setIfInBounds_toArray, List.set_cons_zero, List.set_cons_succ, i64_w, i32_w]
            rfl
           exact norm_ (by first | (simp only [putAll, Act.put, List.setIfInBounds_toArray, List.set_cons_zero, List.set_cons_succ]; done) | (simp only [putAll, Act.put, List.setIfInBounds_toArray, List.set_cons_zero, List.set_cons_succ]; rfl)) (hJ (v1, v2, gb) _ ⟨hHeld, HO2.out, HGB.out⟩)
         ·skip
          refine s_lit2 (z := (-n)) (by rfl) rfl rfl rfl Try.underlying28 oneI8 zeroI8 ?_
          intro gb wg hgb hge hfb
          (try have HNE := Aside0.mk (show some gb ≠ v1.ownBlock from fun e => by have := Kd.R_lt HO1.out gb e.symm; omega))
          have HGB := Aside0.mk hgb
          (try replace HO2 := Aside0.mk (own_later HO2.out hfb (by simp)))
          (try replace HO1 := Aside0.mk (own_later HO1.out hfb (by simp)))
          clear hgb hge
          refine hK.out _ _ (hHeld.trans hfb) (fun hHeld => ?_)
          clear hK K
          refine norm_ (a' := ?_) ?_ ?_
          rotate_left
          ·show Act.put _ (some 93) _ = _
           simp only [Act.put, List.setIfInBounds_toArray, List.set_cons_zero, List.set_cons_succ, i64_w, i32_w]
           rfl
          refine one_ (i := 3) (N := some 87) #[true, true, true, true, true, false, true, true, true, true, false, true, false, false] rfl rfl (by kernel_rfl) (by decide) (fun K hK => ?_)
          refine Kd.R_lit_step (Kd.int .i8) (w0 := ws) ws.heap.size 64 (by rfl) (N := 87) rfl (xs := []) (inner := []) (ok := fun _ => True) (okp := fun _ => True) (by first | (go_simp; done) | (go_simp; rfl)) (Reps.none _ _) (fun _ h => h) trivial hHeld.to_below hHeld.size (by simp) ?_
          intro v1 w1 ho1 hb1 hg1 hat1
          have HO1 := Aside0.mk ho1
          (try have HNE := Aside0.mk (show some gb ≠ v1.ownBlock from fun e => by obtain ⟨b, hb, hle⟩ := hat1; rw [hb] at e; injection e with e; have := lt_of_some HGB.out; omega))
          (try replace HGB := Aside0.mk ((hg1.block _ (lt_of_some HGB.out) (by simp)).trans HGB.out))
          clear ho1 hg1 hat1
          refine hK.out _ _ (FrB.below hb1) (fun hHeld => ?_)
          clear hK K
          refine norm_ (a' := ?_) ?_ ?_
          rotate_left
          ·show Act.put _ (some 87) _ = _
           simp only [Act.put, List.setIfInBounds_toArray, List.set_cons_zero, List.set_cons_succ, i64_w, i32_w]
           rfl
          refine one_ (i := 5) (N := some 89) #[true, true, true, true, true, true, true, true, true, true, false, true, false, false] rfl rfl (by kernel_rfl) (by decide) (fun K hK => ?_)
          refine Kd.R_append_rows_step (Kd.int .i8) (w0 := ws) ws.heap.size (by rfl) (.tmp 87) (.tmp 88) 28 64 (.int .i8 0) 1 rfl Try.underlying28 infoI8 rfl (by decide) (by omega) v1 [] h A h.length c (fun _ => True) (fun _ => False) rfl rfl HO1.out (Kd.R_reads' (own_later HOH.out hHeld (by simp))).2.2 (fun _ _ h => h) (fun _ h => h.elim) (fun _ _ => trivial) hHeld.to_below hHeld.size (by simp; omega) ?_
          intro v2 w2 ho2 hb2 hg2 hat2
          have HO2 := Aside0.mk ho2
          (try replace HGB := Aside0.mk ((hg2.block _ (lt_of_some HGB.out) HNE.out).trans HGB.out))
          clear ho2 hg2 hat2
          refine hK.out _ _ (FrB.below hb2) (fun hHeld => ?_)
          clear hK K
          refine norm_ (a' := ?_) ?_ ?_
          rotate_left
          ·show Act.put _ (some 89) _ = _
           simp only [Act.put, List.setIfInBounds_toArray, List.set_cons_zero, List.set_cons_succ, i64_w, i32_w]
           rfl
          exact norm_ (by first | (simp only [putAll, Act.put, List.setIfInBounds_toArray, List.set_cons_zero, List.set_cons_succ]; done) | (simp only [putAll, Act.put, List.setIfInBounds_toArray, List.set_cons_zero, List.set_cons_succ]; rfl)) (hJ (v1, v2, gb) _ ⟨hHeld, HO2.out, HGB.out⟩)
        rintro ⟨v1, v2, gb⟩ wj ⟨hHeld, hj1, hj2⟩
        have HO2 := Aside0.mk hj1
        have HGB := Aside0.mk hj2
        clear hj1 hj2
        dsimp only at HO2 HGB
        refine norm_ (a' := ?_) ?_ ?_
        rotate_left
        ·simp only [putAll, Act.put, List.setIfInBounds_toArray, List.set_cons_zero, List.set_cons_succ]
         rfl
        refine one_ (i := 10) (N := some 94) #[true, true, true, true, true, true, true, true, true, true, true, true, false, false] rfl rfl (by kernel_rfl) (by decide) (fun K hK => ?_)
        refine Kd.R_append_rows_step (Kd.int .i8) (w0 := ws) ws.heap.size (by rfl) (.tmp 89) (.tmp 93) 28 64 (.int .i8 0) 1 rfl Try.underlying28 infoI8 rfl (by decide) (by omega) v2 h [(-n)] (some ⟨gb, 0, none⟩) 1 1 (fun _ => True) (fun _ => False) rfl rfl HO2.out (row1 HGB.out) (fun _ _ h => h) (fun _ h => h.elim) (fun _ _ => trivial) hHeld.to_below hHeld.size (by omega) ?_
        intro v3 w3 ho3 hb3 hg3 hat3
        have HO3 := Aside0.mk ho3
        clear ho3 hg3 hat3
        refine hK.out _ _ (FrB.below hb3) (fun hHeld => ?_)
        clear hK K
        refine norm_ (a' := ?_) ?_ ?_
        rotate_left
        ·show Act.put _ (some 94) _ = _
         simp only [Act.put, List.setIfInBounds_toArray, List.set_cons_zero, List.set_cons_succ, i64_w, i32_w]
         rfl
        refine last_ (i := 12) (N := some 96) #[true, true, true, true, true, true, true, true, true, true, true, true, true, false] rfl rfl (by kernel_rfl) (by decide) (fun K hK => ?_)
        refine goes_ Try.func49 (by kernel_rfl) rfl #[u0, .agg (vals .i16 (bump Lc (-n) (-1))), .slice (some ad) m.length cm, v3, .int .i64 (g : Int)] (by rfl) rfl rfl (by simp only [List.map_toArray, List.map_cons, List.map_nil]; rfl) ?_
        refine (HREC.out v3 _ HO3.out hHeld).mono ?_
        rintro e w7 ⟨v7, rfl, hLS, hGr⟩
        refine ⟨_, rfl, ?_⟩
        refine hK.out _ _ ?_
        clear hK K
        refine norm_ (a' := ?_) ?_ ?_
        rotate_left
        ·show Act.put _ (some 96) _ = _
         simp only [Act.put, List.setIfInBounds_toArray, List.set_cons_zero, List.set_cons_succ, i64_w, i32_w]
         rfl
        refine pure_ (i := 13) (N := some 0) (v := ?_) (a' := ?_) #[true, true, true, true, true, true, true, true, true, true, true, true, true, true] rfl rfl (by kernel_rfl) (fun _ _ _ h => h) (Or.inl ⟨by rfl, ?_⟩) ?_ ?_
        rotate_left
        ·intro w'
         go_simp
         with_reducible rfl
        rotate_left
        ·simp only [Act.put, List.setIfInBounds_toArray, List.set_cons_zero, List.set_cons_succ, i64_w, i32_w]
         rfl
        refine done_ (by kernel_rfl) ?_
        have HE := Aside0.mk (And.intro hLS (Gr.trans (HLG.out.2.fr (HW1.out.trans hHeld)) hGr))
        clear hLS hGr hHeld
        go_wp2_with fail
        go_roundw
        case rel => exact ⟨s, D ++ [-n], by omega, by rw [HNN.out], ⟨by rw [← HD.out, HDS.out, HRS.out, if_pos rfl, List.append_assoc]⟩, ⟨by rw [goes_snoc, HEF.out, if_pos rfl, ← List.append_assoc]; exact HE.out.1, HE.out.2⟩⟩
        case measure => simp [intOf]; omega
      ·have hne1 : (y == (xn : Int)) = false := by simpa using heq
       have hne2 : (y != (xn : Int)) = true := by simpa using heq
       have HRK := Aside0.mk (show subOk m h.length (g : Int) (-n) = false by rw [HSO1.out]; exact decide_eq_false (fun e => heq e.2))
       clear hzv hnn
       go_wp2_with fail
       refine start_ (n := 28) (S := fun w' => FrB [] wr w') (ds := []) #[false, false, false, false, false, false, false, false, false, false, false, false, false, false, false, false, false, false, false, false, false, false, false, false, false, false, false, false] (by kernel_rfl) rfl rfl (FrB.below (below_drew (Below.refl _ _))) (fun hHeld => ?_)
       refine pure_ (i := 0) (N := some 47) (v := ?_) (a' := ?_) #[true, false, false, false, false, false, false, false, false, false, false, false, false, false, false, false, false, false, false, false, false, false, false, false, false, false, false, false] rfl rfl (by kernel_rfl) (fun _ _ _ h => h) (Or.inl ⟨by rfl, ?_⟩) ?_ ?_
       rotate_left
       ·intro w'
        go_simp
        with_reducible rfl
       rotate_left
       ·simp only [Act.put, List.setIfInBounds_toArray, List.set_cons_zero, List.set_cons_succ, i64_w, i32_w]
        rfl
       refine pure_ (i := 1) (N := some 48) (v := ?_) (a' := ?_) #[true, true, false, false, false, false, false, false, false, false, false, false, false, false, false, false, false, false, false, false, false, false, false, false, false, false, false, false] rfl rfl (by kernel_rfl) (fun _ _ _ h => h) (Or.inl ⟨by rfl, ?_⟩) ?_ ?_
       rotate_left
       ·intro w'
        go_simp
        with_reducible rfl
       rotate_left
       ·simp only [Act.put, List.setIfInBounds_toArray, List.set_cons_zero, List.set_cons_succ, i64_w, i32_w]
        rfl
       refine pure_ (i := 2) (N := some 49) (v := ?_) (a' := ?_) #[true, true, true, false, false, false, false, false, false, false, false, false, false, false, false, false, false, false, false, false, false, false, false, false, false, false, false, false] rfl rfl (by kernel_rfl) (fun _ _ _ h => h) (Or.inl ⟨by rfl, ?_⟩) ?_ ?_
       rotate_left
       ·intro w'
        go_simp
        with_reducible rfl
       rotate_left
       ·simp only [Act.put, List.setIfInBounds_toArray, List.set_cons_zero, List.set_cons_succ, i64_w, i32_w]
        rfl
       refine pure_ (i := 3) (N := some 50) (v := ?_) (a' := ?_) #[true, true, true, true, false, false, false, false, false, false, false, false, false, false, false, false, false, false, false, false, false, false, false, false, false, false, false, false] rfl rfl (by kernel_rfl) (fun _ _ _ h => h) (Or.inl ⟨by rfl, ?_⟩) ?_ ?_
       rotate_left
       ·intro w'
        go_simp
        with_reducible rfl
       rotate_left
       ·simp only [Act.put, List.setIfInBounds_toArray, List.set_cons_zero, List.set_cons_succ, i64_w, i32_w]
        rfl
       refine pure_ (i := 4) (N := some 51) (v := ?_) (a' := ?_) #[true, true, true, true, true, false, false, false, false, false, false, false, false, false, false, false, false, false, false, false, false, false, false, false, false, false, false, false] rfl rfl (by kernel_rfl) (fun _ _ _ h => h) (Or.inl ⟨by rfl, ?_⟩) ?_ ?_
       rotate_left
       ·intro w'
        go_simp
        with_reducible rfl
       rotate_left
       ·simp only [Act.put, List.setIfInBounds_toArray, List.set_cons_zero, List.set_cons_succ, i64_w, i32_w]
        rfl
       refine pure_ (i := 5) (N := some 52) (v := ?_) (a' := ?_) #[true, true, true, true, true, true, false, false, false, false, false, false, false, false, false, false, false, false, false, false, false, false, false, false, false, false, false, false] rfl rfl (by kernel_rfl) (fun _ _ _ h => h) (Or.inl ⟨by rfl, ?_⟩) ?_ ?_
       rotate_left
       ·intro w'
        go_simp
        with_reducible rfl
       rotate_left
       ·simp only [Act.put, List.setIfInBounds_toArray, List.set_cons_zero, List.set_cons_succ, i64_w, i32_w]
        rfl
       refine pure_ (i := 6) (N := some 53) (v := ?_) (a' := ?_) #[true, true, true, true, true, true, true, false, false, false, false, false, false, false, false, false, false, false, false, false, false, false, false, false, false, false, false, false] rfl rfl (by kernel_rfl) (fun _ _ _ h => h) (Or.inl ⟨by rfl, ?_⟩) ?_ ?_
       rotate_left
       ·intro w'
        go_simp
        with_reducible rfl
       rotate_left
       ·simp only [Act.put, List.setIfInBounds_toArray, List.set_cons_zero, List.set_cons_succ, i64_w, i32_w]
        rfl
       refine pure_ (i := 7) (N := some 54) (v := ?_) (a' := ?_) #[true, true, true, true, true, true, true, true, false, false, false, false, false, false, false, false, false, false, false, false, false, false, false, false, false, false, false, false] rfl rfl (by kernel_rfl) (fun _ _ _ h => h) (Or.inl ⟨by rfl, ?_⟩) ?_ ?_
       rotate_left
       ·intro w'
        go_simp
        with_reducible rfl
       rotate_left
       ·simp only [Act.put, List.setIfInBounds_toArray, List.set_cons_zero, List.set_cons_succ, i64_w, i32_w]
        rfl
       refine pure_ (i := 8) (N := some 55) (v := ?_) (a' := ?_) #[true, true, true, true, true, true, true, true, true, false, false, false, false, false, false, false, false, false, false, false, false, false, false, false, false, false, false, false] rfl rfl (by kernel_rfl) (fun _ _ _ h => h) (Or.inl ⟨by rfl, ?_⟩) ?_ ?_
       rotate_left
       ·intro w'
        go_simp
        with_reducible rfl
       rotate_left
       ·simp only [Act.put, List.setIfInBounds_toArray, List.set_cons_zero, List.set_cons_succ, i64_w, i32_w]
        rfl
       refine pure_ (i := 9) (N := some 56) (v := ?_) (a' := ?_) #[true, true, true, true, true, true, true, true, true, true, false, false, false, false, false, false, false, false, false, false, false, false, false, false, false, false, false, false] rfl rfl (by kernel_rfl) (fun _ _ _ h => h) (Or.inl ⟨by rfl, ?_⟩) ?_ ?_
       rotate_left
       ·intro w'
        go_simp
        with_reducible rfl
       rotate_left
       ·simp only [Act.put, List.setIfInBounds_toArray, List.set_cons_zero, List.set_cons_succ, i64_w, i32_w]
        rfl
       refine pure_ (i := 10) (N := some 57) (v := ?_) (a' := ?_) #[true, true, true, true, true, true, true, true, true, true, true, false, false, false, false, false, false, false, false, false, false, false, false, false, false, false, false, false] rfl rfl (by kernel_rfl) (fun _ _ _ h => h) (Or.inl ⟨by rfl, ?_⟩) ?_ ?_
       rotate_left
       ·intro w'
        go_simp
        with_reducible rfl
       rotate_left
       ·simp only [Act.put, List.setIfInBounds_toArray, List.set_cons_zero, List.set_cons_succ, i64_w, i32_w]
        rfl
       refine pure_ (i := 11) (N := some 58) (v := ?_) (a' := ?_) #[true, true, true, true, true, true, true, true, true, true, true, true, false, false, false, false, false, false, false, false, false, false, false, false, false, false, false, false] rfl rfl (by kernel_rfl) (fun _ _ _ h => h) (Or.inl ⟨by rfl, ?_⟩) ?_ ?_
       rotate_left
       ·intro w'
        go_simp
        with_reducible rfl
       rotate_left
       ·simp only [Act.put, List.setIfInBounds_toArray, List.set_cons_zero, List.set_cons_succ, i64_w, i32_w]
        rfl
       refine pure_ (i := 12) (N := some 59) (v := ?_) (a' := ?_) #[true, true, true, true, true, true, true, true, true, true, true, true, true, false, false, false, false, false, false, false, false, false, false, false, false, false, false, false] rfl rfl (by kernel_rfl) (fun _ _ _ h => h) (Or.inl ⟨by rfl, ?_⟩) ?_ ?_
       rotate_left
       ·intro w'
        go_simp
        with_reducible rfl
       rotate_left
       ·simp only [Act.put, List.setIfInBounds_toArray, List.set_cons_zero, List.set_cons_succ, i64_w, i32_w]
        rfl
       refine pure_ (i := 14) (N := some 61) (v := ?_) (a' := ?_) #[true, true, true, true, true, true, true, true, true, true, true, true, true, false, true, false, false, false, false, false, false, false, false, false, false, false, false, false] rfl rfl (by kernel_rfl) (fun _ _ _ h => h) (Or.inl ⟨by rfl, ?_⟩) ?_ ?_
       rotate_left
       ·intro w'
        go_simp
        with_reducible rfl
       rotate_left
       ·simp only [Act.put, List.setIfInBounds_toArray, List.set_cons_zero, List.set_cons_succ, i64_w, i32_w]
        rfl
       refine pure_ (i := 15) (N := some 62) (v := ?_) (a' := ?_) #[true, true, true, true, true, true, true, true, true, true, true, true, true, false, true, true, false, false, false, false, false, false, false, false, false, false, false, false] rfl rfl (by kernel_rfl) (fun _ _ _ h => h) (Or.inl ⟨by rfl, ?_⟩) ?_ ?_
       rotate_left
       ·intro w'
        go_simp
        with_reducible rfl
       rotate_left
       ·simp only [Act.put, List.setIfInBounds_toArray, List.set_cons_zero, List.set_cons_succ, i64_w, i32_w]
        rfl
       refine pure_ (i := 16) (N := some 63) (v := ?_) (a' := ?_) #[true, true, true, true, true, true, true, true, true, true, true, true, true, false, true, true, true, false, false, false, false, false, false, false, false, false, false, false] rfl rfl (by kernel_rfl) (fun _ _ _ h => h) (Or.inl ⟨by rfl, ?_⟩) ?_ ?_
       rotate_left
       ·intro w'
        go_simp
        with_reducible rfl
       rotate_left
       ·simp only [Act.put, List.setIfInBounds_toArray, List.set_cons_zero, List.set_cons_succ, i64_w, i32_w]
        rfl
       refine take_ (i := 13) (N := some 60) (v := .int .i8 y) (a' := ?_) #[true, true, true, true, true, true, true, true, true, true, true, true, true, true, true, true, true, false, false, false, false, false, false, false, false, false, false, false] rfl rfl (by kernel_rfl) (fun _ _ _ h => h) (Or.inl ⟨by rfl, ?_⟩) hHeld ?_ ?_
       ·intro w' s0
        exact y_cell (by rfl) (by rfl) oneI8 (s0.read hca)
       rotate_left
       ·simp only [Act.put, List.setIfInBounds_toArray, List.set_cons_zero, List.set_cons_succ, i64_w, i32_w]
        rfl
       refine take_ (i := 17) (N := some 64) (v := .int .i8 (xn : Int)) (a' := ?_) #[true, true, true, true, true, true, true, true, true, true, true, true, true, true, true, true, true, true, false, false, false, false, false, false, false, false, false, false] rfl rfl (by kernel_rfl) (fun _ _ _ h => h) (Or.inl ⟨by rfl, ?_⟩) hHeld ?_ ?_
       ·intro w' s0
        exact y_cell (by rfl) (by rfl) oneI8 (s0.read hcx)
       rotate_left
       ·simp only [Act.put, List.setIfInBounds_toArray, List.set_cons_zero, List.set_cons_succ, i64_w, i32_w]
        rfl
       refine pure_ (i := 18) (N := some 65) (v := ?_) (a' := ?_) #[true, true, true, true, true, true, true, true, true, true, true, true, true, true, true, true, true, true, true, false, false, false, false, false, false, false, false, false] rfl rfl (by kernel_rfl) (fun _ _ _ h => h) (Or.inl ⟨by rfl, ?_⟩) ?_ ?_
       rotate_left
       ·intro w'
        go_simp
        with_reducible rfl
       rotate_left
       ·simp only [Act.put, List.setIfInBounds_toArray, List.set_cons_zero, List.set_cons_succ, i64_w, i32_w]
        rfl
       refine pure_ (i := 19) (N := some 66) (v := ?_) (a' := ?_) #[true, true, true, true, true, true, true, true, true, true, true, true, true, true, true, true, true, true, true, true, false, false, false, false, false, false, false, false] rfl rfl (by kernel_rfl) (fun _ _ _ h => h) (Or.inl ⟨by rfl, ?_⟩) ?_ ?_
       rotate_left
       ·intro w'
        go_simp
        with_reducible rfl
       rotate_left
       ·simp only [Act.put, List.setIfInBounds_toArray, List.set_cons_zero, List.set_cons_succ, i64_w, i32_w]
        rfl
       refine pure_ (i := 20) (N := some 67) (v := ?_) (a' := ?_) #[true, true, true, true, true, true, true, true, true, true, true, true, true, true, true, true, true, true, true, true, true, false, false, false, false, false, false, false] rfl rfl (by kernel_rfl) (fun _ _ _ h => h) (Or.inl ⟨by rfl, ?_⟩) ?_ ?_
       rotate_left
       ·intro w'
        go_simp
        with_reducible rfl
       rotate_left
       ·simp only [Act.put, List.setIfInBounds_toArray, List.set_cons_zero, List.set_cons_succ, i64_w, i32_w]
        rfl
       refine pure_ (i := 21) (N := some 68) (v := undef) (a' := ?_) #[true, true, true, true, true, true, true, true, true, true, true, true, true, true, true, true, true, true, true, true, true, true, false, false, false, false, false, false] rfl rfl (by kernel_rfl) (fun _ _ _ h => h) (Or.inr ⟨by rfl, rfl⟩) ?_ ?_
       rotate_left
       ·simp only [Act.put, List.setIfInBounds_toArray, List.set_cons_zero, List.set_cons_succ, i64_w, i32_w]
        rfl
       refine pure_ (i := 22) (N := some 69) (v := undef) (a' := ?_) #[true, true, true, true, true, true, true, true, true, true, true, true, true, true, true, true, true, true, true, true, true, true, true, false, false, false, false, false] rfl rfl (by kernel_rfl) (fun _ _ _ h => h) (Or.inr ⟨by rfl, rfl⟩) ?_ ?_
       rotate_left
       ·simp only [Act.put, List.setIfInBounds_toArray, List.set_cons_zero, List.set_cons_succ, i64_w, i32_w]
        rfl
       refine pure_ (i := 23) (N := some 70) (v := undef) (a' := ?_) #[true, true, true, true, true, true, true, true, true, true, true, true, true, true, true, true, true, true, true, true, true, true, true, true, false, false, false, false] rfl rfl (by kernel_rfl) (fun _ _ _ h => h) (Or.inr ⟨by rfl, rfl⟩) ?_ ?_
       rotate_left
       ·simp only [Act.put, List.setIfInBounds_toArray, List.set_cons_zero, List.set_cons_succ, i64_w, i32_w]
        rfl
       refine pure_ (i := 24) (N := some 71) (v := undef) (a' := ?_) #[true, true, true, true, true, true, true, true, true, true, true, true, true, true, true, true, true, true, true, true, true, true, true, true, true, false, false, false] rfl rfl (by kernel_rfl) (fun _ _ _ h => h) (Or.inr ⟨by rfl, rfl⟩) ?_ ?_
       rotate_left
       ·simp only [Act.put, List.setIfInBounds_toArray, List.set_cons_zero, List.set_cons_succ, i64_w, i32_w]
        rfl
       refine pure_ (i := 25) (N := some 72) (v := undef) (a' := ?_) #[true, true, true, true, true, true, true, true, true, true, true, true, true, true, true, true, true, true, true, true, true, true, true, true, true, true, false, false] rfl rfl (by kernel_rfl) (fun _ _ _ h => h) (Or.inr ⟨by rfl, rfl⟩) ?_ ?_
       rotate_left
       ·simp only [Act.put, List.setIfInBounds_toArray, List.set_cons_zero, List.set_cons_succ, i64_w, i32_w]
        rfl
       refine pure_ (i := 26) (N := some 73) (v := undef) (a' := ?_) #[true, true, true, true, true, true, true, true, true, true, true, true, true, true, true, true, true, true, true, true, true, true, true, true, true, true, true, false] rfl rfl (by kernel_rfl) (fun _ _ _ h => h) (Or.inr ⟨by rfl, rfl⟩) ?_ ?_
       rotate_left
       ·simp only [Act.put, List.setIfInBounds_toArray, List.set_cons_zero, List.set_cons_succ, i64_w, i32_w]
        rfl
       refine pure_ (i := 27) (N := some 74) (v := ?_) (a' := ?_) #[true, true, true, true, true, true, true, true, true, true, true, true, true, true, true, true, true, true, true, true, true, true, true, true, true, true, true, true] rfl rfl (by kernel_rfl) (fun _ _ _ h => h) (Or.inl ⟨by rfl, ?_⟩) ?_ ?_
       rotate_left
       ·intro w'
        go_simp
        with_reducible rfl
       rotate_left
       ·simp only [Act.put, List.setIfInBounds_toArray, List.set_cons_zero, List.set_cons_succ, i64_w, i32_w]
        rfl
       refine done_ (by kernel_rfl) ?_
       skip
       have HW0 := Aside0.mk hHeld
       go_wp2_with fail
       go_roundw
       case rel => exact ⟨s, D, by omega, by rw [HNN.out], ⟨by rw [← HD.out, HDS.out, HRK.out]; rfl⟩, ⟨HLG.out.1.fr HW0.out, HLG.out.2.fr HW0.out⟩⟩
       case measure => simp [intOf]; omega
     ·have hge1 : decide ((h.length : Int) ≤ (g : Int) + n - 1) = true := decide_eq_true (by omega)
      have hge2 : decide ((h.length : Int) < (g : Int) + n) = true := decide_eq_true (by omega)
      have hge3 : (h.length : Int) < (g : Int) + n := by omega
      have HRK := Aside0.mk (show subOk m h.length (g : Int) (-n) = false by rw [HSO1.out]; exact decide_eq_false (fun e => hat e.1))
      clear hzv hnn
      go_wp2_with fail
      refine start_ (n := 28) (S := fun w' => FrB [] wr w') (ds := []) #[false, false, false, false, false, false, false, false, false, false, false, false, false, false, false, false, false, false, false, false, false, false, false, false, false, false, false, false] (by kernel_rfl) rfl rfl (FrB.below (below_drew (Below.refl _ _))) (fun hHeld => ?_)
      refine pure_ (i := 0) (N := some 47) (v := ?_) (a' := ?_) #[true, false, false, false, false, false, false, false, false, false, false, false, false, false, false, false, false, false, false, false, false, false, false, false, false, false, false, false] rfl rfl (by kernel_rfl) (fun _ _ _ h => h) (Or.inl ⟨by rfl, ?_⟩) ?_ ?_
      rotate_left
      ·intro w'
       go_simp
       with_reducible rfl
      rotate_left
      ·simp only [Act.put, List.setIfInBounds_toArray, List.set_cons_zero, List.set_cons_succ, i64_w, i32_w]
       rfl
      refine pure_ (i := 1) (N := some 48) (v := ?_) (a' := ?_) #[true, true, false, false, false, false, false, false, false, false, false, false, false, false, false, false, false, false, false, false, false, false, false, false, false, false, false, false] rfl rfl (by kernel_rfl) (fun _ _ _ h => h) (Or.inl ⟨by rfl, ?_⟩) ?_ ?_
      rotate_left
      ·intro w'
       go_simp
       with_reducible rfl
      rotate_left
      ·simp only [Act.put, List.setIfInBounds_toArray, List.set_cons_zero, List.set_cons_succ, i64_w, i32_w]
       rfl
      refine pure_ (i := 2) (N := some 49) (v := ?_) (a' := ?_) #[true, true, true, false, false, false, false, false, false, false, false, false, false, false, false, false, false, false, false, false, false, false, false, false, false, false, false, false] rfl rfl (by kernel_rfl) (fun _ _ _ h => h) (Or.inl ⟨by rfl, ?_⟩) ?_ ?_
      rotate_left
      ·intro w'
       go_simp
       with_reducible rfl
      rotate_left
      ·simp only [Act.put, List.setIfInBounds_toArray, List.set_cons_zero, List.set_cons_succ, i64_w, i32_w]
       rfl
      refine pure_ (i := 3) (N := some 50) (v := ?_) (a' := ?_) #[true, true, true, true, false, false, false, false, false, false, false, false, false, false, false, false, false, false, false, false, false, false, false, false, false, false, false, false] rfl rfl (by kernel_rfl) (fun _ _ _ h => h) (Or.inl ⟨by rfl, ?_⟩) ?_ ?_
      rotate_left
      ·intro w'
       go_simp
       with_reducible rfl
      rotate_left
      ·simp only [Act.put, List.setIfInBounds_toArray, List.set_cons_zero, List.set_cons_succ, i64_w, i32_w]
       rfl
      refine pure_ (i := 4) (N := some 51) (v := ?_) (a' := ?_) #[true, true, true, true, true, false, false, false, false, false, false, false, false, false, false, false, false, false, false, false, false, false, false, false, false, false, false, false] rfl rfl (by kernel_rfl) (fun _ _ _ h => h) (Or.inl ⟨by rfl, ?_⟩) ?_ ?_
      rotate_left
      ·intro w'
       go_simp
       with_reducible rfl
      rotate_left
      ·simp only [Act.put, List.setIfInBounds_toArray, List.set_cons_zero, List.set_cons_succ, i64_w, i32_w]
       rfl
      refine pure_ (i := 5) (N := some 52) (v := ?_) (a' := ?_) #[true, true, true, true, true, true, false, false, false, false, false, false, false, false, false, false, false, false, false, false, false, false, false, false, false, false, false, false] rfl rfl (by kernel_rfl) (fun _ _ _ h => h) (Or.inl ⟨by rfl, ?_⟩) ?_ ?_
      rotate_left
      ·intro w'
       go_simp
       with_reducible rfl
      rotate_left
      ·simp only [Act.put, List.setIfInBounds_toArray, List.set_cons_zero, List.set_cons_succ, i64_w, i32_w]
       rfl
      refine pure_ (i := 6) (N := some 53) (v := ?_) (a' := ?_) #[true, true, true, true, true, true, true, false, false, false, false, false, false, false, false, false, false, false, false, false, false, false, false, false, false, false, false, false] rfl rfl (by kernel_rfl) (fun _ _ _ h => h) (Or.inl ⟨by rfl, ?_⟩) ?_ ?_
      rotate_left
      ·intro w'
       go_simp
       with_reducible rfl
      rotate_left
      ·simp only [Act.put, List.setIfInBounds_toArray, List.set_cons_zero, List.set_cons_succ, i64_w, i32_w]
       rfl
      refine pure_ (i := 7) (N := some 54) (v := undef) (a' := ?_) #[true, true, true, true, true, true, true, true, false, false, false, false, false, false, false, false, false, false, false, false, false, false, false, false, false, false, false, false] rfl rfl (by kernel_rfl) (fun _ _ _ h => h) (Or.inr ⟨by rfl, rfl⟩) ?_ ?_
      rotate_left
      ·simp only [Act.put, List.setIfInBounds_toArray, List.set_cons_zero, List.set_cons_succ, i64_w, i32_w]
       rfl
      refine pure_ (i := 8) (N := some 55) (v := undef) (a' := ?_) #[true, true, true, true, true, true, true, true, true, false, false, false, false, false, false, false, false, false, false, false, false, false, false, false, false, false, false, false] rfl rfl (by kernel_rfl) (fun _ _ _ h => h) (Or.inr ⟨by rfl, rfl⟩) ?_ ?_
      rotate_left
      ·simp only [Act.put, List.setIfInBounds_toArray, List.set_cons_zero, List.set_cons_succ, i64_w, i32_w]
       rfl
      refine pure_ (i := 9) (N := some 56) (v := undef) (a' := ?_) #[true, true, true, true, true, true, true, true, true, true, false, false, false, false, false, false, false, false, false, false, false, false, false, false, false, false, false, false] rfl rfl (by kernel_rfl) (fun _ _ _ h => h) (Or.inr ⟨by rfl, rfl⟩) ?_ ?_
      rotate_left
      ·simp only [Act.put, List.setIfInBounds_toArray, List.set_cons_zero, List.set_cons_succ, i64_w, i32_w]
       rfl
      refine pure_ (i := 10) (N := some 57) (v := undef) (a' := ?_) #[true, true, true, true, true, true, true, true, true, true, true, false, false, false, false, false, false, false, false, false, false, false, false, false, false, false, false, false] rfl rfl (by kernel_rfl) (fun _ _ _ h => h) (Or.inr ⟨by rfl, rfl⟩) ?_ ?_
      rotate_left
      ·simp only [Act.put, List.setIfInBounds_toArray, List.set_cons_zero, List.set_cons_succ, i64_w, i32_w]
       rfl
      refine pure_ (i := 11) (N := some 58) (v := undef) (a' := ?_) #[true, true, true, true, true, true, true, true, true, true, true, true, false, false, false, false, false, false, false, false, false, false, false, false, false, false, false, false] rfl rfl (by kernel_rfl) (fun _ _ _ h => h) (Or.inr ⟨by rfl, rfl⟩) ?_ ?_
      rotate_left
      ·simp only [Act.put, List.setIfInBounds_toArray, List.set_cons_zero, List.set_cons_succ, i64_w, i32_w]
       rfl
      refine pure_ (i := 12) (N := some 59) (v := undef) (a' := ?_) #[true, true, true, true, true, true, true, true, true, true, true, true, true, false, false, false, false, false, false, false, false, false, false, false, false, false, false, false] rfl rfl (by kernel_rfl) (fun _ _ _ h => h) (Or.inr ⟨by rfl, rfl⟩) ?_ ?_
      rotate_left
      ·simp only [Act.put, List.setIfInBounds_toArray, List.set_cons_zero, List.set_cons_succ, i64_w, i32_w]
       rfl
      refine pure_ (i := 13) (N := some 60) (v := undef) (a' := ?_) #[true, true, true, true, true, true, true, true, true, true, true, true, true, true, false, false, false, false, false, false, false, false, false, false, false, false, false, false] rfl rfl (by kernel_rfl) (fun _ _ _ h => h) (Or.inr ⟨by rfl, rfl⟩) ?_ ?_
      rotate_left
      ·simp only [Act.put, List.setIfInBounds_toArray, List.set_cons_zero, List.set_cons_succ, i64_w, i32_w]
       rfl
      refine pure_ (i := 14) (N := some 61) (v := undef) (a' := ?_) #[true, true, true, true, true, true, true, true, true, true, true, true, true, true, true, false, false, false, false, false, false, false, false, false, false, false, false, false] rfl rfl (by kernel_rfl) (fun _ _ _ h => h) (Or.inr ⟨by rfl, rfl⟩) ?_ ?_
      rotate_left
      ·simp only [Act.put, List.setIfInBounds_toArray, List.set_cons_zero, List.set_cons_succ, i64_w, i32_w]
       rfl
      refine pure_ (i := 15) (N := some 62) (v := undef) (a' := ?_) #[true, true, true, true, true, true, true, true, true, true, true, true, true, true, true, true, false, false, false, false, false, false, false, false, false, false, false, false] rfl rfl (by kernel_rfl) (fun _ _ _ h => h) (Or.inr ⟨by rfl, rfl⟩) ?_ ?_
      rotate_left
      ·simp only [Act.put, List.setIfInBounds_toArray, List.set_cons_zero, List.set_cons_succ, i64_w, i32_w]
       rfl
      refine pure_ (i := 16) (N := some 63) (v := undef) (a' := ?_) #[true, true, true, true, true, true, true, true, true, true, true, true, true, true, true, true, true, false, false, false, false, false, false, false, false, false, false, false] rfl rfl (by kernel_rfl) (fun _ _ _ h => h) (Or.inr ⟨by rfl, rfl⟩) ?_ ?_
      rotate_left
      ·simp only [Act.put, List.setIfInBounds_toArray, List.set_cons_zero, List.set_cons_succ, i64_w, i32_w]
       rfl
      refine pure_ (i := 17) (N := some 64) (v := undef) (a' := ?_) #[true, true, true, true, true, true, true, true, true, true, true, true, true, true, true, true, true, true, false, false, false, false, false, false, false, false, false, false] rfl rfl (by kernel_rfl) (fun _ _ _ h => h) (Or.inr ⟨by rfl, rfl⟩) ?_ ?_
      rotate_left
      ·simp only [Act.put, List.setIfInBounds_toArray, List.set_cons_zero, List.set_cons_succ, i64_w, i32_w]
       rfl
      refine pure_ (i := 18) (N := some 65) (v := undef) (a' := ?_) #[true, true, true, true, true, true, true, true, true, true, true, true, true, true, true, true, true, true, true, false, false, false, false, false, false, false, false, false] rfl rfl (by kernel_rfl) (fun _ _ _ h => h) (Or.inr ⟨by rfl, rfl⟩) ?_ ?_
      rotate_left
      ·simp only [Act.put, List.setIfInBounds_toArray, List.set_cons_zero, List.set_cons_succ, i64_w, i32_w]
       rfl
      refine pure_ (i := 19) (N := some 66) (v := ?_) (a' := ?_) #[true, true, true, true, true, true, true, true, true, true, true, true, true, true, true, true, true, true, true, true, false, false, false, false, false, false, false, false] rfl rfl (by kernel_rfl) (fun _ _ _ h => h) (Or.inl ⟨by rfl, ?_⟩) ?_ ?_
      rotate_left
      ·intro w'
       go_simp
       with_reducible rfl
      rotate_left
      ·simp only [Act.put, List.setIfInBounds_toArray, List.set_cons_zero, List.set_cons_succ, i64_w, i32_w]
       rfl
      refine pure_ (i := 20) (N := some 67) (v := ?_) (a' := ?_) #[true, true, true, true, true, true, true, true, true, true, true, true, true, true, true, true, true, true, true, true, true, false, false, false, false, false, false, false] rfl rfl (by kernel_rfl) (fun _ _ _ h => h) (Or.inl ⟨by rfl, ?_⟩) ?_ ?_
      rotate_left
      ·intro w'
       go_simp
       with_reducible rfl
      rotate_left
      ·simp only [Act.put, List.setIfInBounds_toArray, List.set_cons_zero, List.set_cons_succ, i64_w, i32_w]
       rfl
      refine pure_ (i := 21) (N := some 68) (v := undef) (a' := ?_) #[true, true, true, true, true, true, true, true, true, true, true, true, true, true, true, true, true, true, true, true, true, true, false, false, false, false, false, false] rfl rfl (by kernel_rfl) (fun _ _ _ h => h) (Or.inr ⟨by rfl, rfl⟩) ?_ ?_
      rotate_left
      ·simp only [Act.put, List.setIfInBounds_toArray, List.set_cons_zero, List.set_cons_succ, i64_w, i32_w]
       rfl
      refine pure_ (i := 22) (N := some 69) (v := undef) (a' := ?_) #[true, true, true, true, true, true, true, true, true, true, true, true, true, true, true, true, true, true, true, true, true, true, true, false, false, false, false, false] rfl rfl (by kernel_rfl) (fun _ _ _ h => h) (Or.inr ⟨by rfl, rfl⟩) ?_ ?_
      rotate_left
      ·simp only [Act.put, List.setIfInBounds_toArray, List.set_cons_zero, List.set_cons_succ, i64_w, i32_w]
       rfl
      refine pure_ (i := 23) (N := some 70) (v := undef) (a' := ?_) #[true, true, true, true, true, true, true, true, true, true, true, true, true, true, true, true, true, true, true, true, true, true, true, true, false, false, false, false] rfl rfl (by kernel_rfl) (fun _ _ _ h => h) (Or.inr ⟨by rfl, rfl⟩) ?_ ?_
      rotate_left
      ·simp only [Act.put, List.setIfInBounds_toArray, List.set_cons_zero, List.set_cons_succ, i64_w, i32_w]
       rfl
      refine pure_ (i := 24) (N := some 71) (v := undef) (a' := ?_) #[true, true, true, true, true, true, true, true, true, true, true, true, true, true, true, true, true, true, true, true, true, true, true, true, true, false, false, false] rfl rfl (by kernel_rfl) (fun _ _ _ h => h) (Or.inr ⟨by rfl, rfl⟩) ?_ ?_
      rotate_left
      ·simp only [Act.put, List.setIfInBounds_toArray, List.set_cons_zero, List.set_cons_succ, i64_w, i32_w]
       rfl
      refine pure_ (i := 25) (N := some 72) (v := undef) (a' := ?_) #[true, true, true, true, true, true, true, true, true, true, true, true, true, true, true, true, true, true, true, true, true, true, true, true, true, true, false, false] rfl rfl (by kernel_rfl) (fun _ _ _ h => h) (Or.inr ⟨by rfl, rfl⟩) ?_ ?_
      rotate_left
      ·simp only [Act.put, List.setIfInBounds_toArray, List.set_cons_zero, List.set_cons_succ, i64_w, i32_w]
       rfl
      refine pure_ (i := 26) (N := some 73) (v := undef) (a' := ?_) #[true, true, true, true, true, true, true, true, true, true, true, true, true, true, true, true, true, true, true, true, true, true, true, true, true, true, true, false] rfl rfl (by kernel_rfl) (fun _ _ _ h => h) (Or.inr ⟨by rfl, rfl⟩) ?_ ?_
      rotate_left
      ·simp only [Act.put, List.setIfInBounds_toArray, List.set_cons_zero, List.set_cons_succ, i64_w, i32_w]
       rfl
      refine pure_ (i := 27) (N := some 74) (v := ?_) (a' := ?_) #[true, true, true, true, true, true, true, true, true, true, true, true, true, true, true, true, true, true, true, true, true, true, true, true, true, true, true, true] rfl rfl (by kernel_rfl) (fun _ _ _ h => h) (Or.inl ⟨by rfl, ?_⟩) ?_ ?_
      rotate_left
      ·intro w'
       go_simp
       with_reducible rfl
      rotate_left
      ·simp only [Act.put, List.setIfInBounds_toArray, List.set_cons_zero, List.set_cons_succ, i64_w, i32_w]
       rfl
      refine done_ (by kernel_rfl) ?_
      skip
      have HW0 := Aside0.mk hHeld
      go_wp2_with fail
      go_roundw
      case rel => exact ⟨s, D, by omega, by rw [HNN.out], ⟨by rw [← HD.out, HDS.out, HRK.out]; rfl⟩, ⟨HLG.out.1.fr HW0.out, HLG.out.2.fr HW0.out⟩⟩
      case measure => simp [intOf]; omega
end
end Go.Proofs.Ytfgogdhhihbcjaa.Arr
namespace Go.Proofs.Ytfgogdhhihbcjaa.Arr
open Go.RowKit Go.Proofs.YtfgogdhhihbcjaaW.PrintWords Go.Proofs.YtfgogdhhihbcjaaW.PrintLast Go.Proofs.YtfgogdhhihbcjaaW.PrintMore Go.Proofs.Ytfgogdhhihbcjaa.U Go.Proofs.Ytfgogdhhihbcjaa.H
set_option linter.unusedVariables false
set_option linter.unusedSimpArgs false
set_option maxHeartbeats 1000000 in
set_option maxRecDepth 100000 in
theorem indexFunc_i8 (g : FuncId) (hg : ∀ (a : Array Value) (W : World), (callFunc g a).run Try.prog W = .ok (.enter g a) W) (cap : Array Value) (p : Int → Bool) (A0 : Option Addr) (c0 : Nat) (l0 : List Int) (w : World) (hr0 : Kd.C (Kd.int .i8) w A0 l0.length l0) (hc0 : l0.length ≤ c0)
  (hf : ∀ x ∈ l0, ∀ W, Below w.heap.size w W → Calls Try.prog g (#[.int .i8 x] ++ cap) W fun e W' => e = .returned (.bool (p x)) ∧ Below W.heap.size W W') :
  Calls Try.prog 77 #[.slice A0 l0.length c0, .func (.func g) #[] cap] w fun e w' => e = .returned (.int .i64 (ixa p l0)) ∧ Below w.heap.size w w' := by
 have HF := Aside0.mk hf
 have HR0 := Aside0.mk hr0
 have hm := Kd.C_max hr0
 clear hf hr0
 go_enter Try.func77, Try.ntmps77
 go_wp2_with fail
 go_loopw [8, 5] (fun v8 v5 wr => ∃ i : Nat, i ≤ l0.length ∧ v8 = .int .i64 i ∧ Aside0 (Below w.heap.size w wr) ∧ Aside0 (∀ j, j < i → ∀ y, l0[j]? = some y → p y = false)) (fun v8 _ _ => l0.length - (intOf v8).toNat)
 case atStart => exact ⟨0, Nat.zero_le _, rfl, ⟨Below.refl _ _⟩, ⟨fun j hj => absurd hj (by omega)⟩⟩
 case round =>
  obtain ⟨i, hi, rfl, HB, HP⟩ := hrel
  by_cases hlt : i < l0.length
  ·obtain ⟨ad, rfl, hcell⟩ := Kd.at_int (Kd.C_below HR0.out HB.out) (i : Int) (by omega) (by omega)
   rw [Int.toNat_natCast] at hcell
   have HM := Aside0.mk (HF.out (rd l0 (i : Int)) (by rw [rd_get l0 i hlt]; exact List.getElem_mem hlt) wr HB.out)
   have HX : Aside0 (l0[i]? = some (rd l0 (i : Int))) := ⟨by rw [rd_get l0 i hlt, List.getElem?_eq_getElem hlt]⟩
   generalize rd l0 (i : Int) = x at *
   cases hp : p x with
   | true =>
    have HPX := Aside0.mk hp
    rw [hp] at HM
    clear hp
    go_wp2_with (refine HM.out.mono ?_; rintro e w1 ⟨rfl, hb1⟩; have HB1 := Aside0.mk hb1; clear hb1)
    go_ret
    exact ⟨by rw [ixa_found p l0 i x HX.out HP.out HPX.out]; rfl, below_then HB.out HB1.out⟩
   | false =>
    have HPX := Aside0.mk hp
    rw [hp] at HM
    clear hp
    go_wp2_with (refine HM.out.mono ?_; rintro e w1 ⟨rfl, hb1⟩; have HB1 := Aside0.mk hb1; clear hb1)
    go_roundw
    case rel => exact ⟨i + 1, by omega, by go_num, ⟨HB.out.trans (HB1.out.mono HB.out.size)⟩, ⟨fun j hj y hy => by
     rcases Nat.lt_or_ge j i with h | h
     ·exact HP.out j h y hy
     ·obtain rfl : j = i := by omega
      rw [HX.out] at hy
      rw [← Option.some.inj hy]; exact HPX.out⟩⟩
    case measure => simp [intOf]; omega
  ·have HI := Aside0.mk (show i = l0.length by omega)
   go_wp2_with fail
   go_ret
   exact ⟨by rw [ixa_none p l0 (fun j hj => HP.out j (by rw [HI.out]; exact hj))]; rfl, HB.out⟩
set_option maxHeartbeats 1000000 in
set_option maxRecDepth 100000 in
theorem containsFunc_i8 (g : FuncId) (hg : ∀ (a : Array Value) (W : World), (callFunc g a).run Try.prog W = .ok (.enter g a) W) (cap : Array Value) (p : Int → Bool) (A0 : Option Addr) (c0 : Nat) (l0 : List Int) (w : World) (hr0 : Kd.C (Kd.int .i8) w A0 l0.length l0) (hc0 : l0.length ≤ c0)
  (hf : ∀ x ∈ l0, ∀ W, Below w.heap.size w W → Calls Try.prog g (#[.int .i8 x] ++ cap) W fun e W' => e = .returned (.bool (p x)) ∧ Below W.heap.size W W') :
  Calls Try.prog 67 #[.slice A0 l0.length c0, .func (.func g) #[] cap] w fun e w' => e = .returned (.bool (l0.any p)) ∧ Below w.heap.size w w' := by
 have HM := Aside0.mk (indexFunc_i8 g hg cap p A0 c0 l0 w hr0 hc0 hf)
 have HA := Aside0.mk (ixa_any p l0)
 clear hf hr0 hg hc0
 generalize ixa p l0 = n at *
 generalize l0.any p = b at *
 go_enter Try.func67, Try.ntmps67
 go_wp2_with (go_at_call 77; refine HM.out.mono ?_; rintro e w1 ⟨rfl, hb1⟩; have HB1 := Aside0.mk hb1; clear hb1)
 go_ret
 exact ⟨by rw [← HA.out]; rfl, HB1.out⟩
def oddM (n : Int) : Bool := decide (n < 0) && decide (n ≠ -10)
def plainM (m : List Int) : Bool := okH m && !m.any oddM
theorem plainM_N {m : List Int} (h : plainM m = true) : (∀ x ∈ m, PlainN x) ∧ 1 ≤ m.length ∧ m.length ≤ 8 := by
 unfold plainM at h
 rw [Bool.and_eq_true, Bool.not_eq_true', List.any_eq_false] at h
 refine ⟨fun x hx => ?_, (okH_len h.1).1, (okH_len h.1).2⟩
 have h1 := okH_num h.1 x hx
 have h2 := h.2 x hx
 unfold oddM at h2
 rw [Bool.and_eq_true, decide_eq_true_eq, decide_eq_true_eq] at h2
 unfold PlainN
 omega
set_option maxHeartbeats 1000000 in
set_option maxRecDepth 100000 in
theorem validMeaning1 (x : Int) (w : World) : Calls Try.prog 68 (#[.int .i8 x] ++ #[]) w fun e w' => e = .returned (.bool (oddM x)) ∧ Below w.heap.size w w' := by
 show Calls Try.prog 68 #[.int .i8 x] w _
 by_cases h0 : x < 0
 ·by_cases h1 : x = -10
  ·subst h1
   rw [show oddM (-10) = false from rfl]
   go_enter Try.func68, Try.ntmps68
   go_wp2
   go_ret
   exact ⟨rfl, Below.refl _ _⟩
  ·have h2 : (x != -10) = true := by rw [bne_iff_ne]; exact h1
   rw [show oddM x = true by unfold oddM; rw [decide_eq_true h0, decide_eq_true h1]; rfl]
   clear h1
   go_enter Try.func68, Try.ntmps68
   go_wp2
   go_ret
   exact ⟨rfl, Below.refl _ _⟩
 ·rw [show oddM x = false by unfold oddM; rw [decide_eq_false h0]; rfl]
  go_enter Try.func68, Try.ntmps68
  go_wp2
  go_ret
  exact ⟨rfl, Below.refl _ _⟩
theorem validMeaning1_enters (a : Array Value) (W : World) : (callFunc 68 a).run Try.prog W = .ok (.enter 68 a) W := by kernel_rfl
set_option maxHeartbeats 2000000 in
set_option maxRecDepth 100000 in
theorem validMeaning_calls (A0 : Option Addr) (c0 : Nat) (m : List Int) (w : World) (hr : Kd.C (Kd.int .i8) w A0 m.length m) (hc : m.length ≤ c0) (hs : Small8 m) :
  Calls Try.prog 53 #[.slice A0 m.length c0] w fun e w' => e = .returned (.bool (plainM m)) ∧ Below w.heap.size w w' := by
 have HV := Aside0.mk (validHoist_calls A0 c0 m w hr hc hs.1 hs.2)
 have HCF : Aside0 (∀ W, Below w.heap.size w W → Calls Try.prog 67 #[.slice A0 m.length c0, .func (.func 68) #[] #[]] W fun e w' => e = .returned (.bool (m.any oddM)) ∧ Below W.heap.size W w') := ⟨fun W hW =>
  containsFunc_i8 _ validMeaning1_enters #[] oddM A0 c0 m W (Kd.C_below hr hW) hc fun x _ W1 _ => validMeaning1 x W1⟩
 unfold plainM
 clear hr hs
 generalize m.any oddM = b2 at *
 generalize okH m = b1 at *
 cases b1
 ·go_enter Try.func53, Try.ntmps53
  go_wp2_with (go_at_call 66; refine HV.out.mono ?_; rintro e w1 ⟨rfl, hb1⟩; have HB1 := Aside0.mk hb1; clear hb1)
  go_ret
  exact ⟨rfl, HB1.out⟩
 ·go_enter Try.func53, Try.ntmps53
  go_wp2_with (first
   | (go_at_call 66; refine HV.out.mono ?_; rintro e w1 ⟨rfl, hb1⟩; have HB1 := Aside0.mk hb1; clear hb1)
   | (go_at_call 67; refine (HCF.out _ HB1.out).mono ?_; rintro e w2 ⟨rfl, hb2⟩; have HB2 := Aside0.mk hb2; clear hb2))
  go_ret
  exact ⟨rfl, HB1.out.trans (HB2.out.mono HB1.out.size)⟩
theorem l02Plain_ev (m : List Int) (hs : Small8 m) : Ev (fun k => spec_l02Plain.f k m) (plainM m) := by
 unfold spec_l02Plain.f
 have hok : ∀ r, okH m = r → Ev (fun k => (spec_l02Ok.f k m).bind fun t => some t) r := fun r hr => by
  refine Ev.bind (a := r) ?_ (cons rfl)
  subst hr
  unfold spec_l02Ok.f
  refine Ev.bind (l02Read_ev m hs.1 hs.2) (cons ?_)
  unfold okH
  cases readH m <;> rfl
 have hany : ∀ i : Nat, i < m.length → oddM (rd m (i : Int)) = true → plainM m = false := fun i hi ho => by
  unfold plainM
  rw [List.any_eq_true.2 ⟨rd m (i : Int), by rw [rd_get m i hi]; exact List.getElem_mem hi, ho⟩]
  simp
 refine iter (F := fun k (s : Int) => spec_l02Plain.l0 k m s) (fun i s => s = (i : Int) ∧ ∀ j, j < i → oddM (rd m (j : Int)) = false) _ m.length ?_ ?_ 0 0 (by omega) ⟨rfl, fun j hj => absurd hj (by omega)⟩
 ·rintro i s hi ⟨rfl, hP⟩
  have hl := hs.1
  cases ho : oddM (rd m (i : Int)) with
  | true =>
   refine .inr ?_
   rw [hany i hi ho]
   unfold oddM at ho
   rw [Bool.and_eq_true, decide_eq_true_eq, decide_eq_true_eq] at ho
   refine Ev.step (fun k => by rw [spec_l02Plain.l0]) ?_
   exact pos (by omega) (pos (by omega) (pos ho.1 (neg ho.2 (cons rfl))))
  | false =>
   refine .inl ⟨((i + 1 : Nat) : Int), ⟨rfl, fun j hj => ?_⟩, fun hgo => ?_⟩
   ·rcases Nat.lt_or_ge j i with h | h
    ·exact hP j h
    ·obtain rfl : j = i := by omega
     exact ho
   ·have hgo2 : Ev (fun k => spec_l02Plain.l0 k m (wrap64 ((i : Int) + 1))) (plainM m) := by rw [w64 (by omega) (by omega)]; exact hgo
    refine Ev.step (fun k => by rw [spec_l02Plain.l0]) ?_
    refine pos (by omega) (pos (by omega) ?_)
    by_cases h0 : rd m (i : Int) < 0
    ·refine pos h0 (pos ?_ hgo2)
     unfold oddM at ho
     rw [decide_eq_true h0, Bool.true_and, decide_eq_false_iff_not] at ho
     omega
    ·exact neg h0 hgo2
 ·rintro s ⟨rfl, hP⟩
  refine Ev.step (fun k => by rw [spec_l02Plain.l0]) ?_
  refine neg (by omega) (hok _ ?_)
  unfold plainM
  have : m.any oddM = false := by
   rw [List.any_eq_false]
   intro x hx
   obtain ⟨j, hj, rfl⟩ := List.getElem_of_mem hx
   have := hP j hj
   rw [rd_get m j hj] at this
   simp [this]
  rw [this]; simp
theorem l02Plain_calls (A0 : Option Addr) (c0 : Nat) (m : List Int) (w : World) (hr : Kd.C (Kd.int .i8) w A0 m.length m) (hc : m.length ≤ c0) (hs : Small8 m) :
  Calls Try.prog 30 #[.slice A0 m.length c0] w fun e w' => e = .returned (.bool (plainM m)) ∧ Below w.heap.size w w' := by
 obtain ⟨k, hk⟩ := (l02Plain_ev m hs).rounds
 refine (spec_l02Plain.calls k A0 c0 m (plainM m) w hr hc hk).mono ?_
 rintro e w' ⟨rfl, h⟩
 exact ⟨rfl, by first | exact h | exact h.below⟩
end Go.Proofs.Ytfgogdhhihbcjaa.Arr
namespace Go.Proofs.Ytfgogdhhihbcjaa.Arr
open Go.RowKit Go.Proofs.YtfgogdhhihbcjaaW.PrintWords Go.Proofs.YtfgogdhhihbcjaaW.PrintLast Go.Proofs.YtfgogdhhihbcjaaW.PrintMore Go.Proofs.Ytfgogdhhihbcjaa.U Go.Proofs.Ytfgogdhhihbcjaa.H
set_option linter.unusedVariables false
set_option linter.unusedSimpArgs false
theorem S_empty {w : World} {base : Nat} {ok : Nat → Prop} {v : Value} {e : Nat} (h : Kd.R kH e w base ok v []) : Kd.S kH e w base ok v [] := by
 obtain ⟨h0, inner, ho, hr⟩ := h
 exact ⟨fun _ => 0, h0, inner, ho, hr.1, fun j p hj => by simp at hj⟩
theorem okL_bd {L : List Int} (h : okL L = true) (hl : L.length = 44) : ∀ j : Nat, j < 44 → 0 ≤ rd L (j : Int) ∧ rd L (j : Int) ≤ 20000 := fun j hj => by
 have := okL_in h _ (rd_in L j (by omega))
 omega
theorem pow5 {n : Nat} (h : n ≤ 8) : 2 * 5 ^ n ≤ 1000000000000 := by
 have h1 : 5 ^ n ≤ 5 ^ 8 := Nat.pow_le_pow_right (by omega) h
 have h2 : (5 : Nat) ^ 8 = 390625 := by decide
 omega
set_option maxHeartbeats 4000000 in
set_option maxRecDepth 100000 in
theorem l04All_calls (g : Nat) (L : List Int) (Am : Option Addr) (cm : Nat) (m : List Int) (w : World) (hg : w.heap[g]? = some (.cells (vals .i16 L) 31 (0, 0))) (hl : L.length = 44) (hLb : ∀ j : Nat, j < 44 → 0 ≤ rd L (j : Int) ∧ rd L (j : Int) ≤ 20000)
  (hr : Kd.C (Kd.int .i8) w Am m.length m) (hm : ∀ x ∈ m, PlainN x) (hml : m.length ≤ 8) :
  Calls Try.prog 31 #[.pointer (some ⟨g, 0, none⟩), .slice Am m.length cm] w fun e w' => ∃ v, e = .returned v ∧ LS w v (leaves m 4 (enough L) m.length [] 0) w' := by
 have HLK := Aside0.mk (fun (v : Value) (A : Option Addr) (c : Nat) (W : World) (hS : LS w v [] W) (ho : Own w.heap.size W (.slice A 0 c) []) => look_calls (w0 := w) (L0 := L) (cm := cm) hr hm (by omega) hl m.length [] 0 A c v [] L W (by simp) (by simp) hS ho rfl hLb (by have := pow5 hml; simpa using this))
 have HG := Aside0.mk (fun W (hW : Below w.heap.size w W) => (hW.block _ (lt_of_some hg)).trans hg)
 have HXL := Aside0.mk hl
 clear hg hl hLb hr hm hml
 go_enter Try.func31, Try.ntmps31
 go_wp2_with (first
  | ((with_reducible refine gate_dst (N := 5) rfl ?_); refine Kd.R_lit (kH) _ 28 ?hg (N := 5) ?hd (xs := []) (inner := []) (ok := fun _ => True) (okp := fun _ => True) ?hr ?hp (fun _ hk => hk) trivial (Below.refl _ _) (Nat.le_refl _) (by simp) ?_; (case hd => rfl); (case hg => rfl); (case hr => first | (go_simp; done) | (go_simp; rfl)); (case hp => exact (Reps.none _ _)); intro v5 w5 ho hb _ _; have HB5 := Aside0.mk hb; have HS5 := Aside0.mk (LS.mk hb (S_empty ho)); clear ho hb)
  | ((with_reducible refine gt_load 31 ?_); refine Kd.event_run rfl (y_rowA (by rfl) (by rfl) (HG.out _ HB5.out) aggLk (by rw [vals_size]; exact HXL.out)) ?_)
  | ((with_reducible refine gate_dst (N := 10) rfl ?_); refine Kd.R_lit (Kd.int .i8) _ 64 ?hg (N := 10) ?hd (xs := []) (inner := []) (ok := fun _ => True) (okp := fun _ => True) ?hr ?hp (fun _ hk => hk) trivial (Below.refl _ _) (Nat.le_refl _) (by simp) ?_; (case hd => rfl); (case hg => rfl); (case hr => first | (go_simp; done) | (go_simp; rfl)); (case hp => exact (Reps.none _ _)); intro v10 w10 ho hb _ _; obtain ⟨A10, c10, rfl⟩ := Kd.R_slice ho; have HS10 := Aside0.mk (HS5.out.fr (FrB.below hb)); have HO10 := Aside0.mk (own_lower ho HB5.out.size); clear ho hb)
  | (go_at_call 49; refine (HLK.out v5 A10 c10 _ HS10.out HO10.out).mono ?_; rintro e w11 ⟨v11, rfl, hls, _⟩; have HE := Aside0.mk hls; clear hls))
 go_ret
 exact ⟨_, rfl, by have := HE.out; rwa [List.nil_append] at this⟩
theorem oneHo : OneTy Try.prog 28 := ⟨by kernel_rfl, by kernel_rfl⟩
end Go.Proofs.Ytfgogdhhihbcjaa.Arr
namespace Go.Proofs.Ytfgogdhhihbcjaa.Arr
open Go.RowKit Go.Proofs.YtfgogdhhihbcjaaW.PrintWords Go.Proofs.YtfgogdhhihbcjaaW.PrintLast Go.Proofs.YtfgogdhhihbcjaaW.PrintMore Go.Proofs.Ytfgogdhhihbcjaa.U Go.Proofs.Ytfgogdhhihbcjaa.H
set_option linter.unusedVariables false
set_option linter.unusedSimpArgs false
theorem rdM_get (xs : List (List Int)) (i : Nat) (h : i < xs.length) : rd_L1 xs (i : Int) = xs[i] := by
 simp [rd_L1, List.getElem?_eq_getElem h]
set_option maxHeartbeats 4000000 in
set_option maxRecDepth 100000 in
theorem indexFunc_m (g : FuncId) (hg : ∀ (a : Array Value) (W : World), (callFunc g a).run Try.prog W = .ok (.enter g a) W) (cap : Array Value) (p : List Int → Bool) (A0 : Option Addr) (c0 : Nat) (l0 : List (List Int)) (w : World) (hr0 : Kd.C (Kd.slice 64 (Kd.int .i8)) w A0 l0.length l0) (hc0 : l0.length ≤ c0)
  (hf : ∀ x ∈ l0, ∀ A c W, Below w.heap.size w W → Kd.C (Kd.int .i8) W A x.length x → x.length ≤ c → Calls Try.prog g (#[.slice A x.length c] ++ cap) W fun e W' => e = .returned (.bool (p x)) ∧ Below W.heap.size W W') :
  Calls Try.prog 65 #[.slice A0 l0.length c0, .func (.func g) #[] cap] w fun e w' => e = .returned (.int .i64 (ixa p l0)) ∧ Below w.heap.size w w' := by
 have HF := Aside0.mk hf
 have HR0 := Aside0.mk hr0
 have hmx := Kd.C_max hr0
 clear hf hr0
 go_enter Try.func65, Try.ntmps65
 go_wp2_with fail
 go_loopw [8, 5] (fun v8 v5 wr => ∃ i : Nat, i ≤ l0.length ∧ v8 = .int .i64 i ∧ Aside0 (Below w.heap.size w wr) ∧ Aside0 (∀ j, j < i → ∀ y, l0[j]? = some y → p y = false)) (fun v8 _ _ => l0.length - (intOf v8).toNat)
 case atStart => exact ⟨0, Nat.zero_le _, rfl, ⟨Below.refl _ _⟩, ⟨fun j hj => absurd hj (by omega)⟩⟩
 case round =>
  obtain ⟨i, hi, rfl, HB, HP⟩ := hrel
  by_cases hlt : i < l0.length
  ·have hx := List.getElem?_eq_getElem hlt
   have hx2 := rdM_get l0 i hlt
   obtain ⟨ad, A1, c1, rfl, hcell, hl1, hC1⟩ := at_L1 (Kd.C_below HR0.out HB.out) (i : Int) (by omega) (by omega)
   rw [Int.toNat_natCast] at hcell
   rw [← hx2] at hx
   generalize rd_L1 l0 (i : Int) = x at *
   have HM := Aside0.mk (HF.out x (List.mem_of_getElem? hx) A1 c1 _ HB.out hC1 hl1)
   have HX := Aside0.mk hx
   clear hx hC1 hx2
   cases hp : p x with
   | true =>
    have HPX := Aside0.mk hp
    rw [hp] at HM
    clear hp
    go_wp2_with (refine HM.out.mono ?_; rintro e w1 ⟨rfl, hb1⟩; have HB1 := Aside0.mk hb1; clear hb1)
    go_ret
    exact ⟨by rw [ixa_found p l0 i x HX.out HP.out HPX.out]; rfl, below_then HB.out HB1.out⟩
   | false =>
    have HPX := Aside0.mk hp
    rw [hp] at HM
    clear hp
    go_wp2_with (refine HM.out.mono ?_; rintro e w1 ⟨rfl, hb1⟩; have HB1 := Aside0.mk hb1; clear hb1)
    go_roundw
    case rel => exact ⟨i + 1, by omega, by go_num, ⟨below_then HB.out HB1.out⟩, ⟨fun j hj y hy => by
     rcases Nat.lt_or_ge j i with h | h
     ·exact HP.out j h y hy
     ·obtain rfl : j = i := by omega
      rw [HX.out] at hy
      rw [← Option.some.inj hy]; exact HPX.out⟩⟩
    case measure => simp [intOf]; omega
  ·have HI := Aside0.mk (show i = l0.length by omega)
   go_wp2_with fail
   go_ret
   exact ⟨by rw [ixa_none p l0 (fun j hj => HP.out j (by rw [HI.out]; exact hj))]; rfl, HB.out⟩
set_option maxHeartbeats 4000000 in
set_option maxRecDepth 100000 in
theorem containsFunc_m (g : FuncId) (hg : ∀ (a : Array Value) (W : World), (callFunc g a).run Try.prog W = .ok (.enter g a) W) (cap : Array Value) (p : List Int → Bool) (A0 : Option Addr) (c0 : Nat) (l0 : List (List Int)) (w : World) (hr0 : Kd.C (Kd.slice 64 (Kd.int .i8)) w A0 l0.length l0) (hc0 : l0.length ≤ c0)
  (hf : ∀ x ∈ l0, ∀ A c W, Below w.heap.size w W → Kd.C (Kd.int .i8) W A x.length x → x.length ≤ c → Calls Try.prog g (#[.slice A x.length c] ++ cap) W fun e W' => e = .returned (.bool (p x)) ∧ Below W.heap.size W W') :
  Calls Try.prog 51 #[.slice A0 l0.length c0, .func (.func g) #[] cap] w fun e w' => e = .returned (.bool (l0.any p)) ∧ Below w.heap.size w w' := by
 have HM := Aside0.mk (indexFunc_m g hg cap p A0 c0 l0 w hr0 hc0 hf)
 have HA := Aside0.mk (ixa_any p l0)
 clear hf hr0 hg hc0
 generalize ixa p l0 = n at *
 generalize l0.any p = b at *
 go_enter Try.func51, Try.ntmps51
 go_wp2_with (go_at_call 65; refine HM.out.mono ?_; rintro e w1 ⟨rfl, hb1⟩; have HB1 := Aside0.mk hb1; clear hb1)
 go_ret
 exact ⟨by rw [← HA.out]; rfl, HB1.out⟩
theorem mc1_enters (a : Array Value) (W : World) : (callFunc 52 a).run Try.prog W = .ok (.enter 52 a) W := by kernel_rfl
set_option maxHeartbeats 2000000 in
set_option maxRecDepth 100000 in
theorem mc1_calls (A0 : Option Addr) (c0 : Nat) (m : List Int) (w : World) (hr : Kd.C (Kd.int .i8) w A0 m.length m) (hc : m.length ≤ c0) (hs : Small8 m) :
  Calls Try.prog 52 (#[.slice A0 m.length c0] ++ #[]) w fun e w' => e = .returned (.bool (!plainM m)) ∧ Below w.heap.size w w' := by
 have HV := Aside0.mk (validMeaning_calls A0 c0 m w hr hc hs)
 show Calls Try.prog 52 #[.slice A0 m.length c0] w _
 clear hr hs hc
 generalize plainM m = b at *
 go_enter Try.func52, Try.ntmps52
 go_wp2_with (go_at_call 53; refine HV.out.mono ?_; rintro e w1 ⟨rfl, hb1⟩; have HB1 := Aside0.mk hb1; clear hb1)
 go_ret
 exact ⟨rfl, HB1.out⟩
def codeMs (L : List Int) (ms : List (List Int)) : Int := if okL L = true then (if ms.any (fun m => !plainM m) = false then (if (ms.length : Int) ≤ 6 then 0 else 3) else 1) else 1
theorem unless_callsH (b : Bool) (c : Int) (w : World) : Calls Try.prog 45 #[.bool b, .int .i64 c] w fun e w' => e = .returned (.int .i64 (if b = true then 0 else c)) ∧ Below w.heap.size w w' := by
 refine (impl_unless.calls b c (if b = true then 0 else c) w (by unfold impl_unless.f; cases b <;> rfl)).mono ?_
 rintro e w' ⟨rfl, h⟩
 exact ⟨rfl, h.below⟩
set_option maxHeartbeats 4000000 in
set_option maxRecDepth 100000 in
theorem meaningCode_calls (L : List Int) (A0 : Option Addr) (c0 : Nat) (ms : List (List Int)) (w : World) (hl : L.length = 44) (hw : Fits .i16 L) (hr : Kd.C kH w A0 ms.length ms) (hc : ms.length ≤ c0) (hs : ∀ x ∈ ms, Small8 x) (hn : ms.length ≤ 1048576) :
  Calls Try.prog 34 #[.agg (vals .i16 L), .slice A0 ms.length c0] w fun e w' => e = .returned (.int .i64 (codeMs L ms)) ∧ Below w.heap.size w w' := by
 have hm := Mem.start w
 have HW := Aside0.mk hw
 have HLC := Aside0.mk (fun (W : World) (g : Nat) (h : Lks W g [L]) => lockerCode_calls g [L] W h (by simp))
 have HCF := Aside0.mk (fun W (hW : Below w.heap.size w W) => containsFunc_m 52 mc1_enters #[] (fun m => !plainM m) A0 c0 ms W (Kd.C_below hr hW) hc (fun x hx A c W' hW' hC hc' => mc1_calls A c x W' hC hc' (hs x hx)))
 unfold codeMs
 clear hr hc hs hw
 have HLA : Aside0 ((if [L].all okL = true then 0 else 1 : Int) = (if okL L = true then 0 else 1)) := ⟨by simp⟩
 by_cases hok : okL L = true
 ·rw [if_pos hok]
  rw [if_pos hok] at HLA
  by_cases ha : ms.any (fun m => !plainM m) = false
  ·rw [if_pos ha]
   rw [ha] at HCF
   clear hok ha
   by_cases h6 : (ms.length : Int) ≤ 6
   ·rw [if_pos h6]
    go_enter Try.func34, Try.ntmps34
    go_wp2_with (first
     | (first | fail | ((with_reducible refine gt_box 2 31 ?_); refine st_box rfl 2 rfl 31 _ rfl hm (v := .agg (vals _ _)) rfl (cs := vals _ _) rfl ?_; clear hm; intro g2 w2 hm) | ((with_reducible refine gt_load 31 ?_); (first | (refine st_load rfl 31 _ rfl hm rfl 0 rfl agg31 (by first | omega | assumption | (simp only [lens]; first | omega | assumption) | (simp [lens]; done) | (simp [lens]; omega)) ?_) | (refine st_load rfl 31 _ rfl hm rfl 1 rfl agg31 (by first | omega | assumption | (simp only [lens]; first | omega | assumption) | (simp [lens]; done) | (simp [lens]; omega)) ?_) | (refine st_load rfl 31 _ rfl hm rfl 2 rfl agg31 (by first | omega | assumption | (simp only [lens]; first | omega | assumption) | (simp [lens]; done) | (simp [lens]; omega)) ?_))) | (refine st_lit1 rfl 6 rfl 100 _ rfl hm rfl Try.underlying100 agg31 zero31 (by first | omega | assumption | (simp only [lens]; first | omega | assumption) | (simp [lens]; done) | (simp [lens]; omega))  (by decide) (by decide) ?_; clear hm; intro g6 w6 hm))
     | (go_at_call 50; refine (HLC.out _ g6 (lks1 hm (n := 0) rfl hl HW.out)).mono ?_; rintro e w1 ⟨rfl, h⟩; rw [HLA.out]; have HB1 := Aside0.mk (below_then (hm.done rfl) h); clear hm h)
     | (go_at_call 51; refine (HCF.out _ HB1.out).mono ?_; rintro e w2 ⟨rfl, h⟩; have HB2 := Aside0.mk (below_then HB1.out h); clear h)
     | (go_at_call 45; refine (unless_callsH _ _ _).mono ?_; rintro e w3 ⟨rfl, h⟩; have HB3 := Aside0.mk (below_then HB2.out h); clear h))
    go_ret
    exact ⟨rfl, HB3.out⟩
   ·rw [if_neg h6]
    go_enter Try.func34, Try.ntmps34
    go_wp2_with (first
     | (first | fail | ((with_reducible refine gt_box 2 31 ?_); refine st_box rfl 2 rfl 31 _ rfl hm (v := .agg (vals _ _)) rfl (cs := vals _ _) rfl ?_; clear hm; intro g2 w2 hm) | ((with_reducible refine gt_load 31 ?_); (first | (refine st_load rfl 31 _ rfl hm rfl 0 rfl agg31 (by first | omega | assumption | (simp only [lens]; first | omega | assumption) | (simp [lens]; done) | (simp [lens]; omega)) ?_) | (refine st_load rfl 31 _ rfl hm rfl 1 rfl agg31 (by first | omega | assumption | (simp only [lens]; first | omega | assumption) | (simp [lens]; done) | (simp [lens]; omega)) ?_) | (refine st_load rfl 31 _ rfl hm rfl 2 rfl agg31 (by first | omega | assumption | (simp only [lens]; first | omega | assumption) | (simp [lens]; done) | (simp [lens]; omega)) ?_))) | (refine st_lit1 rfl 6 rfl 100 _ rfl hm rfl Try.underlying100 agg31 zero31 (by first | omega | assumption | (simp only [lens]; first | omega | assumption) | (simp [lens]; done) | (simp [lens]; omega))  (by decide) (by decide) ?_; clear hm; intro g6 w6 hm))
     | (go_at_call 50; refine (HLC.out _ g6 (lks1 hm (n := 0) rfl hl HW.out)).mono ?_; rintro e w1 ⟨rfl, h⟩; rw [HLA.out]; have HB1 := Aside0.mk (below_then (hm.done rfl) h); clear hm h)
     | (go_at_call 51; refine (HCF.out _ HB1.out).mono ?_; rintro e w2 ⟨rfl, h⟩; have HB2 := Aside0.mk (below_then HB1.out h); clear h)
     | (go_at_call 45; refine (unless_callsH _ _ _).mono ?_; rintro e w3 ⟨rfl, h⟩; have HB3 := Aside0.mk (below_then HB2.out h); clear h))
    go_ret
    exact ⟨rfl, HB3.out⟩
  ·rw [if_neg ha]
   rw [show ms.any (fun m => !plainM m) = true by cases h : ms.any (fun m => !plainM m) with | true => rfl | false => exact absurd h ha] at HCF
   clear hok ha
   go_enter Try.func34, Try.ntmps34
   go_wp2_with (first
     | (first | fail | ((with_reducible refine gt_box 2 31 ?_); refine st_box rfl 2 rfl 31 _ rfl hm (v := .agg (vals _ _)) rfl (cs := vals _ _) rfl ?_; clear hm; intro g2 w2 hm) | ((with_reducible refine gt_load 31 ?_); (first | (refine st_load rfl 31 _ rfl hm rfl 0 rfl agg31 (by first | omega | assumption | (simp only [lens]; first | omega | assumption) | (simp [lens]; done) | (simp [lens]; omega)) ?_) | (refine st_load rfl 31 _ rfl hm rfl 1 rfl agg31 (by first | omega | assumption | (simp only [lens]; first | omega | assumption) | (simp [lens]; done) | (simp [lens]; omega)) ?_) | (refine st_load rfl 31 _ rfl hm rfl 2 rfl agg31 (by first | omega | assumption | (simp only [lens]; first | omega | assumption) | (simp [lens]; done) | (simp [lens]; omega)) ?_))) | (refine st_lit1 rfl 6 rfl 100 _ rfl hm rfl Try.underlying100 agg31 zero31 (by first | omega | assumption | (simp only [lens]; first | omega | assumption) | (simp [lens]; done) | (simp [lens]; omega))  (by decide) (by decide) ?_; clear hm; intro g6 w6 hm))
     | (go_at_call 50; refine (HLC.out _ g6 (lks1 hm (n := 0) rfl hl HW.out)).mono ?_; rintro e w1 ⟨rfl, h⟩; rw [HLA.out]; have HB1 := Aside0.mk (below_then (hm.done rfl) h); clear hm h)
     | (go_at_call 51; refine (HCF.out _ HB1.out).mono ?_; rintro e w2 ⟨rfl, h⟩; have HB2 := Aside0.mk (below_then HB1.out h); clear h)
     | (go_at_call 45; refine (unless_callsH _ _ _).mono ?_; rintro e w3 ⟨rfl, h⟩; have HB3 := Aside0.mk (below_then HB2.out h); clear h))
   go_ret
   exact ⟨rfl, HB2.out⟩
 ·rw [if_neg hok]
  rw [if_neg hok] at HLA
  clear hok
  go_enter Try.func34, Try.ntmps34
  go_wp2_with (first
     | (first | fail | ((with_reducible refine gt_box 2 31 ?_); refine st_box rfl 2 rfl 31 _ rfl hm (v := .agg (vals _ _)) rfl (cs := vals _ _) rfl ?_; clear hm; intro g2 w2 hm) | ((with_reducible refine gt_load 31 ?_); (first | (refine st_load rfl 31 _ rfl hm rfl 0 rfl agg31 (by first | omega | assumption | (simp only [lens]; first | omega | assumption) | (simp [lens]; done) | (simp [lens]; omega)) ?_) | (refine st_load rfl 31 _ rfl hm rfl 1 rfl agg31 (by first | omega | assumption | (simp only [lens]; first | omega | assumption) | (simp [lens]; done) | (simp [lens]; omega)) ?_) | (refine st_load rfl 31 _ rfl hm rfl 2 rfl agg31 (by first | omega | assumption | (simp only [lens]; first | omega | assumption) | (simp [lens]; done) | (simp [lens]; omega)) ?_))) | (refine st_lit1 rfl 6 rfl 100 _ rfl hm rfl Try.underlying100 agg31 zero31 (by first | omega | assumption | (simp only [lens]; first | omega | assumption) | (simp [lens]; done) | (simp [lens]; omega))  (by decide) (by decide) ?_; clear hm; intro g6 w6 hm))
     | (go_at_call 50; refine (HLC.out _ g6 (lks1 hm (n := 0) rfl hl HW.out)).mono ?_; rintro e w1 ⟨rfl, h⟩; rw [HLA.out]; have HB1 := Aside0.mk (below_then (hm.done rfl) h); clear hm h)
     | (go_at_call 51; refine (HCF.out _ HB1.out).mono ?_; rintro e w2 ⟨rfl, h⟩; have HB2 := Aside0.mk (below_then HB1.out h); clear h)
     | (go_at_call 45; refine (unless_callsH _ _ _).mono ?_; rintro e w3 ⟨rfl, h⟩; have HB3 := Aside0.mk (below_then HB2.out h); clear h))
  go_ret
  exact ⟨rfl, HB1.out⟩
end Go.Proofs.Ytfgogdhhihbcjaa.Arr
namespace Go.Proofs.Ytfgogdhhihbcjaa.Arr
open Go.RowKit Go.Proofs.YtfgogdhhihbcjaaW.PrintWords Go.Proofs.YtfgogdhhihbcjaaW.PrintLast Go.Proofs.YtfgogdhhihbcjaaW.PrintMore Go.Proofs.Ytfgogdhhihbcjaa.U Go.Proofs.Ytfgogdhhihbcjaa.H
set_option linter.unusedVariables false
set_option linter.unusedSimpArgs false
theorem zeroFn : ZeroTy Try.prog 106 #[.nilFunc] := ⟨.nilFunc, by kernel_rfl, rfl⟩
section
variable {P : Program} {ops : Array Oper} {rest : List Oper} {o : Oper} {a : Act} {w0 w : World} {M : List Ent} {Q : Exit → Act → World → Prop}
theorem st_one (hgd : o.guard = none) (ty : TypeId) (x y : Operand) (ho : o.op = .store ty x y) (hm : Mem w0 w M) {g : Nat} {v : Value} (hx : a.eval x = .pointer (some ⟨g, 0, none⟩)) (hy : a.eval y = v)
  (n : Nat) {u : Value} {t : TypeId} {own : Bool} (hn : M[n]? = some ⟨g, #[u], t, own⟩) (h1 : OneTy P ty) (hv : v.cells = #[v]) (hv1 : v.oneCell' = true)
  (h : ∀ w1, Mem w0 w1 (M.set n ⟨g, #[v], t, own⟩) → wpList P ops Q rest (a.put o.dst undef) w1) : wpList P ops Q (o :: rest) a w := by
 refine wpList_plain hgd fun K hK => ?_
 unfold Oper.wp execOp
 have hst : (storeVar ty ⟨g, 0, none⟩ v).run P w = .ok () (w.setCell ⟨g, 0, none⟩ v) := run_store1 h1.2 hv ((hm.cell hn 0).trans rfl) (hm.frozen hn 0) hv1
 simp only [ho, hx, hy, Instr.storeAt, Instr.sureAddr, Sem.run_bind, Sem.run_pure, Result.andThen_ok, hst]
 exact hK _ _ (h _ (hm.set hn 0 v))
theorem st_cell (hgd : o.guard = none) (ty : TypeId) (x : Operand) (ho : o.op = .load ty x) (hm : Mem w0 w M) {g : Nat} (hx : a.eval x = .pointer (some ⟨g, 0, none⟩))
  (n : Nat) {v : Value} {t : TypeId} {own : Bool} (hn : M[n]? = some ⟨g, #[v], t, own⟩) (h1 : OneTy P ty)
  (h : wpList P ops Q rest (a.put o.dst v) w) : wpList P ops Q (o :: rest) a w := by
 refine wpList_plain hgd fun K hK => ?_
 unfold Oper.wp
 rw [y_cell ho hx h1 (cell1 (hm.mem hn))]
 exact hK _ _ h
end
theorem Mem.own_ge {w0 w : World} {M : List Ent} (h : Mem w0 w M) (n : Nat) {g : Nat} {cs : Array Value} {t : TypeId} (hn : M[n]? = some ⟨g, cs, t, true⟩) : w0.heap.size ≤ g := (h.ent _ (List.mem_of_getElem? hn)).2 rfl
theorem Mem.ne {w0 w : World} {M : List Ent} (h : Mem w0 w M) (m n : Nat) (hmn : m ≠ n) {g g' : Nat} {cs cs' : Array Value} {t t' : TypeId} {o o' : Bool} (hm : M[m]? = some ⟨g, cs, t, o⟩) (hn : M[n]? = some ⟨g', cs', t', o'⟩) : g ≠ g' := fun e => hmn (h.apart m n _ _ hm hn e)
theorem not_in {g g' b : Nat} {B : List Nat} (h : g ≠ g') (hB : ∀ k ∈ B, k < b) (hg : b ≤ g) : g ∉ g' :: B := fun hm => by
 rcases List.mem_cons.1 hm with e | e
 ·exact h e
 ·have := hB g e; omega
theorem FrB.over {B : List Nat} {w w1 w2 : World} {g : Nat} (h : FrB [] w w1) (h2 : FrB (g :: B) w1 w2) (hg : w.heap.size ≤ g) : FrB B w w2 :=
 ⟨h2.os.trans h.os, h2.tape.trans h.tape, h2.output.trans h.output, Nat.le_trans h.size h2.size, fun k hk hn => (h2.other k (Nat.lt_of_lt_of_le hk h.size) (fun hm => by
  rcases List.mem_cons.1 hm with e | e
  ·omega
  ·exact hn e)).trans (h.other k hk (by simp))⟩
theorem FrB.past {B : List Nat} {w w1 w2 : World} (h : FrB [] w w1) (h2 : FrB B w1 w2) (hB : ∀ b ∈ B, w.heap.size ≤ b) : FrB [] w w2 :=
 ⟨h2.os.trans h.os, h2.tape.trans h.tape, h2.output.trans h.output, Nat.le_trans h.size h2.size, fun k hk _ => (h2.other k (Nat.lt_of_lt_of_le hk h.size) (fun hm => by have := hB k hm; omega)).trans (h.other k hk (by simp))⟩
set_option maxHeartbeats 8000000 in
set_option maxRecDepth 100000 in
theorem hoistsQ_calls {σ : Type} (step : σ → List Int → σ × Bool) (I : Nat → σ → World → Prop) (Q : List Int → Prop) (fe : FuncId) (capE : Array Value) (B : List Nat) (s : σ) (Am : Option Addr) (cm : Nat) (m H : List Int) (w : World)
  (hge : ∀ (a : Array Value) (W : World), (callFunc fe a).run Try.prog W = .ok (.enter fe a) W) (hB : ∀ b ∈ B, b < w.heap.size) (hM : ∀ W, FrB B w W → Kd.C (Kd.int .i8) W Am m.length m) (hmc : m.length ≤ cm)
  (hm0 : ∀ x ∈ m, PlainN x) (hml : m.length ≤ 1000) (hHl : H.length = 44) (hHb : ∀ j : Nat, j < 44 → 0 ≤ rd H (j : Int) ∧ rd H (j : Int) ≤ 1000000)
  (hI : ∀ w1, FrB [] w w1 → I w1.heap.size s w1)
  (hQ : ∀ x ∈ leaves m 4 (enough H) m.length [] 0, Q x)
  (hcall : ∀ (base : Nat) (s : σ) (h : List Int) (v : Value) (w1 : World), Q h → I base s w1 → Own base w1 v h → (∀ b ∈ B, b < base) → w.heap.size ≤ base → base ≤ w1.heap.size → Calls Try.prog fe (#[v] ++ capE) w1 fun e w' => e = .returned (.bool (step s h).2) ∧ I base (step s h).1 w' ∧ FrB B w1 w')
  (hstab : ∀ (base : Nat) (s : σ) (gh : Nat) (w1 w2 : World), I base s w1 → gh < base → gh ∉ B → w.heap.size ≤ gh → FrB [gh] w1 w2 → I base s w2) :
  Calls Try.prog 54 #[.slice Am m.length cm, .agg (vals .i64 H), .func (.func fe) #[] capE] w fun e w' =>
   ∃ base s' on, e = .returned (.bool on) ∧ runL step s (leaves m 4 (enough H) m.length [] 0) = (s', on) ∧ w.heap.size ≤ base ∧ base ≤ w'.heap.size ∧ I base s' w' ∧ FrB B w w' := by
 have hm := Mem.start w
 have hse := seek_enters
 have HGE := Aside0.mk hge
 have HB := Aside0.mk hB
 have HM := Aside0.mk hM
 have HP := Aside0.mk hm0
 have HHB := Aside0.mk hHb
 have HI := Aside0.mk hI
 have HCA := Aside0.mk hcall
 have HQL := Aside0.mk hQ
 have HST := Aside0.mk hstab
 clear hge hB hM hm0 hHb hI hcall hstab hQ
 have HFIN : Aside0 (∀ P : Prop, P → P) := ⟨fun _ h => h⟩
 go_enter Try.func54, Try.ntmps54
 go_wp2_with (first
  | ((with_reducible refine gt_alloc 7 106 ?_); refine st_alloc rfl 7 rfl 106 rfl hm zeroFn ?_; clear hm; intro g7 w7 hm)
  | ((with_reducible refine gt_store 106 ?_); refine st_one rfl 106 _ _ rfl hm rfl rfl 0 rfl oneFn rfl rfl ?_; clear hm; intro ws hm; simp only [List.set_cons_zero] at hm)
  | ((with_reducible refine gt_load 106 ?_); refine st_cell rfl 106 _ rfl hm rfl 0 rfl oneFn ?_)
  | (first | fail | ((with_reducible refine gt_box 3 33 ?_); refine st_box rfl 3 rfl 33 _ rfl hm rfl rfl ?_; clear hm; intro g3 w3 hm) | ((with_reducible refine gt_box 4 71 ?_); refine st_box rfl 4 rfl 71 _ rfl hm (v := .agg (vals _ _)) rfl (cs := vals _ _) rfl ?_; clear hm; intro g4 w4 hm) | ((with_reducible refine gt_box 5 89 ?_); refine st_box rfl 5 rfl 89 _ rfl hm rfl rfl ?_; clear hm; intro g5 w5 hm)))
 have o3 := hm.own_ge 3 rfl
 have o4 := hm.own_ge 2 rfl
 have o5 := hm.own_ge 1 rfl
 have o7 := hm.own_ge 0 rfl
 have n34 := hm.ne 3 2 (by decide) rfl rfl
 have n54 := hm.ne 1 2 (by decide) rfl rfl
 have n74 := hm.ne 0 2 (by decide) rfl rfl
 have h3 := hm.mem (n := 3) rfl
 have h4 := hm.mem (n := 2) rfl
 have h5 := hm.mem (n := 1) rfl
 have h7 := hm.mem (n := 0) rfl
 have hsz := hm.size
 have hf0 : FrB [] w ws := FrB.below (hm.done rfl)
 have l4 := lt_of_some h4
 have hlt : ∀ b ∈ g4 :: B, b < ws.heap.size := fun b hb => by
  rcases List.mem_cons.1 hb with e | e
  ·omega
  ·have := HB.out b e; omega
 refine (seek_calls (step := step) (I := I ws.heap.size) (Q := Q) (fe := fe) (capE := capE) (B := B) (wS := ws) (gm := g3) (gh := g4) (ge := g5) (gc := g7) (H := H) HGE.out h3 h5 h7 (not_in n34 HB.out o3) (not_in n54 HB.out o5) (not_in n74 HB.out o7) (fun hb => by have := HB.out g4 hb; omega) hlt
  (fun W hW => HM.out W (hf0.over hW o4)) hmc HP.out hml hHl HHB.out (fun s h v w1 hq hI1 ho hf => HCA.out ws.heap.size s h v w1 hq hI1 ho (fun b hb => hlt b (List.mem_cons_of_mem _ hb)) hsz hf.size)
  (fun s w1 w2 hI1 hf => HST.out ws.heap.size s g4 w1 w2 hI1 l4 (fun hb => by have := HB.out g4 hb; omega) o4 hf) m.length [] 0 (.slice none 0 0) s ws (by simp) (by omega) (by simp) (FrB.refl _ _) h4 (HI.out ws hf0) (Kd.R_nil _ _ _ _ _) HQL.out).mono ?_
 rintro e w6 ⟨s', on, rfl, hrun, hI6, hf6⟩
 have HRUN := Aside0.mk hrun
 have HI6 := Aside0.mk hI6
 have HF6 := Aside0.mk ((hf0.mono (B' := B) (by simp)).trans hf6)
 have hs6 := hf6.size
 clear hrun hI6 hf6
 have HW := Aside0.mk (Nat.le_trans hsz (Nat.le_refl ws.heap.size))
 go_wp2_with fail
 go_ret
 exact ⟨ws.heap.size, s', on, rfl, HRUN.out, HW.out, hs6, HI6.out, HF6.out⟩
end Go.Proofs.Ytfgogdhhihbcjaa.Arr
namespace Go.Proofs.Ytfgogdhhihbcjaa.Arr
open Go.RowKit Go.Proofs.YtfgogdhhihbcjaaW.PrintWords Go.Proofs.YtfgogdhhihbcjaaW.PrintLast Go.Proofs.YtfgogdhhihbcjaaW.PrintMore Go.Proofs.Ytfgogdhhihbcjaa.U Go.Proofs.Ytfgogdhhihbcjaa.H
set_option linter.unusedVariables false
set_option linter.unusedSimpArgs false
theorem oneBool : OneTy Try.prog 4 := ⟨by kernel_rfl, by kernel_rfl⟩
theorem zeroBool : ZeroTy Try.prog 4 #[.bool false] := ⟨.bool false, by kernel_rfl, rfl⟩
theorem Mem.frB {w0 w : World} {M : List Ent} (h : Mem w0 w M) : FrB (M.map (·.g)) w0 w := ⟨h.os, h.tape, h.output, h.size, fun k hk hn => h.block k hk fun e he hg => hn (by rw [← hg]; exact List.mem_map_of_mem he)⟩
end Go.Proofs.Ytfgogdhhihbcjaa.Arr
namespace Go.Proofs.Ytfgogdhhihbcjaa.H
open Go.RowKit Go.Proofs.YtfgogdhhihbcjaaW.PrintWords Go.Proofs.YtfgogdhhihbcjaaW.PrintLast Go.Proofs.Ytfgogdhhihbcjaa.U
set_option linter.unusedVariables false
set_option linter.unusedSimpArgs false
theorem toMeaning_ev (l : List Int) (hn : l.length ≤ 140737488351232) : Ev (fun k => laws_toMeaning.f k l) l := by
 unfold laws_toMeaning.f
 refine pos (by omega) (pos (by omega) ?_)
 rw [Int.toNat_natCast]
 refine iter (F := fun k (s : List Int × Int) => laws_toMeaning.l0 k l s.1 s.2) (fun i s => s.2 = (i : Int) ∧ s.1.length = l.length ∧ ∀ j, j < i → s.1[j]? = l[j]?) l l.length ?_ ?_ 0 (List.replicate l.length 0, 0) (by omega) ⟨rfl, by simp, fun j hj => by omega⟩
 ·rintro i ⟨s, x⟩ hi ⟨rfl, hl, hp⟩
  dsimp only at hl hp
  refine .inl ⟨(s.set i (rd l (i : Int)), ((i + 1 : Nat) : Int)), ⟨rfl, by simpa using hl, fun j hj => ?_⟩, Ev.step fun k => ?_⟩
  ·dsimp only
   by_cases e : j = i
   ·subst e; rw [List.getElem?_set_self (by omega), rd_get l j hi, List.getElem?_eq_getElem hi]
   ·rw [List.getElem?_set_ne (by omega)]; exact hp j (by omega)
  ·simp only [laws_toMeaning.l0]
   rw [if_pos (by omega), if_pos (by omega), if_pos (by omega), w64 (by omega) (by omega), Int.toNat_natCast]; rfl
 ·rintro ⟨s, x⟩ ⟨rfl, hl, hp⟩
  dsimp only at hl hp
  refine Ev.step (f := fun _ => some s) (fun k => ?_) (cons (toList hl rfl hp))
  simp only [laws_toMeaning.l0]; rw [if_neg (by omega)]
end Go.Proofs.Ytfgogdhhihbcjaa.H
namespace Go.Proofs.Ytfgogdhhihbcjaa.H
open Go.RowKit Go.Proofs.YtfgogdhhihbcjaaW.PrintWords Go.Proofs.YtfgogdhhihbcjaaW.PrintLast Go.Proofs.Ytfgogdhhihbcjaa.U
set_option linter.unusedVariables false
set_option linter.unusedSimpArgs false
theorem eqMeaning_l0 (l : List Int) (hn : l.length ≤ 9223372036854775806) : ∀ (d i : Nat), i + d = l.length → Ev (fun k => laws_eqMeaning.l0 k l l (i : Int)) true := by
 intro d
 induction d with
 | zero =>
  intro i hi
  refine Ev.step (f := fun _ => some true) (fun k => ?_) (cons rfl)
  simp only [laws_eqMeaning.l0]; rw [if_neg (by omega)]
 | succ d ih =>
  intro i hi
  refine Ev.step (f := fun k => laws_eqMeaning.l0 k l l ((i + 1 : Nat) : Int)) (fun k => ?_) (ih (i + 1) (by omega))
  simp only [laws_eqMeaning.l0]; rw [if_pos (by omega), if_pos (by omega), if_pos (by omega), if_pos trivial, w64 (by omega) (by omega)]; rfl
theorem eqMeaning_refl (l : List Int) (hn : l.length ≤ 9223372036854775806) : Ev (fun k => laws_eqMeaning.f k l l) true := by
 unfold laws_eqMeaning.f
 exact pos rfl (eqMeaning_l0 l hn l.length 0 (by omega))
end Go.Proofs.Ytfgogdhhihbcjaa.H
namespace Go.Proofs.Ytfgogdhhihbcjaa.H
open Go.RowKit Go.Proofs.YtfgogdhhihbcjaaW.PrintWords Go.Proofs.YtfgogdhhihbcjaaW.PrintLast Go.Proofs.Ytfgogdhhihbcjaa.U
set_option linter.unusedVariables false
set_option linter.unusedSimpArgs false
def marksMeaning (n : Nat) (a : Int) : List Int := (List.range n).map fun (j : Nat) => IntKind.i8.wrap (a + (j : Int))
theorem marksMeaning_length (n : Nat) (a : Int) : (marksMeaning n a).length = n := by simp [marksMeaning]
theorem markMeaning_l0 (n : Nat) (a : Int) (ha : 0 ≤ a) (hb : a + n ≤ 9223372036854775806) : ∀ (d i : Nat) (x0 : List Int), i + d = n → x0.length = n → (∀ j, j < i → x0[j]? = (marksMeaning n a)[j]?) →
  Ev (fun k => laws_markMeaning.l0 k x0 (a + i) (i : Int)) (a + n, marksMeaning n a) := by
 intro d
 induction d with
 | zero =>
  intro i x0 hi hl hp
  obtain rfl : i = n := by omega
  refine Ev.step (f := fun _ => some (a + i, x0)) (fun k => by simp only [laws_markMeaning.l0]; rw [if_neg (by omega)]) (cons ?_)
  rw [show x0 = marksMeaning i a from List.ext_getElem? fun j => by
   rcases Nat.lt_or_ge j i with h | h
   ·exact hp j h
   ·rw [List.getElem?_eq_none (by omega), List.getElem?_eq_none (by rw [marksMeaning_length]; omega)]]
 | succ d ih =>
  intro i x0 hi hl hp
  refine Ev.step (f := fun k => laws_markMeaning.l0 k (x0.set i (IntKind.i8.wrap (a + (i : Int)))) (a + ((i + 1 : Nat) : Int)) ((i + 1 : Nat) : Int)) (fun k => ?_) (ih (i + 1) _ (by omega) (by simpa using hl) ?_)
  ·simp only [laws_markMeaning.l0]; rw [if_pos (by omega), if_pos (by omega), w64 (by omega) (by omega), w64 (by omega) (by omega), show a + (i : Int) + 1 = a + ((i + 1 : Nat) : Int) by omega, show (i : Int) + 1 = ((i + 1 : Nat) : Int) by omega, Int.toNat_natCast]
  ·intro j hj
   by_cases e : j = i
   ·subst e
    rw [List.getElem?_set_self (by omega)]
    simp [marksMeaning, List.getElem?_map, List.getElem?_range (show j < n by omega)]
   ·rw [List.getElem?_set_ne (by omega)]; exact hp j (by omega)
theorem markMeaning_ev (l : List Int) (a : Int) (ha : 0 ≤ a) (hb : a + l.length ≤ 9223372036854775806) : Ev (fun k => laws_markMeaning.f k l a) (a + l.length, marksMeaning l.length a) := by
 have := markMeaning_l0 l.length a ha hb l.length 0 l (by omega) rfl (fun j hj => by omega)
 simpa [laws_markMeaning.f] using this
end Go.Proofs.Ytfgogdhhihbcjaa.H
namespace Go.Proofs.Ytfgogdhhihbcjaa.Arr
open Go.RowKit Go.Proofs.YtfgogdhhihbcjaaW.PrintWords Go.Proofs.YtfgogdhhihbcjaaW.PrintLast Go.Proofs.YtfgogdhhihbcjaaW.PrintMore Go.Proofs.Ytfgogdhhihbcjaa.U Go.Proofs.Ytfgogdhhihbcjaa.H
set_option linter.unusedVariables false
set_option linter.unusedSimpArgs false
theorem toListL {l l' : List (List Int)} {n : Nat} (h1 : l.length = n) (h2 : l'.length = n) (h : ∀ j, j < n → l[j]? = l'[j]?) : l = l' := by
 apply List.ext_getElem?
 intro j
 rcases Nat.lt_or_ge j n with hj | hj
 ·exact h j hj
 ·rw [List.getElem?_eq_none (by omega), List.getElem?_eq_none (by omega)]
def offs (xs : List (List Int)) (i : Nat) : Nat := ((xs.take i).map List.length).sum
theorem offs_succ (xs : List (List Int)) (i : Nat) (h : i < xs.length) : offs xs (i + 1) = offs xs i + xs[i].length := by
 unfold offs
 rw [List.take_succ_eq_append_getElem h, List.map_append, List.sum_append, List.map_cons, List.map_nil, List.sum_cons, List.sum_nil, Nat.add_zero]
theorem offs_le (xs : List (List Int)) (h8 : ∀ x ∈ xs, x.length ≤ 1048576) : ∀ i, offs xs i ≤ 1048576 * i
 | 0 => by simp [offs]
 | i + 1 => by
  rcases Nat.lt_or_ge i xs.length with h | h
  ·rw [offs_succ xs i h]
   have := offs_le xs h8 i
   have := h8 _ (List.getElem_mem h)
   omega
  ·have := offs_le xs h8 i
   unfold offs at this ⊢
   rw [List.take_of_length_le (by omega)] at this ⊢
   omega
theorem szMeaning_ev (l : List Int) (a : Int) (ha : 0 ≤ a ∧ a ≤ 1048576) (hl : l.length ≤ maxLen) : laws_szMeaning.f l a = some (if a < (l.length : Int) then -1 else a - l.length) := by
 unfold laws_szMeaning.f
 unfold maxLen at hl
 rw [w64 (by omega) (by omega)]
 by_cases h : a < (l.length : Int)
 ·rw [if_pos (by omega), if_pos h]
 ·rw [if_neg (by omega), if_neg h]
theorem szMeaningS_ev (l : List (List Int)) (a : Int) (ha : 0 ≤ a ∧ a ≤ 1048576) (hl : l.length ≤ maxLen) (hls : ∀ x ∈ l, x.length ≤ maxLen) :
  ∃ r, Ev (fun k => laws_szMeaningS.f k l a) r ∧ r ≤ a ∧ (0 ≤ r → (l.length : Int) ≤ a ∧ ∀ x ∈ l, (x.length : Int) ≤ a) := by
 unfold laws_szMeaningS.f
 have hl2 := hl
 unfold maxLen at hl2
 rw [w64 (x := a - (l.length : Int)) (by omega) (by omega)]
 by_cases h : a - (l.length : Int) < 0
 ·exact ⟨-1, pos h (cons rfl), by omega, fun h => by omega⟩
 have key : ∀ (d i : Nat) (b : Int), i + d = l.length → 0 ≤ b → b ≤ a → (∀ j : Nat, j < i → ((rd_L1 l (j : Int)).length : Int) ≤ a) →
   ∃ r, Ev (fun k => laws_szMeaningS.l0 k l b (i : Int)) r ∧ r ≤ a ∧ (0 ≤ r → ∀ j : Nat, j < l.length → ((rd_L1 l (j : Int)).length : Int) ≤ a) := by
  intro d
  induction d with
  | zero =>
   intro i b hi hb0 hb1 hp
   refine ⟨b, ?_, hb1, fun _ j hj => hp j (by omega)⟩
   refine Ev.step (fun k => by rw [laws_szMeaningS.l0]) ?_
   exact neg (by omega) (Ev.now _)
  | succ d ih =>
   intro i b hi hb0 hb1 hp
   have hm : (rd_L1 l (i : Int)).length ≤ maxLen := by rw [rdM_get l i (by omega)]; exact hls _ (List.getElem_mem _)
   have hs := szMeaning_ev (rd_L1 l (i : Int)) b ⟨hb0, by omega⟩ hm
   by_cases hc : b < ((rd_L1 l (i : Int)).length : Int)
   ·rw [if_pos hc] at hs
    refine ⟨-1, ?_, by omega, fun h => by omega⟩
    refine Ev.step (fun k => by rw [laws_szMeaningS.l0]) ?_
    exact pos (by omega) (pos (by omega) (bindc hs (pos (by omega) (cons rfl))))
   ·rw [if_neg hc] at hs
    obtain ⟨r, hr, h1, h2⟩ := ih (i + 1) (b - ((rd_L1 l (i : Int)).length : Int)) (by omega) (by omega) (by omega) (fun j hj => by
     rcases Nat.lt_or_ge j i with h | h
     ·exact hp j h
     ·obtain rfl : j = i := by omega
      omega)
    refine ⟨r, ?_, h1, h2⟩
    refine Ev.step (fun k => by rw [laws_szMeaningS.l0]) ?_
    refine pos (by omega) (pos (by omega) (bindc hs (neg (by omega) ?_)))
    rw [w64 (x := (i : Int) + 1) (by omega) (by omega)]; exact hr
 obtain ⟨r, hr, h1, h2⟩ := key l.length 0 (a - (l.length : Int)) (by omega) (by omega) (by omega) (fun j hj => by omega)
 refine ⟨r, neg h hr, h1, fun h0 => ⟨by omega, fun x hx => ?_⟩⟩
 obtain ⟨j, hj, rfl⟩ := List.getElem_of_mem hx
 have := h2 h0 j hj
 rwa [rdM_get l j hj] at this
theorem guardMeaningS (l : List (List Int)) (wf : WfL (WfL (WfI .i8)) l) : ∃ r : Int, (∀ (A0 : Option Addr) (c0 : Nat) (w : World), Kd.C kH w A0 l.length l → l.length ≤ c0 → Calls Try.prog 15 #[.slice A0 l.length c0, .int .i64 1048576] w fun e w' => e = .returned (.int .i64 r) ∧ Below w.heap.size w w') ∧
  (0 ≤ r → l.length ≤ 1048576 ∧ (∀ x ∈ l, x.length ≤ 1048576) ∧ ∀ x ∈ l, Small8 x) := by
 obtain ⟨r, hev, _, h0⟩ := szMeaningS_ev l 1048576 (by omega) wf.1 (fun x hx => (wf.2 x hx).1)
 obtain ⟨k, hk⟩ := hev.rounds
 refine ⟨r, fun A0 c0 w hr hc => (laws_szMeaningS.calls k A0 c0 l 1048576 r w hr hc hk).mono fun e w' ⟨h1, h2⟩ => ⟨h1, by first | exact h2 | exact h2.below⟩, fun h => ?_⟩
 obtain ⟨h1, h2⟩ := h0 h
 refine ⟨by omega, fun x hx => by have := h2 x hx; omega, fun x hx => ⟨by have := h2 x hx; omega, fun y hy => wfi8 ((wf.2 x hx).2 y hy)⟩⟩
theorem toMeaningS_ev (l : List (List Int)) (hn : l.length ≤ 1048576) (hls : ∀ x ∈ l, x.length ≤ 1048576) : Ev (fun k => laws_toMeaningS.f k l) l := by
 unfold laws_toMeaningS.f
 refine pos (by omega) (pos (by omega) ?_)
 rw [Int.toNat_natCast]
 refine iter (F := fun k (s : List (List Int) × Int) => laws_toMeaningS.l0 k l s.1 s.2) (fun i s => s.2 = (i : Int) ∧ s.1.length = l.length ∧ ∀ j, j < i → s.1[j]? = l[j]?) l l.length ?_ ?_ 0 (List.replicate l.length [], 0) (by omega) ⟨rfl, by simp, fun j hj => by omega⟩
 ·rintro i ⟨s, x⟩ hi ⟨rfl, hl, hp⟩
  dsimp only at hl hp
  refine .inl ⟨(s.set i (rd_L1 l (i : Int)), ((i + 1 : Nat) : Int)), ⟨rfl, by simpa using hl, fun j hj => ?_⟩, fun hk => ?_⟩
  ·dsimp only
   by_cases e : j = i
   ·subst e; rw [List.getElem?_set_self (by omega), rdM_get l j hi, List.getElem?_eq_getElem hi]
   ·rw [List.getElem?_set_ne (by omega)]; exact hp j (by omega)
  ·refine Ev.step (fun k => by rw [laws_toMeaningS.l0]) ?_
   dsimp only
   have hm : (rd_L1 l (i : Int)).length ≤ 1048576 := by rw [rdM_get l i hi]; exact hls _ (List.getElem_mem _)
   refine pos (by omega) (pos (by omega) (Ev.bind (toMeaning_ev _ (by omega)) (pos (by omega) ?_)))
   rw [w64 (by omega) (by omega), Int.toNat_natCast]; exact hk
 ·rintro ⟨s, x⟩ ⟨rfl, hl, hp⟩
  dsimp only at hl hp
  refine Ev.step (fun k => by rw [laws_toMeaningS.l0]) ?_
  exact neg (by omega) (cons (toListL hl rfl hp))
theorem toMeaningS_calls (A0 : Option Addr) (c0 : Nat) (l : List (List Int)) (w : World) (hr : Kd.C kH w A0 l.length l) (hc : l.length ≤ c0) (hn : l.length ≤ 1048576) (hls : ∀ x ∈ l, x.length ≤ 1048576) :
  Calls Try.prog 17 #[.slice A0 l.length c0] w fun e w' => ∃ v, e = .returned v ∧ Kd.S kH 33 w' w.heap.size (fun _ => True) v l ∧ Below w.heap.size w w' := by
 obtain ⟨k, hk⟩ := (toMeaningS_ev l hn hls).rounds
 exact laws_toMeaningS.calls k A0 c0 l l w hr hc hk
theorem eqMeaningS_refl (l : List (List Int)) (hn : l.length ≤ 1048576) (hls : ∀ x ∈ l, x.length ≤ 1048576) : Ev (fun k => laws_eqMeaningS.f k l l) true := by
 unfold laws_eqMeaningS.f
 refine pos rfl ?_
 refine iter (F := fun k (s : Int) => laws_eqMeaningS.l0 k l l s) (fun i s => s = (i : Int)) _ l.length ?_ ?_ 0 0 (by omega) rfl
 ·rintro i s hi rfl
  have hm : (rd_L1 l (i : Int)).length ≤ 1048576 := by rw [rdM_get l i hi]; exact hls _ (List.getElem_mem _)
  refine .inl ⟨((i + 1 : Nat) : Int), rfl, fun hk => ?_⟩
  refine Ev.step (fun k => by rw [laws_eqMeaningS.l0]) ?_
  refine pos (by omega) (pos (by omega) (pos (by omega) (Ev.bind (eqMeaning_refl (rd_L1 l (i : Int)) (by omega)) (pos rfl ?_))))
  rw [w64 (by omega) (by omega)]; exact hk
 ·rintro s rfl
  refine Ev.step (fun k => by rw [laws_eqMeaningS.l0]) ?_
  exact neg (by omega) (cons rfl)
theorem eqMeaningS_calls (A : Option Addr) (c : Nat) (A2 : Option Addr) (c2 : Nat) (xs : List (List Int)) (b1 b2 : Nat) (ok1 ok2 : Nat → Prop) (w : World) (h1 : Kd.S kH 33 w b1 ok1 (.slice A xs.length c) xs) (h2 : Kd.S kH 33 w b2 ok2 (.slice A2 xs.length c2) xs) (hn : xs.length ≤ 1048576) (h8 : ∀ x ∈ xs, x.length ≤ 1048576) :
  Calls Try.prog 20 #[.slice A xs.length c, .slice A2 xs.length c2] w fun e w' => e = .returned (.bool true) ∧ Below w.heap.size w w' := by
 obtain ⟨k, hk⟩ := (eqMeaningS_refl xs hn h8).rounds
 refine (laws_eqMeaningS.calls k A c xs A2 c2 xs true w (Kd.S_reads' h1).2.2 (Kd.S_reads' h1).2.1 (Kd.S_reads' h2).2.2 (Kd.S_reads' h2).2.1 hk).mono ?_
 rintro e w' ⟨rfl, h⟩
 exact ⟨rfl, h.below⟩
def markedMeaning (xs : List (List Int)) (i : Nat) : List (List Int) := xs.mapIdx fun j x => if j < i then marksMeaning x.length (1 + (offs xs j : Int)) else x
theorem markedMeaning_len (xs : List (List Int)) (i : Nat) : (markedMeaning xs i).length = xs.length := by simp [markedMeaning]
theorem markedMeaning_zero (xs : List (List Int)) : markedMeaning xs 0 = xs := by
 apply List.ext_getElem?
 intro j
 simp [markedMeaning, List.getElem?_mapIdx]
theorem markedMeaning_at (xs : List (List Int)) (i j : Nat) (hj : j < xs.length) : (markedMeaning xs i)[j]? = some (if j < i then marksMeaning xs[j].length (1 + (offs xs j : Int)) else xs[j]) := by
 simp [markedMeaning, List.getElem?_mapIdx, List.getElem?_eq_getElem hj]
theorem markedMeaning_set (xs : List (List Int)) (i : Nat) (h : i < xs.length) : (markedMeaning xs i).set i (marksMeaning xs[i].length (1 + (offs xs i : Int))) = markedMeaning xs (i + 1) := by
 refine toListL (n := xs.length) (by rw [List.length_set, markedMeaning_len]) (markedMeaning_len _ _) fun j hj => ?_
 rw [markedMeaning_at xs (i + 1) j hj]
 by_cases e : i = j
 ·subst e
  rw [List.getElem?_set_self (by rw [markedMeaning_len]; exact h), if_pos (by omega)]
 ·rw [List.getElem?_set_ne e, markedMeaning_at xs i j hj]
  by_cases hji : j < i
  ·rw [if_pos hji, if_pos (by omega)]
  ·rw [if_neg hji, if_neg (by omega)]
theorem oneMeaning : OneTy Try.prog 33 := ⟨by kernel_rfl, by kernel_rfl⟩
set_option maxHeartbeats 4000000 in
set_option maxRecDepth 100000 in
theorem markMeaningS_calls (A : Option Addr) (c : Nat) (xs : List (List Int)) (ok : Nat → Prop) (w0 w : World) (hB : Below w0.heap.size w0 w) (hS : Kd.S kH 33 w w0.heap.size ok (.slice A xs.length c) xs) (hn : xs.length ≤ 1048576) (h8 : ∀ x ∈ xs, x.length ≤ 1048576) :
  Calls Try.prog 21 #[.slice A xs.length c, .int .i64 1] w fun e w' => e = .returned (.int .i64 (1 + (offs xs xs.length : Int))) ∧ Kd.S kH 33 w' w0.heap.size (fun k => ok k ∨ w.heap.size ≤ k) (.slice A xs.length c) (markedMeaning xs xs.length) ∧ Below w0.heap.size w0 w' ∧ Kept w w' ok := by
 have HC := Aside0.mk (show Kd.S kH 33 w w0.heap.size (fun k => ok k ∨ w.heap.size ≤ k) (.slice A xs.length c) (markedMeaning xs 0) ∧ Below w0.heap.size w0 w ∧ Kept w w ok from ⟨by rw [markedMeaning_zero]; exact Kd.S_mono hS (fun k hk => .inl hk), hB, Kept.refl _ _⟩)
 have HO8 := Aside0.mk (offs_le xs h8)
 have H8 := Aside0.mk h8
 clear hB hS h8
 go_enter Try.func21, Try.ntmps21
 go_wp2_with fail
 go_loopw [5, 1] (fun v5 v1 wr => ∃ i : Nat, i ≤ xs.length ∧ v5 = .int .i64 i ∧ v1 = .int .i64 (1 + (offs xs i : Int)) ∧ Aside0 (Kd.S kH 33 wr w0.heap.size (fun k => ok k ∨ w.heap.size ≤ k) (.slice A xs.length c) (markedMeaning xs i) ∧ Below w0.heap.size w0 wr ∧ Kept w wr ok)) (fun v5 _ _ => xs.length - (intOf v5).toNat)
 case atStart => exact ⟨0, by omega, rfl, by simp [offs], HC⟩
 case round =>
  clear HC
  obtain ⟨i, hi, rfl, rfl, HU⟩ := hrel
  by_cases hlt : i < xs.length
  ·have hltI : (i : Int) < (xs.length : Int) := by omega
   obtain ⟨hS, hB, hK⟩ := HU.out
   obtain ⟨g, hA⟩ : ∃ g, A = some ⟨g, 0, none⟩ := by
    obtain ⟨g, cap, hv, _⟩ := Kd.S_form hS (by rw [markedMeaning_len]; omega)
    injection hv with hA _ _
    exact ⟨g, hA⟩
   subst hA
   obtain ⟨oki, cl, hcl, hM, hcc, hoki, hH⟩ := Kd.S_lend hS ([] : List Int) (i : Int) (by omega) (by omega)
   have hxi : (markedMeaning xs i).getD (i : Int).toNat [] = xs[i] := by
    rw [Int.toNat_natCast, List.getD_eq_getElem?_getD, markedMeaning_at xs i i hlt, if_neg (by omega)]
    rfl
   rw [hxi] at hM
   obtain ⟨v, hcl2, hR⟩ := hM
   subst hcl2
   have HCELL := Aside0.mk (show wr.cell? ⟨g, i, none⟩ = some v by
    have := hcc 0 v rfl
    rw [Int.toNat_natCast] at this
    simpa [kH, Kd.slice] using this)
   have hx8 := H8.out _ (List.getElem_mem hlt)
   have hoi := HO8.out i
   have HOS := Aside0.mk (offs_succ xs i hlt)
   obtain ⟨k, hk⟩ := (markMeaning_ev xs[i] (1 + (offs xs i : Int)) (by omega) (by omega)).rounds
   have HMW := Aside0.mk (laws_markMeaning.calls k oki v xs[i] (1 + (offs xs i : Int)) _ _ w0 wr hB hR hk)
   have HN := Aside0.mk (fun w2 (h1 : Kd.R (Kd.int .i8) 64 w2 w0.heap.size (fun k_ => (oki k_ ∨ wr.heap.size ≤ k_)) v (marksMeaning xs[i].length (1 + (offs xs i : Int)))) (h2 : Below w0.heap.size w0 w2) (h3 : Kept wr w2 oki) =>
    show Kd.S kH 33 w2 w0.heap.size (fun k => ok k ∨ w.heap.size ≤ k) (.slice (some ⟨g, 0, none⟩) xs.length c) (markedMeaning xs (i + 1)) ∧ Below w0.heap.size w0 w2 ∧ Kept w w2 ok by
     refine ⟨?_, h2, Kept.then_ hK h3 (fun k hk => (hoki k hk).1)⟩
     have hH2 := Kd.H_step (Kd.H_widen hH) (w1 := w2) (fun k _ hn hlt => h3.2 k hlt (fun ho => hn (.inl ho)))
     have hS2 := Kd.H_back hH2 (x' := marksMeaning xs[i].length (1 + (offs xs i : Int))) ⟨v, rfl, h1⟩ (fun k hk => by
      rcases hk with hk | hk
      ·exact .inl hk
      ·exact .inr ⟨.inr (by have := hK.1; omega), hk⟩)
     rw [Int.toNat_natCast, markedMeaning_set xs i hlt] at hS2
     exact hS2)
   generalize hmk : marksMeaning xs[i].length (1 + (offs xs i : Int)) = mk at *
   have hvs := Kd.R_slice hR
   have hw1 : wrap64 ((i : Int) + 1) = ((i + 1 : Nat) : Int) := by rw [w64 (by omega) (by omega)]; omega
   clear hS hB hK hcc hoki hH hR hxi hk hmk HU hx8 hoi
   obtain ⟨Ai, ci, rfl⟩ := hvs
   generalize hq : offs xs i = q at *
   go_wp2_with (first
    | ((with_reducible refine gt_load 33 ?_); refine Kd.event_run rfl (y_cell (by rfl) (by rfl) oneMeaning HCELL.out) ?_)
    | (go_at_call 12; refine HMW.out.mono ?_; rintro e w2 ⟨rfl, h1, h2, h3⟩; have HX := Aside0.mk (HN.out w2 h1 h2 h3); clear h1 h2 h3))
   go_roundw
   case rel => exact ⟨i + 1, by omega, by go_num, by rw [HOS.out]; congr 1; omega, HX⟩
   case measure => simp [intOf]; omega
  ·obtain rfl : i = xs.length := by omega
   go_wp2_with fail
   go_ret
   exact ⟨rfl, HU.out.1, HU.out.2.1, HU.out.2.2⟩
end Go.Proofs.Ytfgogdhhihbcjaa.Arr
