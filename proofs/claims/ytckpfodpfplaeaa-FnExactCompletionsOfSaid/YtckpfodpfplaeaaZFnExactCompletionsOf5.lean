/- The texts that the statement FnExactCompletionsOf needs, part 5: contracts of the program's functions and plain laws, without what it does not reach. No condition beyond what each theorem says. -/
import Derived.Below
import Derived.Deep.Draws
import Derived.Deep.AppendLies
import Derived.Maps.AppendAt
import Derived.OwnWalk
import Derived.Laws.BytesArg
import Derived.Laws.MakeOwn
import Derived.Laws.OwnMore
import Derived.Deep.OwnRows
import Derived.Tactics
import Derived.Lib.ConvBytes
import Derived.Laws.Slices
import Derived.WalkKit
import Derived.KernelRfl
import Derived.RowKit3
import Derived.Deep.LoopGhost
import Derived.Deep.QuietTactic
import Derived.BigQuiet
import Derived.WideLaws
import Derived.Deep.DeepCutAuto
import Derived.Deep.CutBlock
import Derived.Deep.RegionHeld3
import Derived.Laws.Rows
import Derived.Lib.AppendStr
import Derived.ArgAppend
import Derived.Laws.IdiomCopy
import Derived.RowKit
import Derived.Laws.Tables
import Derived.BigFrame
import Derived.Laws.CopyRow
import Derived.Laws.ResultCell
import Derived.OrdersHeld
import Derived.Laws.BitsLemmas
import Derived.Laws.StructEq
import Derived.Test.YtckpfodpfplaeaaProg
import Derived.WalkSpells
import Derived.StillTailTactics
import Derived.ProofKit
import Derived.OpenShut
import Derived.Deep.Slices
import Derived.Lib.SmallJoins
import Derived.Test.YtckpfodpfplaeaaRows
import Derived.ShutString
import Derived.ChangeOld
import Derived.SizedLaws
import Derived.Test.YtckpfodpfplaeaaZFnExactCompletionsOf4
namespace Go.Proofs.Ytckpfodpfplaeaa.E
open Go.RowKit Go.Proofs.YtckpfodpfplaeaaW.PrintWords Go.Proofs.YtckpfodpfplaeaaW.PrintLast Go.Proofs.YtckpfodpfplaeaaW.PrintMore
attribute [local go_sem] max2_int min2_int max_two min_two max_three min_three max_four min_four
set_option linter.unusedVariables false
set_option linter.unusedSimpArgs false
mutual
def laws_FnExactCompletionsOf.j0 : Nat → List Int → List Int → Int → List Int → List Int → Int → Bool → Int → Int → Int → List ByteArray → Int → Int → Int → List ByteArray → Option (Bool)
 | 0, _, _, _, _, _, _, _, _, _, _, _, _, _, _, _ => none
 | k + 1, x1, x6, x7, x9, x10, x11, x51, x147000, x147001, x147002, x147003, x168000, x168001, x168002, x168003 => if x51 = true then (some false) else ((laws_toBook.f k x147000 x147001 x147002 x147003).bind fun bt176 => ((laws_eqBook.f k x168000 x168001 x168002 x168003 bt176.1 bt176.2.1 bt176.2.2.1 bt176.2.2.2).bind fun t182 => (if t182 = true then ((laws_toMeaning.f k x1).bind fun t183 => ((laws_eqMeaning.f k x9 t183).bind fun t186 => (if t186 = true then ((laws_markBook.f k x168000 x168001 x168002 x168003 1).bind fun bt187 => ((laws_markMeaning.f k x9 bt187.1).bind fun bt189 => (if bt189.1 < 0 then (laws_FnExactCompletionsOf.j1 k x1 x6 x7 x10 true x147000 x147001 x147002 x147003) else ((laws_eqInt64S.f k x10 x6).bind fun t191 => (if t191 = true then (laws_FnExactCompletionsOf.j1 k x1 x6 x7 x10 (x11 != x7) x147000 x147001 x147002 x147003) else (laws_FnExactCompletionsOf.j1 k x1 x6 x7 x10 true x147000 x147001 x147002 x147003)))))) else (some false)))) else (some false))))
def laws_FnExactCompletionsOf.j1 : Nat → List Int → List Int → Int → List Int → Bool → Int → Int → Int → List ByteArray → Option (Bool)
 | 0, _, _, _, _, _, _, _, _, _ => none
 | k + 1, x1, x6, x7, x10, x80, x147000, x147001, x147002, x147003 => if x80 = true then (some false) else ((laws_markInt64S.f k x10 1).bind fun bt192 => ((laws_heldInt64S.f k bt192.2 1).bind fun t194 => (if t194 < 0 then (some false) else (if t194 = bt192.1 then ((laws_toBook.f k x147000 x147001 x147002 x147003).bind fun bt195 => ((laws_toMeaning.f k x1).bind fun t201 => ((impl_CompletionsOf.f bt195.1 bt195.2.1 bt195.2.2.1 bt195.2.2.2 t201).bind fun bt204 => ((laws_eqInt64S.f k bt204.1 x6).bind fun t208 => (if t208 = true then (laws_FnExactCompletionsOf.j2 k bt192.2 bt192.1 (bt204.2 != x7)) else (laws_FnExactCompletionsOf.j2 k bt192.2 bt192.1 true)))))) else (some false)))))
def laws_FnExactCompletionsOf.j2 : Nat → List Int → Int → Bool → Option (Bool)
 | 0, _, _, _ => none
 | k + 1, x10, x13, x108 => if x108 = true then (some false) else ((laws_heldInt64S.f k x10 1).bind fun t209 => (if t209 < 0 then (some false) else (if t209 = x13 then (some true) else (some false))))
end
def laws_FnExactCompletionsOf.f (k : Nat) (a0_0 : Int) (a0_1 : Int) (a0_2 : Int) (l0_3 : List ByteArray) (l1 : List Int) : Option (Bool) := if (l1.length : Int) > 1048576 then (some true) else ((laws_szBook.f k a0_0 a0_1 a0_2 l0_3 1048576).bind fun t147 => (if t147 < 0 then (some true) else ((laws_toBook.f k a0_0 a0_1 a0_2 l0_3).bind fun bt148 => ((laws_toMeaning.f k l1).bind fun t154 => ((spec_CompletionsOf.f bt148.1 bt148.2.1 bt148.2.2.1 bt148.2.2.2 t154).bind fun bt157 => ((laws_toBook.f k a0_0 a0_1 a0_2 l0_3).bind fun bt161 => ((laws_toMeaning.f k l1).bind fun t168 => ((impl_CompletionsOf.f bt161.1 bt161.2.1 bt161.2.2.1 bt161.2.2.2 t168).bind fun bt171 => ((laws_eqInt64S.f k bt171.1 bt157.1).bind fun t175 => (if t175 = true then (laws_FnExactCompletionsOf.j0 k l1 bt157.1 bt157.2 t168 bt171.1 bt171.2 (bt171.2 != bt157.2) a0_0 a0_1 a0_2 l0_3 bt161.1 bt161.2.1 bt161.2.2.1 bt161.2.2.2) else (laws_FnExactCompletionsOf.j0 k l1 bt157.1 bt157.2 t168 bt171.1 bt171.2 true a0_0 a0_1 a0_2 l0_3 bt161.1 bt161.2.1 bt161.2.2.1 bt161.2.2.2)))))))))))
set_option maxHeartbeats 8000000 in
set_option maxRecDepth 100000 in
theorem laws_FnExactCompletionsOf.calls (k : Nat) (a0_0 : Int) (a0_1 : Int) (a0_2 : Int) (A0_3 : Option Addr) (c0_3 : Nat) (l0_3 : List ByteArray) (A1 : Option Addr) (c1 : Nat) (l1 : List Int) (r : Bool) (w : World) (hr0_3 : Kd.C Kd.string w A0_3 l0_3.length l0_3) (hc0_3 : l0_3.length ≤ c0_3) (hr1 : Kd.C (Kd.int .i8) w A1 l1.length l1) (hc1 : l1.length ≤ c1) (h : laws_FnExactCompletionsOf.f k a0_0 a0_1 a0_2 l0_3 l1 = some r) :
  Calls Try.prog 10 #[.agg #[.int .i8 a0_0, .int .i8 a0_1, .int .i8 a0_2, .slice A0_3 l0_3.length c0_3], .slice A1 l1.length c1] w fun e w' => e = .returned (.bool r) ∧ Below w.heap.size w w' := by
 have hu25 := Try.underlying25
 have hu27 := Try.underlying27
 have HR0_3 := Aside0.mk hr0_3
 have HC0_3 := Aside0.mk hc0_3
 clear hr0_3 hc0_3
 have HR1 := Aside0.mk hr1
 have HC1 := Aside0.mk hc1
 clear hr1 hc1
 have HB := Aside0.mk (Below.refl w.heap.size w)
 have H : (if (l1.length : Int) > 1048576 then (some true) else ((laws_szBook.f k a0_0 a0_1 a0_2 l0_3 1048576).bind fun t147 => (if t147 < 0 then (some true) else ((laws_toBook.f k a0_0 a0_1 a0_2 l0_3).bind fun bt148 => ((laws_toMeaning.f k l1).bind fun t154 => ((spec_CompletionsOf.f bt148.1 bt148.2.1 bt148.2.2.1 bt148.2.2.2 t154).bind fun bt157 => ((laws_toBook.f k a0_0 a0_1 a0_2 l0_3).bind fun bt161 => ((laws_toMeaning.f k l1).bind fun t168 => ((impl_CompletionsOf.f bt161.1 bt161.2.1 bt161.2.2.1 bt161.2.2.2 t168).bind fun bt171 => ((laws_eqInt64S.f k bt171.1 bt157.1).bind fun t175 => (if t175 = true then (laws_FnExactCompletionsOf.j0 k l1 bt157.1 bt157.2 t168 bt171.1 bt171.2 (bt171.2 != bt157.2) a0_0 a0_1 a0_2 l0_3 bt161.1 bt161.2.1 bt161.2.2.1 bt161.2.2.2) else (laws_FnExactCompletionsOf.j0 k l1 bt157.1 bt157.2 t168 bt171.1 bt171.2 true a0_0 a0_1 a0_2 l0_3 bt161.1 bt161.2.1 bt161.2.2.1 bt161.2.2.2)))))))))))) = some r := h
 clear h
 by_cases c3 : (l1.length : Int) > 1048576
 ·rw [if_pos c3] at H
  have c3b0 : decide (1048576 < (l1.length : Int)) = true := decide_eq_true c3
  have c3b1 : decide (1048576 < l1.length) = true := decide_eq_true (by omega)
  clear c3
  obtain rfl := Option.some.inj H
  go_enter Try.func10, Try.ntmps10
  go_wp2_with (first | ((with_reducible refine gate_dst (N := 2) rfl ?_); refine box_event ?hg (N := 2) ?hd (cs := #[.int .i8 a0_0, .int .i8 a0_1, .int .i8 a0_2, .slice A0_3 l0_3.length c0_3]) (t := 25) ?hr ?_; (case hd => rfl); (case hg => rfl); (case hr => first | (go_simp; done) | (go_simp; rfl)); intro gb146 hg w4 hbox hb; have n0_ := Aside0.mk (below_step (by repeat (first | (with_reducible first | exact HB.out | apply below_alloc | apply pw_below_drewN | apply below_drew1) | exact HB.out)) hb); have n1_ := Aside0.mk (hbox); have n2_ := Aside0.mk ((by rw [hg]; exact (below_size (by repeat (first | (with_reducible first | exact HB.out | apply below_alloc | apply pw_below_drewN | apply below_drew1) | exact HB.out))) : w.heap.size ≤ gb146)); have n3_ := Aside0.mk ((by rw [hg]; exact (below_size (by repeat (first | (with_reducible first | exact HB.out | apply below_alloc | apply pw_below_drewN | apply below_drew1) | exact HB.out))) : w.heap.size ≤ gb146)); clear HB; have HB := n0_; have BK146 := n1_; have GW146 := n2_; have GE146 := n3_; clear n0_ n1_ n2_ n3_; clear hb hbox hg))
  go_ret
  exact ⟨by first | rfl | (simp [errW_none, errW_some] <;> rfl) | (simp [*, errW_none, errW_some] <;> rfl), by repeat (first | (with_reducible first | exact HB.out | apply below_alloc | apply pw_below_drewN | apply below_drew1 | refine below_set ?_ GE146.out) | exact HB.out)⟩
 ·rw [if_neg c3] at H
  have c3b0 : decide (1048576 < (l1.length : Int)) = false := decide_eq_false c3
  have c3b1 : decide (1048576 < l1.length) = false := decide_eq_false (by omega)
  clear c3
  replace H := Option.bind_eq_some_iff.mp H
  obtain ⟨t147, A50, H⟩ := H
  replace H : (if t147 < 0 then (some true) else ((laws_toBook.f k a0_0 a0_1 a0_2 l0_3).bind fun bt148 => ((laws_toMeaning.f k l1).bind fun t154 => ((spec_CompletionsOf.f bt148.1 bt148.2.1 bt148.2.2.1 bt148.2.2.2 t154).bind fun bt157 => ((laws_toBook.f k a0_0 a0_1 a0_2 l0_3).bind fun bt161 => ((laws_toMeaning.f k l1).bind fun t168 => ((impl_CompletionsOf.f bt161.1 bt161.2.1 bt161.2.2.1 bt161.2.2.2 t168).bind fun bt171 => ((laws_eqInt64S.f k bt171.1 bt157.1).bind fun t175 => (if t175 = true then (laws_FnExactCompletionsOf.j0 k l1 bt157.1 bt157.2 t168 bt171.1 bt171.2 (bt171.2 != bt157.2) a0_0 a0_1 a0_2 l0_3 bt161.1 bt161.2.1 bt161.2.2.1 bt161.2.2.2) else (laws_FnExactCompletionsOf.j0 k l1 bt157.1 bt157.2 t168 bt171.1 bt171.2 true a0_0 a0_1 a0_2 l0_3 bt161.1 bt161.2.1 bt161.2.2.1 bt161.2.2.2)))))))))) = some r := H
  have A5 := Aside0.mk A50
  clear A50
  by_cases c6 : t147 < 0
  ·rw [if_pos c6] at H
   have c6b0 : decide (t147 < 0) = true := decide_eq_true c6
   clear c6
   obtain rfl := Option.some.inj H
   go_enter Try.func10, Try.ntmps10
   go_wp2_with (first | ((with_reducible refine gate_dst (N := 2) rfl ?_); refine box_event ?hg (N := 2) ?hd (cs := #[.int .i8 a0_0, .int .i8 a0_1, .int .i8 a0_2, .slice A0_3 l0_3.length c0_3]) (t := 25) ?hr ?_; (case hd => rfl); (case hg => rfl); (case hr => first | (go_simp; done) | (go_simp; rfl)); intro gb146 hg w7 hbox hb; have n0_ := Aside0.mk (below_step (by repeat (first | (with_reducible first | exact HB.out | apply below_alloc | apply pw_below_drewN | apply below_drew1) | exact HB.out)) hb); have n1_ := Aside0.mk (hbox); have n2_ := Aside0.mk ((by rw [hg]; exact (below_size (by repeat (first | (with_reducible first | exact HB.out | apply below_alloc | apply pw_below_drewN | apply below_drew1) | exact HB.out))) : w.heap.size ≤ gb146)); have n3_ := Aside0.mk ((by rw [hg]; exact (below_size (by repeat (first | (with_reducible first | exact HB.out | apply below_alloc | apply pw_below_drewN | apply below_drew1) | exact HB.out))) : w.heap.size ≤ gb146)); clear HB; have HB := n0_; have BK146 := n1_; have GW146 := n2_; have GE146 := n3_; clear n0_ n1_ n2_ n3_; clear hb hbox hg; have hcz8_0 : w7.cell? ⟨gb146, 0, none⟩ = some (.int .i8 a0_0) := (blk_cell BK146.out 0).trans rfl; have hcz8_1 : w7.cell? ⟨gb146, 1, none⟩ = some (.int .i8 a0_1) := (blk_cell BK146.out 1).trans rfl; have hcz8_2 : w7.cell? ⟨gb146, 2, none⟩ = some (.int .i8 a0_2) := (blk_cell BK146.out 2).trans rfl; have hcz8_3 : w7.cell? ⟨gb146, 3, none⟩ = some (.slice A0_3 l0_3.length c0_3) := (blk_cell BK146.out 3).trans rfl; have hfz8_0 := blk_frozen BK146.out 0; have hfz8_1 := blk_frozen BK146.out 1; have hfz8_2 := blk_frozen BK146.out 2; have hfz8_3 := blk_frozen BK146.out 3) | ((with_reducible refine gate_callee (f := 12) rfl ?_); refine goesL_ (some 22) rfl rfl Try.func12 (by kernel_rfl) rfl #[.agg #[.int .i8 a0_0, .int .i8 a0_1, .int .i8 a0_2, .slice A0_3 l0_3.length c0_3], .int .i64 1048576] rfl (by (try simp only [List.map_toArray, List.map_cons, List.map_nil]); first | done | rfl | (simp only [List.length_drop, List.length_take]; rfl)) ?_; (with_reducible refine (laws_szBook.calls k a0_0 a0_1 a0_2 _ _ l0_3 1048576 t147 _ ?side1 ?side2 A5.out).mono ?_); (case side1 => repeat (first | exact (Kd.C_below HR0_3.out HB.out) | (with_reducible refine Kd.C_alloc ?_ _) | (with_reducible refine Kd.C_drewN ?_ _) | (with_reducible refine Kd.C_drew ?_))); (case side2 => exact HC0_3.out); rintro e w9 ⟨rfl, hb⟩; refine ⟨_, rfl, ?_⟩; have n0_ := Aside0.mk (blk_below (g := gb146) (o := .cells #[.int .i8 a0_0, .int .i8 a0_1, .int .i8 a0_2, .slice A0_3 l0_3.length c0_3] 25 (0, 0)) (by (with_reducible repeat (first | refine blk_drewN ?_ _ | refine blk_drew ?_ | refine blk_alloc ?_ _)); exact BK146.out) hb); have n1_ := Aside0.mk (below_step (by repeat (first | (with_reducible first | exact HB.out | apply below_alloc | apply pw_below_drewN | apply below_drew1 | refine below_set ?_ GE146.out) | exact HB.out)) hb); clear BK146; clear HB; have BK146 := n0_; have HB := n1_; clear n0_ n1_; (try clear hb); (try clear hb2); (try clear hk); (try clear hi)))
   go_ret
   exact ⟨by first | rfl | (simp [errW_none, errW_some] <;> rfl) | (simp [*, errW_none, errW_some] <;> rfl), by repeat (first | (with_reducible first | exact HB.out | apply below_alloc | apply pw_below_drewN | apply below_drew1 | refine below_set ?_ GE146.out) | exact HB.out)⟩
  ·rw [if_neg c6] at H
   have c6b0 : decide (t147 < 0) = false := decide_eq_false c6
   clear c6
   replace H := Option.bind_eq_some_iff.mp H
   obtain ⟨⟨t148, t149, t150, t151⟩, A100, H⟩ := H
   replace H : ((laws_toMeaning.f k l1).bind fun t154 => ((spec_CompletionsOf.f t148 t149 t150 t151 t154).bind fun bt157 => ((laws_toBook.f k a0_0 a0_1 a0_2 l0_3).bind fun bt161 => ((laws_toMeaning.f k l1).bind fun t168 => ((impl_CompletionsOf.f bt161.1 bt161.2.1 bt161.2.2.1 bt161.2.2.2 t168).bind fun bt171 => ((laws_eqInt64S.f k bt171.1 bt157.1).bind fun t175 => (if t175 = true then (laws_FnExactCompletionsOf.j0 k l1 bt157.1 bt157.2 t168 bt171.1 bt171.2 (bt171.2 != bt157.2) a0_0 a0_1 a0_2 l0_3 bt161.1 bt161.2.1 bt161.2.2.1 bt161.2.2.2) else (laws_FnExactCompletionsOf.j0 k l1 bt157.1 bt157.2 t168 bt171.1 bt171.2 true a0_0 a0_1 a0_2 l0_3 bt161.1 bt161.2.1 bt161.2.2.1 bt161.2.2.2)))))))) = some r := H
   have A10 := Aside0.mk A100
   clear A100
   replace H := Option.bind_eq_some_iff.mp H
   obtain ⟨t154, A110, H⟩ := H
   replace H : ((spec_CompletionsOf.f t148 t149 t150 t151 t154).bind fun bt157 => ((laws_toBook.f k a0_0 a0_1 a0_2 l0_3).bind fun bt161 => ((laws_toMeaning.f k l1).bind fun t168 => ((impl_CompletionsOf.f bt161.1 bt161.2.1 bt161.2.2.1 bt161.2.2.2 t168).bind fun bt171 => ((laws_eqInt64S.f k bt171.1 bt157.1).bind fun t175 => (if t175 = true then (laws_FnExactCompletionsOf.j0 k l1 bt157.1 bt157.2 t168 bt171.1 bt171.2 (bt171.2 != bt157.2) a0_0 a0_1 a0_2 l0_3 bt161.1 bt161.2.1 bt161.2.2.1 bt161.2.2.2) else (laws_FnExactCompletionsOf.j0 k l1 bt157.1 bt157.2 t168 bt171.1 bt171.2 true a0_0 a0_1 a0_2 l0_3 bt161.1 bt161.2.1 bt161.2.2.1 bt161.2.2.2))))))) = some r := H
   have A11 := Aside0.mk A110
   clear A110
   replace H := Option.bind_eq_some_iff.mp H
   obtain ⟨⟨t157, t160⟩, A120, H⟩ := H
   replace H : ((laws_toBook.f k a0_0 a0_1 a0_2 l0_3).bind fun bt161 => ((laws_toMeaning.f k l1).bind fun t168 => ((impl_CompletionsOf.f bt161.1 bt161.2.1 bt161.2.2.1 bt161.2.2.2 t168).bind fun bt171 => ((laws_eqInt64S.f k bt171.1 t157).bind fun t175 => (if t175 = true then (laws_FnExactCompletionsOf.j0 k l1 t157 t160 t168 bt171.1 bt171.2 (bt171.2 != t160) a0_0 a0_1 a0_2 l0_3 bt161.1 bt161.2.1 bt161.2.2.1 bt161.2.2.2) else (laws_FnExactCompletionsOf.j0 k l1 t157 t160 t168 bt171.1 bt171.2 true a0_0 a0_1 a0_2 l0_3 bt161.1 bt161.2.1 bt161.2.2.1 bt161.2.2.2)))))) = some r := H
   have A12 := Aside0.mk A120
   clear A120
   replace H := Option.bind_eq_some_iff.mp H
   obtain ⟨⟨t161, t162, t163, t164⟩, A130, H⟩ := H
   replace H : ((laws_toMeaning.f k l1).bind fun t168 => ((impl_CompletionsOf.f t161 t162 t163 t164 t168).bind fun bt171 => ((laws_eqInt64S.f k bt171.1 t157).bind fun t175 => (if t175 = true then (laws_FnExactCompletionsOf.j0 k l1 t157 t160 t168 bt171.1 bt171.2 (bt171.2 != t160) a0_0 a0_1 a0_2 l0_3 t161 t162 t163 t164) else (laws_FnExactCompletionsOf.j0 k l1 t157 t160 t168 bt171.1 bt171.2 true a0_0 a0_1 a0_2 l0_3 t161 t162 t163 t164))))) = some r := H
   have A13 := Aside0.mk A130
   clear A130
   replace H := Option.bind_eq_some_iff.mp H
   obtain ⟨t168, A140, H⟩ := H
   replace H : ((impl_CompletionsOf.f t161 t162 t163 t164 t168).bind fun bt171 => ((laws_eqInt64S.f k bt171.1 t157).bind fun t175 => (if t175 = true then (laws_FnExactCompletionsOf.j0 k l1 t157 t160 t168 bt171.1 bt171.2 (bt171.2 != t160) a0_0 a0_1 a0_2 l0_3 t161 t162 t163 t164) else (laws_FnExactCompletionsOf.j0 k l1 t157 t160 t168 bt171.1 bt171.2 true a0_0 a0_1 a0_2 l0_3 t161 t162 t163 t164)))) = some r := H
   have A14 := Aside0.mk A140
   clear A140
   replace H := Option.bind_eq_some_iff.mp H
   obtain ⟨⟨t171, t174⟩, A150, H⟩ := H
   replace H : ((laws_eqInt64S.f k t171 t157).bind fun t175 => (if t175 = true then (laws_FnExactCompletionsOf.j0 k l1 t157 t160 t168 t171 t174 (t174 != t160) a0_0 a0_1 a0_2 l0_3 t161 t162 t163 t164) else (laws_FnExactCompletionsOf.j0 k l1 t157 t160 t168 t171 t174 true a0_0 a0_1 a0_2 l0_3 t161 t162 t163 t164))) = some r := H
   have A15 := Aside0.mk A150
   clear A150
   have HC16 := Aside0.mk H
   clear H
   go_enter Try.func10, Try.ntmps10
   go_upto_region 11 with (first | ((with_reducible refine gate_dst (N := 2) rfl ?_); refine box_event ?hg (N := 2) ?hd (cs := #[.int .i8 a0_0, .int .i8 a0_1, .int .i8 a0_2, .slice A0_3 l0_3.length c0_3]) (t := 25) ?hr ?_; (case hd => rfl); (case hg => rfl); (case hr => first | (go_simp; done) | (go_simp; rfl)); intro gb146 hg w17 hbox hb; have n0_ := Aside0.mk (below_step (by repeat (first | (with_reducible first | exact HB.out | apply below_alloc | apply pw_below_drewN | apply below_drew1) | exact HB.out)) hb); have n1_ := Aside0.mk (hbox); have n2_ := Aside0.mk ((by rw [hg]; exact (below_size (by repeat (first | (with_reducible first | exact HB.out | apply below_alloc | apply pw_below_drewN | apply below_drew1) | exact HB.out))) : w.heap.size ≤ gb146)); have n3_ := Aside0.mk ((by rw [hg]; exact (below_size (by repeat (first | (with_reducible first | exact HB.out | apply below_alloc | apply pw_below_drewN | apply below_drew1) | exact HB.out))) : w.heap.size ≤ gb146)); clear HB; have HB := n0_; have BK146 := n1_; have GW146 := n2_; have GE146 := n3_; clear n0_ n1_ n2_ n3_; clear hb hbox hg; have hcz18_0 : w17.cell? ⟨gb146, 0, none⟩ = some (.int .i8 a0_0) := (blk_cell BK146.out 0).trans rfl; have hcz18_1 : w17.cell? ⟨gb146, 1, none⟩ = some (.int .i8 a0_1) := (blk_cell BK146.out 1).trans rfl; have hcz18_2 : w17.cell? ⟨gb146, 2, none⟩ = some (.int .i8 a0_2) := (blk_cell BK146.out 2).trans rfl; have hcz18_3 : w17.cell? ⟨gb146, 3, none⟩ = some (.slice A0_3 l0_3.length c0_3) := (blk_cell BK146.out 3).trans rfl; have hfz18_0 := blk_frozen BK146.out 0; have hfz18_1 := blk_frozen BK146.out 1; have hfz18_2 := blk_frozen BK146.out 2; have hfz18_3 := blk_frozen BK146.out 3) | ((with_reducible refine gate_callee (f := 12) rfl ?_); refine goesL_ (some 22) rfl rfl Try.func12 (by kernel_rfl) rfl #[.agg #[.int .i8 a0_0, .int .i8 a0_1, .int .i8 a0_2, .slice A0_3 l0_3.length c0_3], .int .i64 1048576] rfl (by (try simp only [List.map_toArray, List.map_cons, List.map_nil]); first | done | rfl | (simp only [List.length_drop, List.length_take]; rfl)) ?_; (with_reducible refine (laws_szBook.calls k a0_0 a0_1 a0_2 _ _ l0_3 1048576 t147 _ ?side1 ?side2 A5.out).mono ?_); (case side1 => repeat (first | exact (Kd.C_below HR0_3.out HB.out) | (with_reducible refine Kd.C_alloc ?_ _) | (with_reducible refine Kd.C_drewN ?_ _) | (with_reducible refine Kd.C_drew ?_))); (case side2 => exact HC0_3.out); rintro e w19 ⟨rfl, hb⟩; refine ⟨_, rfl, ?_⟩; have n0_ := Aside0.mk (blk_below (g := gb146) (o := .cells #[.int .i8 a0_0, .int .i8 a0_1, .int .i8 a0_2, .slice A0_3 l0_3.length c0_3] 25 (0, 0)) (by (with_reducible repeat (first | refine blk_drewN ?_ _ | refine blk_drew ?_ | refine blk_alloc ?_ _)); exact BK146.out) hb); have n1_ := Aside0.mk (below_step (by repeat (first | (with_reducible first | exact HB.out | apply below_alloc | apply pw_below_drewN | apply below_drew1 | refine below_set ?_ GE146.out) | exact HB.out)) hb); clear BK146; clear HB; have BK146 := n0_; have HB := n1_; clear n0_ n1_; (try clear hb); (try clear hb2); (try clear hk); (try clear hi); have hcz20_0 : w19.cell? ⟨gb146, 0, none⟩ = some (.int .i8 a0_0) := (blk_cell BK146.out 0).trans rfl; have hcz20_1 : w19.cell? ⟨gb146, 1, none⟩ = some (.int .i8 a0_1) := (blk_cell BK146.out 1).trans rfl; have hcz20_2 : w19.cell? ⟨gb146, 2, none⟩ = some (.int .i8 a0_2) := (blk_cell BK146.out 2).trans rfl; have hcz20_3 : w19.cell? ⟨gb146, 3, none⟩ = some (.slice A0_3 l0_3.length c0_3) := (blk_cell BK146.out 3).trans rfl; have hfz20_0 := blk_frozen BK146.out 0; have hfz20_1 := blk_frozen BK146.out 1; have hfz20_2 := blk_frozen BK146.out 2; have hfz20_3 := blk_frozen BK146.out 3) | ((with_reducible refine gate_callee (f := 14) rfl ?_); refine goesL_ (some 27) rfl rfl Try.func14 (by kernel_rfl) rfl #[.agg #[.int .i8 a0_0, .int .i8 a0_1, .int .i8 a0_2, .slice A0_3 l0_3.length c0_3]] rfl (by (try simp only [List.map_toArray, List.map_cons, List.map_nil]); first | done | rfl | (simp only [List.length_drop, List.length_take]; rfl)) ?_; (with_reducible refine (laws_toBook.calls k a0_0 a0_1 a0_2 _ _ l0_3 t148 t149 t150 t151 _ ?side1 ?side2 A10.out).mono ?_); (case side1 => repeat (first | exact (Kd.C_below HR0_3.out HB.out) | (with_reducible refine Kd.C_alloc ?_ _) | (with_reducible refine Kd.C_drewN ?_ _) | (with_reducible refine Kd.C_drew ?_))); (case side2 => exact HC0_3.out); rintro e w21 ⟨v152, rfl, ho0, hb⟩; refine ⟨_, rfl, ?_⟩; have n0_ := Aside0.mk (Kd.R_lower ho0 (below_size (by repeat (first | (with_reducible first | exact HB.out | apply below_alloc | apply pw_below_drewN | apply below_drew1 | refine below_set ?_ GE146.out) | exact HB.out)))); have n1_ := Aside0.mk (blk_below (g := gb146) (o := .cells #[.int .i8 a0_0, .int .i8 a0_1, .int .i8 a0_2, .slice A0_3 l0_3.length c0_3] 25 (0, 0)) (by (with_reducible repeat (first | refine blk_drewN ?_ _ | refine blk_drew ?_ | refine blk_alloc ?_ _)); exact BK146.out) hb); have n2_ := Aside0.mk (below_step (by repeat (first | (with_reducible first | exact HB.out | apply below_alloc | apply pw_below_drewN | apply below_drew1 | refine below_set ?_ GE146.out) | exact HB.out)) hb); clear BK146; clear HB; have HO153 := n0_; have BK146 := n1_; have HB := n2_; clear n0_ n1_ n2_; (try clear hb); (try clear hb2); (try clear hk); (try clear hi); (try clear ho0)) | ((with_reducible refine gate_callee (f := 29) rfl ?_); refine goesL_ (some 29) rfl rfl Try.func29 (by kernel_rfl) rfl #[.slice A1 l1.length c1] rfl (by (try simp only [List.map_toArray, List.map_cons, List.map_nil]); first | done | rfl | (simp only [List.length_drop, List.length_take]; rfl)) ?_; (with_reducible refine (laws_toMeaning.calls k _ _ l1 t154 _ ?side1 ?side2 A11.out).mono ?_); (case side1 => repeat (first | exact (Kd.C_below HR1.out HB.out) | (with_reducible refine Kd.C_alloc ?_ _) | (with_reducible refine Kd.C_drewN ?_ _) | (with_reducible refine Kd.C_drew ?_))); (case side2 => exact HC1.out); rintro e w22 ⟨v155, rfl, ho0, hb⟩; refine ⟨_, rfl, ?_⟩; have n0_ := Aside0.mk (Kd.R_below (by (with_reducible repeat (first | apply Kd.R_alloc | apply Kd.R_drewN | apply Kd.R_drew)); exact HO153.out) hb); have n1_ := Aside0.mk (Kd.R_lower ho0 (below_size (by repeat (first | (with_reducible first | exact HB.out | apply below_alloc | apply pw_below_drewN | apply below_drew1 | refine below_set ?_ GE146.out) | exact HB.out)))); have n2_ := Aside0.mk (blk_below (g := gb146) (o := .cells #[.int .i8 a0_0, .int .i8 a0_1, .int .i8 a0_2, .slice A0_3 l0_3.length c0_3] 25 (0, 0)) (by (with_reducible repeat (first | refine blk_drewN ?_ _ | refine blk_drew ?_ | refine blk_alloc ?_ _)); exact BK146.out) hb); have n3_ := Aside0.mk (below_step (by repeat (first | (with_reducible first | exact HB.out | apply below_alloc | apply pw_below_drewN | apply below_drew1 | refine below_set ?_ GE146.out) | exact HB.out)) hb); clear HO153; clear BK146; clear HB; have HO153 := n0_; have HO156 := n1_; have BK146 := n2_; have HB := n3_; clear n0_ n1_ n2_ n3_; (try clear hb); (try clear hb2); (try clear hk); (try clear hi); (try clear ho0); obtain ⟨Ao23, co23, eo23⟩ := Kd.R_slice HO153.out; subst eo23; obtain ⟨Ao24, co24, eo24⟩ := Kd.R_slice HO156.out; subst eo24) | ((with_reducible refine gate_callee (f := 40) rfl ?_); refine goesL_ (some 30) rfl rfl Try.func40 (by kernel_rfl) rfl #[.agg #[.int .i8 t148, .int .i8 t149, .int .i8 t150, .slice Ao23 t151.length co23], .slice Ao24 t154.length co24] rfl (by (try simp only [List.map_toArray, List.map_cons, List.map_nil]); first | done | rfl | (simp only [List.length_drop, List.length_take]; rfl)) ?_; (with_reducible refine (spec_CompletionsOf.calls t148 t149 t150 _ _ t151 _ _ t154 t157 t160 _ ?side1 ?side2 ?side3 ?side4 A12.out).mono ?_); (case side1 => repeat (first | exact (Kd.R_reads' HO153.out).2.2 | (with_reducible refine Kd.C_alloc ?_ _) | (with_reducible refine Kd.C_drewN ?_ _) | (with_reducible refine Kd.C_drew ?_))); (case side2 => exact (Kd.R_reads' HO153.out).2.1); (case side3 => repeat (first | exact (Kd.R_reads' HO156.out).2.2 | (with_reducible refine Kd.C_alloc ?_ _) | (with_reducible refine Kd.C_drewN ?_ _) | (with_reducible refine Kd.C_drew ?_))); (case side4 => exact (Kd.R_reads' HO156.out).2.1); rintro e w25 ⟨v158, rfl, ho0, hb⟩; refine ⟨_, rfl, ?_⟩; have n0_ := Aside0.mk (Kd.R_below (by (with_reducible repeat (first | apply Kd.R_alloc | apply Kd.R_drewN | apply Kd.R_drew)); exact HO153.out) hb); have n1_ := Aside0.mk (Kd.R_below (by (with_reducible repeat (first | apply Kd.R_alloc | apply Kd.R_drewN | apply Kd.R_drew)); exact HO156.out) hb); have n2_ := Aside0.mk (Kd.R_lower ho0 (below_size (by repeat (first | (with_reducible first | exact HB.out | apply below_alloc | apply pw_below_drewN | apply below_drew1 | refine below_set ?_ GE146.out) | exact HB.out)))); have n3_ := Aside0.mk (blk_below (g := gb146) (o := .cells #[.int .i8 a0_0, .int .i8 a0_1, .int .i8 a0_2, .slice A0_3 l0_3.length c0_3] 25 (0, 0)) (by (with_reducible repeat (first | refine blk_drewN ?_ _ | refine blk_drew ?_ | refine blk_alloc ?_ _)); exact BK146.out) hb); have n4_ := Aside0.mk (below_step (by repeat (first | (with_reducible first | exact HB.out | apply below_alloc | apply pw_below_drewN | apply below_drew1 | refine below_set ?_ GE146.out) | exact HB.out)) hb); clear HO153; clear HO156; clear BK146; clear HB; have HO153 := n0_; have HO156 := n1_; have HO159 := n2_; have BK146 := n3_; have HB := n4_; clear n0_ n1_ n2_ n3_ n4_; (try clear hb); (try clear hb2); (try clear hk); (try clear hi); (try clear ho0); have hcz26_0 : w25.cell? ⟨gb146, 0, none⟩ = some (.int .i8 a0_0) := (blk_cell BK146.out 0).trans rfl; have hcz26_1 : w25.cell? ⟨gb146, 1, none⟩ = some (.int .i8 a0_1) := (blk_cell BK146.out 1).trans rfl; have hcz26_2 : w25.cell? ⟨gb146, 2, none⟩ = some (.int .i8 a0_2) := (blk_cell BK146.out 2).trans rfl; have hcz26_3 : w25.cell? ⟨gb146, 3, none⟩ = some (.slice A0_3 l0_3.length c0_3) := (blk_cell BK146.out 3).trans rfl; have hfz26_0 := blk_frozen BK146.out 0; have hfz26_1 := blk_frozen BK146.out 1; have hfz26_2 := blk_frozen BK146.out 2; have hfz26_3 := blk_frozen BK146.out 3) | ((with_reducible refine gate_callee (f := 14) rfl ?_); refine goesL_ (some 34) rfl rfl Try.func14 (by kernel_rfl) rfl #[.agg #[.int .i8 a0_0, .int .i8 a0_1, .int .i8 a0_2, .slice A0_3 l0_3.length c0_3]] rfl (by (try simp only [List.map_toArray, List.map_cons, List.map_nil]); first | done | rfl | (simp only [List.length_drop, List.length_take]; rfl)) ?_; (with_reducible refine (laws_toBook.calls k a0_0 a0_1 a0_2 _ _ l0_3 t161 t162 t163 t164 _ ?side1 ?side2 A13.out).mono ?_); (case side1 => repeat (first | exact (Kd.C_below HR0_3.out HB.out) | (with_reducible refine Kd.C_alloc ?_ _) | (with_reducible refine Kd.C_drewN ?_ _) | (with_reducible refine Kd.C_drew ?_))); (case side2 => exact HC0_3.out); rintro e w27 ⟨v165, rfl, ho0, hb⟩; refine ⟨_, rfl, ?_⟩; have n0_ := Aside0.mk (Kd.R_elder' (by (with_reducible repeat (first | apply Kd.R_alloc | apply Kd.R_drewN | apply Kd.R_drew)); exact HO153.out) (Kd.R_base ho0) hb); have n1_ := Aside0.mk (Kd.R_below (by (with_reducible repeat (first | apply Kd.R_alloc | apply Kd.R_drewN | apply Kd.R_drew)); exact HO156.out) hb); have n2_ := Aside0.mk (Kd.R_below (by (with_reducible repeat (first | apply Kd.R_alloc | apply Kd.R_drewN | apply Kd.R_drew)); exact HO159.out) hb); have n3_ := Aside0.mk (Kd.R_lower (Kd.R_new' ho0 (Kd.R_lt (by (with_reducible repeat (first | apply Kd.R_alloc | apply Kd.R_drewN | apply Kd.R_drew)); exact HO153.out))) (below_size (by repeat (first | (with_reducible first | exact HB.out | apply below_alloc | apply pw_below_drewN | apply below_drew1 | refine below_set ?_ GE146.out) | exact HB.out)))); have n4_ := Aside0.mk (blk_below (g := gb146) (o := .cells #[.int .i8 a0_0, .int .i8 a0_1, .int .i8 a0_2, .slice A0_3 l0_3.length c0_3] 25 (0, 0)) (by (with_reducible repeat (first | refine blk_drewN ?_ _ | refine blk_drew ?_ | refine blk_alloc ?_ _)); exact BK146.out) hb); have n5_ := Aside0.mk (below_step (by repeat (first | (with_reducible first | exact HB.out | apply below_alloc | apply pw_below_drewN | apply below_drew1 | refine below_set ?_ GE146.out) | exact HB.out)) hb); clear HO153; clear HO156; clear HO159; clear BK146; clear HB; have HO153 := n0_; have HO156 := n1_; have HO159 := n2_; have HO166 := n3_; have BK146 := n4_; have HB := n5_; clear n0_ n1_ n2_ n3_ n4_ n5_; (try clear hb); (try clear hb2); (try clear hk); (try clear hi); (try clear ho0)) | ((with_reducible refine gate_dst (N := 8) rfl ?_); refine box_event ?hg (N := 8) ?hd (cs := #[.int .i8 0, .int .i8 0, .int .i8 0, .slice none 0 0]) (t := 27) ?hr ?_; (case hd => rfl); (case hg => rfl); (case hr => first | (go_simp; done) | (go_simp; rfl)); intro gb167 hg w28 hbox hb; have n0_ := Aside0.mk (Kd.R_below (by (with_reducible repeat (first | apply Kd.R_alloc | apply Kd.R_drewN | apply Kd.R_drew)); exact HO153.out) hb); have n1_ := Aside0.mk (Kd.R_below (by (with_reducible repeat (first | apply Kd.R_alloc | apply Kd.R_drewN | apply Kd.R_drew)); exact HO156.out) hb); have n2_ := Aside0.mk (Kd.R_below (by (with_reducible repeat (first | apply Kd.R_alloc | apply Kd.R_drewN | apply Kd.R_drew)); exact HO159.out) hb); have n3_ := Aside0.mk (Kd.R_below (by (with_reducible repeat (first | apply Kd.R_alloc | apply Kd.R_drewN | apply Kd.R_drew)); exact HO166.out) hb); have n4_ := Aside0.mk (blk_below (g := gb146) (o := .cells #[.int .i8 a0_0, .int .i8 a0_1, .int .i8 a0_2, .slice A0_3 l0_3.length c0_3] 25 (0, 0)) (by (with_reducible repeat (first | refine blk_drewN ?_ _ | refine blk_drew ?_ | refine blk_alloc ?_ _)); exact BK146.out) hb); have n5_ := Aside0.mk (below_step (by repeat (first | (with_reducible first | exact HB.out | apply below_alloc | apply pw_below_drewN | apply below_drew1 | refine below_set ?_ GE146.out) | exact HB.out)) hb); have n6_ := Aside0.mk (hbox); have n7_ := Aside0.mk ((by rw [hg]; exact (below_size (by repeat (first | (with_reducible first | exact HB.out | apply below_alloc | apply pw_below_drewN | apply below_drew1 | refine below_set ?_ GE146.out) | exact HB.out))) : w.heap.size ≤ gb167)); have n8_ := Aside0.mk ((by rw [hg]; exact (below_size (by repeat (first | (with_reducible first | exact HB.out | apply below_alloc | apply pw_below_drewN | apply below_drew1 | refine below_set ?_ GE146.out) | exact HB.out))) : w.heap.size ≤ gb167)); have n9_ := Aside0.mk ((by rw [hg]; exact Nat.ne_of_lt (blk_lt (g := gb146) (o := .cells #[.int .i8 a0_0, .int .i8 a0_1, .int .i8 a0_2, .slice A0_3 l0_3.length c0_3] 25 (0, 0)) (by (with_reducible repeat (first | refine blk_drewN ?_ _ | refine blk_drew ?_ | refine blk_alloc ?_ _)); exact BK146.out)) : gb146 ≠ gb167)); have n10_ := Aside0.mk ((by rw [hg]; exact Nat.ne_of_gt (blk_lt (g := gb146) (o := .cells #[.int .i8 a0_0, .int .i8 a0_1, .int .i8 a0_2, .slice A0_3 l0_3.length c0_3] 25 (0, 0)) (by (with_reducible repeat (first | refine blk_drewN ?_ _ | refine blk_drew ?_ | refine blk_alloc ?_ _)); exact BK146.out)) : gb167 ≠ gb146)); clear HO153; clear HO156; clear HO159; clear HO166; clear BK146; clear HB; have HO153 := n0_; have HO156 := n1_; have HO159 := n2_; have HO166 := n3_; have BK146 := n4_; have HB := n5_; have BK167 := n6_; have GW167 := n7_; have GE167 := n8_; have NB146_167 := n9_; have NB167_146 := n10_; clear n0_ n1_ n2_ n3_ n4_ n5_ n6_ n7_ n8_ n9_ n10_; clear hb hbox hg; have hnb29 := NB167_146.out; have hnc29 := NB146_167.out; have hcz30_0 : w28.cell? ⟨gb167, 0, none⟩ = some (.int .i8 0) := (blk_cell BK167.out 0).trans rfl; have hcz30_1 : w28.cell? ⟨gb167, 1, none⟩ = some (.int .i8 0) := (blk_cell BK167.out 1).trans rfl; have hcz30_2 : w28.cell? ⟨gb167, 2, none⟩ = some (.int .i8 0) := (blk_cell BK167.out 2).trans rfl; have hcz30_3 : w28.cell? ⟨gb167, 3, none⟩ = some (.slice none 0 0) := (blk_cell BK167.out 3).trans rfl; have hfz30_0 := blk_frozen BK167.out 0; have hfz30_1 := blk_frozen BK167.out 1; have hfz30_2 := blk_frozen BK167.out 2; have hfz30_3 := blk_frozen BK167.out 3; obtain ⟨Ao31, co31, eo31⟩ := Kd.R_slice HO166.out; subst eo31) | ((with_reducible refine gate_callee (f := 29) rfl ?_); refine goesL_ (some 36) rfl rfl Try.func29 (by kernel_rfl) rfl #[.slice A1 l1.length c1] rfl (by (try simp only [List.map_toArray, List.map_cons, List.map_nil]); first | done | rfl | (simp only [List.length_drop, List.length_take]; rfl)) ?_; (with_reducible refine (laws_toMeaning.calls k _ _ l1 t168 _ ?side1 ?side2 A14.out).mono ?_); (case side1 => exact Kd.C_below HR1.out (by repeat (first | (with_reducible first | exact HB.out | apply below_alloc | apply pw_below_drewN | apply below_drew1 | refine below_set ?_ GE146.out | refine below_set ?_ GE167.out) | exact HB.out))); (case side2 => exact HC1.out); rintro e w32 ⟨v169, rfl, ho0, hb⟩; refine ⟨_, rfl, ?_⟩; have n0_ := Aside0.mk (Kd.R_below (by (with_reducible repeat (first | apply Kd.R_alloc | apply Kd.R_drewN | apply Kd.R_drew)); exact (Kd.R_mono (Kd.R_far (p := ⟨gb167, 3, none⟩) (Kd.R_far (p := ⟨gb167, 2, none⟩) (Kd.R_far (p := ⟨gb167, 1, none⟩) (Kd.R_far (p := ⟨gb167, 0, none⟩) (Kd.R_types HO153.out BK167.out (by decide)) (fun _ hk => hk.2) (.int .i8 t161)) (fun _ hk => hk.2) (.int .i8 t162)) (fun _ hk => hk.2) (.int .i8 t163)) (fun _ hk => hk.2) (.slice Ao31 t164.length co31)) (fun _ h_ => h_.1))) hb); have n1_ := Aside0.mk (Kd.R_elder' (by (with_reducible repeat (first | apply Kd.R_alloc | apply Kd.R_drewN | apply Kd.R_drew)); exact (Kd.R_mono (Kd.R_far (p := ⟨gb167, 3, none⟩) (Kd.R_far (p := ⟨gb167, 2, none⟩) (Kd.R_far (p := ⟨gb167, 1, none⟩) (Kd.R_far (p := ⟨gb167, 0, none⟩) (Kd.R_types HO156.out BK167.out (by decide)) (fun _ hk => hk.2) (.int .i8 t161)) (fun _ hk => hk.2) (.int .i8 t162)) (fun _ hk => hk.2) (.int .i8 t163)) (fun _ hk => hk.2) (.slice Ao31 t164.length co31)) (fun _ h_ => h_.1))) (Kd.R_base ho0) hb); have n2_ := Aside0.mk (Kd.R_below (by (with_reducible repeat (first | apply Kd.R_alloc | apply Kd.R_drewN | apply Kd.R_drew)); exact (Kd.R_mono (Kd.R_far (p := ⟨gb167, 3, none⟩) (Kd.R_far (p := ⟨gb167, 2, none⟩) (Kd.R_far (p := ⟨gb167, 1, none⟩) (Kd.R_far (p := ⟨gb167, 0, none⟩) (Kd.R_types HO159.out BK167.out (by decide)) (fun _ hk => hk.2) (.int .i8 t161)) (fun _ hk => hk.2) (.int .i8 t162)) (fun _ hk => hk.2) (.int .i8 t163)) (fun _ hk => hk.2) (.slice Ao31 t164.length co31)) (fun _ h_ => h_.1))) hb); have n3_ := Aside0.mk (Kd.R_below (by (with_reducible repeat (first | apply Kd.R_alloc | apply Kd.R_drewN | apply Kd.R_drew)); exact (Kd.R_mono (Kd.R_far (p := ⟨gb167, 3, none⟩) (Kd.R_far (p := ⟨gb167, 2, none⟩) (Kd.R_far (p := ⟨gb167, 1, none⟩) (Kd.R_far (p := ⟨gb167, 0, none⟩) (Kd.R_types HO166.out BK167.out (by decide)) (fun _ hk => hk.2) (.int .i8 t161)) (fun _ hk => hk.2) (.int .i8 t162)) (fun _ hk => hk.2) (.int .i8 t163)) (fun _ hk => hk.2) (.slice Ao31 t164.length co31)) (fun _ h_ => h_.1))) hb); have n4_ := Aside0.mk (Kd.R_lower (Kd.R_new' ho0 (Kd.R_lt (by (with_reducible repeat (first | apply Kd.R_alloc | apply Kd.R_drewN | apply Kd.R_drew)); exact (Kd.R_mono (Kd.R_far (p := ⟨gb167, 3, none⟩) (Kd.R_far (p := ⟨gb167, 2, none⟩) (Kd.R_far (p := ⟨gb167, 1, none⟩) (Kd.R_far (p := ⟨gb167, 0, none⟩) (Kd.R_types HO156.out BK167.out (by decide)) (fun _ hk => hk.2) (.int .i8 t161)) (fun _ hk => hk.2) (.int .i8 t162)) (fun _ hk => hk.2) (.int .i8 t163)) (fun _ hk => hk.2) (.slice Ao31 t164.length co31)) (fun _ h_ => h_.1))))) (below_size (by repeat (first | (with_reducible first | exact HB.out | apply below_alloc | apply pw_below_drewN | apply below_drew1 | refine below_set ?_ GE146.out | refine below_set ?_ GE167.out) | exact HB.out)))); have n5_ := Aside0.mk (blk_below (g := gb146) (o := .cells #[.int .i8 a0_0, .int .i8 a0_1, .int .i8 a0_2, .slice A0_3 l0_3.length c0_3] 25 (0, 0)) (by (with_reducible repeat (first | refine blk_drewN ?_ _ | refine blk_drew ?_ | refine blk_alloc ?_ _)); refine blk_far ?_ NB146_167.out _; (with_reducible repeat (first | refine blk_drewN ?_ _ | refine blk_drew ?_ | refine blk_alloc ?_ _)); refine blk_far ?_ NB146_167.out _; (with_reducible repeat (first | refine blk_drewN ?_ _ | refine blk_drew ?_ | refine blk_alloc ?_ _)); refine blk_far ?_ NB146_167.out _; (with_reducible repeat (first | refine blk_drewN ?_ _ | refine blk_drew ?_ | refine blk_alloc ?_ _)); refine blk_far ?_ NB146_167.out _; (with_reducible repeat (first | refine blk_drewN ?_ _ | refine blk_drew ?_ | refine blk_alloc ?_ _)); exact BK146.out) hb); have n6_ := Aside0.mk (blk_below (g := gb167) (o := .cells #[.int .i8 t161, .int .i8 t162, .int .i8 t163, .slice Ao31 t164.length co31] 27 (0, 0)) (by (with_reducible repeat (first | refine blk_drewN ?_ _ | refine blk_drew ?_ | refine blk_alloc ?_ _)); refine blk_put (cs := #[.int .i8 t161, .int .i8 t162, .int .i8 t163, .slice none 0 0]) ?_ 3 _ rfl; (with_reducible repeat (first | refine blk_drewN ?_ _ | refine blk_drew ?_ | refine blk_alloc ?_ _)); refine blk_put (cs := #[.int .i8 t161, .int .i8 t162, .int .i8 0, .slice none 0 0]) ?_ 2 _ rfl; (with_reducible repeat (first | refine blk_drewN ?_ _ | refine blk_drew ?_ | refine blk_alloc ?_ _)); refine blk_put (cs := #[.int .i8 t161, .int .i8 0, .int .i8 0, .slice none 0 0]) ?_ 1 _ rfl; (with_reducible repeat (first | refine blk_drewN ?_ _ | refine blk_drew ?_ | refine blk_alloc ?_ _)); refine blk_put (cs := #[.int .i8 0, .int .i8 0, .int .i8 0, .slice none 0 0]) ?_ 0 _ rfl; (with_reducible repeat (first | refine blk_drewN ?_ _ | refine blk_drew ?_ | refine blk_alloc ?_ _)); exact BK167.out) hb); have n7_ := Aside0.mk (below_step (by repeat (first | (with_reducible first | exact HB.out | apply below_alloc | apply pw_below_drewN | apply below_drew1 | refine below_set ?_ GE146.out | refine below_set ?_ GE167.out) | exact HB.out)) hb); clear HO153; clear HO156; clear HO159; clear HO166; clear BK146; clear BK167; clear HB; have HO153 := n0_; have HO156 := n1_; have HO159 := n2_; have HO166 := n3_; have HO170 := n4_; have BK146 := n5_; have BK167 := n6_; have HB := n7_; clear n0_ n1_ n2_ n3_ n4_ n5_ n6_ n7_; (try clear hb); (try clear hb2); (try clear hk); (try clear hi); (try clear ho0); have hcz33_0 : w32.cell? ⟨gb167, 0, none⟩ = some (.int .i8 t161) := (blk_cell BK167.out 0).trans rfl; have hcz33_1 : w32.cell? ⟨gb167, 1, none⟩ = some (.int .i8 t162) := (blk_cell BK167.out 1).trans rfl; have hcz33_2 : w32.cell? ⟨gb167, 2, none⟩ = some (.int .i8 t163) := (blk_cell BK167.out 2).trans rfl; have hcz33_3 : w32.cell? ⟨gb167, 3, none⟩ = some (.slice Ao31 t164.length co31) := (blk_cell BK167.out 3).trans rfl; have hfz33_0 := blk_frozen BK167.out 0; have hfz33_1 := blk_frozen BK167.out 1; have hfz33_2 := blk_frozen BK167.out 2; have hfz33_3 := blk_frozen BK167.out 3; obtain ⟨Ao34, co34, eo34⟩ := Kd.R_slice HO170.out; subst eo34) | ((with_reducible refine gate_callee (f := 41) rfl ?_); refine goesL_ (some 40) rfl rfl Try.func41 (by kernel_rfl) rfl #[.agg #[.int .i8 t161, .int .i8 t162, .int .i8 t163, .slice Ao31 t164.length co31], .slice Ao34 t168.length co34] rfl (by (try simp only [List.map_toArray, List.map_cons, List.map_nil]); first | done | rfl | (simp only [List.length_drop, List.length_take]; rfl)) ?_; (with_reducible refine (impl_CompletionsOf.calls t161 t162 t163 _ _ t164 _ _ t168 t171 t174 _ ?side1 ?side2 ?side3 ?side4 A15.out).mono ?_); (case side1 => repeat (first | exact (Kd.R_reads' HO166.out).2.2 | (with_reducible refine Kd.C_alloc ?_ _) | (with_reducible refine Kd.C_drewN ?_ _) | (with_reducible refine Kd.C_drew ?_))); (case side2 => exact (Kd.R_reads' HO166.out).2.1); (case side3 => repeat (first | exact (Kd.R_reads' HO170.out).2.2 | (with_reducible refine Kd.C_alloc ?_ _) | (with_reducible refine Kd.C_drewN ?_ _) | (with_reducible refine Kd.C_drew ?_))); (case side4 => exact (Kd.R_reads' HO170.out).2.1); rintro e w35 ⟨v172, rfl, ho0, hb⟩; refine ⟨_, rfl, ?_⟩; have n0_ := Aside0.mk (Kd.R_below (by (with_reducible repeat (first | apply Kd.R_alloc | apply Kd.R_drewN | apply Kd.R_drew)); exact HO153.out) hb); have n1_ := Aside0.mk (Kd.R_below (by (with_reducible repeat (first | apply Kd.R_alloc | apply Kd.R_drewN | apply Kd.R_drew)); exact HO156.out) hb); have n2_ := Aside0.mk (Kd.R_elder' (by (with_reducible repeat (first | apply Kd.R_alloc | apply Kd.R_drewN | apply Kd.R_drew)); exact HO159.out) (Kd.R_base ho0) hb); have n3_ := Aside0.mk (Kd.R_below (by (with_reducible repeat (first | apply Kd.R_alloc | apply Kd.R_drewN | apply Kd.R_drew)); exact HO166.out) hb); have n4_ := Aside0.mk (Kd.R_below (by (with_reducible repeat (first | apply Kd.R_alloc | apply Kd.R_drewN | apply Kd.R_drew)); exact HO170.out) hb); have n5_ := Aside0.mk (Kd.R_lower (Kd.R_new' ho0 (Kd.R_lt (by (with_reducible repeat (first | apply Kd.R_alloc | apply Kd.R_drewN | apply Kd.R_drew)); exact HO159.out))) (below_size (by repeat (first | (with_reducible first | exact HB.out | apply below_alloc | apply pw_below_drewN | apply below_drew1 | refine below_set ?_ GE146.out | refine below_set ?_ GE167.out) | exact HB.out)))); have n6_ := Aside0.mk (blk_below (g := gb146) (o := .cells #[.int .i8 a0_0, .int .i8 a0_1, .int .i8 a0_2, .slice A0_3 l0_3.length c0_3] 25 (0, 0)) (by (with_reducible repeat (first | refine blk_drewN ?_ _ | refine blk_drew ?_ | refine blk_alloc ?_ _)); exact BK146.out) hb); have n7_ := Aside0.mk (blk_below (g := gb167) (o := .cells #[.int .i8 t161, .int .i8 t162, .int .i8 t163, .slice Ao31 t164.length co31] 27 (0, 0)) (by (with_reducible repeat (first | refine blk_drewN ?_ _ | refine blk_drew ?_ | refine blk_alloc ?_ _)); exact BK167.out) hb); have n8_ := Aside0.mk (below_step (by repeat (first | (with_reducible first | exact HB.out | apply below_alloc | apply pw_below_drewN | apply below_drew1 | refine below_set ?_ GE146.out | refine below_set ?_ GE167.out) | exact HB.out)) hb); clear HO153; clear HO156; clear HO159; clear HO166; clear HO170; clear BK146; clear BK167; clear HB; have HO153 := n0_; have HO156 := n1_; have HO159 := n2_; have HO166 := n3_; have HO170 := n4_; have HO173 := n5_; have BK146 := n6_; have BK167 := n7_; have HB := n8_; clear n0_ n1_ n2_ n3_ n4_ n5_ n6_ n7_ n8_; (try clear hb); (try clear hb2); (try clear hk); (try clear hi); (try clear ho0)))
   (try simp only [Act.put, List.setIfInBounds_toArray, List.set_cons_zero, List.set_cons_succ])
   go_cut [51] (fun v51 wc => ∃ (kq : Nat) (x51_15 : Bool), v51 = .bool x51_15 ∧ Aside0 (laws_FnExactCompletionsOf.j0 kq l1 t157 t160 t168 t171 t174 x51_15 a0_0 a0_1 a0_2 l0_3 t161 t162 t163 t164 = some r) ∧ Aside0 (kq ≤ k) ∧ Aside0 (Kd.R (Kd.int .i64) 2 wc w.heap.size (fun k_ => some k_ ≠ (v172 : Value).ownBlock) v158 t157) ∧ Aside0 (Kd.R (Kd.int .i8) 22 wc w.heap.size (fun _ => True) (.slice Ao34 t168.length co34) t168) ∧ Aside0 (Kd.R (Kd.int .i64) 2 wc w.heap.size (fun k_ => some k_ ≠ (v158 : Value).ownBlock) v172 t171) ∧ Aside0 (Kd.R Kd.string 9 wc w.heap.size (fun _ => True) (.slice Ao31 t164.length co31) t164) ∧ Aside0 (wc.heap[gb146]? = some (.cells #[.int .i8 a0_0, .int .i8 a0_1, .int .i8 a0_2, (.slice A0_3 l0_3.length c0_3)] 25 (0, 0))) ∧ Aside0 (wc.heap[gb167]? = some (.cells #[.int .i8 t161, .int .i8 t162, .int .i8 t163, (.slice Ao31 t164.length co31)] 27 (0, 0))) ∧ Aside0 (Below w.heap.size w wc))
   case first =>
    have H := HC16.out
    clear HC16
    replace H := Option.bind_eq_some_iff.mp H
    obtain ⟨t175, A360, H⟩ := H
    replace H : (if t175 = true then (laws_FnExactCompletionsOf.j0 k l1 t157 t160 t168 t171 t174 (t174 != t160) a0_0 a0_1 a0_2 l0_3 t161 t162 t163 t164) else (laws_FnExactCompletionsOf.j0 k l1 t157 t160 t168 t171 t174 true a0_0 a0_1 a0_2 l0_3 t161 t162 t163 t164)) = some r := H
    have A36 := Aside0.mk A360
    clear A360
    by_cases c37 : t175 = true
    ·subst c37
     have H1 : (laws_FnExactCompletionsOf.j0 k l1 t157 t160 t168 t171 t174 (t174 != t160) a0_0 a0_1 a0_2 l0_3 t161 t162 t163 t164) = some r := by rw [if_pos rfl] at H; exact H
     clear H
     have H := H1
     clear H1
     have H' := Aside0.mk H
     clear H
     obtain ⟨Ao38, co38, eo38⟩ := Kd.R_slice HO173.out
     subst eo38
     obtain ⟨Ao39, co39, eo39⟩ := Kd.R_slice HO159.out
     subst eo39
     go_wp2_with (first | ((with_reducible refine gate_callee (f := 25) rfl ?_); refine goesL_ (some 45) rfl rfl Try.func25 (by kernel_rfl) rfl #[.slice Ao38 t171.length co38, .slice Ao39 t157.length co39] rfl (by (try simp only [List.map_toArray, List.map_cons, List.map_nil]); first | done | rfl | (simp only [List.length_drop, List.length_take]; rfl)) ?_; (with_reducible refine (laws_eqInt64S.calls k _ _ t171 _ _ t157 true _ ?side1 ?side2 ?side3 ?side4 A36.out).mono ?_); (case side1 => repeat (first | exact (Kd.R_reads' HO173.out).2.2 | (with_reducible refine Kd.C_alloc ?_ _) | (with_reducible refine Kd.C_drewN ?_ _) | (with_reducible refine Kd.C_drew ?_))); (case side2 => exact (Kd.R_reads' HO173.out).2.1); (case side3 => repeat (first | exact (Kd.R_reads' HO159.out).2.2 | (with_reducible refine Kd.C_alloc ?_ _) | (with_reducible refine Kd.C_drewN ?_ _) | (with_reducible refine Kd.C_drew ?_))); (case side4 => exact (Kd.R_reads' HO159.out).2.1); rintro e w' ⟨rfl, ⟨nd, rfl⟩⟩; refine ⟨_, rfl, ?_⟩))
     go_meet
     case rel => exact ⟨_, ((t174 != t160)), (by first | rfl | (simp; done) | (simp [*]; done)), H', ⟨by first | omega | exact Nat.le_refl _⟩, ⟨by (with_reducible repeat (first | apply Kd.R_alloc | apply Kd.R_drewN | apply Kd.R_drew)); exact Kd.R_mono HO159.out (fun _ hk => hk.2)⟩, ⟨by (with_reducible repeat (first | apply Kd.R_alloc | apply Kd.R_drewN | apply Kd.R_drew)); exact Kd.R_mono HO170.out (fun _ hk => trivial)⟩, ⟨by (with_reducible repeat (first | apply Kd.R_alloc | apply Kd.R_drewN | apply Kd.R_drew)); exact Kd.R_mono HO173.out (fun _ hk => hk.2)⟩, ⟨by (with_reducible repeat (first | apply Kd.R_alloc | apply Kd.R_drewN | apply Kd.R_drew)); exact Kd.R_mono HO166.out (fun _ hk => trivial)⟩, ⟨by (with_reducible repeat (first | refine blk_drewN ?_ _ | refine blk_drew ?_ | refine blk_alloc ?_ _)); exact BK146.out⟩, ⟨by (with_reducible repeat (first | refine blk_drewN ?_ _ | refine blk_drew ?_ | refine blk_alloc ?_ _)); exact BK167.out⟩, ⟨by repeat (first | (with_reducible first | exact HB.out | apply below_alloc | apply pw_below_drewN | apply below_drew1 | refine below_set ?_ GE146.out | refine below_set ?_ GE167.out) | exact HB.out)⟩⟩
    ·replace c37 := Bool.eq_false_iff.mpr c37
     subst c37
     have H1 : (laws_FnExactCompletionsOf.j0 k l1 t157 t160 t168 t171 t174 true a0_0 a0_1 a0_2 l0_3 t161 t162 t163 t164) = some r := by rw [if_neg (show ¬ (false = true) by decide)] at H; exact H
     clear H
     have H := H1
     clear H1
     have H' := Aside0.mk H
     clear H
     obtain ⟨Ao40, co40, eo40⟩ := Kd.R_slice HO173.out
     subst eo40
     obtain ⟨Ao41, co41, eo41⟩ := Kd.R_slice HO159.out
     subst eo41
     go_wp2_with (first | ((with_reducible refine gate_callee (f := 25) rfl ?_); refine goesL_ (some 45) rfl rfl Try.func25 (by kernel_rfl) rfl #[.slice Ao40 t171.length co40, .slice Ao41 t157.length co41] rfl (by (try simp only [List.map_toArray, List.map_cons, List.map_nil]); first | done | rfl | (simp only [List.length_drop, List.length_take]; rfl)) ?_; (with_reducible refine (laws_eqInt64S.calls k _ _ t171 _ _ t157 false _ ?side1 ?side2 ?side3 ?side4 A36.out).mono ?_); (case side1 => repeat (first | exact (Kd.R_reads' HO173.out).2.2 | (with_reducible refine Kd.C_alloc ?_ _) | (with_reducible refine Kd.C_drewN ?_ _) | (with_reducible refine Kd.C_drew ?_))); (case side2 => exact (Kd.R_reads' HO173.out).2.1); (case side3 => repeat (first | exact (Kd.R_reads' HO159.out).2.2 | (with_reducible refine Kd.C_alloc ?_ _) | (with_reducible refine Kd.C_drewN ?_ _) | (with_reducible refine Kd.C_drew ?_))); (case side4 => exact (Kd.R_reads' HO159.out).2.1); rintro e w' ⟨rfl, ⟨nd, rfl⟩⟩; refine ⟨_, rfl, ?_⟩))
     go_meet
     case rel => exact ⟨_, (true), (by first | rfl | (simp; done) | (simp [*]; done)), H', ⟨by first | omega | exact Nat.le_refl _⟩, ⟨by (with_reducible repeat (first | apply Kd.R_alloc | apply Kd.R_drewN | apply Kd.R_drew)); exact Kd.R_mono HO159.out (fun _ hk => hk.2)⟩, ⟨by (with_reducible repeat (first | apply Kd.R_alloc | apply Kd.R_drewN | apply Kd.R_drew)); exact Kd.R_mono HO170.out (fun _ hk => trivial)⟩, ⟨by (with_reducible repeat (first | apply Kd.R_alloc | apply Kd.R_drewN | apply Kd.R_drew)); exact Kd.R_mono HO173.out (fun _ hk => hk.2)⟩, ⟨by (with_reducible repeat (first | apply Kd.R_alloc | apply Kd.R_drewN | apply Kd.R_drew)); exact Kd.R_mono HO166.out (fun _ hk => trivial)⟩, ⟨by (with_reducible repeat (first | refine blk_drewN ?_ _ | refine blk_drew ?_ | refine blk_alloc ?_ _)); exact BK146.out⟩, ⟨by (with_reducible repeat (first | refine blk_drewN ?_ _ | refine blk_drew ?_ | refine blk_alloc ?_ _)); exact BK167.out⟩, ⟨by repeat (first | (with_reducible first | exact HB.out | apply below_alloc | apply pw_below_drewN | apply below_drew1 | refine below_set ?_ GE146.out | refine below_set ?_ GE167.out) | exact HB.out)⟩⟩
   case rest =>
    clear HC16
    try clear c1
    try clear c2
    try clear p2
    try clear c3
    try clear c3b0
    try clear c3b1
    try clear c4
    try clear c6
    try clear c6b0
    try clear c10
    try clear c12
    try clear c14
    try clear c25
    try clear c29
    try clear c37
    try clear c40
    try clear c41
    try clear hcz18_0
    try clear hcz18_1
    try clear hcz18_2
    try clear hcz18_3
    try clear hcz20_0
    try clear hcz20_1
    try clear hcz20_2
    try clear hcz20_3
    try clear hcz26_0
    try clear hcz26_1
    try clear hcz26_2
    try clear hcz26_3
    try clear hcz30_0
    try clear hcz30_1
    try clear hcz30_2
    try clear hcz30_3
    try clear hcz33_0
    try clear hcz33_1
    try clear hcz33_2
    try clear hcz33_3
    try clear hcz8_0
    try clear hcz8_1
    try clear hcz8_2
    try clear hcz8_3
    try clear hfz18_0
    try clear hfz18_1
    try clear hfz18_2
    try clear hfz18_3
    try clear hfz20_0
    try clear hfz20_1
    try clear hfz20_2
    try clear hfz20_3
    try clear hfz26_0
    try clear hfz26_1
    try clear hfz26_2
    try clear hfz26_3
    try clear hfz30_0
    try clear hfz30_1
    try clear hfz30_2
    try clear hfz30_3
    try clear hfz33_0
    try clear hfz33_1
    try clear hfz33_2
    try clear hfz33_3
    try clear hfz8_0
    try clear hfz8_1
    try clear hfz8_2
    try clear hfz8_3
    obtain ⟨kq, x51_15, rfl, HA, HJ15, HO_6, HO_9, HO_10, HO_168003, BK146, BK167, HB⟩ := hcut
    cases kq with
    | zero => exact absurd HA.out (by simp [laws_FnExactCompletionsOf.j0])
    | succ kj15 =>
     have H := HA.out
     clear HA
     simp only [laws_FnExactCompletionsOf.j0] at H
     by_cases c42 : x51_15 = true
     ·subst c42
      have H1 : (some false) = some r := by rw [if_pos rfl] at H; exact H
      clear H
      have H := H1
      clear H1
      obtain rfl := Option.some.inj H
      go_wp2
      go_ret
      exact ⟨by first | rfl | (simp [errW_none, errW_some] <;> rfl) | (simp [*, errW_none, errW_some] <;> rfl), by repeat (first | (with_reducible first | exact HB.out | apply below_alloc | apply pw_below_drewN | apply below_drew1 | refine below_set ?_ GE146.out | refine below_set ?_ GE167.out) | exact HB.out)⟩
     ·replace c42 := Bool.eq_false_iff.mpr c42
      subst c42
      have H1 : ((laws_toBook.f kj15 a0_0 a0_1 a0_2 l0_3).bind fun bt176 => ((laws_eqBook.f kj15 t161 t162 t163 t164 bt176.1 bt176.2.1 bt176.2.2.1 bt176.2.2.2).bind fun t182 => (if t182 = true then ((laws_toMeaning.f kj15 l1).bind fun t183 => ((laws_eqMeaning.f kj15 t168 t183).bind fun t186 => (if t186 = true then ((laws_markBook.f kj15 t161 t162 t163 t164 1).bind fun bt187 => ((laws_markMeaning.f kj15 t168 bt187.1).bind fun bt189 => (if bt189.1 < 0 then (laws_FnExactCompletionsOf.j1 kj15 l1 t157 t160 t171 true a0_0 a0_1 a0_2 l0_3) else ((laws_eqInt64S.f kj15 t171 t157).bind fun t191 => (if t191 = true then (laws_FnExactCompletionsOf.j1 kj15 l1 t157 t160 t171 (t174 != t160) a0_0 a0_1 a0_2 l0_3) else (laws_FnExactCompletionsOf.j1 kj15 l1 t157 t160 t171 true a0_0 a0_1 a0_2 l0_3)))))) else (some false)))) else (some false)))) = some r := by rw [if_neg (show ¬ (false = true) by decide)] at H; exact H
      clear H
      have H := H1
      clear H1
      replace H := Option.bind_eq_some_iff.mp H
      obtain ⟨⟨t176, t177, t178, t179⟩, A430, H⟩ := H
      replace H : ((laws_eqBook.f kj15 t161 t162 t163 t164 t176 t177 t178 t179).bind fun t182 => (if t182 = true then ((laws_toMeaning.f kj15 l1).bind fun t183 => ((laws_eqMeaning.f kj15 t168 t183).bind fun t186 => (if t186 = true then ((laws_markBook.f kj15 t161 t162 t163 t164 1).bind fun bt187 => ((laws_markMeaning.f kj15 t168 bt187.1).bind fun bt189 => (if bt189.1 < 0 then (laws_FnExactCompletionsOf.j1 kj15 l1 t157 t160 t171 true a0_0 a0_1 a0_2 l0_3) else ((laws_eqInt64S.f kj15 t171 t157).bind fun t191 => (if t191 = true then (laws_FnExactCompletionsOf.j1 kj15 l1 t157 t160 t171 (t174 != t160) a0_0 a0_1 a0_2 l0_3) else (laws_FnExactCompletionsOf.j1 kj15 l1 t157 t160 t171 true a0_0 a0_1 a0_2 l0_3)))))) else (some false)))) else (some false))) = some r := H
      have A43 := Aside0.mk A430
      clear A430
      replace H := Option.bind_eq_some_iff.mp H
      obtain ⟨t182, A440, H⟩ := H
      replace H : (if t182 = true then ((laws_toMeaning.f kj15 l1).bind fun t183 => ((laws_eqMeaning.f kj15 t168 t183).bind fun t186 => (if t186 = true then ((laws_markBook.f kj15 t161 t162 t163 t164 1).bind fun bt187 => ((laws_markMeaning.f kj15 t168 bt187.1).bind fun bt189 => (if bt189.1 < 0 then (laws_FnExactCompletionsOf.j1 kj15 l1 t157 t160 t171 true a0_0 a0_1 a0_2 l0_3) else ((laws_eqInt64S.f kj15 t171 t157).bind fun t191 => (if t191 = true then (laws_FnExactCompletionsOf.j1 kj15 l1 t157 t160 t171 (t174 != t160) a0_0 a0_1 a0_2 l0_3) else (laws_FnExactCompletionsOf.j1 kj15 l1 t157 t160 t171 true a0_0 a0_1 a0_2 l0_3)))))) else (some false)))) else (some false)) = some r := H
      have A44 := Aside0.mk A440
      clear A440
      by_cases c45 : t182 = true
      ·subst c45
       have H1 : ((laws_toMeaning.f kj15 l1).bind fun t183 => ((laws_eqMeaning.f kj15 t168 t183).bind fun t186 => (if t186 = true then ((laws_markBook.f kj15 t161 t162 t163 t164 1).bind fun bt187 => ((laws_markMeaning.f kj15 t168 bt187.1).bind fun bt189 => (if bt189.1 < 0 then (laws_FnExactCompletionsOf.j1 kj15 l1 t157 t160 t171 true a0_0 a0_1 a0_2 l0_3) else ((laws_eqInt64S.f kj15 t171 t157).bind fun t191 => (if t191 = true then (laws_FnExactCompletionsOf.j1 kj15 l1 t157 t160 t171 (t174 != t160) a0_0 a0_1 a0_2 l0_3) else (laws_FnExactCompletionsOf.j1 kj15 l1 t157 t160 t171 true a0_0 a0_1 a0_2 l0_3)))))) else (some false)))) = some r := by rw [if_pos rfl] at H; exact H
       clear H
       have H := H1
       clear H1
       replace H := Option.bind_eq_some_iff.mp H
       obtain ⟨t183, A460, H⟩ := H
       replace H : ((laws_eqMeaning.f kj15 t168 t183).bind fun t186 => (if t186 = true then ((laws_markBook.f kj15 t161 t162 t163 t164 1).bind fun bt187 => ((laws_markMeaning.f kj15 t168 bt187.1).bind fun bt189 => (if bt189.1 < 0 then (laws_FnExactCompletionsOf.j1 kj15 l1 t157 t160 t171 true a0_0 a0_1 a0_2 l0_3) else ((laws_eqInt64S.f kj15 t171 t157).bind fun t191 => (if t191 = true then (laws_FnExactCompletionsOf.j1 kj15 l1 t157 t160 t171 (t174 != t160) a0_0 a0_1 a0_2 l0_3) else (laws_FnExactCompletionsOf.j1 kj15 l1 t157 t160 t171 true a0_0 a0_1 a0_2 l0_3)))))) else (some false))) = some r := H
       have A46 := Aside0.mk A460
       clear A460
       replace H := Option.bind_eq_some_iff.mp H
       obtain ⟨t186, A470, H⟩ := H
       replace H : (if t186 = true then ((laws_markBook.f kj15 t161 t162 t163 t164 1).bind fun bt187 => ((laws_markMeaning.f kj15 t168 bt187.1).bind fun bt189 => (if bt189.1 < 0 then (laws_FnExactCompletionsOf.j1 kj15 l1 t157 t160 t171 true a0_0 a0_1 a0_2 l0_3) else ((laws_eqInt64S.f kj15 t171 t157).bind fun t191 => (if t191 = true then (laws_FnExactCompletionsOf.j1 kj15 l1 t157 t160 t171 (t174 != t160) a0_0 a0_1 a0_2 l0_3) else (laws_FnExactCompletionsOf.j1 kj15 l1 t157 t160 t171 true a0_0 a0_1 a0_2 l0_3)))))) else (some false)) = some r := H
       have A47 := Aside0.mk A470
       clear A470
       by_cases c48 : t186 = true
       ·subst c48
        have H1 : ((laws_markBook.f kj15 t161 t162 t163 t164 1).bind fun bt187 => ((laws_markMeaning.f kj15 t168 bt187.1).bind fun bt189 => (if bt189.1 < 0 then (laws_FnExactCompletionsOf.j1 kj15 l1 t157 t160 t171 true a0_0 a0_1 a0_2 l0_3) else ((laws_eqInt64S.f kj15 t171 t157).bind fun t191 => (if t191 = true then (laws_FnExactCompletionsOf.j1 kj15 l1 t157 t160 t171 (t174 != t160) a0_0 a0_1 a0_2 l0_3) else (laws_FnExactCompletionsOf.j1 kj15 l1 t157 t160 t171 true a0_0 a0_1 a0_2 l0_3)))))) = some r := by rw [if_pos rfl] at H; exact H
        clear H
        have H := H1
        clear H1
        replace H := Option.bind_eq_some_iff.mp H
        obtain ⟨⟨t187, t188⟩, A490, H⟩ := H
        replace H : ((laws_markMeaning.f kj15 t168 t187).bind fun bt189 => (if bt189.1 < 0 then (laws_FnExactCompletionsOf.j1 kj15 l1 t157 t160 t171 true a0_0 a0_1 a0_2 l0_3) else ((laws_eqInt64S.f kj15 t171 t157).bind fun t191 => (if t191 = true then (laws_FnExactCompletionsOf.j1 kj15 l1 t157 t160 t171 (t174 != t160) a0_0 a0_1 a0_2 l0_3) else (laws_FnExactCompletionsOf.j1 kj15 l1 t157 t160 t171 true a0_0 a0_1 a0_2 l0_3))))) = some r := H
        have A49 := Aside0.mk A490
        clear A490
        replace H := Option.bind_eq_some_iff.mp H
        obtain ⟨⟨t189, t190⟩, A500, H⟩ := H
        replace H : (if t189 < 0 then (laws_FnExactCompletionsOf.j1 kj15 l1 t157 t160 t171 true a0_0 a0_1 a0_2 l0_3) else ((laws_eqInt64S.f kj15 t171 t157).bind fun t191 => (if t191 = true then (laws_FnExactCompletionsOf.j1 kj15 l1 t157 t160 t171 (t174 != t160) a0_0 a0_1 a0_2 l0_3) else (laws_FnExactCompletionsOf.j1 kj15 l1 t157 t160 t171 true a0_0 a0_1 a0_2 l0_3)))) = some r := H
        have A50 := Aside0.mk A500
        clear A500
        have HC51 := Aside0.mk H
        clear H
        try go_wp2
        have n0_ := Aside0.mk (Kd.R_drew HO_6.out)
        have n1_ := Aside0.mk (Kd.R_drew HO_9.out)
        have n2_ := Aside0.mk (Kd.R_drew HO_10.out)
        have n3_ := Aside0.mk (Kd.R_drew HO_168003.out)
        have n4_ := Aside0.mk (blk_drew BK146.out)
        have n5_ := Aside0.mk (blk_drew BK167.out)
        have n6_ := Aside0.mk (below_drew1 HB.out)
        clear HO_6
        clear HO_9
        clear HO_10
        clear HO_168003
        clear BK146
        clear BK167
        clear HB
        have HO_6 := n0_
        have HO_9 := n1_
        have HO_10 := n2_
        have HO_168003 := n3_
        have BK146 := n4_
        have BK167 := n5_
        have HB := n6_
        clear n0_ n1_ n2_ n3_ n4_ n5_ n6_
        refine start_ (n := 5) (S := fun w' => w'.cell? ⟨gb167, 0, none⟩ = some (.int .i8 t161) ∧ w'.cell? ⟨gb167, 1, none⟩ = some (.int .i8 t162) ∧ w'.cell? ⟨gb167, 2, none⟩ = some (.int .i8 t163) ∧ w'.cell? ⟨gb167, 3, none⟩ = some (.slice Ao31 t164.length co31) ∧ w'.cell? ⟨gb146, 0, none⟩ = some (.int .i8 a0_0) ∧ w'.cell? ⟨gb146, 1, none⟩ = some (.int .i8 a0_1) ∧ w'.cell? ⟨gb146, 2, none⟩ = some (.int .i8 a0_2) ∧ w'.cell? ⟨gb146, 3, none⟩ = some (.slice A0_3 l0_3.length c0_3)) (ds := []) #[false, false, false, false, false] (by kernel_rfl) rfl rfl ⟨(blk_cell BK167.out 0).trans rfl, (blk_cell BK167.out 1).trans rfl, (blk_cell BK167.out 2).trans rfl, (blk_cell BK167.out 3).trans rfl, (blk_cell BK146.out 0).trans rfl, (blk_cell BK146.out 1).trans rfl, (blk_cell BK146.out 2).trans rfl, (blk_cell BK146.out 3).trans rfl⟩ (fun hHeld => ?_)
        generalize wc.drew = w52 at HO_6 HO_9 HO_10 HO_168003 BK146 BK167 HB hHeld ⊢
        refine take_ (i := 0) (N := some 52) (v := ?_) (a' := ?_) #[true, false, false, false, false] rfl rfl (by kernel_rfl) (fun _ _ _ h => h) (Or.inl ⟨by rfl, ?_⟩) hHeld ?_ ?_
        rotate_left
        ·rintro w' ⟨s0, s1, s2, s3, s4, s5, s6, s7⟩
         go_simp
         with_reducible rfl
        rotate_left
        ·simp only [Act.put, List.setIfInBounds_toArray, List.set_cons_zero, List.set_cons_succ, i64_w, i32_w]
         rfl
        refine take_ (i := 1) (N := some 53) (v := ?_) (a' := ?_) #[true, true, false, false, false] rfl rfl (by kernel_rfl) (fun _ _ _ h => h) (Or.inl ⟨by rfl, ?_⟩) hHeld ?_ ?_
        rotate_left
        ·rintro w' ⟨s0, s1, s2, s3, s4, s5, s6, s7⟩
         go_simp
         with_reducible rfl
        rotate_left
        ·simp only [Act.put, List.setIfInBounds_toArray, List.set_cons_zero, List.set_cons_succ, i64_w, i32_w]
         rfl
        refine one_ (i := 2) (N := some 54) #[true, true, true, false, false] rfl rfl (by kernel_rfl) (by decide) (fun K hK => ?_)
        refine goes_ Try.func14 (by kernel_rfl) rfl #[.agg #[.int .i8 a0_0, .int .i8 a0_1, .int .i8 a0_2, .slice A0_3 l0_3.length c0_3]] (by rfl) rfl rfl (by (try simp only [List.map_toArray, List.map_cons, List.map_nil]); first | done | rfl | (simp only [List.length_drop, List.length_take]; rfl)) ?_
        with_reducible refine (laws_toBook.calls kj15 a0_0 a0_1 a0_2 _ _ l0_3 t176 t177 t178 t179 _ ?side1 ?side2 A43.out).mono ?_
        (case side1 => repeat (first | exact (Kd.C_below HR0_3.out HB.out) | (with_reducible refine Kd.C_alloc ?_ _) | (with_reducible refine Kd.C_drewN ?_ _) | (with_reducible refine Kd.C_drew ?_)))
        (case side2 => exact HC0_3.out)
        rintro e w53 ⟨v180, rfl, ho0, hb⟩
        refine ⟨_, rfl, ?_⟩
        have n0_ := Aside0.mk (Kd.R_below (by (with_reducible repeat (first | apply Kd.R_alloc | apply Kd.R_drewN | apply Kd.R_drew)); exact HO_6.out) hb)
        have n1_ := Aside0.mk (Kd.R_below (by (with_reducible repeat (first | apply Kd.R_alloc | apply Kd.R_drewN | apply Kd.R_drew)); exact HO_9.out) hb)
        have n2_ := Aside0.mk (Kd.R_below (by (with_reducible repeat (first | apply Kd.R_alloc | apply Kd.R_drewN | apply Kd.R_drew)); exact HO_10.out) hb)
        have n3_ := Aside0.mk (Kd.R_elder' (by (with_reducible repeat (first | apply Kd.R_alloc | apply Kd.R_drewN | apply Kd.R_drew)); exact HO_168003.out) (Kd.R_base ho0) hb)
        have n4_ := Aside0.mk (Kd.R_lower (Kd.R_new' ho0 (Kd.R_lt (by (with_reducible repeat (first | apply Kd.R_alloc | apply Kd.R_drewN | apply Kd.R_drew)); exact HO_168003.out))) (below_size (by repeat (first | (with_reducible first | exact HB.out | apply below_alloc | apply pw_below_drewN | apply below_drew1 | refine below_set ?_ GE146.out | refine below_set ?_ GE167.out) | exact HB.out))))
        have n5_ := Aside0.mk (blk_below (g := gb146) (o := .cells #[.int .i8 a0_0, .int .i8 a0_1, .int .i8 a0_2, .slice A0_3 l0_3.length c0_3] 25 (0, 0)) (by (with_reducible repeat (first | refine blk_drewN ?_ _ | refine blk_drew ?_ | refine blk_alloc ?_ _)); exact BK146.out) hb)
        have n6_ := Aside0.mk (blk_below (g := gb167) (o := .cells #[.int .i8 t161, .int .i8 t162, .int .i8 t163, .slice Ao31 t164.length co31] 27 (0, 0)) (by (with_reducible repeat (first | refine blk_drewN ?_ _ | refine blk_drew ?_ | refine blk_alloc ?_ _)); exact BK167.out) hb)
        have n7_ := Aside0.mk (below_step (by repeat (first | (with_reducible first | exact HB.out | apply below_alloc | apply pw_below_drewN | apply below_drew1 | refine below_set ?_ GE146.out | refine below_set ?_ GE167.out) | exact HB.out)) hb)
        clear HO_6
        clear HO_9
        clear HO_10
        clear HO_168003
        clear BK146
        clear BK167
        clear HB
        have HO_6 := n0_
        have HO_9 := n1_
        have HO_10 := n2_
        have HO_168003 := n3_
        have HO181 := n4_
        have BK146 := n5_
        have BK167 := n6_
        have HB := n7_
        clear n0_ n1_ n2_ n3_ n4_ n5_ n6_ n7_
        (try clear hb)
        (try clear hb2)
        (try clear hk)
        (try clear hi)
        (try clear ho0)
        obtain ⟨Ao54, co54, eo54⟩ := Kd.R_slice HO181.out
        (first | subst eo54 | (injection eo54 with f1_ f2_ f3_; have f4_ := f1_.symm; have f5_ := f3_.symm; clear f1_ f2_ f3_; subst f4_; subst f5_))
        refine hK.out _ _ ⟨(blk_cell BK167.out 0).trans rfl, (blk_cell BK167.out 1).trans rfl, (blk_cell BK167.out 2).trans rfl, (blk_cell BK167.out 3).trans rfl, (blk_cell BK146.out 0).trans rfl, (blk_cell BK146.out 1).trans rfl, (blk_cell BK146.out 2).trans rfl, (blk_cell BK146.out 3).trans rfl⟩ (fun hHeld => ?_)
        clear hK K
        refine norm_ (a' := ?_) ?_ ?_
        rotate_left
        ·show Act.put _ (some 54) _ = _
         simp only [Act.put, List.setIfInBounds_toArray, List.set_cons_zero, List.set_cons_succ, i64_w, i32_w]
         rfl
        refine one_ (i := 3) (N := some 55) #[true, true, true, true, false] rfl rfl (by kernel_rfl) (by decide) (fun K hK => ?_)
        refine goes_ Try.func16 (by kernel_rfl) rfl #[.agg #[.int .i8 t161, .int .i8 t162, .int .i8 t163, .slice Ao31 t164.length co31], .agg #[.int .i8 t176, .int .i8 t177, .int .i8 t178, .slice Ao54 t179.length co54]] (by rfl) rfl rfl (by (try simp only [List.map_toArray, List.map_cons, List.map_nil]); first | done | rfl | (simp only [List.length_drop, List.length_take]; rfl)) ?_
        with_reducible refine (laws_eqBook.calls kj15 t161 t162 t163 _ _ t164 t176 t177 t178 _ _ t179 true _ ?side1 ?side2 ?side3 ?side4 A44.out).mono ?_
        (case side1 => repeat (first | exact (Kd.R_reads' HO_168003.out).2.2 | (with_reducible refine Kd.C_alloc ?_ _) | (with_reducible refine Kd.C_drewN ?_ _) | (with_reducible refine Kd.C_drew ?_)))
        (case side2 => exact (Kd.R_reads' HO_168003.out).2.1)
        (case side3 => repeat (first | exact (Kd.R_reads' HO181.out).2.2 | (with_reducible refine Kd.C_alloc ?_ _) | (with_reducible refine Kd.C_drewN ?_ _) | (with_reducible refine Kd.C_drew ?_)))
        (case side4 => exact (Kd.R_reads' HO181.out).2.1)
        rintro e w55 ⟨rfl, hb⟩
        refine ⟨_, rfl, ?_⟩
        have n0_ := Aside0.mk (Kd.R_below (by (with_reducible repeat (first | apply Kd.R_alloc | apply Kd.R_drewN | apply Kd.R_drew)); exact HO_6.out) hb)
        have n1_ := Aside0.mk (Kd.R_below (by (with_reducible repeat (first | apply Kd.R_alloc | apply Kd.R_drewN | apply Kd.R_drew)); exact HO_9.out) hb)
        have n2_ := Aside0.mk (Kd.R_below (by (with_reducible repeat (first | apply Kd.R_alloc | apply Kd.R_drewN | apply Kd.R_drew)); exact HO_10.out) hb)
        have n3_ := Aside0.mk (Kd.R_below (by (with_reducible repeat (first | apply Kd.R_alloc | apply Kd.R_drewN | apply Kd.R_drew)); exact HO_168003.out) hb)
        have n4_ := Aside0.mk (Kd.R_below (by (with_reducible repeat (first | apply Kd.R_alloc | apply Kd.R_drewN | apply Kd.R_drew)); exact HO181.out) hb)
        have n5_ := Aside0.mk (blk_below (g := gb146) (o := .cells #[.int .i8 a0_0, .int .i8 a0_1, .int .i8 a0_2, .slice A0_3 l0_3.length c0_3] 25 (0, 0)) (by (with_reducible repeat (first | refine blk_drewN ?_ _ | refine blk_drew ?_ | refine blk_alloc ?_ _)); exact BK146.out) hb)
        have n6_ := Aside0.mk (blk_below (g := gb167) (o := .cells #[.int .i8 t161, .int .i8 t162, .int .i8 t163, .slice Ao31 t164.length co31] 27 (0, 0)) (by (with_reducible repeat (first | refine blk_drewN ?_ _ | refine blk_drew ?_ | refine blk_alloc ?_ _)); exact BK167.out) hb)
        have n7_ := Aside0.mk (below_step (by repeat (first | (with_reducible first | exact HB.out | apply below_alloc | apply pw_below_drewN | apply below_drew1 | refine below_set ?_ GE146.out | refine below_set ?_ GE167.out) | exact HB.out)) hb)
        clear HO_6
        clear HO_9
        clear HO_10
        clear HO_168003
        clear HO181
        clear BK146
        clear BK167
        clear HB
        have HO_6 := n0_
        have HO_9 := n1_
        have HO_10 := n2_
        have HO_168003 := n3_
        have HO181 := n4_
        have BK146 := n5_
        have BK167 := n6_
        have HB := n7_
        clear n0_ n1_ n2_ n3_ n4_ n5_ n6_ n7_
        (try clear hb)
        (try clear hb2)
        (try clear hk)
        (try clear hi)
        refine hK.out _ _ ⟨(blk_cell BK167.out 0).trans rfl, (blk_cell BK167.out 1).trans rfl, (blk_cell BK167.out 2).trans rfl, (blk_cell BK167.out 3).trans rfl, (blk_cell BK146.out 0).trans rfl, (blk_cell BK146.out 1).trans rfl, (blk_cell BK146.out 2).trans rfl, (blk_cell BK146.out 3).trans rfl⟩ (fun hHeld => ?_)
        clear hK K
        refine norm_ (a' := ?_) ?_ ?_
        rotate_left
        ·show Act.put _ (some 55) _ = _
         simp only [Act.put, List.setIfInBounds_toArray, List.set_cons_zero, List.set_cons_succ, i64_w, i32_w]
         rfl
        refine pure_ (i := 4) (N := some 56) (v := ?_) (a' := ?_) #[true, true, true, true, true] rfl rfl (by kernel_rfl) (fun _ _ _ h => h) (Or.inl ⟨by rfl, ?_⟩) ?_ ?_
        rotate_left
        ·intro w'
         go_simp
         with_reducible rfl
        rotate_left
        ·simp only [Act.put, List.setIfInBounds_toArray, List.set_cons_zero, List.set_cons_succ, i64_w, i32_w]
         rfl
        refine done_ (by kernel_rfl) ?_
        go_upto_region 20 with (first | ((with_reducible refine gate_callee (f := 29) rfl ?_); refine goesL_ (some 59) rfl rfl Try.func29 (by kernel_rfl) rfl #[.slice A1 l1.length c1] rfl (by (try simp only [List.map_toArray, List.map_cons, List.map_nil]); first | done | rfl | (simp only [List.length_drop, List.length_take]; rfl)) ?_; (with_reducible refine (laws_toMeaning.calls kj15 _ _ l1 t183 _ ?side1 ?side2 A46.out).mono ?_); (case side1 => repeat (first | exact (Kd.C_below HR1.out HB.out) | (with_reducible refine Kd.C_alloc ?_ _) | (with_reducible refine Kd.C_drewN ?_ _) | (with_reducible refine Kd.C_drew ?_))); (case side2 => exact HC1.out); rintro e w56 ⟨v184, rfl, ho0, hb⟩; refine ⟨_, rfl, ?_⟩; have n0_ := Aside0.mk (Kd.R_below (by (with_reducible repeat (first | apply Kd.R_alloc | apply Kd.R_drewN | apply Kd.R_drew)); exact HO_6.out) hb); have n1_ := Aside0.mk (Kd.R_elder' (by (with_reducible repeat (first | apply Kd.R_alloc | apply Kd.R_drewN | apply Kd.R_drew)); exact HO_9.out) (Kd.R_base ho0) hb); have n2_ := Aside0.mk (Kd.R_below (by (with_reducible repeat (first | apply Kd.R_alloc | apply Kd.R_drewN | apply Kd.R_drew)); exact HO_10.out) hb); have n3_ := Aside0.mk (Kd.R_below (by (with_reducible repeat (first | apply Kd.R_alloc | apply Kd.R_drewN | apply Kd.R_drew)); exact HO_168003.out) hb); have n4_ := Aside0.mk (Kd.R_below (by (with_reducible repeat (first | apply Kd.R_alloc | apply Kd.R_drewN | apply Kd.R_drew)); exact HO181.out) hb); have n5_ := Aside0.mk (Kd.R_lower (Kd.R_new' ho0 (Kd.R_lt (by (with_reducible repeat (first | apply Kd.R_alloc | apply Kd.R_drewN | apply Kd.R_drew)); exact HO_9.out))) (below_size (by repeat (first | (with_reducible first | exact HB.out | apply below_alloc | apply pw_below_drewN | apply below_drew1 | refine below_set ?_ GE146.out | refine below_set ?_ GE167.out) | exact HB.out)))); have n6_ := Aside0.mk (blk_below (g := gb146) (o := .cells #[.int .i8 a0_0, .int .i8 a0_1, .int .i8 a0_2, .slice A0_3 l0_3.length c0_3] 25 (0, 0)) (by (with_reducible repeat (first | refine blk_drewN ?_ _ | refine blk_drew ?_ | refine blk_alloc ?_ _)); exact BK146.out) hb); have n7_ := Aside0.mk (blk_below (g := gb167) (o := .cells #[.int .i8 t161, .int .i8 t162, .int .i8 t163, .slice Ao31 t164.length co31] 27 (0, 0)) (by (with_reducible repeat (first | refine blk_drewN ?_ _ | refine blk_drew ?_ | refine blk_alloc ?_ _)); exact BK167.out) hb); have n8_ := Aside0.mk (below_step (by repeat (first | (with_reducible first | exact HB.out | apply below_alloc | apply pw_below_drewN | apply below_drew1 | refine below_set ?_ GE146.out | refine below_set ?_ GE167.out) | exact HB.out)) hb); clear HO_6; clear HO_9; clear HO_10; clear HO_168003; clear HO181; clear BK146; clear BK167; clear HB; have HO_6 := n0_; have HO_9 := n1_; have HO_10 := n2_; have HO_168003 := n3_; have HO181 := n4_; have HO185 := n5_; have BK146 := n6_; have BK167 := n7_; have HB := n8_; clear n0_ n1_ n2_ n3_ n4_ n5_ n6_ n7_ n8_; (try clear hb); (try clear hb2); (try clear hk); (try clear hi); (try clear ho0); obtain ⟨Ao57, co57, eo57⟩ := Kd.R_slice HO185.out; subst eo57) | ((with_reducible refine gate_callee (f := 31) rfl ?_); refine goesL_ (some 60) rfl rfl Try.func31 (by kernel_rfl) rfl #[.slice Ao34 t168.length co34, .slice Ao57 t183.length co57] rfl (by (try simp only [List.map_toArray, List.map_cons, List.map_nil]); first | done | rfl | (simp only [List.length_drop, List.length_take]; rfl)) ?_; (with_reducible refine (laws_eqMeaning.calls kj15 _ _ t168 _ _ t183 true _ ?side1 ?side2 ?side3 ?side4 A47.out).mono ?_); (case side1 => repeat (first | exact (Kd.R_reads' HO_9.out).2.2 | (with_reducible refine Kd.C_alloc ?_ _) | (with_reducible refine Kd.C_drewN ?_ _) | (with_reducible refine Kd.C_drew ?_))); (case side2 => exact (Kd.R_reads' HO_9.out).2.1); (case side3 => repeat (first | exact (Kd.R_reads' HO185.out).2.2 | (with_reducible refine Kd.C_alloc ?_ _) | (with_reducible refine Kd.C_drewN ?_ _) | (with_reducible refine Kd.C_drew ?_))); (case side4 => exact (Kd.R_reads' HO185.out).2.1); rintro e w' ⟨rfl, ⟨nd, rfl⟩⟩; refine ⟨_, rfl, ?_⟩; have hnb58 := NB167_146.out; have hnc58 := NB146_167.out; have hcz59_0 : w56.cell? ⟨gb167, 0, none⟩ = some (.int .i8 t161) := (blk_cell BK167.out 0).trans rfl; have hcz59_1 : w56.cell? ⟨gb167, 1, none⟩ = some (.int .i8 t162) := (blk_cell BK167.out 1).trans rfl; have hcz59_2 : w56.cell? ⟨gb167, 2, none⟩ = some (.int .i8 t163) := (blk_cell BK167.out 2).trans rfl; have hcz59_3 : w56.cell? ⟨gb167, 3, none⟩ = some (.slice Ao31 t164.length co31) := (blk_cell BK167.out 3).trans rfl; have hfz59_0 := blk_frozen BK167.out 0; have hfz59_1 := blk_frozen BK167.out 1; have hfz59_2 := blk_frozen BK167.out 2; have hfz59_3 := blk_frozen BK167.out 3) | ((with_reducible refine gate_callee (f := 17) rfl ?_); refine goesL_ (some 64) rfl rfl Try.func17 (by kernel_rfl) rfl #[.agg #[.int .i8 t161, .int .i8 t162, .int .i8 t163, .slice Ao31 t164.length co31], .int .i64 1] rfl (by (try simp only [List.map_toArray, List.map_cons, List.map_nil]); first | done | rfl | (simp only [List.length_drop, List.length_take]; rfl)) ?_; (with_reducible refine (laws_markBook.calls kj15 t161 t162 t163 (fun k_ => some k_ = (.slice Ao31 t164.length co31 : Value).ownBlock) (.slice Ao31 t164.length co31) t164 1 t187 t188 w _ ?side1 ?side2 A49.out).mono ?_); (case side1 => repeat (first | (with_reducible first | exact HB.out | apply below_alloc | apply pw_below_drewN | apply below_drew1 | refine below_set ?_ GE146.out | refine below_set ?_ GE167.out) | exact HB.out)); (case side2 => exact Kd.R_tight rfl HO_168003.out); rintro e w60 ⟨rfl, hy0, hb, hkp⟩; refine ⟨_, rfl, ?_⟩; have n0_ := Aside0.mk (Kd.R_mono (ok' := fun k_ => some k_ ≠ (v172 : Value).ownBlock) (Kd.R_keptB ((Kd.R_apart' HO_6.out (Kd.R_typed HO_168003.out) (by decide))) hkp (fun k_ hk_ hs_ => (hk_.2) hs_)) (fun k_ hk_ => hk_.1.1)); have n1_ := Aside0.mk (Kd.R_mono (ok' := fun k_ => some k_ ≠ (.slice Ao57 t183.length co57 : Value).ownBlock) (Kd.R_keptB ((Kd.R_apart' HO_9.out (Kd.R_typed HO_168003.out) (by decide))) hkp (fun k_ hk_ hs_ => (hk_.2) hs_)) (fun k_ hk_ => hk_.1.1.2)); have n2_ := Aside0.mk (Kd.R_mono (ok' := fun k_ => some k_ ≠ (v158 : Value).ownBlock) (Kd.R_keptB ((Kd.R_apart' HO_10.out (Kd.R_typed HO_168003.out) (by decide))) hkp (fun k_ hk_ hs_ => (hk_.2) hs_)) (fun k_ hk_ => hk_.1.1)); have n3_ := Aside0.mk (Kd.R_reok rfl hy0 (fun k_ e_ => HO_168003.out.1 k_ e_)); have n4_ := Aside0.mk (blk_kept (by (with_reducible repeat (first | refine blk_drewN ?_ _ | refine blk_drew ?_ | refine blk_alloc ?_ _)); exact BK146.out) hkp (fun hs_ => (fun e_ => (Kd.R_ne HO_168003.out BK146.out (by decide)) e_) hs_)); have n5_ := Aside0.mk (blk_kept (by (with_reducible repeat (first | refine blk_drewN ?_ _ | refine blk_drew ?_ | refine blk_alloc ?_ _)); exact BK167.out) hkp (fun hs_ => (fun e_ => (Kd.R_ne HO_168003.out BK167.out (by decide)) e_) hs_)); have n6_ := Aside0.mk (Kd.R_mono (ok' := fun k_ => some k_ ≠ (.slice Ao31 t164.length co31 : Value).ownBlock) (Kd.R_keptB (HO181.out) hkp (fun k_ hk_ hs_ => (hk_.2) hs_)) (fun k_ hk_ => hk_.1.2)); have n7_ := Aside0.mk (Kd.R_mono (ok' := fun k_ => some k_ ≠ (.slice Ao34 t168.length co34 : Value).ownBlock) (Kd.R_keptB ((Kd.R_apart' HO185.out (Kd.R_typed HO_168003.out) (by decide))) hkp (fun k_ hk_ hs_ => (hk_.2) hs_)) (fun k_ hk_ => hk_.1.1.2)); have n8_ := Aside0.mk (hb); clear HO_6; clear HO_9; clear HO_10; clear HO_168003; clear BK146; clear BK167; clear HO181; clear HO185; clear HB; have HO_6 := n0_; have HO_9 := n1_; have HO_10 := n2_; have HO_168003 := n3_; have BK146 := n4_; have BK167 := n5_; have HO181 := n6_; have HO185 := n7_; have HB := n8_; clear n0_ n1_ n2_ n3_ n4_ n5_ n6_ n7_ n8_; (try clear hb); (try clear hkp); (try clear hy0)) | ((with_reducible refine gate_callee (f := 42) rfl ?_); refine goesL_ (some 67) rfl rfl Try.func42 (by kernel_rfl) rfl #[.slice Ao34 t168.length co34, .int .i64 t187] rfl (by (try simp only [List.map_toArray, List.map_cons, List.map_nil]); first | done | rfl | (simp only [List.length_drop, List.length_take]; rfl)) ?_; (with_reducible refine (laws_markMeaning.calls kj15 (fun k_ => some k_ = (.slice Ao34 t168.length co34 : Value).ownBlock) (.slice Ao34 t168.length co34) t168 t187 t189 t190 w _ ?side1 ?side2 A50.out).mono ?_); (case side1 => repeat (first | (with_reducible first | exact HB.out | apply below_alloc | apply pw_below_drewN | apply below_drew1 | refine below_set ?_ GE146.out | refine below_set ?_ GE167.out) | exact HB.out)); (case side2 => exact Kd.R_tight rfl HO_9.out); rintro e w61 ⟨rfl, hy0, hb, hkp⟩; refine ⟨_, rfl, ?_⟩; have n0_ := Aside0.mk (Kd.R_mono (ok' := fun k_ => some k_ ≠ (v172 : Value).ownBlock) (Kd.R_keptB ((Kd.R_apart' HO_6.out (Kd.R_typed HO_9.out) (by decide))) hkp (fun k_ hk_ hs_ => (hk_.2) hs_)) (fun k_ hk_ => hk_.1.1)); have n1_ := Aside0.mk (Kd.R_reok rfl hy0 (fun k_ e_ => HO_9.out.1 k_ e_)); have n2_ := Aside0.mk (Kd.R_mono (ok' := fun k_ => some k_ ≠ (v158 : Value).ownBlock) (Kd.R_keptB ((Kd.R_apart' HO_10.out (Kd.R_typed HO_9.out) (by decide))) hkp (fun k_ hk_ hs_ => (hk_.2) hs_)) (fun k_ hk_ => hk_.1.1)); have n3_ := Aside0.mk (Kd.R_mono (ok' := fun k_ => some k_ ≠ (.slice Ao54 t179.length co54 : Value).ownBlock) (Kd.R_keptB ((Kd.R_apart' HO_168003.out (Kd.R_typed HO_9.out) (by decide))) hkp (fun k_ hk_ hs_ => (hk_.2) hs_)) (fun k_ hk_ => hk_.1.1.2)); have n4_ := Aside0.mk (blk_kept (by (with_reducible repeat (first | refine blk_drewN ?_ _ | refine blk_drew ?_ | refine blk_alloc ?_ _)); exact BK146.out) hkp (fun hs_ => (fun e_ => (Kd.R_ne HO_9.out BK146.out (by decide)) e_) hs_)); have n5_ := Aside0.mk (blk_kept (by (with_reducible repeat (first | refine blk_drewN ?_ _ | refine blk_drew ?_ | refine blk_alloc ?_ _)); exact BK167.out) hkp (fun hs_ => (fun e_ => (Kd.R_ne HO_9.out BK167.out (by decide)) e_) hs_)); have n6_ := Aside0.mk (Kd.R_mono (ok' := fun k_ => some k_ ≠ (.slice Ao31 t164.length co31 : Value).ownBlock) (Kd.R_keptB ((Kd.R_apart' HO181.out (Kd.R_typed HO_9.out) (by decide))) hkp (fun k_ hk_ hs_ => (hk_.2) hs_)) (fun k_ hk_ => hk_.1.1)); have n7_ := Aside0.mk (Kd.R_mono (ok' := fun k_ => some k_ ≠ (.slice Ao34 t168.length co34 : Value).ownBlock) (Kd.R_keptB (HO185.out) hkp (fun k_ hk_ hs_ => (hk_) hs_)) (fun k_ hk_ => hk_.1)); have n8_ := Aside0.mk (hb); clear HO_6; clear HO_9; clear HO_10; clear HO_168003; clear BK146; clear BK167; clear HO181; clear HO185; clear HB; have HO_6 := n0_; have HO_9 := n1_; have HO_10 := n2_; have HO_168003 := n3_; have BK146 := n4_; have BK167 := n5_; have HO181 := n6_; have HO185 := n7_; have HB := n8_; clear n0_ n1_ n2_ n3_ n4_ n5_ n6_ n7_ n8_; (try clear hb); (try clear hkp); (try clear hy0)))
        (try simp only [Act.put, List.setIfInBounds_toArray, List.set_cons_zero, List.set_cons_succ])
        go_cut [80] (fun v80 wc => ∃ (kq : Nat) (x80_50 : Bool), v80 = .bool x80_50 ∧ Aside0 (laws_FnExactCompletionsOf.j1 kq l1 t157 t160 t171 x80_50 a0_0 a0_1 a0_2 l0_3 = some r) ∧ Aside0 (kq ≤ kj15) ∧ Aside0 (Kd.R (Kd.int .i64) 2 wc w.heap.size (fun k_ => some k_ ≠ (v172 : Value).ownBlock) v158 t157) ∧ Aside0 (Kd.R (Kd.int .i64) 2 wc w.heap.size (fun k_ => some k_ ≠ (v158 : Value).ownBlock) v172 t171) ∧ Aside0 (Kd.R Kd.string 9 wc w.heap.size (fun _ => True) (.slice Ao31 t164.length co31) t188) ∧ Aside0 (wc.heap[gb146]? = some (.cells #[.int .i8 a0_0, .int .i8 a0_1, .int .i8 a0_2, (.slice A0_3 l0_3.length c0_3)] 25 (0, 0))) ∧ Aside0 (wc.heap[gb167]? = some (.cells #[.int .i8 t161, .int .i8 t162, .int .i8 t163, (.slice Ao31 t164.length co31)] 27 (0, 0))) ∧ Aside0 (Below w.heap.size w wc))
        case first =>
         have H := HC51.out
         clear HC51
         by_cases c62 : t189 < 0
         ·rw [if_pos c62] at H
          have c62b0 : decide (t189 < 0) = true := decide_eq_true c62
          clear c62
          (first | rw [c62b0] | (simp only [i64_w, i32_w]; rw [c62b0]) | skip)
          have H' := Aside0.mk H
          clear H
          go_wp2
          go_meet
          case rel => exact ⟨_, (true), (by first | rfl | (simp; done) | (simp [*]; done)), H', ⟨by have := HJ15.out; first | omega | exact Nat.le_refl _⟩, ⟨by (with_reducible repeat (first | apply Kd.R_alloc | apply Kd.R_drewN | apply Kd.R_drew)); exact HO_6.out⟩, ⟨by (with_reducible repeat (first | apply Kd.R_alloc | apply Kd.R_drewN | apply Kd.R_drew)); exact HO_10.out⟩, ⟨by (with_reducible repeat (first | apply Kd.R_alloc | apply Kd.R_drewN | apply Kd.R_drew)); exact Kd.R_mono HO_168003.out (fun _ hk => trivial)⟩, ⟨by (with_reducible repeat (first | refine blk_drewN ?_ _ | refine blk_drew ?_ | refine blk_alloc ?_ _)); exact BK146.out⟩, ⟨by (with_reducible repeat (first | refine blk_drewN ?_ _ | refine blk_drew ?_ | refine blk_alloc ?_ _)); exact BK167.out⟩, ⟨by repeat (first | (with_reducible first | exact HB.out | apply below_alloc | apply pw_below_drewN | apply below_drew1 | refine below_set ?_ GE146.out | refine below_set ?_ GE167.out) | exact HB.out)⟩⟩
         ·rw [if_neg c62] at H
          have c62b0 : decide (t189 < 0) = false := decide_eq_false c62
          clear c62
          (first | rw [c62b0] | (simp only [i64_w, i32_w]; rw [c62b0]) | skip)
          replace H := Option.bind_eq_some_iff.mp H
          obtain ⟨t191, A630, H⟩ := H
          replace H : (if t191 = true then (laws_FnExactCompletionsOf.j1 kj15 l1 t157 t160 t171 (t174 != t160) a0_0 a0_1 a0_2 l0_3) else (laws_FnExactCompletionsOf.j1 kj15 l1 t157 t160 t171 true a0_0 a0_1 a0_2 l0_3)) = some r := H
          have A63 := Aside0.mk A630
          clear A630
          by_cases c64 : t191 = true
          ·subst c64
           have H1 : (laws_FnExactCompletionsOf.j1 kj15 l1 t157 t160 t171 (t174 != t160) a0_0 a0_1 a0_2 l0_3) = some r := by rw [if_pos rfl] at H; exact H
           clear H
           have H := H1
           clear H1
           have H' := Aside0.mk H
           clear H
           obtain ⟨Ao65, co65, eo65⟩ := Kd.R_slice HO_10.out
           subst eo65
           obtain ⟨Ao66, co66, eo66⟩ := Kd.R_slice HO_6.out
           subst eo66
           go_wp2_with (first | (go_at_call 25; (with_reducible refine (laws_eqInt64S.calls kj15 _ _ t171 _ _ t157 true _ ?side1 ?side2 ?side3 ?side4 A63.out).mono ?_); (case side1 => repeat (first | exact (Kd.R_reads' HO_10.out).2.2 | (with_reducible refine Kd.C_alloc ?_ _) | (with_reducible refine Kd.C_drewN ?_ _) | (with_reducible refine Kd.C_drew ?_))); (case side2 => exact (Kd.R_reads' HO_10.out).2.1); (case side3 => repeat (first | exact (Kd.R_reads' HO_6.out).2.2 | (with_reducible refine Kd.C_alloc ?_ _) | (with_reducible refine Kd.C_drewN ?_ _) | (with_reducible refine Kd.C_drew ?_))); (case side4 => exact (Kd.R_reads' HO_6.out).2.1); rintro e w' ⟨rfl, ⟨nd, rfl⟩⟩))
           go_meet
           case rel => exact ⟨_, ((t174 != t160)), (by first | rfl | (simp; done) | (simp [*]; done)), H', ⟨by have := HJ15.out; first | omega | exact Nat.le_refl _⟩, ⟨by (with_reducible repeat (first | apply Kd.R_alloc | apply Kd.R_drewN | apply Kd.R_drew)); exact HO_6.out⟩, ⟨by (with_reducible repeat (first | apply Kd.R_alloc | apply Kd.R_drewN | apply Kd.R_drew)); exact HO_10.out⟩, ⟨by (with_reducible repeat (first | apply Kd.R_alloc | apply Kd.R_drewN | apply Kd.R_drew)); exact Kd.R_mono HO_168003.out (fun _ hk => trivial)⟩, ⟨by (with_reducible repeat (first | refine blk_drewN ?_ _ | refine blk_drew ?_ | refine blk_alloc ?_ _)); exact BK146.out⟩, ⟨by (with_reducible repeat (first | refine blk_drewN ?_ _ | refine blk_drew ?_ | refine blk_alloc ?_ _)); exact BK167.out⟩, ⟨by repeat (first | (with_reducible first | exact HB.out | apply below_alloc | apply pw_below_drewN | apply below_drew1 | refine below_set ?_ GE146.out | refine below_set ?_ GE167.out) | exact HB.out)⟩⟩
          ·replace c64 := Bool.eq_false_iff.mpr c64
           subst c64
           have H1 : (laws_FnExactCompletionsOf.j1 kj15 l1 t157 t160 t171 true a0_0 a0_1 a0_2 l0_3) = some r := by rw [if_neg (show ¬ (false = true) by decide)] at H; exact H
           clear H
           have H := H1
           clear H1
           have H' := Aside0.mk H
           clear H
           obtain ⟨Ao67, co67, eo67⟩ := Kd.R_slice HO_10.out
           subst eo67
           obtain ⟨Ao68, co68, eo68⟩ := Kd.R_slice HO_6.out
           subst eo68
           go_wp2_with (first | (go_at_call 25; (with_reducible refine (laws_eqInt64S.calls kj15 _ _ t171 _ _ t157 false _ ?side1 ?side2 ?side3 ?side4 A63.out).mono ?_); (case side1 => repeat (first | exact (Kd.R_reads' HO_10.out).2.2 | (with_reducible refine Kd.C_alloc ?_ _) | (with_reducible refine Kd.C_drewN ?_ _) | (with_reducible refine Kd.C_drew ?_))); (case side2 => exact (Kd.R_reads' HO_10.out).2.1); (case side3 => repeat (first | exact (Kd.R_reads' HO_6.out).2.2 | (with_reducible refine Kd.C_alloc ?_ _) | (with_reducible refine Kd.C_drewN ?_ _) | (with_reducible refine Kd.C_drew ?_))); (case side4 => exact (Kd.R_reads' HO_6.out).2.1); rintro e w' ⟨rfl, ⟨nd, rfl⟩⟩))
           go_meet
           case rel => exact ⟨_, (true), (by first | rfl | (simp; done) | (simp [*]; done)), H', ⟨by have := HJ15.out; first | omega | exact Nat.le_refl _⟩, ⟨by (with_reducible repeat (first | apply Kd.R_alloc | apply Kd.R_drewN | apply Kd.R_drew)); exact HO_6.out⟩, ⟨by (with_reducible repeat (first | apply Kd.R_alloc | apply Kd.R_drewN | apply Kd.R_drew)); exact HO_10.out⟩, ⟨by (with_reducible repeat (first | apply Kd.R_alloc | apply Kd.R_drewN | apply Kd.R_drew)); exact Kd.R_mono HO_168003.out (fun _ hk => trivial)⟩, ⟨by (with_reducible repeat (first | refine blk_drewN ?_ _ | refine blk_drew ?_ | refine blk_alloc ?_ _)); exact BK146.out⟩, ⟨by (with_reducible repeat (first | refine blk_drewN ?_ _ | refine blk_drew ?_ | refine blk_alloc ?_ _)); exact BK167.out⟩, ⟨by repeat (first | (with_reducible first | exact HB.out | apply below_alloc | apply pw_below_drewN | apply below_drew1 | refine below_set ?_ GE146.out | refine below_set ?_ GE167.out) | exact HB.out)⟩⟩
        case rest =>
         clear HC51
         try clear c1
         try clear c2
         try clear p2
         try clear c3
         try clear c3b0
         try clear c3b1
         try clear c4
         try clear c5
         try clear c6
         try clear c6b0
         try clear c10
         try clear c12
         try clear c14
         try clear c16
         try clear c17
         try clear c25
         try clear c29
         try clear c31
         try clear c37
         try clear c40
         try clear c41
         try clear c42
         try clear c45
         try clear c48
         try clear c58
         try clear c62
         try clear c62b0
         try clear c64
         try clear hcz18_0
         try clear hcz18_1
         try clear hcz18_2
         try clear hcz18_3
         try clear hcz20_0
         try clear hcz20_1
         try clear hcz20_2
         try clear hcz20_3
         try clear hcz26_0
         try clear hcz26_1
         try clear hcz26_2
         try clear hcz26_3
         try clear hcz30_0
         try clear hcz30_1
         try clear hcz30_2
         try clear hcz30_3
         try clear hcz33_0
         try clear hcz33_1
         try clear hcz33_2
         try clear hcz33_3
         try clear hcz59_0
         try clear hcz59_1
         try clear hcz59_2
         try clear hcz59_3
         try clear hcz8_0
         try clear hcz8_1
         try clear hcz8_2
         try clear hcz8_3
         try clear hfz18_0
         try clear hfz18_1
         try clear hfz18_2
         try clear hfz18_3
         try clear hfz20_0
         try clear hfz20_1
         try clear hfz20_2
         try clear hfz20_3
         try clear hfz26_0
         try clear hfz26_1
         try clear hfz26_2
         try clear hfz26_3
         try clear hfz30_0
         try clear hfz30_1
         try clear hfz30_2
         try clear hfz30_3
         try clear hfz33_0
         try clear hfz33_1
         try clear hfz33_2
         try clear hfz33_3
         try clear hfz59_0
         try clear hfz59_1
         try clear hfz59_2
         try clear hfz59_3
         try clear hfz8_0
         try clear hfz8_1
         try clear hfz8_2
         try clear hfz8_3
         try clear p2
         obtain ⟨kq, x80_50, rfl, HA, HJ50, HO_6, HO_10, HO_168003, BK146, BK167, HB⟩ := hcut
         have hl168003_50 := (Kd.R_reads' HO_168003.out).1
         rw [hl168003_50] at HO_168003
         (try simp only [hl168003_50])
         (try simp only [hl168003_50] at BK146)
         (try simp only [hl168003_50] at BK167)
         (try simp only [hl168003_50] at HO_6)
         (try simp only [hl168003_50] at HO_10)
         cases kq with
         | zero => exact absurd HA.out (by simp [laws_FnExactCompletionsOf.j1])
         | succ kj50 =>
          have H := HA.out
          clear HA
          simp only [laws_FnExactCompletionsOf.j1] at H
          by_cases c69 : x80_50 = true
          ·subst c69
           have H1 : (some false) = some r := by rw [if_pos rfl] at H; exact H
           clear H
           have H := H1
           clear H1
           obtain rfl := Option.some.inj H
           go_wp2
           go_ret
           exact ⟨by first | rfl | (simp [errW_none, errW_some] <;> rfl) | (simp [*, errW_none, errW_some] <;> rfl), by repeat (first | (with_reducible first | exact HB.out | apply below_alloc | apply pw_below_drewN | apply below_drew1 | refine below_set ?_ GE146.out | refine below_set ?_ GE167.out) | exact HB.out)⟩
          ·replace c69 := Bool.eq_false_iff.mpr c69
           subst c69
           have H1 : ((laws_markInt64S.f kj50 t171 1).bind fun bt192 => ((laws_heldInt64S.f kj50 bt192.2 1).bind fun t194 => (if t194 < 0 then (some false) else (if t194 = bt192.1 then ((laws_toBook.f kj50 a0_0 a0_1 a0_2 l0_3).bind fun bt195 => ((laws_toMeaning.f kj50 l1).bind fun t201 => ((impl_CompletionsOf.f bt195.1 bt195.2.1 bt195.2.2.1 bt195.2.2.2 t201).bind fun bt204 => ((laws_eqInt64S.f kj50 bt204.1 t157).bind fun t208 => (if t208 = true then (laws_FnExactCompletionsOf.j2 kj50 bt192.2 bt192.1 (bt204.2 != t160)) else (laws_FnExactCompletionsOf.j2 kj50 bt192.2 bt192.1 true)))))) else (some false))))) = some r := by rw [if_neg (show ¬ (false = true) by decide)] at H; exact H
           clear H
           have H := H1
           clear H1
           replace H := Option.bind_eq_some_iff.mp H
           obtain ⟨⟨t192, t193⟩, A700, H⟩ := H
           replace H : ((laws_heldInt64S.f kj50 t193 1).bind fun t194 => (if t194 < 0 then (some false) else (if t194 = t192 then ((laws_toBook.f kj50 a0_0 a0_1 a0_2 l0_3).bind fun bt195 => ((laws_toMeaning.f kj50 l1).bind fun t201 => ((impl_CompletionsOf.f bt195.1 bt195.2.1 bt195.2.2.1 bt195.2.2.2 t201).bind fun bt204 => ((laws_eqInt64S.f kj50 bt204.1 t157).bind fun t208 => (if t208 = true then (laws_FnExactCompletionsOf.j2 kj50 t193 t192 (bt204.2 != t160)) else (laws_FnExactCompletionsOf.j2 kj50 t193 t192 true)))))) else (some false)))) = some r := H
           have A70 := Aside0.mk A700
           clear A700
           replace H := Option.bind_eq_some_iff.mp H
           obtain ⟨t194, A710, H⟩ := H
           replace H : (if t194 < 0 then (some false) else (if t194 = t192 then ((laws_toBook.f kj50 a0_0 a0_1 a0_2 l0_3).bind fun bt195 => ((laws_toMeaning.f kj50 l1).bind fun t201 => ((impl_CompletionsOf.f bt195.1 bt195.2.1 bt195.2.2.1 bt195.2.2.2 t201).bind fun bt204 => ((laws_eqInt64S.f kj50 bt204.1 t157).bind fun t208 => (if t208 = true then (laws_FnExactCompletionsOf.j2 kj50 t193 t192 (bt204.2 != t160)) else (laws_FnExactCompletionsOf.j2 kj50 t193 t192 true)))))) else (some false))) = some r := H
           have A71 := Aside0.mk A710
           clear A710
           by_cases c72 : t194 < 0
           ·rw [if_pos c72] at H
            have c72b0 : decide (t194 < 0) = true := decide_eq_true c72
            clear c72
            obtain rfl := Option.some.inj H
            obtain ⟨Ao73, co73, eo73⟩ := Kd.R_slice HO_10.out
            subst eo73
            go_wp2_with (first | ((with_reducible refine gate_callee (f := 26) rfl ?_); refine goesL_ (some 83) rfl rfl Try.func26 (by kernel_rfl) rfl #[.slice Ao73 t171.length co73, .int .i64 1] rfl (by (try simp only [List.map_toArray, List.map_cons, List.map_nil]); first | done | rfl | (simp only [List.length_drop, List.length_take]; rfl)) ?_; (with_reducible refine (laws_markInt64S.calls kj50 (fun k_ => some k_ = (.slice Ao73 t171.length co73 : Value).ownBlock) (.slice Ao73 t171.length co73) t171 1 t192 t193 w _ ?side1 ?side2 A70.out).mono ?_); (case side1 => repeat (first | (with_reducible first | exact HB.out | apply below_alloc | apply pw_below_drewN | apply below_drew1 | refine below_set ?_ GE146.out | refine below_set ?_ GE167.out) | exact HB.out)); (case side2 => exact Kd.R_tight rfl HO_10.out); rintro e w74 ⟨rfl, hy0, hb, hkp⟩; refine ⟨_, rfl, ?_⟩; have n0_ := Aside0.mk (Kd.R_mono (ok' := fun k_ => some k_ ≠ (.slice Ao73 t171.length co73 : Value).ownBlock) (Kd.R_keptB (HO_6.out) hkp (fun k_ hk_ hs_ => (hk_) hs_)) (fun k_ hk_ => hk_.1)); have n1_ := Aside0.mk (Kd.R_reok rfl hy0 (fun k_ e_ => HO_10.out.1 k_ e_)); have n2_ := Aside0.mk (Kd.R_mono (ok' := fun k_ => True) (Kd.R_keptB ((Kd.R_apart' HO_168003.out (Kd.R_typed HO_10.out) (by decide))) hkp (fun k_ hk_ hs_ => (hk_.2) hs_)) (fun k_ hk_ => trivial)); have n3_ := Aside0.mk (blk_kept (by (with_reducible repeat (first | refine blk_drewN ?_ _ | refine blk_drew ?_ | refine blk_alloc ?_ _)); exact BK146.out) hkp (fun hs_ => (fun e_ => (Kd.R_ne HO_10.out BK146.out (by decide)) e_) hs_)); have n4_ := Aside0.mk (blk_kept (by (with_reducible repeat (first | refine blk_drewN ?_ _ | refine blk_drew ?_ | refine blk_alloc ?_ _)); exact BK167.out) hkp (fun hs_ => (fun e_ => (Kd.R_ne HO_10.out BK167.out (by decide)) e_) hs_)); have n5_ := Aside0.mk (hb); clear HO_6; clear HO_10; clear HO_168003; clear BK146; clear BK167; clear HB; have HO_6 := n0_; have HO_10 := n1_; have HO_168003 := n2_; have BK146 := n3_; have BK167 := n4_; have HB := n5_; clear n0_ n1_ n2_ n3_ n4_ n5_; (try clear hb); (try clear hkp); (try clear hy0)) | ((with_reducible refine gate_callee (f := 27) rfl ?_); refine goesL_ (some 86) rfl rfl Try.func27 (by kernel_rfl) rfl #[.slice Ao73 t193.length co73, .int .i64 1] rfl (by (try simp only [List.map_toArray, List.map_cons, List.map_nil]); first | done | (rw [show t193.length = t171.length from (Kd.R_reads' HO_10.out).1.symm] <;> rfl) | rfl | (simp only [List.length_drop, List.length_take]; rfl)) ?_; (with_reducible refine (laws_heldInt64S.calls kj50 _ _ t193 1 t194 _ ?side1 ?side2 A71.out).mono ?_); (case side1 => repeat (first | exact (Kd.R_reads' HO_10.out).2.2 | (with_reducible refine Kd.C_alloc ?_ _) | (with_reducible refine Kd.C_drewN ?_ _) | (with_reducible refine Kd.C_drew ?_))); (case side2 => rw [show t193.length = t171.length from (Kd.R_reads' HO_10.out).1.symm]; exact (Kd.R_reads' HO_10.out).2.1); rintro e w' ⟨rfl, ⟨nd, rfl⟩⟩; refine ⟨_, rfl, ?_⟩))
            go_ret
            exact ⟨by first | rfl | (simp [errW_none, errW_some] <;> rfl) | (simp [*, errW_none, errW_some] <;> rfl), by repeat (first | (with_reducible first | exact HB.out | apply below_alloc | apply pw_below_drewN | apply below_drew1 | refine below_set ?_ GE146.out | refine below_set ?_ GE167.out) | exact HB.out)⟩
           ·rw [if_neg c72] at H
            have c72b0 : decide (t194 < 0) = false := decide_eq_false c72
            clear c72
            by_cases c75 : t194 = t192
            ·rw [if_pos c75] at H
             have c75b0 : (t194 == t192) = true := beq_iff_eq.mpr c75
             have c75b1 : (t194 != t192) = false := bne_eq_false_iff_eq.mpr c75
             clear c75
             replace H := Option.bind_eq_some_iff.mp H
             obtain ⟨⟨t195, t196, t197, t198⟩, A760, H⟩ := H
             replace H : ((laws_toMeaning.f kj50 l1).bind fun t201 => ((impl_CompletionsOf.f t195 t196 t197 t198 t201).bind fun bt204 => ((laws_eqInt64S.f kj50 bt204.1 t157).bind fun t208 => (if t208 = true then (laws_FnExactCompletionsOf.j2 kj50 t193 t192 (bt204.2 != t160)) else (laws_FnExactCompletionsOf.j2 kj50 t193 t192 true))))) = some r := H
             have A76 := Aside0.mk A760
             clear A760
             replace H := Option.bind_eq_some_iff.mp H
             obtain ⟨t201, A770, H⟩ := H
             replace H : ((impl_CompletionsOf.f t195 t196 t197 t198 t201).bind fun bt204 => ((laws_eqInt64S.f kj50 bt204.1 t157).bind fun t208 => (if t208 = true then (laws_FnExactCompletionsOf.j2 kj50 t193 t192 (bt204.2 != t160)) else (laws_FnExactCompletionsOf.j2 kj50 t193 t192 true)))) = some r := H
             have A77 := Aside0.mk A770
             clear A770
             replace H := Option.bind_eq_some_iff.mp H
             obtain ⟨⟨t204, t207⟩, A780, H⟩ := H
             replace H : ((laws_eqInt64S.f kj50 t204 t157).bind fun t208 => (if t208 = true then (laws_FnExactCompletionsOf.j2 kj50 t193 t192 (t207 != t160)) else (laws_FnExactCompletionsOf.j2 kj50 t193 t192 true))) = some r := H
             have A78 := Aside0.mk A780
             clear A780
             have HC79 := Aside0.mk H
             clear H
             obtain ⟨Ao80, co80, eo80⟩ := Kd.R_slice HO_10.out
             subst eo80
             go_upto_region 31 with (first | ((with_reducible refine gate_callee (f := 26) rfl ?_); refine goesL_ (some 83) rfl rfl Try.func26 (by kernel_rfl) rfl #[.slice Ao80 t171.length co80, .int .i64 1] rfl (by (try simp only [List.map_toArray, List.map_cons, List.map_nil]); first | done | rfl | (simp only [List.length_drop, List.length_take]; rfl)) ?_; (with_reducible refine (laws_markInt64S.calls kj50 (fun k_ => some k_ = (.slice Ao80 t171.length co80 : Value).ownBlock) (.slice Ao80 t171.length co80) t171 1 t192 t193 w _ ?side1 ?side2 A70.out).mono ?_); (case side1 => repeat (first | (with_reducible first | exact HB.out | apply below_alloc | apply pw_below_drewN | apply below_drew1 | refine below_set ?_ GE146.out | refine below_set ?_ GE167.out) | exact HB.out)); (case side2 => exact Kd.R_tight rfl HO_10.out); rintro e w81 ⟨rfl, hy0, hb, hkp⟩; refine ⟨_, rfl, ?_⟩; have n0_ := Aside0.mk (Kd.R_mono (ok' := fun k_ => some k_ ≠ (.slice Ao80 t171.length co80 : Value).ownBlock) (Kd.R_keptB (HO_6.out) hkp (fun k_ hk_ hs_ => (hk_) hs_)) (fun k_ hk_ => hk_.1)); have n1_ := Aside0.mk (Kd.R_reok rfl hy0 (fun k_ e_ => HO_10.out.1 k_ e_)); have n2_ := Aside0.mk (Kd.R_mono (ok' := fun k_ => True) (Kd.R_keptB ((Kd.R_apart' HO_168003.out (Kd.R_typed HO_10.out) (by decide))) hkp (fun k_ hk_ hs_ => (hk_.2) hs_)) (fun k_ hk_ => trivial)); have n3_ := Aside0.mk (blk_kept (by (with_reducible repeat (first | refine blk_drewN ?_ _ | refine blk_drew ?_ | refine blk_alloc ?_ _)); exact BK146.out) hkp (fun hs_ => (fun e_ => (Kd.R_ne HO_10.out BK146.out (by decide)) e_) hs_)); have n4_ := Aside0.mk (blk_kept (by (with_reducible repeat (first | refine blk_drewN ?_ _ | refine blk_drew ?_ | refine blk_alloc ?_ _)); exact BK167.out) hkp (fun hs_ => (fun e_ => (Kd.R_ne HO_10.out BK167.out (by decide)) e_) hs_)); have n5_ := Aside0.mk (hb); clear HO_6; clear HO_10; clear HO_168003; clear BK146; clear BK167; clear HB; have HO_6 := n0_; have HO_10 := n1_; have HO_168003 := n2_; have BK146 := n3_; have BK167 := n4_; have HB := n5_; clear n0_ n1_ n2_ n3_ n4_ n5_; (try clear hb); (try clear hkp); (try clear hy0)) | ((with_reducible refine gate_callee (f := 27) rfl ?_); refine goesL_ (some 86) rfl rfl Try.func27 (by kernel_rfl) rfl #[.slice Ao80 t193.length co80, .int .i64 1] rfl (by (try simp only [List.map_toArray, List.map_cons, List.map_nil]); first | done | (rw [show t193.length = t171.length from (Kd.R_reads' HO_10.out).1.symm] <;> rfl) | rfl | (simp only [List.length_drop, List.length_take]; rfl)) ?_; (with_reducible refine (laws_heldInt64S.calls kj50 _ _ t193 1 t194 _ ?side1 ?side2 A71.out).mono ?_); (case side1 => repeat (first | exact (Kd.R_reads' HO_10.out).2.2 | (with_reducible refine Kd.C_alloc ?_ _) | (with_reducible refine Kd.C_drewN ?_ _) | (with_reducible refine Kd.C_drew ?_))); (case side2 => rw [show t193.length = t171.length from (Kd.R_reads' HO_10.out).1.symm]; exact (Kd.R_reads' HO_10.out).2.1); rintro e w' ⟨rfl, ⟨nd, rfl⟩⟩; refine ⟨_, rfl, ?_⟩; have hnb82 := NB146_167.out; have hnc82 := NB167_146.out; have hcz83_0 : w81.cell? ⟨gb146, 0, none⟩ = some (.int .i8 a0_0) := (blk_cell BK146.out 0).trans rfl; have hcz83_1 : w81.cell? ⟨gb146, 1, none⟩ = some (.int .i8 a0_1) := (blk_cell BK146.out 1).trans rfl; have hcz83_2 : w81.cell? ⟨gb146, 2, none⟩ = some (.int .i8 a0_2) := (blk_cell BK146.out 2).trans rfl; have hcz83_3 : w81.cell? ⟨gb146, 3, none⟩ = some (.slice A0_3 l0_3.length c0_3) := (blk_cell BK146.out 3).trans rfl; have hfz83_0 := blk_frozen BK146.out 0; have hfz83_1 := blk_frozen BK146.out 1; have hfz83_2 := blk_frozen BK146.out 2; have hfz83_3 := blk_frozen BK146.out 3) | ((with_reducible refine gate_callee (f := 14) rfl ?_); refine goesL_ (some 94) rfl rfl Try.func14 (by kernel_rfl) rfl #[.agg #[.int .i8 a0_0, .int .i8 a0_1, .int .i8 a0_2, .slice A0_3 l0_3.length c0_3]] rfl (by (try simp only [List.map_toArray, List.map_cons, List.map_nil]); first | done | rfl | (simp only [List.length_drop, List.length_take]; rfl)) ?_; (with_reducible refine (laws_toBook.calls kj50 a0_0 a0_1 a0_2 _ _ l0_3 t195 t196 t197 t198 _ ?side1 ?side2 A76.out).mono ?_); (case side1 => repeat (first | exact (Kd.C_below HR0_3.out (by repeat (first | (with_reducible first | exact HB.out | apply below_alloc | apply pw_below_drewN | apply below_drew1 | refine below_set ?_ GE146.out | refine below_set ?_ GE167.out) | exact HB.out))) | (with_reducible refine Kd.C_alloc ?_ _) | (with_reducible refine Kd.C_drewN ?_ _) | (with_reducible refine Kd.C_drew ?_))); (case side2 => exact HC0_3.out); rintro e w84 ⟨v199, rfl, ho0, hb⟩; refine ⟨_, rfl, ?_⟩; have n0_ := Aside0.mk (Kd.R_below (by (with_reducible repeat (first | apply Kd.R_alloc | apply Kd.R_drewN | apply Kd.R_drew)); exact HO_6.out) hb); have n1_ := Aside0.mk (Kd.R_below (by (with_reducible repeat (first | apply Kd.R_alloc | apply Kd.R_drewN | apply Kd.R_drew)); exact HO_10.out) hb); have n2_ := Aside0.mk (Kd.R_elder' (by (with_reducible repeat (first | apply Kd.R_alloc | apply Kd.R_drewN | apply Kd.R_drew)); exact HO_168003.out) (Kd.R_base ho0) hb); have n3_ := Aside0.mk (Kd.R_lower (Kd.R_new' ho0 (Kd.R_lt (by (with_reducible repeat (first | apply Kd.R_alloc | apply Kd.R_drewN | apply Kd.R_drew)); exact HO_168003.out))) (below_size (by repeat (first | (with_reducible first | exact HB.out | apply below_alloc | apply pw_below_drewN | apply below_drew1 | refine below_set ?_ GE146.out | refine below_set ?_ GE167.out) | exact HB.out)))); have n4_ := Aside0.mk (blk_below (g := gb146) (o := .cells #[.int .i8 a0_0, .int .i8 a0_1, .int .i8 a0_2, .slice A0_3 l0_3.length c0_3] 25 (0, 0)) (by (with_reducible repeat (first | refine blk_drewN ?_ _ | refine blk_drew ?_ | refine blk_alloc ?_ _)); exact BK146.out) hb); have n5_ := Aside0.mk (blk_below (g := gb167) (o := .cells #[.int .i8 t161, .int .i8 t162, .int .i8 t163, .slice Ao31 t188.length co31] 27 (0, 0)) (by (with_reducible repeat (first | refine blk_drewN ?_ _ | refine blk_drew ?_ | refine blk_alloc ?_ _)); exact BK167.out) hb); have n6_ := Aside0.mk (below_step (by repeat (first | (with_reducible first | exact HB.out | apply below_alloc | apply pw_below_drewN | apply below_drew1 | refine below_set ?_ GE146.out | refine below_set ?_ GE167.out) | exact HB.out)) hb); clear HO_6; clear HO_10; clear HO_168003; clear BK146; clear BK167; clear HB; have HO_6 := n0_; have HO_10 := n1_; have HO_168003 := n2_; have HO200 := n3_; have BK146 := n4_; have BK167 := n5_; have HB := n6_; clear n0_ n1_ n2_ n3_ n4_ n5_ n6_; (try clear hb); (try clear hb2); (try clear hk); (try clear hi); (try clear ho0)) | ((with_reducible refine gate_callee (f := 29) rfl ?_); refine goesL_ (some 96) rfl rfl Try.func29 (by kernel_rfl) rfl #[.slice A1 l1.length c1] rfl (by (try simp only [List.map_toArray, List.map_cons, List.map_nil]); first | done | rfl | (simp only [List.length_drop, List.length_take]; rfl)) ?_; (with_reducible refine (laws_toMeaning.calls kj50 _ _ l1 t201 _ ?side1 ?side2 A77.out).mono ?_); (case side1 => repeat (first | exact (Kd.C_below HR1.out HB.out) | (with_reducible refine Kd.C_alloc ?_ _) | (with_reducible refine Kd.C_drewN ?_ _) | (with_reducible refine Kd.C_drew ?_))); (case side2 => exact HC1.out); rintro e w85 ⟨v202, rfl, ho0, hb⟩; refine ⟨_, rfl, ?_⟩; have n0_ := Aside0.mk (Kd.R_below (by (with_reducible repeat (first | apply Kd.R_alloc | apply Kd.R_drewN | apply Kd.R_drew)); exact HO_6.out) hb); have n1_ := Aside0.mk (Kd.R_below (by (with_reducible repeat (first | apply Kd.R_alloc | apply Kd.R_drewN | apply Kd.R_drew)); exact HO_10.out) hb); have n2_ := Aside0.mk (Kd.R_below (by (with_reducible repeat (first | apply Kd.R_alloc | apply Kd.R_drewN | apply Kd.R_drew)); exact HO_168003.out) hb); have n3_ := Aside0.mk (Kd.R_below (by (with_reducible repeat (first | apply Kd.R_alloc | apply Kd.R_drewN | apply Kd.R_drew)); exact HO200.out) hb); have n4_ := Aside0.mk (Kd.R_lower ho0 (below_size (by repeat (first | (with_reducible first | exact HB.out | apply below_alloc | apply pw_below_drewN | apply below_drew1 | refine below_set ?_ GE146.out | refine below_set ?_ GE167.out) | exact HB.out)))); have n5_ := Aside0.mk (blk_below (g := gb146) (o := .cells #[.int .i8 a0_0, .int .i8 a0_1, .int .i8 a0_2, .slice A0_3 l0_3.length c0_3] 25 (0, 0)) (by (with_reducible repeat (first | refine blk_drewN ?_ _ | refine blk_drew ?_ | refine blk_alloc ?_ _)); exact BK146.out) hb); have n6_ := Aside0.mk (blk_below (g := gb167) (o := .cells #[.int .i8 t161, .int .i8 t162, .int .i8 t163, .slice Ao31 t188.length co31] 27 (0, 0)) (by (with_reducible repeat (first | refine blk_drewN ?_ _ | refine blk_drew ?_ | refine blk_alloc ?_ _)); exact BK167.out) hb); have n7_ := Aside0.mk (below_step (by repeat (first | (with_reducible first | exact HB.out | apply below_alloc | apply pw_below_drewN | apply below_drew1 | refine below_set ?_ GE146.out | refine below_set ?_ GE167.out) | exact HB.out)) hb); clear HO_6; clear HO_10; clear HO_168003; clear HO200; clear BK146; clear BK167; clear HB; have HO_6 := n0_; have HO_10 := n1_; have HO_168003 := n2_; have HO200 := n3_; have HO203 := n4_; have BK146 := n5_; have BK167 := n6_; have HB := n7_; clear n0_ n1_ n2_ n3_ n4_ n5_ n6_ n7_; (try clear hb); (try clear hb2); (try clear hk); (try clear hi); (try clear ho0); obtain ⟨Ao86, co86, eo86⟩ := Kd.R_slice HO200.out; subst eo86; obtain ⟨Ao87, co87, eo87⟩ := Kd.R_slice HO203.out; subst eo87) | ((with_reducible refine gate_callee (f := 41) rfl ?_); refine goesL_ (some 97) rfl rfl Try.func41 (by kernel_rfl) rfl #[.agg #[.int .i8 t195, .int .i8 t196, .int .i8 t197, .slice Ao86 t198.length co86], .slice Ao87 t201.length co87] rfl (by (try simp only [List.map_toArray, List.map_cons, List.map_nil]); first | done | rfl | (simp only [List.length_drop, List.length_take]; rfl)) ?_; (with_reducible refine (impl_CompletionsOf.calls t195 t196 t197 _ _ t198 _ _ t201 t204 t207 _ ?side1 ?side2 ?side3 ?side4 A78.out).mono ?_); (case side1 => repeat (first | exact (Kd.R_reads' HO200.out).2.2 | (with_reducible refine Kd.C_alloc ?_ _) | (with_reducible refine Kd.C_drewN ?_ _) | (with_reducible refine Kd.C_drew ?_))); (case side2 => exact (Kd.R_reads' HO200.out).2.1); (case side3 => repeat (first | exact (Kd.R_reads' HO203.out).2.2 | (with_reducible refine Kd.C_alloc ?_ _) | (with_reducible refine Kd.C_drewN ?_ _) | (with_reducible refine Kd.C_drew ?_))); (case side4 => exact (Kd.R_reads' HO203.out).2.1); rintro e w88 ⟨v205, rfl, ho0, hb⟩; refine ⟨_, rfl, ?_⟩; have n0_ := Aside0.mk (Kd.R_elder' (by (with_reducible repeat (first | apply Kd.R_alloc | apply Kd.R_drewN | apply Kd.R_drew)); exact HO_6.out) (Kd.R_base ho0) hb); have n1_ := Aside0.mk (Kd.R_elder' (by (with_reducible repeat (first | apply Kd.R_alloc | apply Kd.R_drewN | apply Kd.R_drew)); exact HO_10.out) (Kd.R_base ho0) hb); have n2_ := Aside0.mk (Kd.R_below (by (with_reducible repeat (first | apply Kd.R_alloc | apply Kd.R_drewN | apply Kd.R_drew)); exact HO_168003.out) hb); have n3_ := Aside0.mk (Kd.R_below (by (with_reducible repeat (first | apply Kd.R_alloc | apply Kd.R_drewN | apply Kd.R_drew)); exact HO200.out) hb); have n4_ := Aside0.mk (Kd.R_below (by (with_reducible repeat (first | apply Kd.R_alloc | apply Kd.R_drewN | apply Kd.R_drew)); exact HO203.out) hb); have n5_ := Aside0.mk (Kd.R_lower (Kd.R_new' (Kd.R_new' ho0 (Kd.R_lt (by (with_reducible repeat (first | apply Kd.R_alloc | apply Kd.R_drewN | apply Kd.R_drew)); exact HO_6.out))) (Kd.R_lt (by (with_reducible repeat (first | apply Kd.R_alloc | apply Kd.R_drewN | apply Kd.R_drew)); exact HO_10.out))) (below_size (by repeat (first | (with_reducible first | exact HB.out | apply below_alloc | apply pw_below_drewN | apply below_drew1 | refine below_set ?_ GE146.out | refine below_set ?_ GE167.out) | exact HB.out)))); have n6_ := Aside0.mk (blk_below (g := gb146) (o := .cells #[.int .i8 a0_0, .int .i8 a0_1, .int .i8 a0_2, .slice A0_3 l0_3.length c0_3] 25 (0, 0)) (by (with_reducible repeat (first | refine blk_drewN ?_ _ | refine blk_drew ?_ | refine blk_alloc ?_ _)); exact BK146.out) hb); have n7_ := Aside0.mk (blk_below (g := gb167) (o := .cells #[.int .i8 t161, .int .i8 t162, .int .i8 t163, .slice Ao31 t188.length co31] 27 (0, 0)) (by (with_reducible repeat (first | refine blk_drewN ?_ _ | refine blk_drew ?_ | refine blk_alloc ?_ _)); exact BK167.out) hb); have n8_ := Aside0.mk (below_step (by repeat (first | (with_reducible first | exact HB.out | apply below_alloc | apply pw_below_drewN | apply below_drew1 | refine below_set ?_ GE146.out | refine below_set ?_ GE167.out) | exact HB.out)) hb); clear HO_6; clear HO_10; clear HO_168003; clear HO200; clear HO203; clear BK146; clear BK167; clear HB; have HO_6 := n0_; have HO_10 := n1_; have HO_168003 := n2_; have HO200 := n3_; have HO203 := n4_; have HO206 := n5_; have BK146 := n6_; have BK167 := n7_; have HB := n8_; clear n0_ n1_ n2_ n3_ n4_ n5_ n6_ n7_ n8_; (try clear hb); (try clear hb2); (try clear hk); (try clear hi); (try clear ho0)))
             (try simp only [Act.put, List.setIfInBounds_toArray, List.set_cons_zero, List.set_cons_succ])
             go_cut [108] (fun v108 wc => ∃ (kq : Nat) (x108_78 : Bool), v108 = .bool x108_78 ∧ Aside0 (laws_FnExactCompletionsOf.j2 kq t193 t192 x108_78 = some r) ∧ Aside0 (kq ≤ kj50) ∧ Aside0 (Kd.R (Kd.int .i64) 2 wc w.heap.size (fun _ => True) (.slice Ao80 t171.length co80) t193) ∧ Aside0 (Kd.R Kd.string 9 wc w.heap.size (fun _ => True) (.slice Ao31 t188.length co31) t188) ∧ Aside0 (wc.heap[gb146]? = some (.cells #[.int .i8 a0_0, .int .i8 a0_1, .int .i8 a0_2, (.slice A0_3 l0_3.length c0_3)] 25 (0, 0))) ∧ Aside0 (wc.heap[gb167]? = some (.cells #[.int .i8 t161, .int .i8 t162, .int .i8 t163, (.slice Ao31 t188.length co31)] 27 (0, 0))) ∧ Aside0 (Below w.heap.size w wc))
             case first =>
              have H := HC79.out
              clear HC79
              replace H := Option.bind_eq_some_iff.mp H
              obtain ⟨t208, A890, H⟩ := H
              replace H : (if t208 = true then (laws_FnExactCompletionsOf.j2 kj50 t193 t192 (t207 != t160)) else (laws_FnExactCompletionsOf.j2 kj50 t193 t192 true)) = some r := H
              have A89 := Aside0.mk A890
              clear A890
              by_cases c90 : t208 = true
              ·subst c90
               have H1 : (laws_FnExactCompletionsOf.j2 kj50 t193 t192 (t207 != t160)) = some r := by rw [if_pos rfl] at H; exact H
               clear H
               have H := H1
               clear H1
               have H' := Aside0.mk H
               clear H
               obtain ⟨Ao91, co91, eo91⟩ := Kd.R_slice HO206.out
               subst eo91
               obtain ⟨Ao92, co92, eo92⟩ := Kd.R_slice HO_6.out
               subst eo92
               go_wp2_with (first | ((with_reducible refine gate_callee (f := 25) rfl ?_); refine goesL_ (some 102) rfl rfl Try.func25 (by kernel_rfl) rfl #[.slice Ao91 t204.length co91, .slice Ao92 t157.length co92] rfl (by (try simp only [List.map_toArray, List.map_cons, List.map_nil]); first | done | rfl | (simp only [List.length_drop, List.length_take]; rfl)) ?_; (with_reducible refine (laws_eqInt64S.calls kj50 _ _ t204 _ _ t157 true _ ?side1 ?side2 ?side3 ?side4 A89.out).mono ?_); (case side1 => repeat (first | exact (Kd.R_reads' HO206.out).2.2 | (with_reducible refine Kd.C_alloc ?_ _) | (with_reducible refine Kd.C_drewN ?_ _) | (with_reducible refine Kd.C_drew ?_))); (case side2 => exact (Kd.R_reads' HO206.out).2.1); (case side3 => repeat (first | exact (Kd.R_reads' HO_6.out).2.2 | (with_reducible refine Kd.C_alloc ?_ _) | (with_reducible refine Kd.C_drewN ?_ _) | (with_reducible refine Kd.C_drew ?_))); (case side4 => exact (Kd.R_reads' HO_6.out).2.1); rintro e w' ⟨rfl, ⟨nd, rfl⟩⟩; refine ⟨_, rfl, ?_⟩))
               go_meet
               case rel => exact ⟨_, ((t207 != t160)), (by first | rfl | (simp; done) | (simp [*]; done)), H', ⟨by have := HJ15.out; have := HJ50.out; first | omega | exact Nat.le_refl _⟩, ⟨by (try simp only [hl168003_50]); (with_reducible repeat (first | apply Kd.R_alloc | apply Kd.R_drewN | apply Kd.R_drew)); exact Kd.R_mono HO_10.out (fun _ hk => trivial)⟩, ⟨by (try simp only [hl168003_50]); (with_reducible repeat (first | apply Kd.R_alloc | apply Kd.R_drewN | apply Kd.R_drew)); exact Kd.R_mono HO_168003.out (fun _ hk => trivial)⟩, ⟨by (try simp only [hl168003_50]); (with_reducible repeat (first | refine blk_drewN ?_ _ | refine blk_drew ?_ | refine blk_alloc ?_ _)); exact BK146.out⟩, ⟨by (try simp only [hl168003_50]); (with_reducible repeat (first | refine blk_drewN ?_ _ | refine blk_drew ?_ | refine blk_alloc ?_ _)); exact BK167.out⟩, ⟨by repeat (first | (with_reducible first | exact HB.out | apply below_alloc | apply pw_below_drewN | apply below_drew1 | refine below_set ?_ GE146.out | refine below_set ?_ GE167.out) | exact HB.out)⟩⟩
              ·replace c90 := Bool.eq_false_iff.mpr c90
               subst c90
               have H1 : (laws_FnExactCompletionsOf.j2 kj50 t193 t192 true) = some r := by rw [if_neg (show ¬ (false = true) by decide)] at H; exact H
               clear H
               have H := H1
               clear H1
               have H' := Aside0.mk H
               clear H
               obtain ⟨Ao93, co93, eo93⟩ := Kd.R_slice HO206.out
               subst eo93
               obtain ⟨Ao94, co94, eo94⟩ := Kd.R_slice HO_6.out
               subst eo94
               go_wp2_with (first | ((with_reducible refine gate_callee (f := 25) rfl ?_); refine goesL_ (some 102) rfl rfl Try.func25 (by kernel_rfl) rfl #[.slice Ao93 t204.length co93, .slice Ao94 t157.length co94] rfl (by (try simp only [List.map_toArray, List.map_cons, List.map_nil]); first | done | rfl | (simp only [List.length_drop, List.length_take]; rfl)) ?_; (with_reducible refine (laws_eqInt64S.calls kj50 _ _ t204 _ _ t157 false _ ?side1 ?side2 ?side3 ?side4 A89.out).mono ?_); (case side1 => repeat (first | exact (Kd.R_reads' HO206.out).2.2 | (with_reducible refine Kd.C_alloc ?_ _) | (with_reducible refine Kd.C_drewN ?_ _) | (with_reducible refine Kd.C_drew ?_))); (case side2 => exact (Kd.R_reads' HO206.out).2.1); (case side3 => repeat (first | exact (Kd.R_reads' HO_6.out).2.2 | (with_reducible refine Kd.C_alloc ?_ _) | (with_reducible refine Kd.C_drewN ?_ _) | (with_reducible refine Kd.C_drew ?_))); (case side4 => exact (Kd.R_reads' HO_6.out).2.1); rintro e w' ⟨rfl, ⟨nd, rfl⟩⟩; refine ⟨_, rfl, ?_⟩))
               go_meet
               case rel => exact ⟨_, (true), (by first | rfl | (simp; done) | (simp [*]; done)), H', ⟨by have := HJ15.out; have := HJ50.out; first | omega | exact Nat.le_refl _⟩, ⟨by (try simp only [hl168003_50]); (with_reducible repeat (first | apply Kd.R_alloc | apply Kd.R_drewN | apply Kd.R_drew)); exact Kd.R_mono HO_10.out (fun _ hk => trivial)⟩, ⟨by (try simp only [hl168003_50]); (with_reducible repeat (first | apply Kd.R_alloc | apply Kd.R_drewN | apply Kd.R_drew)); exact Kd.R_mono HO_168003.out (fun _ hk => trivial)⟩, ⟨by (try simp only [hl168003_50]); (with_reducible repeat (first | refine blk_drewN ?_ _ | refine blk_drew ?_ | refine blk_alloc ?_ _)); exact BK146.out⟩, ⟨by (try simp only [hl168003_50]); (with_reducible repeat (first | refine blk_drewN ?_ _ | refine blk_drew ?_ | refine blk_alloc ?_ _)); exact BK167.out⟩, ⟨by repeat (first | (with_reducible first | exact HB.out | apply below_alloc | apply pw_below_drewN | apply below_drew1 | refine below_set ?_ GE146.out | refine below_set ?_ GE167.out) | exact HB.out)⟩⟩
             case rest =>
              clear HC79
              try clear c1
              try clear c2
              try clear p2
              try clear c3
              try clear c3b0
              try clear c3b1
              try clear c4
              try clear c5
              try clear c6
              try clear c6b0
              try clear c7
              try clear c8
              try clear c9
              try clear c10
              try clear c12
              try clear c14
              try clear c16
              try clear c17
              try clear c25
              try clear c26
              try clear c27
              try clear c29
              try clear c31
              try clear c37
              try clear c40
              try clear c41
              try clear c42
              try clear c45
              try clear c48
              try clear c58
              try clear c62
              try clear c62b0
              try clear c64
              try clear c69
              try clear c72
              try clear c72b0
              try clear c75
              try clear c75b0
              try clear c75b1
              try clear c82
              try clear c90
              try clear hcz18_0
              try clear hcz18_1
              try clear hcz18_2
              try clear hcz18_3
              try clear hcz20_0
              try clear hcz20_1
              try clear hcz20_2
              try clear hcz20_3
              try clear hcz26_0
              try clear hcz26_1
              try clear hcz26_2
              try clear hcz26_3
              try clear hcz30_0
              try clear hcz30_1
              try clear hcz30_2
              try clear hcz30_3
              try clear hcz33_0
              try clear hcz33_1
              try clear hcz33_2
              try clear hcz33_3
              try clear hcz59_0
              try clear hcz59_1
              try clear hcz59_2
              try clear hcz59_3
              try clear hcz83_0
              try clear hcz83_1
              try clear hcz83_2
              try clear hcz83_3
              try clear hcz8_0
              try clear hcz8_1
              try clear hcz8_2
              try clear hcz8_3
              try clear hfz18_0
              try clear hfz18_1
              try clear hfz18_2
              try clear hfz18_3
              try clear hfz20_0
              try clear hfz20_1
              try clear hfz20_2
              try clear hfz20_3
              try clear hfz26_0
              try clear hfz26_1
              try clear hfz26_2
              try clear hfz26_3
              try clear hfz30_0
              try clear hfz30_1
              try clear hfz30_2
              try clear hfz30_3
              try clear hfz33_0
              try clear hfz33_1
              try clear hfz33_2
              try clear hfz33_3
              try clear hfz59_0
              try clear hfz59_1
              try clear hfz59_2
              try clear hfz59_3
              try clear hfz83_0
              try clear hfz83_1
              try clear hfz83_2
              try clear hfz83_3
              try clear hfz8_0
              try clear hfz8_1
              try clear hfz8_2
              try clear hfz8_3
              try clear p2
              obtain ⟨kq, x108_78, rfl, HA, HJ78, HO_10, HO_168003, BK146, BK167, HB⟩ := hcut
              have hl10_78 := (Kd.R_reads' HO_10.out).1
              rw [hl10_78] at HO_10
              (try simp only [hl10_78])
              (try simp only [hl10_78] at BK146)
              (try simp only [hl10_78] at BK167)
              (try simp only [hl10_78] at HO_168003)
              cases kq with
              | zero => exact absurd HA.out (by simp [laws_FnExactCompletionsOf.j2])
              | succ kj78 =>
               have H := HA.out
               clear HA
               simp only [laws_FnExactCompletionsOf.j2] at H
               by_cases c95 : x108_78 = true
               ·subst c95
                have H1 : (some false) = some r := by rw [if_pos rfl] at H; exact H
                clear H
                have H := H1
                clear H1
                obtain rfl := Option.some.inj H
                go_wp2
                go_ret
                exact ⟨by first | rfl | (simp [errW_none, errW_some] <;> rfl) | (simp [*, errW_none, errW_some] <;> rfl), by repeat (first | (with_reducible first | exact HB.out | apply below_alloc | apply pw_below_drewN | apply below_drew1 | refine below_set ?_ GE146.out | refine below_set ?_ GE167.out) | exact HB.out)⟩
               ·replace c95 := Bool.eq_false_iff.mpr c95
                subst c95
                have H1 : ((laws_heldInt64S.f kj78 t193 1).bind fun t209 => (if t209 < 0 then (some false) else (if t209 = t192 then (some true) else (some false)))) = some r := by rw [if_neg (show ¬ (false = true) by decide)] at H; exact H
                clear H
                have H := H1
                clear H1
                replace H := Option.bind_eq_some_iff.mp H
                obtain ⟨t209, A960, H⟩ := H
                replace H : (if t209 < 0 then (some false) else (if t209 = t192 then (some true) else (some false))) = some r := H
                have A96 := Aside0.mk A960
                clear A960
                by_cases c97 : t209 < 0
                ·rw [if_pos c97] at H
                 have c97b0 : decide (t209 < 0) = true := decide_eq_true c97
                 clear c97
                 obtain rfl := Option.some.inj H
                 go_wp2_with (first | ((with_reducible refine gate_callee (f := 27) rfl ?_); refine goesL_ (some 111) rfl rfl Try.func27 (by kernel_rfl) rfl #[.slice Ao80 t193.length co80, .int .i64 1] rfl (by (try simp only [List.map_toArray, List.map_cons, List.map_nil]); first | done | rfl | (simp only [List.length_drop, List.length_take]; rfl)) ?_; (with_reducible refine (laws_heldInt64S.calls kj78 _ _ t193 1 t209 _ ?side1 ?side2 A96.out).mono ?_); (case side1 => repeat (first | exact (Kd.R_reads' HO_10.out).2.2 | (with_reducible refine Kd.C_alloc ?_ _) | (with_reducible refine Kd.C_drewN ?_ _) | (with_reducible refine Kd.C_drew ?_))); (case side2 => exact (Kd.R_reads' HO_10.out).2.1); rintro e w' ⟨rfl, ⟨nd, rfl⟩⟩; refine ⟨_, rfl, ?_⟩))
                 go_ret
                 exact ⟨by first | rfl | (simp [errW_none, errW_some] <;> rfl) | (simp [*, errW_none, errW_some] <;> rfl), by repeat (first | (with_reducible first | exact HB.out | apply below_alloc | apply pw_below_drewN | apply below_drew1 | refine below_set ?_ GE146.out | refine below_set ?_ GE167.out) | exact HB.out)⟩
                ·rw [if_neg c97] at H
                 have c97b0 : decide (t209 < 0) = false := decide_eq_false c97
                 clear c97
                 by_cases c98 : t209 = t192
                 ·rw [if_pos c98] at H
                  have c98b0 : (t209 == t192) = true := beq_iff_eq.mpr c98
                  have c98b1 : (t209 != t192) = false := bne_eq_false_iff_eq.mpr c98
                  clear c98
                  obtain rfl := Option.some.inj H
                  go_wp2_with (first | ((with_reducible refine gate_callee (f := 27) rfl ?_); refine goesL_ (some 111) rfl rfl Try.func27 (by kernel_rfl) rfl #[.slice Ao80 t193.length co80, .int .i64 1] rfl (by (try simp only [List.map_toArray, List.map_cons, List.map_nil]); first | done | rfl | (simp only [List.length_drop, List.length_take]; rfl)) ?_; (with_reducible refine (laws_heldInt64S.calls kj78 _ _ t193 1 t209 _ ?side1 ?side2 A96.out).mono ?_); (case side1 => repeat (first | exact (Kd.R_reads' HO_10.out).2.2 | (with_reducible refine Kd.C_alloc ?_ _) | (with_reducible refine Kd.C_drewN ?_ _) | (with_reducible refine Kd.C_drew ?_))); (case side2 => exact (Kd.R_reads' HO_10.out).2.1); rintro e w' ⟨rfl, ⟨nd, rfl⟩⟩; refine ⟨_, rfl, ?_⟩))
                  go_ret
                  exact ⟨by first | rfl | (simp [errW_none, errW_some] <;> rfl) | (simp [*, errW_none, errW_some] <;> rfl), by repeat (first | (with_reducible first | exact HB.out | apply below_alloc | apply pw_below_drewN | apply below_drew1 | refine below_set ?_ GE146.out | refine below_set ?_ GE167.out) | exact HB.out)⟩
                 ·rw [if_neg c98] at H
                  have c98b0 : (t209 == t192) = false := beq_eq_false_iff_ne.mpr c98
                  have c98b1 : (t209 != t192) = true := bne_iff_ne.mpr c98
                  obtain rfl := Option.some.inj H
                  go_wp2_with (first | ((with_reducible refine gate_callee (f := 27) rfl ?_); refine goesL_ (some 111) rfl rfl Try.func27 (by kernel_rfl) rfl #[.slice Ao80 t193.length co80, .int .i64 1] rfl (by (try simp only [List.map_toArray, List.map_cons, List.map_nil]); first | done | rfl | (simp only [List.length_drop, List.length_take]; rfl)) ?_; (with_reducible refine (laws_heldInt64S.calls kj78 _ _ t193 1 t209 _ ?side1 ?side2 A96.out).mono ?_); (case side1 => repeat (first | exact (Kd.R_reads' HO_10.out).2.2 | (with_reducible refine Kd.C_alloc ?_ _) | (with_reducible refine Kd.C_drewN ?_ _) | (with_reducible refine Kd.C_drew ?_))); (case side2 => exact (Kd.R_reads' HO_10.out).2.1); rintro e w' ⟨rfl, ⟨nd, rfl⟩⟩; refine ⟨_, rfl, ?_⟩))
                  go_ret
                  exact ⟨by first | rfl | (simp [errW_none, errW_some] <;> rfl) | (simp [*, errW_none, errW_some] <;> rfl), by repeat (first | (with_reducible first | exact HB.out | apply below_alloc | apply pw_below_drewN | apply below_drew1 | refine below_set ?_ GE146.out | refine below_set ?_ GE167.out) | exact HB.out)⟩
            ·rw [if_neg c75] at H
             have c75b0 : (t194 == t192) = false := beq_eq_false_iff_ne.mpr c75
             have c75b1 : (t194 != t192) = true := bne_iff_ne.mpr c75
             obtain rfl := Option.some.inj H
             obtain ⟨Ao99, co99, eo99⟩ := Kd.R_slice HO_10.out
             subst eo99
             go_wp2_with (first | ((with_reducible refine gate_callee (f := 26) rfl ?_); refine goesL_ (some 83) rfl rfl Try.func26 (by kernel_rfl) rfl #[.slice Ao99 t171.length co99, .int .i64 1] rfl (by (try simp only [List.map_toArray, List.map_cons, List.map_nil]); first | done | rfl | (simp only [List.length_drop, List.length_take]; rfl)) ?_; (with_reducible refine (laws_markInt64S.calls kj50 (fun k_ => some k_ = (.slice Ao99 t171.length co99 : Value).ownBlock) (.slice Ao99 t171.length co99) t171 1 t192 t193 w _ ?side1 ?side2 A70.out).mono ?_); (case side1 => repeat (first | (with_reducible first | exact HB.out | apply below_alloc | apply pw_below_drewN | apply below_drew1 | refine below_set ?_ GE146.out | refine below_set ?_ GE167.out) | exact HB.out)); (case side2 => exact Kd.R_tight rfl HO_10.out); rintro e w100 ⟨rfl, hy0, hb, hkp⟩; refine ⟨_, rfl, ?_⟩; have n0_ := Aside0.mk (Kd.R_mono (ok' := fun k_ => some k_ ≠ (.slice Ao99 t171.length co99 : Value).ownBlock) (Kd.R_keptB (HO_6.out) hkp (fun k_ hk_ hs_ => (hk_) hs_)) (fun k_ hk_ => hk_.1)); have n1_ := Aside0.mk (Kd.R_reok rfl hy0 (fun k_ e_ => HO_10.out.1 k_ e_)); have n2_ := Aside0.mk (Kd.R_mono (ok' := fun k_ => True) (Kd.R_keptB ((Kd.R_apart' HO_168003.out (Kd.R_typed HO_10.out) (by decide))) hkp (fun k_ hk_ hs_ => (hk_.2) hs_)) (fun k_ hk_ => trivial)); have n3_ := Aside0.mk (blk_kept (by (with_reducible repeat (first | refine blk_drewN ?_ _ | refine blk_drew ?_ | refine blk_alloc ?_ _)); exact BK146.out) hkp (fun hs_ => (fun e_ => (Kd.R_ne HO_10.out BK146.out (by decide)) e_) hs_)); have n4_ := Aside0.mk (blk_kept (by (with_reducible repeat (first | refine blk_drewN ?_ _ | refine blk_drew ?_ | refine blk_alloc ?_ _)); exact BK167.out) hkp (fun hs_ => (fun e_ => (Kd.R_ne HO_10.out BK167.out (by decide)) e_) hs_)); have n5_ := Aside0.mk (hb); clear HO_6; clear HO_10; clear HO_168003; clear BK146; clear BK167; clear HB; have HO_6 := n0_; have HO_10 := n1_; have HO_168003 := n2_; have BK146 := n3_; have BK167 := n4_; have HB := n5_; clear n0_ n1_ n2_ n3_ n4_ n5_; (try clear hb); (try clear hkp); (try clear hy0)) | ((with_reducible refine gate_callee (f := 27) rfl ?_); refine goesL_ (some 86) rfl rfl Try.func27 (by kernel_rfl) rfl #[.slice Ao99 t193.length co99, .int .i64 1] rfl (by (try simp only [List.map_toArray, List.map_cons, List.map_nil]); first | done | (rw [show t193.length = t171.length from (Kd.R_reads' HO_10.out).1.symm] <;> rfl) | rfl | (simp only [List.length_drop, List.length_take]; rfl)) ?_; (with_reducible refine (laws_heldInt64S.calls kj50 _ _ t193 1 t194 _ ?side1 ?side2 A71.out).mono ?_); (case side1 => repeat (first | exact (Kd.R_reads' HO_10.out).2.2 | (with_reducible refine Kd.C_alloc ?_ _) | (with_reducible refine Kd.C_drewN ?_ _) | (with_reducible refine Kd.C_drew ?_))); (case side2 => rw [show t193.length = t171.length from (Kd.R_reads' HO_10.out).1.symm]; exact (Kd.R_reads' HO_10.out).2.1); rintro e w' ⟨rfl, ⟨nd, rfl⟩⟩; refine ⟨_, rfl, ?_⟩))
             go_ret
             exact ⟨by first | rfl | (simp [errW_none, errW_some] <;> rfl) | (simp [*, errW_none, errW_some] <;> rfl), by repeat (first | (with_reducible first | exact HB.out | apply below_alloc | apply pw_below_drewN | apply below_drew1 | refine below_set ?_ GE146.out | refine below_set ?_ GE167.out) | exact HB.out)⟩
       ·replace c48 := Bool.eq_false_iff.mpr c48
        subst c48
        have H1 : (some false) = some r := by rw [if_neg (show ¬ (false = true) by decide)] at H; exact H
        clear H
        have H := H1
        clear H1
        obtain rfl := Option.some.inj H
        try go_wp2
        have n0_ := Aside0.mk (Kd.R_drew HO_6.out)
        have n1_ := Aside0.mk (Kd.R_drew HO_9.out)
        have n2_ := Aside0.mk (Kd.R_drew HO_10.out)
        have n3_ := Aside0.mk (Kd.R_drew HO_168003.out)
        have n4_ := Aside0.mk (blk_drew BK146.out)
        have n5_ := Aside0.mk (blk_drew BK167.out)
        have n6_ := Aside0.mk (below_drew1 HB.out)
        clear HO_6
        clear HO_9
        clear HO_10
        clear HO_168003
        clear BK146
        clear BK167
        clear HB
        have HO_6 := n0_
        have HO_9 := n1_
        have HO_10 := n2_
        have HO_168003 := n3_
        have BK146 := n4_
        have BK167 := n5_
        have HB := n6_
        clear n0_ n1_ n2_ n3_ n4_ n5_ n6_
        refine start_ (n := 5) (S := fun w' => w'.cell? ⟨gb167, 0, none⟩ = some (.int .i8 t161) ∧ w'.cell? ⟨gb167, 1, none⟩ = some (.int .i8 t162) ∧ w'.cell? ⟨gb167, 2, none⟩ = some (.int .i8 t163) ∧ w'.cell? ⟨gb167, 3, none⟩ = some (.slice Ao31 t164.length co31) ∧ w'.cell? ⟨gb146, 0, none⟩ = some (.int .i8 a0_0) ∧ w'.cell? ⟨gb146, 1, none⟩ = some (.int .i8 a0_1) ∧ w'.cell? ⟨gb146, 2, none⟩ = some (.int .i8 a0_2) ∧ w'.cell? ⟨gb146, 3, none⟩ = some (.slice A0_3 l0_3.length c0_3)) (ds := []) #[false, false, false, false, false] (by kernel_rfl) rfl rfl ⟨(blk_cell BK167.out 0).trans rfl, (blk_cell BK167.out 1).trans rfl, (blk_cell BK167.out 2).trans rfl, (blk_cell BK167.out 3).trans rfl, (blk_cell BK146.out 0).trans rfl, (blk_cell BK146.out 1).trans rfl, (blk_cell BK146.out 2).trans rfl, (blk_cell BK146.out 3).trans rfl⟩ (fun hHeld => ?_)
        generalize wc.drew = w101 at HO_6 HO_9 HO_10 HO_168003 BK146 BK167 HB hHeld ⊢
        refine take_ (i := 0) (N := some 52) (v := ?_) (a' := ?_) #[true, false, false, false, false] rfl rfl (by kernel_rfl) (fun _ _ _ h => h) (Or.inl ⟨by rfl, ?_⟩) hHeld ?_ ?_
        rotate_left
        ·rintro w' ⟨s0, s1, s2, s3, s4, s5, s6, s7⟩
         go_simp
         with_reducible rfl
        rotate_left
        ·simp only [Act.put, List.setIfInBounds_toArray, List.set_cons_zero, List.set_cons_succ, i64_w, i32_w]
         rfl
        refine take_ (i := 1) (N := some 53) (v := ?_) (a' := ?_) #[true, true, false, false, false] rfl rfl (by kernel_rfl) (fun _ _ _ h => h) (Or.inl ⟨by rfl, ?_⟩) hHeld ?_ ?_
        rotate_left
        ·rintro w' ⟨s0, s1, s2, s3, s4, s5, s6, s7⟩
         go_simp
         with_reducible rfl
        rotate_left
        ·simp only [Act.put, List.setIfInBounds_toArray, List.set_cons_zero, List.set_cons_succ, i64_w, i32_w]
         rfl
        refine one_ (i := 2) (N := some 54) #[true, true, true, false, false] rfl rfl (by kernel_rfl) (by decide) (fun K hK => ?_)
        refine goes_ Try.func14 (by kernel_rfl) rfl #[.agg #[.int .i8 a0_0, .int .i8 a0_1, .int .i8 a0_2, .slice A0_3 l0_3.length c0_3]] (by rfl) rfl rfl (by (try simp only [List.map_toArray, List.map_cons, List.map_nil]); first | done | rfl | (simp only [List.length_drop, List.length_take]; rfl)) ?_
        with_reducible refine (laws_toBook.calls kj15 a0_0 a0_1 a0_2 _ _ l0_3 t176 t177 t178 t179 _ ?side1 ?side2 A43.out).mono ?_
        (case side1 => repeat (first | exact (Kd.C_below HR0_3.out HB.out) | (with_reducible refine Kd.C_alloc ?_ _) | (with_reducible refine Kd.C_drewN ?_ _) | (with_reducible refine Kd.C_drew ?_)))
        (case side2 => exact HC0_3.out)
        rintro e w102 ⟨v180, rfl, ho0, hb⟩
        refine ⟨_, rfl, ?_⟩
        have n0_ := Aside0.mk (Kd.R_below (by (with_reducible repeat (first | apply Kd.R_alloc | apply Kd.R_drewN | apply Kd.R_drew)); exact HO_6.out) hb)
        have n1_ := Aside0.mk (Kd.R_below (by (with_reducible repeat (first | apply Kd.R_alloc | apply Kd.R_drewN | apply Kd.R_drew)); exact HO_9.out) hb)
        have n2_ := Aside0.mk (Kd.R_below (by (with_reducible repeat (first | apply Kd.R_alloc | apply Kd.R_drewN | apply Kd.R_drew)); exact HO_10.out) hb)
        have n3_ := Aside0.mk (Kd.R_elder' (by (with_reducible repeat (first | apply Kd.R_alloc | apply Kd.R_drewN | apply Kd.R_drew)); exact HO_168003.out) (Kd.R_base ho0) hb)
        have n4_ := Aside0.mk (Kd.R_lower (Kd.R_new' ho0 (Kd.R_lt (by (with_reducible repeat (first | apply Kd.R_alloc | apply Kd.R_drewN | apply Kd.R_drew)); exact HO_168003.out))) (below_size (by repeat (first | (with_reducible first | exact HB.out | apply below_alloc | apply pw_below_drewN | apply below_drew1 | refine below_set ?_ GE146.out | refine below_set ?_ GE167.out) | exact HB.out))))
        have n5_ := Aside0.mk (blk_below (g := gb146) (o := .cells #[.int .i8 a0_0, .int .i8 a0_1, .int .i8 a0_2, .slice A0_3 l0_3.length c0_3] 25 (0, 0)) (by (with_reducible repeat (first | refine blk_drewN ?_ _ | refine blk_drew ?_ | refine blk_alloc ?_ _)); exact BK146.out) hb)
        have n6_ := Aside0.mk (blk_below (g := gb167) (o := .cells #[.int .i8 t161, .int .i8 t162, .int .i8 t163, .slice Ao31 t164.length co31] 27 (0, 0)) (by (with_reducible repeat (first | refine blk_drewN ?_ _ | refine blk_drew ?_ | refine blk_alloc ?_ _)); exact BK167.out) hb)
        have n7_ := Aside0.mk (below_step (by repeat (first | (with_reducible first | exact HB.out | apply below_alloc | apply pw_below_drewN | apply below_drew1 | refine below_set ?_ GE146.out | refine below_set ?_ GE167.out) | exact HB.out)) hb)
        clear HO_6
        clear HO_9
        clear HO_10
        clear HO_168003
        clear BK146
        clear BK167
        clear HB
        have HO_6 := n0_
        have HO_9 := n1_
        have HO_10 := n2_
        have HO_168003 := n3_
        have HO181 := n4_
        have BK146 := n5_
        have BK167 := n6_
        have HB := n7_
        clear n0_ n1_ n2_ n3_ n4_ n5_ n6_ n7_
        (try clear hb)
        (try clear hb2)
        (try clear hk)
        (try clear hi)
        (try clear ho0)
        obtain ⟨Ao103, co103, eo103⟩ := Kd.R_slice HO181.out
        (first | subst eo103 | (injection eo103 with f1_ f2_ f3_; have f4_ := f1_.symm; have f5_ := f3_.symm; clear f1_ f2_ f3_; subst f4_; subst f5_))
        refine hK.out _ _ ⟨(blk_cell BK167.out 0).trans rfl, (blk_cell BK167.out 1).trans rfl, (blk_cell BK167.out 2).trans rfl, (blk_cell BK167.out 3).trans rfl, (blk_cell BK146.out 0).trans rfl, (blk_cell BK146.out 1).trans rfl, (blk_cell BK146.out 2).trans rfl, (blk_cell BK146.out 3).trans rfl⟩ (fun hHeld => ?_)
        clear hK K
        refine norm_ (a' := ?_) ?_ ?_
        rotate_left
        ·show Act.put _ (some 54) _ = _
         simp only [Act.put, List.setIfInBounds_toArray, List.set_cons_zero, List.set_cons_succ, i64_w, i32_w]
         rfl
        refine one_ (i := 3) (N := some 55) #[true, true, true, true, false] rfl rfl (by kernel_rfl) (by decide) (fun K hK => ?_)
        refine goes_ Try.func16 (by kernel_rfl) rfl #[.agg #[.int .i8 t161, .int .i8 t162, .int .i8 t163, .slice Ao31 t164.length co31], .agg #[.int .i8 t176, .int .i8 t177, .int .i8 t178, .slice Ao103 t179.length co103]] (by rfl) rfl rfl (by (try simp only [List.map_toArray, List.map_cons, List.map_nil]); first | done | rfl | (simp only [List.length_drop, List.length_take]; rfl)) ?_
        with_reducible refine (laws_eqBook.calls kj15 t161 t162 t163 _ _ t164 t176 t177 t178 _ _ t179 true _ ?side1 ?side2 ?side3 ?side4 A44.out).mono ?_
        (case side1 => repeat (first | exact (Kd.R_reads' HO_168003.out).2.2 | (with_reducible refine Kd.C_alloc ?_ _) | (with_reducible refine Kd.C_drewN ?_ _) | (with_reducible refine Kd.C_drew ?_)))
        (case side2 => exact (Kd.R_reads' HO_168003.out).2.1)
        (case side3 => repeat (first | exact (Kd.R_reads' HO181.out).2.2 | (with_reducible refine Kd.C_alloc ?_ _) | (with_reducible refine Kd.C_drewN ?_ _) | (with_reducible refine Kd.C_drew ?_)))
        (case side4 => exact (Kd.R_reads' HO181.out).2.1)
        rintro e w104 ⟨rfl, hb⟩
        refine ⟨_, rfl, ?_⟩
        have n0_ := Aside0.mk (Kd.R_below (by (with_reducible repeat (first | apply Kd.R_alloc | apply Kd.R_drewN | apply Kd.R_drew)); exact HO_6.out) hb)
        have n1_ := Aside0.mk (Kd.R_below (by (with_reducible repeat (first | apply Kd.R_alloc | apply Kd.R_drewN | apply Kd.R_drew)); exact HO_9.out) hb)
        have n2_ := Aside0.mk (Kd.R_below (by (with_reducible repeat (first | apply Kd.R_alloc | apply Kd.R_drewN | apply Kd.R_drew)); exact HO_10.out) hb)
        have n3_ := Aside0.mk (Kd.R_below (by (with_reducible repeat (first | apply Kd.R_alloc | apply Kd.R_drewN | apply Kd.R_drew)); exact HO_168003.out) hb)
        have n4_ := Aside0.mk (Kd.R_below (by (with_reducible repeat (first | apply Kd.R_alloc | apply Kd.R_drewN | apply Kd.R_drew)); exact HO181.out) hb)
        have n5_ := Aside0.mk (blk_below (g := gb146) (o := .cells #[.int .i8 a0_0, .int .i8 a0_1, .int .i8 a0_2, .slice A0_3 l0_3.length c0_3] 25 (0, 0)) (by (with_reducible repeat (first | refine blk_drewN ?_ _ | refine blk_drew ?_ | refine blk_alloc ?_ _)); exact BK146.out) hb)
        have n6_ := Aside0.mk (blk_below (g := gb167) (o := .cells #[.int .i8 t161, .int .i8 t162, .int .i8 t163, .slice Ao31 t164.length co31] 27 (0, 0)) (by (with_reducible repeat (first | refine blk_drewN ?_ _ | refine blk_drew ?_ | refine blk_alloc ?_ _)); exact BK167.out) hb)
        have n7_ := Aside0.mk (below_step (by repeat (first | (with_reducible first | exact HB.out | apply below_alloc | apply pw_below_drewN | apply below_drew1 | refine below_set ?_ GE146.out | refine below_set ?_ GE167.out) | exact HB.out)) hb)
        clear HO_6
        clear HO_9
        clear HO_10
        clear HO_168003
        clear HO181
        clear BK146
        clear BK167
        clear HB
        have HO_6 := n0_
        have HO_9 := n1_
        have HO_10 := n2_
        have HO_168003 := n3_
        have HO181 := n4_
        have BK146 := n5_
        have BK167 := n6_
        have HB := n7_
        clear n0_ n1_ n2_ n3_ n4_ n5_ n6_ n7_
        (try clear hb)
        (try clear hb2)
        (try clear hk)
        (try clear hi)
        refine hK.out _ _ ⟨(blk_cell BK167.out 0).trans rfl, (blk_cell BK167.out 1).trans rfl, (blk_cell BK167.out 2).trans rfl, (blk_cell BK167.out 3).trans rfl, (blk_cell BK146.out 0).trans rfl, (blk_cell BK146.out 1).trans rfl, (blk_cell BK146.out 2).trans rfl, (blk_cell BK146.out 3).trans rfl⟩ (fun hHeld => ?_)
        clear hK K
        refine norm_ (a' := ?_) ?_ ?_
        rotate_left
        ·show Act.put _ (some 55) _ = _
         simp only [Act.put, List.setIfInBounds_toArray, List.set_cons_zero, List.set_cons_succ, i64_w, i32_w]
         rfl
        refine pure_ (i := 4) (N := some 56) (v := ?_) (a' := ?_) #[true, true, true, true, true] rfl rfl (by kernel_rfl) (fun _ _ _ h => h) (Or.inl ⟨by rfl, ?_⟩) ?_ ?_
        rotate_left
        ·intro w'
         go_simp
         with_reducible rfl
        rotate_left
        ·simp only [Act.put, List.setIfInBounds_toArray, List.set_cons_zero, List.set_cons_succ, i64_w, i32_w]
         rfl
        refine done_ (by kernel_rfl) ?_
        try go_wp2_with (first | ((with_reducible refine gate_callee (f := 29) rfl ?_); refine goesL_ (some 59) rfl rfl Try.func29 (by kernel_rfl) rfl #[.slice A1 l1.length c1] rfl (by (try simp only [List.map_toArray, List.map_cons, List.map_nil]); first | done | rfl | (simp only [List.length_drop, List.length_take]; rfl)) ?_; (with_reducible refine (laws_toMeaning.calls kj15 _ _ l1 t183 _ ?side1 ?side2 A46.out).mono ?_); (case side1 => repeat (first | exact (Kd.C_below HR1.out HB.out) | (with_reducible refine Kd.C_alloc ?_ _) | (with_reducible refine Kd.C_drewN ?_ _) | (with_reducible refine Kd.C_drew ?_))); (case side2 => exact HC1.out); rintro e w105 ⟨v184, rfl, ho0, hb⟩; refine ⟨_, rfl, ?_⟩; have n0_ := Aside0.mk (Kd.R_below (by (with_reducible repeat (first | apply Kd.R_alloc | apply Kd.R_drewN | apply Kd.R_drew)); exact HO_6.out) hb); have n1_ := Aside0.mk (Kd.R_elder' (by (with_reducible repeat (first | apply Kd.R_alloc | apply Kd.R_drewN | apply Kd.R_drew)); exact HO_9.out) (Kd.R_base ho0) hb); have n2_ := Aside0.mk (Kd.R_below (by (with_reducible repeat (first | apply Kd.R_alloc | apply Kd.R_drewN | apply Kd.R_drew)); exact HO_10.out) hb); have n3_ := Aside0.mk (Kd.R_below (by (with_reducible repeat (first | apply Kd.R_alloc | apply Kd.R_drewN | apply Kd.R_drew)); exact HO_168003.out) hb); have n4_ := Aside0.mk (Kd.R_below (by (with_reducible repeat (first | apply Kd.R_alloc | apply Kd.R_drewN | apply Kd.R_drew)); exact HO181.out) hb); have n5_ := Aside0.mk (Kd.R_lower (Kd.R_new' ho0 (Kd.R_lt (by (with_reducible repeat (first | apply Kd.R_alloc | apply Kd.R_drewN | apply Kd.R_drew)); exact HO_9.out))) (below_size (by repeat (first | (with_reducible first | exact HB.out | apply below_alloc | apply pw_below_drewN | apply below_drew1 | refine below_set ?_ GE146.out | refine below_set ?_ GE167.out) | exact HB.out)))); have n6_ := Aside0.mk (blk_below (g := gb146) (o := .cells #[.int .i8 a0_0, .int .i8 a0_1, .int .i8 a0_2, .slice A0_3 l0_3.length c0_3] 25 (0, 0)) (by (with_reducible repeat (first | refine blk_drewN ?_ _ | refine blk_drew ?_ | refine blk_alloc ?_ _)); exact BK146.out) hb); have n7_ := Aside0.mk (blk_below (g := gb167) (o := .cells #[.int .i8 t161, .int .i8 t162, .int .i8 t163, .slice Ao31 t164.length co31] 27 (0, 0)) (by (with_reducible repeat (first | refine blk_drewN ?_ _ | refine blk_drew ?_ | refine blk_alloc ?_ _)); exact BK167.out) hb); have n8_ := Aside0.mk (below_step (by repeat (first | (with_reducible first | exact HB.out | apply below_alloc | apply pw_below_drewN | apply below_drew1 | refine below_set ?_ GE146.out | refine below_set ?_ GE167.out) | exact HB.out)) hb); clear HO_6; clear HO_9; clear HO_10; clear HO_168003; clear HO181; clear BK146; clear BK167; clear HB; have HO_6 := n0_; have HO_9 := n1_; have HO_10 := n2_; have HO_168003 := n3_; have HO181 := n4_; have HO185 := n5_; have BK146 := n6_; have BK167 := n7_; have HB := n8_; clear n0_ n1_ n2_ n3_ n4_ n5_ n6_ n7_ n8_; (try clear hb); (try clear hb2); (try clear hk); (try clear hi); (try clear ho0); obtain ⟨Ao106, co106, eo106⟩ := Kd.R_slice HO185.out; subst eo106) | ((with_reducible refine gate_callee (f := 31) rfl ?_); refine goesL_ (some 60) rfl rfl Try.func31 (by kernel_rfl) rfl #[.slice Ao34 t168.length co34, .slice Ao106 t183.length co106] rfl (by (try simp only [List.map_toArray, List.map_cons, List.map_nil]); first | done | rfl | (simp only [List.length_drop, List.length_take]; rfl)) ?_; (with_reducible refine (laws_eqMeaning.calls kj15 _ _ t168 _ _ t183 false _ ?side1 ?side2 ?side3 ?side4 A47.out).mono ?_); (case side1 => repeat (first | exact (Kd.R_reads' HO_9.out).2.2 | (with_reducible refine Kd.C_alloc ?_ _) | (with_reducible refine Kd.C_drewN ?_ _) | (with_reducible refine Kd.C_drew ?_))); (case side2 => exact (Kd.R_reads' HO_9.out).2.1); (case side3 => repeat (first | exact (Kd.R_reads' HO185.out).2.2 | (with_reducible refine Kd.C_alloc ?_ _) | (with_reducible refine Kd.C_drewN ?_ _) | (with_reducible refine Kd.C_drew ?_))); (case side4 => exact (Kd.R_reads' HO185.out).2.1); rintro e w' ⟨rfl, ⟨nd, rfl⟩⟩; refine ⟨_, rfl, ?_⟩))
        go_ret
        exact ⟨by first | rfl | (simp [errW_none, errW_some] <;> rfl) | (simp [*, errW_none, errW_some] <;> rfl), by repeat (first | (with_reducible first | exact HB.out | apply below_alloc | apply pw_below_drewN | apply below_drew1 | refine below_set ?_ GE146.out | refine below_set ?_ GE167.out) | exact HB.out)⟩
      ·replace c45 := Bool.eq_false_iff.mpr c45
       subst c45
       have H1 : (some false) = some r := by rw [if_neg (show ¬ (false = true) by decide)] at H; exact H
       clear H
       have H := H1
       clear H1
       obtain rfl := Option.some.inj H
       try go_wp2
       have n0_ := Aside0.mk (Kd.R_drew HO_6.out)
       have n1_ := Aside0.mk (Kd.R_drew HO_9.out)
       have n2_ := Aside0.mk (Kd.R_drew HO_10.out)
       have n3_ := Aside0.mk (Kd.R_drew HO_168003.out)
       have n4_ := Aside0.mk (blk_drew BK146.out)
       have n5_ := Aside0.mk (blk_drew BK167.out)
       have n6_ := Aside0.mk (below_drew1 HB.out)
       clear HO_6
       clear HO_9
       clear HO_10
       clear HO_168003
       clear BK146
       clear BK167
       clear HB
       have HO_6 := n0_
       have HO_9 := n1_
       have HO_10 := n2_
       have HO_168003 := n3_
       have BK146 := n4_
       have BK167 := n5_
       have HB := n6_
       clear n0_ n1_ n2_ n3_ n4_ n5_ n6_
       refine start_ (n := 5) (S := fun w' => w'.cell? ⟨gb167, 0, none⟩ = some (.int .i8 t161) ∧ w'.cell? ⟨gb167, 1, none⟩ = some (.int .i8 t162) ∧ w'.cell? ⟨gb167, 2, none⟩ = some (.int .i8 t163) ∧ w'.cell? ⟨gb167, 3, none⟩ = some (.slice Ao31 t164.length co31) ∧ w'.cell? ⟨gb146, 0, none⟩ = some (.int .i8 a0_0) ∧ w'.cell? ⟨gb146, 1, none⟩ = some (.int .i8 a0_1) ∧ w'.cell? ⟨gb146, 2, none⟩ = some (.int .i8 a0_2) ∧ w'.cell? ⟨gb146, 3, none⟩ = some (.slice A0_3 l0_3.length c0_3)) (ds := []) #[false, false, false, false, false] (by kernel_rfl) rfl rfl ⟨(blk_cell BK167.out 0).trans rfl, (blk_cell BK167.out 1).trans rfl, (blk_cell BK167.out 2).trans rfl, (blk_cell BK167.out 3).trans rfl, (blk_cell BK146.out 0).trans rfl, (blk_cell BK146.out 1).trans rfl, (blk_cell BK146.out 2).trans rfl, (blk_cell BK146.out 3).trans rfl⟩ (fun hHeld => ?_)
       generalize wc.drew = w107 at HO_6 HO_9 HO_10 HO_168003 BK146 BK167 HB hHeld ⊢
       refine take_ (i := 0) (N := some 52) (v := ?_) (a' := ?_) #[true, false, false, false, false] rfl rfl (by kernel_rfl) (fun _ _ _ h => h) (Or.inl ⟨by rfl, ?_⟩) hHeld ?_ ?_
       rotate_left
       ·rintro w' ⟨s0, s1, s2, s3, s4, s5, s6, s7⟩
        go_simp
        with_reducible rfl
       rotate_left
       ·simp only [Act.put, List.setIfInBounds_toArray, List.set_cons_zero, List.set_cons_succ, i64_w, i32_w]
        rfl
       refine take_ (i := 1) (N := some 53) (v := ?_) (a' := ?_) #[true, true, false, false, false] rfl rfl (by kernel_rfl) (fun _ _ _ h => h) (Or.inl ⟨by rfl, ?_⟩) hHeld ?_ ?_
       rotate_left
       ·rintro w' ⟨s0, s1, s2, s3, s4, s5, s6, s7⟩
        go_simp
        with_reducible rfl
       rotate_left
       ·simp only [Act.put, List.setIfInBounds_toArray, List.set_cons_zero, List.set_cons_succ, i64_w, i32_w]
        rfl
       refine one_ (i := 2) (N := some 54) #[true, true, true, false, false] rfl rfl (by kernel_rfl) (by decide) (fun K hK => ?_)
       refine goes_ Try.func14 (by kernel_rfl) rfl #[.agg #[.int .i8 a0_0, .int .i8 a0_1, .int .i8 a0_2, .slice A0_3 l0_3.length c0_3]] (by rfl) rfl rfl (by (try simp only [List.map_toArray, List.map_cons, List.map_nil]); first | done | rfl | (simp only [List.length_drop, List.length_take]; rfl)) ?_
       with_reducible refine (laws_toBook.calls kj15 a0_0 a0_1 a0_2 _ _ l0_3 t176 t177 t178 t179 _ ?side1 ?side2 A43.out).mono ?_
       (case side1 => repeat (first | exact (Kd.C_below HR0_3.out HB.out) | (with_reducible refine Kd.C_alloc ?_ _) | (with_reducible refine Kd.C_drewN ?_ _) | (with_reducible refine Kd.C_drew ?_)))
       (case side2 => exact HC0_3.out)
       rintro e w108 ⟨v180, rfl, ho0, hb⟩
       refine ⟨_, rfl, ?_⟩
       have n0_ := Aside0.mk (Kd.R_below (by (with_reducible repeat (first | apply Kd.R_alloc | apply Kd.R_drewN | apply Kd.R_drew)); exact HO_6.out) hb)
       have n1_ := Aside0.mk (Kd.R_below (by (with_reducible repeat (first | apply Kd.R_alloc | apply Kd.R_drewN | apply Kd.R_drew)); exact HO_9.out) hb)
       have n2_ := Aside0.mk (Kd.R_below (by (with_reducible repeat (first | apply Kd.R_alloc | apply Kd.R_drewN | apply Kd.R_drew)); exact HO_10.out) hb)
       have n3_ := Aside0.mk (Kd.R_elder' (by (with_reducible repeat (first | apply Kd.R_alloc | apply Kd.R_drewN | apply Kd.R_drew)); exact HO_168003.out) (Kd.R_base ho0) hb)
       have n4_ := Aside0.mk (Kd.R_lower (Kd.R_new' ho0 (Kd.R_lt (by (with_reducible repeat (first | apply Kd.R_alloc | apply Kd.R_drewN | apply Kd.R_drew)); exact HO_168003.out))) (below_size (by repeat (first | (with_reducible first | exact HB.out | apply below_alloc | apply pw_below_drewN | apply below_drew1 | refine below_set ?_ GE146.out | refine below_set ?_ GE167.out) | exact HB.out))))
       have n5_ := Aside0.mk (blk_below (g := gb146) (o := .cells #[.int .i8 a0_0, .int .i8 a0_1, .int .i8 a0_2, .slice A0_3 l0_3.length c0_3] 25 (0, 0)) (by (with_reducible repeat (first | refine blk_drewN ?_ _ | refine blk_drew ?_ | refine blk_alloc ?_ _)); exact BK146.out) hb)
       have n6_ := Aside0.mk (blk_below (g := gb167) (o := .cells #[.int .i8 t161, .int .i8 t162, .int .i8 t163, .slice Ao31 t164.length co31] 27 (0, 0)) (by (with_reducible repeat (first | refine blk_drewN ?_ _ | refine blk_drew ?_ | refine blk_alloc ?_ _)); exact BK167.out) hb)
       have n7_ := Aside0.mk (below_step (by repeat (first | (with_reducible first | exact HB.out | apply below_alloc | apply pw_below_drewN | apply below_drew1 | refine below_set ?_ GE146.out | refine below_set ?_ GE167.out) | exact HB.out)) hb)
       clear HO_6
       clear HO_9
       clear HO_10
       clear HO_168003
       clear BK146
       clear BK167
       clear HB
       have HO_6 := n0_
       have HO_9 := n1_
       have HO_10 := n2_
       have HO_168003 := n3_
       have HO181 := n4_
       have BK146 := n5_
       have BK167 := n6_
       have HB := n7_
       clear n0_ n1_ n2_ n3_ n4_ n5_ n6_ n7_
       (try clear hb)
       (try clear hb2)
       (try clear hk)
       (try clear hi)
       (try clear ho0)
       obtain ⟨Ao109, co109, eo109⟩ := Kd.R_slice HO181.out
       (first | subst eo109 | (injection eo109 with f1_ f2_ f3_; have f4_ := f1_.symm; have f5_ := f3_.symm; clear f1_ f2_ f3_; subst f4_; subst f5_))
       refine hK.out _ _ ⟨(blk_cell BK167.out 0).trans rfl, (blk_cell BK167.out 1).trans rfl, (blk_cell BK167.out 2).trans rfl, (blk_cell BK167.out 3).trans rfl, (blk_cell BK146.out 0).trans rfl, (blk_cell BK146.out 1).trans rfl, (blk_cell BK146.out 2).trans rfl, (blk_cell BK146.out 3).trans rfl⟩ (fun hHeld => ?_)
       clear hK K
       refine norm_ (a' := ?_) ?_ ?_
       rotate_left
       ·show Act.put _ (some 54) _ = _
        simp only [Act.put, List.setIfInBounds_toArray, List.set_cons_zero, List.set_cons_succ, i64_w, i32_w]
        rfl
       refine one_ (i := 3) (N := some 55) #[true, true, true, true, false] rfl rfl (by kernel_rfl) (by decide) (fun K hK => ?_)
       refine goes_ Try.func16 (by kernel_rfl) rfl #[.agg #[.int .i8 t161, .int .i8 t162, .int .i8 t163, .slice Ao31 t164.length co31], .agg #[.int .i8 t176, .int .i8 t177, .int .i8 t178, .slice Ao109 t179.length co109]] (by rfl) rfl rfl (by (try simp only [List.map_toArray, List.map_cons, List.map_nil]); first | done | rfl | (simp only [List.length_drop, List.length_take]; rfl)) ?_
       with_reducible refine (laws_eqBook.calls kj15 t161 t162 t163 _ _ t164 t176 t177 t178 _ _ t179 false _ ?side1 ?side2 ?side3 ?side4 A44.out).mono ?_
       (case side1 => repeat (first | exact (Kd.R_reads' HO_168003.out).2.2 | (with_reducible refine Kd.C_alloc ?_ _) | (with_reducible refine Kd.C_drewN ?_ _) | (with_reducible refine Kd.C_drew ?_)))
       (case side2 => exact (Kd.R_reads' HO_168003.out).2.1)
       (case side3 => repeat (first | exact (Kd.R_reads' HO181.out).2.2 | (with_reducible refine Kd.C_alloc ?_ _) | (with_reducible refine Kd.C_drewN ?_ _) | (with_reducible refine Kd.C_drew ?_)))
       (case side4 => exact (Kd.R_reads' HO181.out).2.1)
       rintro e w110 ⟨rfl, hb⟩
       refine ⟨_, rfl, ?_⟩
       have n0_ := Aside0.mk (Kd.R_below (by (with_reducible repeat (first | apply Kd.R_alloc | apply Kd.R_drewN | apply Kd.R_drew)); exact HO_6.out) hb)
       have n1_ := Aside0.mk (Kd.R_below (by (with_reducible repeat (first | apply Kd.R_alloc | apply Kd.R_drewN | apply Kd.R_drew)); exact HO_9.out) hb)
       have n2_ := Aside0.mk (Kd.R_below (by (with_reducible repeat (first | apply Kd.R_alloc | apply Kd.R_drewN | apply Kd.R_drew)); exact HO_10.out) hb)
       have n3_ := Aside0.mk (Kd.R_below (by (with_reducible repeat (first | apply Kd.R_alloc | apply Kd.R_drewN | apply Kd.R_drew)); exact HO_168003.out) hb)
       have n4_ := Aside0.mk (Kd.R_below (by (with_reducible repeat (first | apply Kd.R_alloc | apply Kd.R_drewN | apply Kd.R_drew)); exact HO181.out) hb)
       have n5_ := Aside0.mk (blk_below (g := gb146) (o := .cells #[.int .i8 a0_0, .int .i8 a0_1, .int .i8 a0_2, .slice A0_3 l0_3.length c0_3] 25 (0, 0)) (by (with_reducible repeat (first | refine blk_drewN ?_ _ | refine blk_drew ?_ | refine blk_alloc ?_ _)); exact BK146.out) hb)
       have n6_ := Aside0.mk (blk_below (g := gb167) (o := .cells #[.int .i8 t161, .int .i8 t162, .int .i8 t163, .slice Ao31 t164.length co31] 27 (0, 0)) (by (with_reducible repeat (first | refine blk_drewN ?_ _ | refine blk_drew ?_ | refine blk_alloc ?_ _)); exact BK167.out) hb)
       have n7_ := Aside0.mk (below_step (by repeat (first | (with_reducible first | exact HB.out | apply below_alloc | apply pw_below_drewN | apply below_drew1 | refine below_set ?_ GE146.out | refine below_set ?_ GE167.out) | exact HB.out)) hb)
       clear HO_6
       clear HO_9
       clear HO_10
       clear HO_168003
       clear HO181
       clear BK146
       clear BK167
       clear HB
       have HO_6 := n0_
       have HO_9 := n1_
       have HO_10 := n2_
       have HO_168003 := n3_
       have HO181 := n4_
       have BK146 := n5_
       have BK167 := n6_
       have HB := n7_
       clear n0_ n1_ n2_ n3_ n4_ n5_ n6_ n7_
       (try clear hb)
       (try clear hb2)
       (try clear hk)
       (try clear hi)
       refine hK.out _ _ ⟨(blk_cell BK167.out 0).trans rfl, (blk_cell BK167.out 1).trans rfl, (blk_cell BK167.out 2).trans rfl, (blk_cell BK167.out 3).trans rfl, (blk_cell BK146.out 0).trans rfl, (blk_cell BK146.out 1).trans rfl, (blk_cell BK146.out 2).trans rfl, (blk_cell BK146.out 3).trans rfl⟩ (fun hHeld => ?_)
       clear hK K
       refine norm_ (a' := ?_) ?_ ?_
       rotate_left
       ·show Act.put _ (some 55) _ = _
        simp only [Act.put, List.setIfInBounds_toArray, List.set_cons_zero, List.set_cons_succ, i64_w, i32_w]
        rfl
       refine pure_ (i := 4) (N := some 56) (v := ?_) (a' := ?_) #[true, true, true, true, true] rfl rfl (by kernel_rfl) (fun _ _ _ h => h) (Or.inl ⟨by rfl, ?_⟩) ?_ ?_
       rotate_left
       ·intro w'
        go_simp
        with_reducible rfl
       rotate_left
       ·simp only [Act.put, List.setIfInBounds_toArray, List.set_cons_zero, List.set_cons_succ, i64_w, i32_w]
        rfl
       refine done_ (by kernel_rfl) ?_
       try go_wp2
       go_ret
       exact ⟨by first | rfl | (simp [errW_none, errW_some] <;> rfl) | (simp [*, errW_none, errW_some] <;> rfl), by repeat (first | (with_reducible first | exact HB.out | apply below_alloc | apply pw_below_drewN | apply below_drew1 | refine below_set ?_ GE146.out | refine below_set ?_ GE167.out) | exact HB.out)⟩
end Go.Proofs.Ytckpfodpfplaeaa.E
namespace Go.Proofs.Ytckpfodpfplaeaa.E
open Go.RowKit Go.Proofs.YtckpfodpfplaeaaW.PrintWords Go.Proofs.YtckpfodpfplaeaaW.PrintLast Go.Proofs.Ytckpfodpfplaeaa.U
set_option linter.unusedVariables false
set_option linter.unusedSimpArgs false
theorem rdB_get (ph : List ByteArray) (i : Nat) (hi : i < ph.length) : rdOf ByteArray.empty ph (i : Int) = ph[i] := by
 unfold rdOf; simp [List.getElem?_eq_getElem hi]
theorem szStringS_ev (l : List ByteArray) (a : Int) (ha : 0 ≤ a ∧ a ≤ 1048576) (hl : l.length ≤ maxLen) (hls : ∀ x ∈ l, x.size ≤ maxLen) :
  ∃ r, Ev (fun k => laws_szStringS.f k l a) r ∧ r ≤ a ∧ (0 ≤ r → (l.length : Int) ≤ a ∧ ∀ x ∈ l, (x.size : Int) ≤ a) := by
 unfold laws_szStringS.f
 have hl2 := hl
 unfold maxLen at hl2
 rw [w64 (x := a - (l.length : Int)) (by omega) (by omega)]
 by_cases h : a - (l.length : Int) < 0
 ·exact ⟨-1, pos h (cons rfl), by omega, fun h => by omega⟩
 have key : ∀ (d i : Nat) (b : Int), i + d = l.length → 0 ≤ b → b ≤ a → (∀ j : Nat, j < i → ((rdOf ByteArray.empty l (j : Int)).size : Int) ≤ a) →
   ∃ r, Ev (fun k => laws_szStringS.l0 k l b (i : Int)) r ∧ r ≤ a ∧ (0 ≤ r → ∀ j : Nat, j < l.length → ((rdOf ByteArray.empty l (j : Int)).size : Int) ≤ a) := by
  intro d
  induction d with
  | zero =>
   intro i b hi hb0 hb1 hp
   refine ⟨b, ?_, hb1, fun _ j hj => hp j (by omega)⟩
   refine Ev.step (fun k => by rw [laws_szStringS.l0]) ?_
   exact neg (by omega) (Ev.now _)
  | succ d ih =>
   intro i b hi hb0 hb1 hp
   have hm : (rdOf ByteArray.empty l (i : Int)).size ≤ maxLen := by rw [rdB_get l i (by omega)]; exact hls _ (List.getElem_mem _)
   unfold maxLen at hm
   have hw : wrap64 (b - ((rdOf ByteArray.empty l (i : Int)).size : Int)) = b - ((rdOf ByteArray.empty l (i : Int)).size : Int) := w64 (by omega) (by omega)
   by_cases hc : b < ((rdOf ByteArray.empty l (i : Int)).size : Int)
   ·refine ⟨-1, ?_, by omega, fun h => by omega⟩
    refine Ev.step (fun k => by rw [laws_szStringS.l0]) ?_
    rw [hw]
    exact pos (by omega) (pos (by omega) (pos (by omega) (cons rfl)))
   ·obtain ⟨r, hr, h1, h2⟩ := ih (i + 1) (b - ((rdOf ByteArray.empty l (i : Int)).size : Int)) (by omega) (by omega) (by omega) (fun j hj => by
     rcases Nat.lt_or_ge j i with h | h
     ·exact hp j h
     ·obtain rfl : j = i := by omega
      omega)
    refine ⟨r, ?_, h1, h2⟩
    refine Ev.step (fun k => by rw [laws_szStringS.l0]) ?_
    rw [hw, w64 (x := (i : Int) + 1) (by omega) (by omega)]
    exact pos (by omega) (pos (by omega) (neg (by omega) hr))
 obtain ⟨r, hr, h1, h2⟩ := key l.length 0 (a - (l.length : Int)) (by omega) (by omega) (by omega) (fun j hj => by omega)
 refine ⟨r, neg h hr, h1, fun h0 => ⟨by omega, fun x hx => ?_⟩⟩
 obtain ⟨j, hj, rfl⟩ := List.getElem_of_mem hx
 have := h2 h0 j hj
 rwa [rdB_get l j hj] at this
theorem szBook_ev (K L S : Int) (l : List ByteArray) (a : Int) (ha : 0 ≤ a ∧ a ≤ 1048576) (hl : l.length ≤ maxLen) (hls : ∀ x ∈ l, x.size ≤ maxLen) :
  ∃ r, Ev (fun k => laws_szBook.f k K L S l a) r ∧ r ≤ a ∧ (0 ≤ r → (l.length : Int) ≤ a ∧ ∀ x ∈ l, (x.size : Int) ≤ a) := by
 obtain ⟨r, h1, h2, h3⟩ := szStringS_ev l a ha hl hls
 unfold laws_szBook.f
 by_cases h : r < 0
 ·exact ⟨-1, Ev.bind h1 (pos h (cons rfl)), by omega, fun h => by omega⟩
 ·exact ⟨r, Ev.bind h1 (neg h (cons rfl)), h2, h3⟩
theorem toListB {l l' : List ByteArray} {n : Nat} (h1 : l.length = n) (h2 : l'.length = n) (h : ∀ j, j < n → l[j]? = l'[j]?) : l = l' := by
 apply List.ext_getElem?
 intro j
 rcases Nat.lt_or_ge j n with hj | hj
 ·exact h j hj
 ·rw [List.getElem?_eq_none (by omega), List.getElem?_eq_none (by omega)]
theorem toStringS_ev (l : List ByteArray) (hn : l.length ≤ 1048576) : Ev (fun k => laws_toStringS.f k l) l := by
 unfold laws_toStringS.f
 refine pos (by omega) (pos (by omega) ?_)
 rw [Int.toNat_natCast]
 refine iter (F := fun k (s : List ByteArray × Int) => laws_toStringS.l0 k l s.1 s.2) (fun i s => s.2 = (i : Int) ∧ s.1.length = l.length ∧ ∀ j, j < i → s.1[j]? = l[j]?) l l.length ?_ ?_ 0 (List.replicate l.length _, 0) (by omega) ⟨rfl, by simp, fun j hj => by omega⟩
 ·rintro i ⟨s, x⟩ hi ⟨rfl, hl, hp⟩
  dsimp only at hl hp
  refine .inl ⟨(s.set i (rdOf ByteArray.empty l (i : Int)), ((i + 1 : Nat) : Int)), ⟨rfl, by simpa using hl, fun j hj => ?_⟩, Ev.step fun k => ?_⟩
  ·dsimp only
   by_cases e : j = i
   ·subst e; rw [List.getElem?_set_self (by omega), rdB_get l j hi, List.getElem?_eq_getElem hi]
   ·rw [List.getElem?_set_ne (by omega)]; exact hp j (by omega)
  ·simp only [laws_toStringS.l0]
   rw [if_pos (by omega), if_pos (by omega), if_pos (by omega), w64 (by omega) (by omega), Int.toNat_natCast]; rfl
 ·rintro ⟨s, x⟩ ⟨rfl, hl, hp⟩
  dsimp only at hl hp
  refine Ev.step (f := fun _ => some s) (fun k => ?_) (cons (toListB hl rfl hp))
  simp only [laws_toStringS.l0]; rw [if_neg (by omega)]
theorem toBook_ev (K L S : Int) (l : List ByteArray) (hn : l.length ≤ 1048576) : Ev (fun k => laws_toBook.f k K L S l) (K, L, S, l) := by
 unfold laws_toBook.f
 exact Ev.bind (toStringS_ev l hn) (cons rfl)
theorem eqStringS_l0 (l : List ByteArray) (hn : l.length ≤ 9223372036854775806) : ∀ (d i : Nat), i + d = l.length → Ev (fun k => laws_eqStringS.l0 k l l (i : Int)) true := by
 intro d
 induction d with
 | zero =>
  intro i hi
  refine Ev.step (f := fun _ => some true) (fun k => ?_) (cons rfl)
  simp only [laws_eqStringS.l0]; rw [if_neg (by omega)]
 | succ d ih =>
  intro i hi
  refine Ev.step (f := fun k => laws_eqStringS.l0 k l l ((i + 1 : Nat) : Int)) (fun k => ?_) (ih (i + 1) (by omega))
  simp only [laws_eqStringS.l0]; rw [if_pos (by omega), if_pos (by omega), if_pos (by omega), if_pos trivial, w64 (by omega) (by omega)]; rfl
theorem eqStringS_refl (l : List ByteArray) (hn : l.length ≤ 9223372036854775806) : Ev (fun k => laws_eqStringS.f k l l) true := by
 unfold laws_eqStringS.f
 exact pos rfl (eqStringS_l0 l hn l.length 0 (by omega))
theorem eqBook_refl (K L S : Int) (l : List ByteArray) (hn : l.length ≤ 9223372036854775806) : Ev (fun k => laws_eqBook.f k K L S l K L S l) true := by
 unfold laws_eqBook.f
 exact pos rfl (pos rfl (pos rfl (Ev.bind (eqStringS_refl l hn) (pos rfl (cons rfl)))))
theorem bits_book {K L S : Int} {ph : List ByteArray} (hK : WfI .i8 K) (hL : WfI .i8 L) (hS : WfI .i8 S) (hn : ph.length ≤ 1048576) (hs : ∀ x ∈ ph, x.size ≤ 1048576) : (Arr.smallPh ph && (Arr.in8 K && (Arr.in8 L && Arr.in8 S))) = true := by
 have e : ∀ a : Int, WfI .i8 a → Arr.in8 a = true := fun a ha => decide_eq_true (Arr.wfi8 ha)
 rw [e K hK, e L hL, e S hS]
 unfold Arr.smallPh
 rw [decide_eq_true (show ph.length ≤ 100000000 by omega)]
 have : (ph.all fun s => decide (s.size ≤ 140737488351232)) = true := List.all_eq_true.2 fun s hm => decide_eq_true (by have := hs s hm; omega)
 rw [this]; rfl
theorem bits_list {m : List Int} (hm : m.length ≤ 1048576) (hw : ∀ x ∈ m, WfI .i8 x) : Arr.small8B m = true := by
 unfold Arr.small8B
 rw [decide_eq_true (show m.length ≤ 100000000 by omega)]
 have : (m.all fun x => decide (-128 ≤ x ∧ x ≤ 127)) = true := List.all_eq_true.2 fun x hx => decide_eq_true (Arr.wfi8 (hw x hx))
 rw [this]; rfl
end Go.Proofs.Ytckpfodpfplaeaa.E
namespace Go.Proofs.Ytckpfodpfplaeaa.E
open Go.RowKit Go.Proofs.YtckpfodpfplaeaaW.PrintWords Go.Proofs.YtckpfodpfplaeaaW.PrintLast Go.Proofs.Ytckpfodpfplaeaa.U
set_option linter.unusedVariables false
set_option linter.unusedSimpArgs false
theorem toMeaning_ev (l : List Int) (hn : l.length ≤ 140737488351232) : Ev (fun k => laws_toMeaning.f k l) l := by
 unfold laws_toMeaning.f
 refine pos (by omega) (pos (by omega) ?_)
 rw [Int.toNat_natCast]
 refine iter (F := fun k (s : List Int × Int) => laws_toMeaning.l0 k l s.1 s.2) (fun i s => s.2 = (i : Int) ∧ s.1.length = l.length ∧ ∀ j, j < i → s.1[j]? = l[j]?) l l.length ?_ ?_ 0 (List.replicate l.length 0, 0) (by omega) ⟨rfl, by simp, fun j hj => by omega⟩
 ·rintro i ⟨s, x⟩ hi ⟨rfl, hl, hp⟩
  dsimp only at hl hp
  refine .inl ⟨(s.set i (rd l (i : Int)), ((i + 1 : Nat) : Int)), ⟨rfl, by simpa using hl, fun j hj => ?_⟩, Ev.step fun k => ?_⟩
  ·dsimp only
   by_cases e : j = i
   ·subst e; rw [List.getElem?_set_self (by omega), rd_get l j hi, List.getElem?_eq_getElem hi]
   ·rw [List.getElem?_set_ne (by omega)]; exact hp j (by omega)
  ·simp only [laws_toMeaning.l0]
   rw [if_pos (by omega), if_pos (by omega), if_pos (by omega), w64 (by omega) (by omega), Int.toNat_natCast]; rfl
 ·rintro ⟨s, x⟩ ⟨rfl, hl, hp⟩
  dsimp only at hl hp
  refine Ev.step (f := fun _ => some s) (fun k => ?_) (cons (toList hl rfl hp))
  simp only [laws_toMeaning.l0]; rw [if_neg (by omega)]
end Go.Proofs.Ytckpfodpfplaeaa.E
namespace Go.Proofs.Ytckpfodpfplaeaa.E
open Go.RowKit Go.Proofs.YtckpfodpfplaeaaW.PrintWords Go.Proofs.YtckpfodpfplaeaaW.PrintLast Go.Proofs.Ytckpfodpfplaeaa.U
set_option linter.unusedVariables false
set_option linter.unusedSimpArgs false
theorem eqMeaning_l0 (l : List Int) (hn : l.length ≤ 9223372036854775806) : ∀ (d i : Nat), i + d = l.length → Ev (fun k => laws_eqMeaning.l0 k l l (i : Int)) true := by
 intro d
 induction d with
 | zero =>
  intro i hi
  refine Ev.step (f := fun _ => some true) (fun k => ?_) (cons rfl)
  simp only [laws_eqMeaning.l0]; rw [if_neg (by omega)]
 | succ d ih =>
  intro i hi
  refine Ev.step (f := fun k => laws_eqMeaning.l0 k l l ((i + 1 : Nat) : Int)) (fun k => ?_) (ih (i + 1) (by omega))
  simp only [laws_eqMeaning.l0]; rw [if_pos (by omega), if_pos (by omega), if_pos (by omega), if_pos trivial, w64 (by omega) (by omega)]; rfl
theorem eqMeaning_refl (l : List Int) (hn : l.length ≤ 9223372036854775806) : Ev (fun k => laws_eqMeaning.f k l l) true := by
 unfold laws_eqMeaning.f
 exact pos rfl (eqMeaning_l0 l hn l.length 0 (by omega))
end Go.Proofs.Ytckpfodpfplaeaa.E
namespace Go.Proofs.Ytckpfodpfplaeaa.E
open Go.RowKit Go.Proofs.YtckpfodpfplaeaaW.PrintWords Go.Proofs.YtckpfodpfplaeaaW.PrintLast Go.Proofs.Ytckpfodpfplaeaa.U
set_option linter.unusedVariables false
set_option linter.unusedSimpArgs false
theorem eqInt64S_l0 (l : List Int) (hn : l.length ≤ 9223372036854775806) : ∀ (d i : Nat), i + d = l.length → Ev (fun k => laws_eqInt64S.l0 k l l (i : Int)) true := by
 intro d
 induction d with
 | zero =>
  intro i hi
  refine Ev.step (f := fun _ => some true) (fun k => ?_) (cons rfl)
  simp only [laws_eqInt64S.l0]; rw [if_neg (by omega)]
 | succ d ih =>
  intro i hi
  refine Ev.step (f := fun k => laws_eqInt64S.l0 k l l ((i + 1 : Nat) : Int)) (fun k => ?_) (ih (i + 1) (by omega))
  simp only [laws_eqInt64S.l0]; rw [if_pos (by omega), if_pos (by omega), if_pos (by omega), if_pos trivial, w64 (by omega) (by omega)]; rfl
theorem eqInt64S_refl (l : List Int) (hn : l.length ≤ 9223372036854775806) : Ev (fun k => laws_eqInt64S.f k l l) true := by
 unfold laws_eqInt64S.f
 exact pos rfl (eqInt64S_l0 l hn l.length 0 (by omega))
end Go.Proofs.Ytckpfodpfplaeaa.E
namespace Go.Proofs.Ytckpfodpfplaeaa.E
open Go.RowKit Go.Proofs.YtckpfodpfplaeaaW.PrintWords Go.Proofs.YtckpfodpfplaeaaW.PrintLast Go.Proofs.Ytckpfodpfplaeaa.U
set_option linter.unusedVariables false
set_option linter.unusedSimpArgs false
def marksInt64S (n : Nat) (a : Int) : List Int := (List.range n).map fun (j : Nat) => a + (j : Int)
theorem marksInt64S_length (n : Nat) (a : Int) : (marksInt64S n a).length = n := by simp [marksInt64S]
theorem markInt64S_l0 (n : Nat) (a : Int) (ha : 0 ≤ a) (hb : a + n ≤ 9223372036854775806) : ∀ (d i : Nat) (x0 : List Int), i + d = n → x0.length = n → (∀ j, j < i → x0[j]? = (marksInt64S n a)[j]?) →
  Ev (fun k => laws_markInt64S.l0 k x0 (a + i) (i : Int)) (a + n, marksInt64S n a) := by
 intro d
 induction d with
 | zero =>
  intro i x0 hi hl hp
  obtain rfl : i = n := by omega
  refine Ev.step (f := fun _ => some (a + i, x0)) (fun k => by simp only [laws_markInt64S.l0]; rw [if_neg (by omega)]) (cons ?_)
  rw [show x0 = marksInt64S i a from List.ext_getElem? fun j => by
   rcases Nat.lt_or_ge j i with h | h
   ·exact hp j h
   ·rw [List.getElem?_eq_none (by omega), List.getElem?_eq_none (by rw [marksInt64S_length]; omega)]]
 | succ d ih =>
  intro i x0 hi hl hp
  refine Ev.step (f := fun k => laws_markInt64S.l0 k (x0.set i (a + (i : Int))) (a + ((i + 1 : Nat) : Int)) ((i + 1 : Nat) : Int)) (fun k => ?_) (ih (i + 1) _ (by omega) (by simpa using hl) ?_)
  ·simp only [laws_markInt64S.l0]; rw [if_pos (by omega), if_pos (by omega), w64 (by omega) (by omega), w64 (by omega) (by omega), show a + (i : Int) + 1 = a + ((i + 1 : Nat) : Int) by omega, show (i : Int) + 1 = ((i + 1 : Nat) : Int) by omega, Int.toNat_natCast]
  ·intro j hj
   by_cases e : j = i
   ·subst e
    rw [List.getElem?_set_self (by omega)]
    simp [marksInt64S, List.getElem?_map, List.getElem?_range (show j < n by omega)]
   ·rw [List.getElem?_set_ne (by omega)]; exact hp j (by omega)
theorem markInt64S_ev (l : List Int) (a : Int) (ha : 0 ≤ a) (hb : a + l.length ≤ 9223372036854775806) : Ev (fun k => laws_markInt64S.f k l a) (a + l.length, marksInt64S l.length a) := by
 have := markInt64S_l0 l.length a ha hb l.length 0 l (by omega) rfl (fun j hj => by omega)
 simpa [laws_markInt64S.f] using this
end Go.Proofs.Ytckpfodpfplaeaa.E
namespace Go.Proofs.Ytckpfodpfplaeaa.E
open Go.RowKit Go.Proofs.YtckpfodpfplaeaaW.PrintWords Go.Proofs.YtckpfodpfplaeaaW.PrintLast Go.Proofs.Ytckpfodpfplaeaa.U
set_option linter.unusedVariables false
set_option linter.unusedSimpArgs false
theorem heldInt64S_l0 (n : Nat) (a : Int) (ha : 0 ≤ a) (hb : a + n ≤ 9223372036854775806) : ∀ (d i : Nat), i + d = n →
  Ev (fun k => laws_heldInt64S.l0 k (marksInt64S n a) (a + i) (i : Int)) (a + n) := by
 intro d
 induction d with
 | zero =>
  intro i hi
  obtain rfl : i = n := by omega
  exact Ev.step (f := fun _ => some (a + i)) (fun k => by simp only [laws_heldInt64S.l0]; rw [marksInt64S_length, if_neg (by omega)]) (cons rfl)
 | succ d ih =>
  intro i hi
  refine Ev.step (f := fun k => laws_heldInt64S.l0 k (marksInt64S n a) (a + ((i + 1 : Nat) : Int)) ((i + 1 : Nat) : Int)) (fun k => ?_) (ih (i + 1) (by omega))
  have hr : rd (marksInt64S n a) i = a + (i : Int) := by
   rw [rd_get _ i (by rw [marksInt64S_length]; omega)]
   simp [marksInt64S]
  simp only [laws_heldInt64S.l0]; rw [marksInt64S_length, if_pos (by omega), if_pos (by omega), if_pos hr, w64 (by omega) (by omega), w64 (by omega) (by omega), show a + (i : Int) + 1 = a + ((i + 1 : Nat) : Int) by omega]; rfl
theorem heldInt64S_ev (n : Nat) (a : Int) (ha : 0 ≤ a) (hb : a + n ≤ 9223372036854775806) : Ev (fun k => laws_heldInt64S.f k (marksInt64S n a) a) (a + n) := by
 have := heldInt64S_l0 n a ha hb n 0 (by omega)
 simpa [laws_heldInt64S.f] using this
end Go.Proofs.Ytckpfodpfplaeaa.E
namespace Go.Proofs.Ytckpfodpfplaeaa.E
open Go.RowKit Go.Proofs.YtckpfodpfplaeaaW.PrintWords Go.Proofs.YtckpfodpfplaeaaW.PrintLast Go.Proofs.Ytckpfodpfplaeaa.U
set_option linter.unusedVariables false
set_option linter.unusedSimpArgs false
def marksMeaning (n : Nat) (a : Int) : List Int := (List.range n).map fun (j : Nat) => IntKind.i8.wrap (a + (j : Int))
theorem marksMeaning_length (n : Nat) (a : Int) : (marksMeaning n a).length = n := by simp [marksMeaning]
theorem markMeaning_l0 (n : Nat) (a : Int) (ha : 0 ≤ a) (hb : a + n ≤ 9223372036854775806) : ∀ (d i : Nat) (x0 : List Int), i + d = n → x0.length = n → (∀ j, j < i → x0[j]? = (marksMeaning n a)[j]?) →
  Ev (fun k => laws_markMeaning.l0 k x0 (a + i) (i : Int)) (a + n, marksMeaning n a) := by
 intro d
 induction d with
 | zero =>
  intro i x0 hi hl hp
  obtain rfl : i = n := by omega
  refine Ev.step (f := fun _ => some (a + i, x0)) (fun k => by simp only [laws_markMeaning.l0]; rw [if_neg (by omega)]) (cons ?_)
  rw [show x0 = marksMeaning i a from List.ext_getElem? fun j => by
   rcases Nat.lt_or_ge j i with h | h
   ·exact hp j h
   ·rw [List.getElem?_eq_none (by omega), List.getElem?_eq_none (by rw [marksMeaning_length]; omega)]]
 | succ d ih =>
  intro i x0 hi hl hp
  refine Ev.step (f := fun k => laws_markMeaning.l0 k (x0.set i (IntKind.i8.wrap (a + (i : Int)))) (a + ((i + 1 : Nat) : Int)) ((i + 1 : Nat) : Int)) (fun k => ?_) (ih (i + 1) _ (by omega) (by simpa using hl) ?_)
  ·simp only [laws_markMeaning.l0]; rw [if_pos (by omega), if_pos (by omega), w64 (by omega) (by omega), w64 (by omega) (by omega), show a + (i : Int) + 1 = a + ((i + 1 : Nat) : Int) by omega, show (i : Int) + 1 = ((i + 1 : Nat) : Int) by omega, Int.toNat_natCast]
  ·intro j hj
   by_cases e : j = i
   ·subst e
    rw [List.getElem?_set_self (by omega)]
    simp [marksMeaning, List.getElem?_map, List.getElem?_range (show j < n by omega)]
   ·rw [List.getElem?_set_ne (by omega)]; exact hp j (by omega)
theorem markMeaning_ev (l : List Int) (a : Int) (ha : 0 ≤ a) (hb : a + l.length ≤ 9223372036854775806) : Ev (fun k => laws_markMeaning.f k l a) (a + l.length, marksMeaning l.length a) := by
 have := markMeaning_l0 l.length a ha hb l.length 0 l (by omega) rfl (fun j hj => by omega)
 simpa [laws_markMeaning.f] using this
end Go.Proofs.Ytckpfodpfplaeaa.E
namespace Go.Proofs.Ytckpfodpfplaeaa.E
open Go.RowKit Go.Proofs.YtckpfodpfplaeaaW.PrintWords Go.Proofs.YtckpfodpfplaeaaW.PrintLast Go.Proofs.Ytckpfodpfplaeaa.U
set_option linter.unusedVariables false
set_option linter.unusedSimpArgs false
theorem markText_l0 : ∀ (d : Nat) (x0 : Int) (x3 : ByteArray), 0 ≤ x0 → x0 < 10 ^ d → x0 ≤ 9223372036854775807 → x3.size + d ≤ 1000 → ∃ s, Ev (fun k => laws_markText.l0 k x0 x3) s := by
 intro d
 induction d with
 | zero =>
  intro x0 x3 h0 h1 hm h2
  have : x0 = 0 := by simp at h1; omega
  subst this
  exact ⟨_, Ev.step (fun k => by rw [laws_markText.l0]) (neg (by omega) (pos (by omega) (Ev.now _)))⟩
 | succ d ih =>
  intro x0 x3 h0 h1 hm h2
  by_cases hp : x0 > 0
  ·have hd : Int.tdiv x0 10 = x0 / 10 := Int.tdiv_eq_ediv_of_nonneg h0
   have hlt : x0 / 10 < 10 ^ d := by
    have : (10 : Int) ^ (d + 1) = 10 ^ d * 10 := Int.pow_succ ..
    rw [this] at h1
    exact Int.ediv_lt_of_lt_mul (by decide) h1
   have hw : wrap64 (Int.tdiv x0 10) = x0 / 10 := by rw [hd]; exact w64 (by omega) (by omega)
   have hsz : ∀ y : Int, (strOfNums ([y] : List Int)).size = 1 := fun y => by rw [strOfNums_size]; rfl
   obtain ⟨s, hs⟩ := ih (x0 / 10) (strOfNums [(wrap64 (48 + (Int.tmod x0 10))) % 256] ++ x3) (by omega) hlt (by omega) (by rw [ByteArray.size_append, hsz]; omega)
   refine ⟨s, ?_⟩
   rw [← hw] at hs
   refine Ev.step (fun k => by rw [laws_markText.l0]) ?_
   exact pos hp (bindc rfl (pos (by rw [hsz]; omega) hs))
  ·have : x0 = 0 := by omega
   subst this
   exact ⟨_, Ev.step (fun k => by rw [laws_markText.l0]) (neg (by omega) (pos (by omega) (Ev.now _)))⟩
theorem markText_ex (a : Int) (h : a ≤ 9223372036854775807) : ∃ s, Ev (fun k => laws_markText.f k a) s := by
 unfold laws_markText.f
 by_cases h0 : a ≤ 0
 ·exact ⟨_, pos h0 (Ev.now _)⟩
 ·have h20 : (10 : Int) ^ 20 = 100000000000000000000 := by decide
  obtain ⟨s, hs⟩ := markText_l0 20 a ⟨#[]⟩ (by omega) (by rw [h20]; omega) h (by decide)
  exact ⟨s, neg h0 hs⟩
noncomputable def mT (a : Int) : ByteArray := Classical.epsilon fun s => Ev (fun k => laws_markText.f k a) s
theorem mT_ev (a : Int) (h : a ≤ 9223372036854775807) : Ev (fun k => laws_markText.f k a) (mT a) := Classical.epsilon_spec (markText_ex a h)
noncomputable def marksT (n : Nat) (a : Int) : List ByteArray := (List.range n).map fun (j : Nat) => mT (a + (j : Int))
theorem marksT_length (n : Nat) (a : Int) : (marksT n a).length = n := by simp [marksT]
theorem markStringS_l0 (n : Nat) (a : Int) (ha : 0 ≤ a) (hb : a + n ≤ 9223372036854775806) : ∀ (d i : Nat) (x0 : List ByteArray), i + d = n → x0.length = n → (∀ j, j < i → x0[j]? = (marksT n a)[j]?) →
  Ev (fun k => laws_markStringS.l0 k x0 (a + i) (i : Int)) (a + n, marksT n a) := by
 intro d
 induction d with
 | zero =>
  intro i x0 hi hl hp
  obtain rfl : i = n := by omega
  refine Ev.step (f := fun _ => some (a + i, x0)) (fun k => by simp only [laws_markStringS.l0]; rw [if_neg (by omega)]) (cons ?_)
  rw [show x0 = marksT i a from List.ext_getElem? fun j => by
   rcases Nat.lt_or_ge j i with h | h
   ·exact hp j h
   ·rw [List.getElem?_eq_none (by omega), List.getElem?_eq_none (by rw [marksT_length]; omega)]]
 | succ d ih =>
  intro i x0 hi hl hp
  have hgo := ih (i + 1) (x0.set i (mT (a + i))) (by omega) (by simpa using hl) (fun j hj => by
   by_cases e : j = i
   ·subst e
    rw [List.getElem?_set_self (by omega)]
    simp [marksT, List.getElem?_map, List.getElem?_range (show j < n by omega)]
   ·rw [List.getElem?_set_ne (by omega)]; exact hp j (by omega))
  refine Ev.step (fun k => by rw [laws_markStringS.l0]) ?_
  refine pos (by omega) (Ev.bind (mT_ev (a + i) (by omega)) (pos (by omega) ?_))
  rw [w64 (by omega) (by omega), w64 (by omega) (by omega), show a + (i : Int) + 1 = a + ((i + 1 : Nat) : Int) by omega, show (i : Int) + 1 = ((i + 1 : Nat) : Int) by omega, Int.toNat_natCast]
  exact hgo
theorem markBook_ev (K L S : Int) (l : List ByteArray) (a : Int) (ha : 0 ≤ a) (hb : a + l.length ≤ 9223372036854775806) : Ev (fun k => laws_markBook.f k K L S l a) (a + l.length, marksT l.length a) := by
 unfold laws_markBook.f laws_markStringS.f
 exact Ev.bind (by simpa using markStringS_l0 l.length a ha hb l.length 0 l (by omega) rfl (fun j hj => by omega)) (cons rfl)
end Go.Proofs.Ytckpfodpfplaeaa.E
namespace Go.Proofs.Ytckpfodpfplaeaa.Pure
open Go.RowKit Go.Proofs.Ytckpfodpfplaeaa.E Go.Proofs.YtckpfodpfplaeaaW.PrintWords Go.Proofs.YtckpfodpfplaeaaW.PrintLast Go.Proofs.Ytckpfodpfplaeaa.U
set_option linter.unusedVariables false
set_option linter.unusedSimpArgs false
theorem complsW_len (K L S : Int) (ph : List ByteArray) (m : List Int) : (Arr.complsW K L S ph m).1.length ≤ ph.length := by
 unfold Arr.complsW
 split
 ·exact Arr.complW_len _ m ph.length
 ·simp
theorem implCompls_f (K L S : Int) (ph : List ByteArray) (m : List Int) (hb : (Arr.smallPh ph && (Arr.in8 K && (Arr.in8 L && Arr.in8 S))) = true) (hm : Arr.small8B m = true) : impl_CompletionsOf.f K L S ph m = some (Arr.complsW K L S ph m) := by
 unfold impl_CompletionsOf.f Arr.complsW
 rw [show impl_ValidBook.f K L S ph = some (Arr.okBook K L S ph) from if_pos hb, show impl_ValidMeaning.f m = some (Arr.plainM m) from if_pos hm]
 cases hk : Arr.okBook K L S ph with
 | false => rfl
 | true =>
  cases hp : Arr.plainM m with
  | false => rfl
  | true =>
   have hin := Arr.okBook_in hk
   rw [show impl_Book_completions.f K L S ph m = some (Arr.complW (Arr.outL K.toNat S.toNat L.toNat) m ph.length) from if_pos (by rw [Bool.and_eq_true, decide_eq_true_eq, decide_eq_true_eq]; exact ⟨by omega, hin.2.2⟩)]
   rfl
def FnExactCompletionsOfPure : Prop := ∀ (K L S : Int) (ph : List ByteArray) (m : List Int), WfI .i8 K → WfI .i8 L → WfI .i8 S → WfL WfS ph → WfL (WfI .i8) m → ∃ k, laws_FnExactCompletionsOf.f k K L S ph m = some true
theorem FnExactCompletionsOf : FnExactCompletionsOfPure := by
 intro K L S ph m hK hL hS hph hm
 apply Ev.rounds
 unfold laws_FnExactCompletionsOf.f
 by_cases c0 : (m.length : Int) > 1048576
 ·exact pos c0 (cons rfl)
 obtain ⟨r1, h1, hr1, hp1⟩ := szBook_ev K L S ph 1048576 (by omega) hph.1 hph.2
 by_cases c1 : r1 < 0
 ·exact neg c0 (Ev.bind h1 (pos c1 (cons rfl)))
 have q1 := hp1 (by omega)
 have n1 : ph.length ≤ 1048576 := by have := q1.1; omega
 have m1 : ∀ x ∈ ph, x.size ≤ 1048576 := fun x hx => by have := q1.2 x hx; omega
 have hb := bits_book hK hL hS n1 m1
 have hb2 := bits_list (m := m) (by omega) hm.2
 have t1 := toBook_ev K L S ph n1
 have t2 := toMeaning_ev m (by omega)
 have hs : spec_CompletionsOf.f K L S ph m = some (Arr.complsW K L S ph m) := by unfold spec_CompletionsOf.f; rw [if_pos hb, if_pos hb2]
 have hi := implCompls_f K L S ph m hb hb2
 have hl := complsW_len K L S ph m
 generalize Arr.complsW K L S ph m = R at *
 have he := eqInt64S_refl R.1 (by omega)
 refine neg c0 (Ev.bind h1 (neg c1 (Ev.bind t1 (Ev.bind t2 (bindc hs (Ev.bind t1 (Ev.bind t2 (bindc hi (Ev.bind he (pos rfl ?_))))))))))
 refine Ev.step (fun k => by rw [laws_FnExactCompletionsOf.j0]) ?_
 refine neg (by simp) (Ev.bind t1 (Ev.bind (eqBook_refl K L S ph (by omega)) (pos rfl (Ev.bind t2 (Ev.bind (eqMeaning_refl m (by omega)) (pos rfl ?_))))))
 refine Ev.bind (markBook_ev K L S ph 1 (by omega) (by omega)) (Ev.bind (markMeaning_ev m (1 + ph.length) (by omega) (by omega)) (neg (by show ¬ (1 + (ph.length : Int) + m.length < 0); omega) (Ev.bind he (pos rfl ?_))))
 refine Ev.step (fun k => by rw [laws_FnExactCompletionsOf.j1]) ?_
 have hk := heldInt64S_ev R.1.length 1 (by omega) (by omega)
 refine neg (by simp) (Ev.bind (markInt64S_ev R.1 1 (by omega) (by omega)) (Ev.bind hk (neg (by omega) (pos rfl ?_))))
 refine Ev.bind t1 (Ev.bind t2 (bindc hi (Ev.bind he (pos rfl ?_))))
 refine Ev.step (fun k => by rw [laws_FnExactCompletionsOf.j2]) ?_
 exact neg (by simp) (Ev.bind hk (neg (by omega) (pos rfl (cons rfl))))
end Go.Proofs.Ytckpfodpfplaeaa.Pure
namespace Go.Proofs.Ytckpfodpfplaeaa.Open
open Go.RowKit Go.Proofs.YtckpfodpfplaeaaW.PrintWords Go.Proofs.Ytckpfodpfplaeaa.U Go.Deep
set_option linter.unusedVariables false
set_option linter.unusedSimpArgs false
def Opens {α : Type} (P : Program) (t : TypeId) (d : Kd α) (wf : α → Prop) : Prop :=
 ∀ {H : Type} (enc : TypeId × Value → H) (w : World) (held : Bool) (fuel : Nat) (cs : List Value) (x : DataW H × List MemPlace),
  DataW.trod enc P w 0 (fun _ => true) held fuel t cs = some x → ∃ a, d.K w a cs ∧ wf a
section
variable {P : Program} {t : TypeId}
theorem opens_int {k : IntKind} (ht : P.underlying t = some (.int k)) : Opens P t (Kd.int k) (WfI k) := by
 intro H enc w held fuel cs x h
 obtain ⟨n, rfl, _, hw⟩ := DataW.trod_int ht h
 exact ⟨n, rfl, hw⟩
theorem opens_string (ht : P.underlying t = some .string) : Opens P t Kd.string WfS := by
 intro H enc w held fuel cs x h
 obtain ⟨s, rfl, _, hs⟩ := DataW.trod_string ht h
 exact ⟨s, rfl, hs⟩
theorem list_of {α : Type} (n : Nat) (p : Nat → α → Prop) (h : ∀ i, i < n → ∃ a, p i a) : ∃ l : List α, l.length = n ∧ ∀ (i : Nat) (a : α), l[i]? = some a → p i a := by
 induction n with
 | zero => exact ⟨[], rfl, fun i a hi => by simp at hi⟩
 | succ n ih =>
  obtain ⟨l, hl, hp⟩ := ih (fun i hi => h i (by omega))
  obtain ⟨a, ha⟩ := h n (by omega)
  refine ⟨l ++ [a], by simp [hl], fun i b hb => ?_⟩
  rcases Nat.lt_or_ge i l.length with hi | hi
  ·rw [List.getElem?_append_left hi] at hb; exact hp i b hb
  ·rw [List.getElem?_append_right hi] at hb
   have : i - l.length = 0 := by
    rcases Nat.eq_zero_or_pos (i - l.length) with h0 | h0
    ·exact h0
    ·rw [List.getElem?_eq_none (by simp; omega)] at hb; cases hb
   rw [this] at hb
   simp at hb
   subst hb
   obtain rfl : i = n := by omega
   exact ha
theorem add_mul (a : Addr) (i m j : Nat) : (a.add (i * m)).add j = a.add (i * m + j) := by
 unfold Addr.add
 by_cases h1 : i * m = 0 <;> by_cases h2 : j = 0 <;> simp [h1, h2] <;> omega
theorem opens_slice {α : Type} {e : TypeId} {d : Kd α} {wf : α → Prop} (ht : P.underlying t = some (.slice e)) (hc : P.cellsOf e = d.sz) (he : Opens P e d wf) : Opens P t (Kd.slice e d) (WfL wf) := by
 intro H enc w held fuel cs x h
 rcases open_slice ht h with ⟨rfl, _⟩ | ⟨a, len, cap, m, n, D, Pl, rfl, hb, hl, hm, hmm, rfl, hx⟩
 ·exact ⟨[], ⟨none, 0, rfl, Nat.le_refl _, Kd.C_nil d w⟩, by simp [WfL, maxLen]⟩
 ·simp only [if_true] at hmm
  subst hmm
  have each : ∀ i, i < len → ∃ y : α, (∃ cs', w.cells? 0 (a.add (i * P.cellsOf e)) (P.cellsOf e) = some cs' ∧ d.K w y cs') ∧ wf y := by
   intro i hi
   obtain ⟨cs', h1, h2⟩ := hx i (by omega)
   obtain ⟨y, hy, hwf⟩ := he enc w held n cs' _ h2
   exact ⟨y, ⟨cs', h1, hy⟩, hwf⟩
  obtain ⟨l, hll, hp⟩ := list_of len _ each
  refine ⟨l, ⟨some a, m, by rw [hll], by omega, ⟨rfl, by rw [hll]; unfold maxLen at hm; omega, fun _ => ⟨a, rfl, fun j y hj => ?_⟩⟩⟩, by rw [hll]; omega, fun y hy => ?_⟩
  ·obtain ⟨⟨cs', h1, h2⟩, _⟩ := hp j y hj
   refine ⟨cs', d.K_len h2, h2, fun i u hu => ?_⟩
   obtain ⟨_, hlen, hcell⟩ := World.cells?_some h1
   have hi : i < P.cellsOf e := by rw [← hlen]; exact (List.getElem?_eq_some_iff.1 hu).1
   have := hcell i hi
   rw [add_mul, hc, hu] at this
   exact this
  ·obtain ⟨j, hj, rfl⟩ := List.getElem_of_mem hy
   exact (hp j _ (List.getElem?_eq_getElem hj)).2
theorem opens_four {α : Type} {k0 k1 k2 : IntKind} {e : TypeId} {d : Kd α} {wf : α → Prop} {f0 f1 f2 f3 : Field} (ht : P.underlying t = some (.struct #[f0, f1, f2, f3])) (h0 : P.underlying f0.type = some (.int k0)) (h1 : P.underlying f1.type = some (.int k1)) (h2 : P.underlying f2.type = some (.int k2)) (h3 : P.underlying f3.type = some (.slice e))
  (c0 : P.cellsOf f0.type = 1) (c1 : P.cellsOf f1.type = 1) (c2 : P.cellsOf f2.type = 1) (c3 : P.cellsOf f3.type = 1) (ct : P.cellsOf t = 4) (o0 : f0.offset = 0) (o1 : f1.offset = 1) (o2 : f2.offset = 2) (o3 : f3.offset = 3) (hc : P.cellsOf e = d.sz) (he : Opens P e d wf)
  {H : Type} (enc : TypeId × Value → H) (w : World) (held : Bool) (fuel : Nat) (cs : List Value) (x : DataW H × List MemPlace) (h : DataW.trod enc P w 0 (fun _ => true) held fuel t cs = some x) :
  ∃ (a b c : Int) (A : Option Addr) (m : Nat) (l : List α), cs = [.int k0 a, .int k1 b, .int k2 c, .slice A l.length m] ∧ WfI k0 a ∧ WfI k1 b ∧ WfI k2 c ∧ l.length ≤ m ∧ Kd.C d w A l.length l ∧ WfL wf l := by
 obtain ⟨y0, y1, y2, y3, n, rfl, hl, g0, g1, g2, g3⟩ := Go.Joins.trod_struct4 ht h
 rw [ct] at hl
 match cs, hl with
 | [v0, v1, v2, v3], _ =>
  rw [o0, c0] at g0
  rw [o1, c1] at g1
  rw [o2, c2] at g2
  rw [o3, c3] at g3
  obtain ⟨a, e0, wa⟩ := opens_int h0 enc w held n _ _ g0
  obtain ⟨b, e1, wb⟩ := opens_int h1 enc w held n _ _ g1
  obtain ⟨c, e2, wc⟩ := opens_int h2 enc w held n _ _ g2
  obtain ⟨l, ⟨A, m, e3, hm, hC⟩, wl⟩ := opens_slice h3 hc he enc w held n _ _ g3
  have z0 : [v0] = [Value.int k0 a] := e0
  have z1 : [v1] = [Value.int k1 b] := e1
  have z2 : [v2] = [Value.int k2 c] := e2
  have z3 : [v3] = [Value.slice A l.length m] := e3
  clear e0 e1 e2 e3
  cases z0
  cases z1
  cases z2
  cases z3
  exact ⟨a, b, c, A, m, l, rfl, wa, wb, wc, hm, hC, wl⟩
theorem agg_four {v v0 v1 v2 v3 : Value} (h : v.cells.toList = [v0, v1, v2, v3]) : v = .agg #[v0, v1, v2, v3] := by
 have : ∃ cs, v = .agg cs := by
  cases v <;> first | exact ⟨_, rfl⟩ | (simp [Value.cells] at h)
 obtain ⟨cs, rfl⟩ := this
 have h2 : cs.toList = [v0, v1, v2, v3] := h
 rw [← h2]
end
end Go.Proofs.Ytckpfodpfplaeaa.Open
