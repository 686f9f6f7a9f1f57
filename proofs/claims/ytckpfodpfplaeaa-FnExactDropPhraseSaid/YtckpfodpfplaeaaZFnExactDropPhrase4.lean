/- The texts that the statement FnExactDropPhrase needs, part 4: contracts of the program's functions and plain laws, without what it does not reach. No condition beyond what each theorem says. -/
import Derived.Below
import Derived.Deep.Draws
import Derived.Deep.AppendLies
import Derived.Maps.AppendAt
import Derived.OwnWalk
import Derived.Laws.BytesArg
import Derived.Laws.MakeOwn
import Derived.Laws.OwnMore
import Derived.Deep.OwnRows
import Derived.Tactics
import Derived.Lib.ConvBytes
import Derived.Laws.Slices
import Derived.WalkKit
import Derived.KernelRfl
import Derived.RowKit3
import Derived.Deep.LoopGhost
import Derived.Deep.QuietTactic
import Derived.BigQuiet
import Derived.WideLaws
import Derived.Deep.DeepCutAuto
import Derived.Deep.CutBlock
import Derived.Deep.RegionHeld3
import Derived.Laws.Rows
import Derived.Lib.AppendStr
import Derived.ArgAppend
import Derived.Laws.IdiomCopy
import Derived.RowKit
import Derived.Laws.Tables
import Derived.BigFrame
import Derived.Laws.CopyRow
import Derived.Laws.ResultCell
import Derived.OrdersHeld
import Derived.Laws.BitsLemmas
import Derived.Laws.StructEq
import Derived.Test.YtckpfodpfplaeaaProg
import Derived.WalkSpells
import Derived.StillTailTactics
import Derived.Laws.CopyOwn
import Derived.Shelf.SlicesE.Delete
import Derived.ProofKit
import Derived.OpenShut
import Derived.Deep.Slices
import Derived.Lib.SmallJoins
import Derived.Test.YtckpfodpfplaeaaRows
import Derived.ShutString
import Derived.ChangeOld
import Derived.SizedLaws
import Derived.Test.YtckpfodpfplaeaaZFnExactDropPhrase3
namespace Go.Proofs.Ytckpfodpfplaeaa.E
open Go.RowKit Go.Proofs.YtckpfodpfplaeaaW.PrintWords Go.Proofs.YtckpfodpfplaeaaW.PrintLast Go.Proofs.YtckpfodpfplaeaaW.PrintMore
attribute [local go_sem] max2_int min2_int max_two min_two max_three min_three max_four min_four
set_option linter.unusedVariables false
set_option linter.unusedSimpArgs false
mutual
def laws_FnExactDropPhrase.j0 : Nat → Int → Int → Int → Bool → Int → Int → Int → List ByteArray → Int → Int → Int → List ByteArray → Int → Int → Int → List ByteArray → Int → Int → Int → List ByteArray → Option (Bool)
 | 0, _, _, _, _, _, _, _, _, _, _, _, _, _, _, _, _, _, _, _, _ => none
 | k + 1, x1, x7, x10, x44, x133000, x133001, x133002, x133003, x148000, x148001, x148002, x148003, x155000, x155001, x155002, x155003, x163000, x163001, x163002, x163003 => if x44 = true then (some false) else ((laws_toBook.f k x133000 x133001 x133002 x133003).bind fun bt164 => ((laws_eqBook.f k x155000 x155001 x155002 x155003 bt164.1 bt164.2.1 bt164.2.2.1 bt164.2.2.2).bind fun t170 => (if t170 = true then ((laws_markBook.f k x155000 x155001 x155002 x155003 1).bind fun bt171 => (if bt171.1 < 0 then (laws_FnExactDropPhrase.j1 k x1 x7 true x133000 x133001 x133002 x133003 x148000 x148001 x148002 x148003 x163000 x163001 x163002 x163003) else ((laws_eqBook.f k x163000 x163001 x163002 x163003 x148000 x148001 x148002 x148003).bind fun t173 => (if t173 = true then (laws_FnExactDropPhrase.j1 k x1 x7 (x10 != x7) x133000 x133001 x133002 x133003 x148000 x148001 x148002 x148003 x163000 x163001 x163002 x163003) else (laws_FnExactDropPhrase.j1 k x1 x7 true x133000 x133001 x133002 x133003 x148000 x148001 x148002 x148003 x163000 x163001 x163002 x163003))))) else (some false))))
def laws_FnExactDropPhrase.j1 : Nat → Int → Int → Bool → Int → Int → Int → List ByteArray → Int → Int → Int → List ByteArray → Int → Int → Int → List ByteArray → Option (Bool)
 | 0, _, _, _, _, _, _, _, _, _, _, _, _, _, _, _ => none
 | k + 1, x1, x7, x65, x133000, x133001, x133002, x133003, x148000, x148001, x148002, x148003, x163000, x163001, x163002, x163003 => if x65 = true then (some false) else ((laws_markBook.f k x163000 x163001 x163002 x163003 1).bind fun bt174 => ((laws_heldBook.f k x163000 x163001 x163002 bt174.2 1).bind fun t176 => (if t176 < 0 then (some false) else (if t176 = bt174.1 then ((laws_toBook.f k x133000 x133001 x133002 x133003).bind fun bt177 => ((impl_DropPhrase.f bt177.1 bt177.2.1 bt177.2.2.1 bt177.2.2.2 x1).bind fun bt183 => ((laws_eqBook.f k bt183.1 bt183.2.1 bt183.2.2.1 bt183.2.2.2.1 x148000 x148001 x148002 x148003).bind fun t191 => (if t191 = true then (laws_FnExactDropPhrase.j2 k bt174.1 (bt183.2.2.2.2 != x7) x163000 x163001 x163002 bt174.2) else (laws_FnExactDropPhrase.j2 k bt174.1 true x163000 x163001 x163002 bt174.2))))) else (some false)))))
def laws_FnExactDropPhrase.j2 : Nat → Int → Bool → Int → Int → Int → List ByteArray → Option (Bool)
 | 0, _, _, _, _, _, _ => none
 | k + 1, x12, x92, x163000, x163001, x163002, x163003 => if x92 = true then (some false) else ((laws_heldBook.f k x163000 x163001 x163002 x163003 1).bind fun t192 => (if t192 < 0 then (some false) else (if t192 = x12 then (some true) else (some false))))
end
def laws_FnExactDropPhrase.f (k : Nat) (a0_0 : Int) (a0_1 : Int) (a0_2 : Int) (l0_3 : List ByteArray) (a1 : Int) : Option (Bool) := (laws_szBook.f k a0_0 a0_1 a0_2 l0_3 1048576).bind fun t133 => (if t133 < 0 then (some true) else ((laws_toBook.f k a0_0 a0_1 a0_2 l0_3).bind fun bt134 => ((spec_DropPhrase.f bt134.1 bt134.2.1 bt134.2.2.1 bt134.2.2.2 a1).bind fun bt140 => ((laws_toBook.f k a0_0 a0_1 a0_2 l0_3).bind fun bt148 => ((impl_DropPhrase.f bt148.1 bt148.2.1 bt148.2.2.1 bt148.2.2.2 a1).bind fun bt155 => ((laws_eqBook.f k bt155.1 bt155.2.1 bt155.2.2.1 bt155.2.2.2.1 bt140.1 bt140.2.1 bt140.2.2.1 bt140.2.2.2.1).bind fun t163 => (if t163 = true then (laws_FnExactDropPhrase.j0 k a1 bt140.2.2.2.2 bt155.2.2.2.2 (bt155.2.2.2.2 != bt140.2.2.2.2) a0_0 a0_1 a0_2 l0_3 bt140.1 bt140.2.1 bt140.2.2.1 bt140.2.2.2.1 bt148.1 bt148.2.1 bt148.2.2.1 bt148.2.2.2 bt155.1 bt155.2.1 bt155.2.2.1 bt155.2.2.2.1) else (laws_FnExactDropPhrase.j0 k a1 bt140.2.2.2.2 bt155.2.2.2.2 true a0_0 a0_1 a0_2 l0_3 bt140.1 bt140.2.1 bt140.2.2.1 bt140.2.2.2.1 bt148.1 bt148.2.1 bt148.2.2.1 bt148.2.2.2 bt155.1 bt155.2.1 bt155.2.2.1 bt155.2.2.2.1))))))))
set_option maxHeartbeats 8000000 in
set_option maxRecDepth 100000 in
theorem laws_FnExactDropPhrase.calls (k : Nat) (a0_0 : Int) (a0_1 : Int) (a0_2 : Int) (A0_3 : Option Addr) (c0_3 : Nat) (l0_3 : List ByteArray) (a1 : Int) (r : Bool) (w : World) (hr0_3 : Kd.C Kd.string w A0_3 l0_3.length l0_3) (hc0_3 : l0_3.length ≤ c0_3) (h : laws_FnExactDropPhrase.f k a0_0 a0_1 a0_2 l0_3 a1 = some r) :
  Calls Try.prog 4 #[.agg #[.int .i8 a0_0, .int .i8 a0_1, .int .i8 a0_2, .slice A0_3 l0_3.length c0_3], .int .i64 a1] w fun e w' => e = .returned (.bool r) ∧ Below w.heap.size w w' := by
 have hu25 := Try.underlying25
 have hu27 := Try.underlying27
 have HR0_3 := Aside0.mk hr0_3
 have HC0_3 := Aside0.mk hc0_3
 clear hr0_3 hc0_3
 have HB := Aside0.mk (Below.refl w.heap.size w)
 have H : ((laws_szBook.f k a0_0 a0_1 a0_2 l0_3 1048576).bind fun t133 => (if t133 < 0 then (some true) else ((laws_toBook.f k a0_0 a0_1 a0_2 l0_3).bind fun bt134 => ((spec_DropPhrase.f bt134.1 bt134.2.1 bt134.2.2.1 bt134.2.2.2 a1).bind fun bt140 => ((laws_toBook.f k a0_0 a0_1 a0_2 l0_3).bind fun bt148 => ((impl_DropPhrase.f bt148.1 bt148.2.1 bt148.2.2.1 bt148.2.2.2 a1).bind fun bt155 => ((laws_eqBook.f k bt155.1 bt155.2.1 bt155.2.2.1 bt155.2.2.2.1 bt140.1 bt140.2.1 bt140.2.2.1 bt140.2.2.2.1).bind fun t163 => (if t163 = true then (laws_FnExactDropPhrase.j0 k a1 bt140.2.2.2.2 bt155.2.2.2.2 (bt155.2.2.2.2 != bt140.2.2.2.2) a0_0 a0_1 a0_2 l0_3 bt140.1 bt140.2.1 bt140.2.2.1 bt140.2.2.2.1 bt148.1 bt148.2.1 bt148.2.2.1 bt148.2.2.2 bt155.1 bt155.2.1 bt155.2.2.1 bt155.2.2.2.1) else (laws_FnExactDropPhrase.j0 k a1 bt140.2.2.2.2 bt155.2.2.2.2 true a0_0 a0_1 a0_2 l0_3 bt140.1 bt140.2.1 bt140.2.2.1 bt140.2.2.2.1 bt148.1 bt148.2.1 bt148.2.2.1 bt148.2.2.2 bt155.1 bt155.2.1 bt155.2.2.1 bt155.2.2.2.1))))))))) = some r := h
 clear h
 replace H := Option.bind_eq_some_iff.mp H
 obtain ⟨t133, A30, H⟩ := H
 replace H : (if t133 < 0 then (some true) else ((laws_toBook.f k a0_0 a0_1 a0_2 l0_3).bind fun bt134 => ((spec_DropPhrase.f bt134.1 bt134.2.1 bt134.2.2.1 bt134.2.2.2 a1).bind fun bt140 => ((laws_toBook.f k a0_0 a0_1 a0_2 l0_3).bind fun bt148 => ((impl_DropPhrase.f bt148.1 bt148.2.1 bt148.2.2.1 bt148.2.2.2 a1).bind fun bt155 => ((laws_eqBook.f k bt155.1 bt155.2.1 bt155.2.2.1 bt155.2.2.2.1 bt140.1 bt140.2.1 bt140.2.2.1 bt140.2.2.2.1).bind fun t163 => (if t163 = true then (laws_FnExactDropPhrase.j0 k a1 bt140.2.2.2.2 bt155.2.2.2.2 (bt155.2.2.2.2 != bt140.2.2.2.2) a0_0 a0_1 a0_2 l0_3 bt140.1 bt140.2.1 bt140.2.2.1 bt140.2.2.2.1 bt148.1 bt148.2.1 bt148.2.2.1 bt148.2.2.2 bt155.1 bt155.2.1 bt155.2.2.1 bt155.2.2.2.1) else (laws_FnExactDropPhrase.j0 k a1 bt140.2.2.2.2 bt155.2.2.2.2 true a0_0 a0_1 a0_2 l0_3 bt140.1 bt140.2.1 bt140.2.2.1 bt140.2.2.2.1 bt148.1 bt148.2.1 bt148.2.2.1 bt148.2.2.2 bt155.1 bt155.2.1 bt155.2.2.1 bt155.2.2.2.1)))))))) = some r := H
 have A3 := Aside0.mk A30
 clear A30
 by_cases c4 : t133 < 0
 ·rw [if_pos c4] at H
  have c4b0 : decide (t133 < 0) = true := decide_eq_true c4
  clear c4
  obtain rfl := Option.some.inj H
  go_enter Try.func4, Try.ntmps4
  go_wp2_with (first | ((with_reducible refine gate_dst (N := 2) rfl ?_); refine box_event ?hg (N := 2) ?hd (cs := #[.int .i8 a0_0, .int .i8 a0_1, .int .i8 a0_2, .slice A0_3 l0_3.length c0_3]) (t := 25) ?hr ?_; (case hd => rfl); (case hg => rfl); (case hr => first | (go_simp; done) | (go_simp; rfl)); intro gb132 hg w5 hbox hb; have n0_ := Aside0.mk (below_step (by repeat (first | (with_reducible first | exact HB.out | apply below_alloc | apply pw_below_drewN | apply below_drew1) | exact HB.out)) hb); have n1_ := Aside0.mk (hbox); have n2_ := Aside0.mk ((by rw [hg]; exact (below_size (by repeat (first | (with_reducible first | exact HB.out | apply below_alloc | apply pw_below_drewN | apply below_drew1) | exact HB.out))) : w.heap.size ≤ gb132)); have n3_ := Aside0.mk ((by rw [hg]; exact (below_size (by repeat (first | (with_reducible first | exact HB.out | apply below_alloc | apply pw_below_drewN | apply below_drew1) | exact HB.out))) : w.heap.size ≤ gb132)); clear HB; have HB := n0_; have BK132 := n1_; have GW132 := n2_; have GE132 := n3_; clear n0_ n1_ n2_ n3_; clear hb hbox hg; have hcz6_0 : w5.cell? ⟨gb132, 0, none⟩ = some (.int .i8 a0_0) := (blk_cell BK132.out 0).trans rfl; have hcz6_1 : w5.cell? ⟨gb132, 1, none⟩ = some (.int .i8 a0_1) := (blk_cell BK132.out 1).trans rfl; have hcz6_2 : w5.cell? ⟨gb132, 2, none⟩ = some (.int .i8 a0_2) := (blk_cell BK132.out 2).trans rfl; have hcz6_3 : w5.cell? ⟨gb132, 3, none⟩ = some (.slice A0_3 l0_3.length c0_3) := (blk_cell BK132.out 3).trans rfl; have hfz6_0 := blk_frozen BK132.out 0; have hfz6_1 := blk_frozen BK132.out 1; have hfz6_2 := blk_frozen BK132.out 2; have hfz6_3 := blk_frozen BK132.out 3) | ((with_reducible refine gate_callee (f := 12) rfl ?_); refine goesL_ (some 18) rfl rfl Try.func12 (by kernel_rfl) rfl #[.agg #[.int .i8 a0_0, .int .i8 a0_1, .int .i8 a0_2, .slice A0_3 l0_3.length c0_3], .int .i64 1048576] rfl (by (try simp only [List.map_toArray, List.map_cons, List.map_nil]); first | done | rfl | (simp only [List.length_drop, List.length_take]; rfl)) ?_; (with_reducible refine (laws_szBook.calls k a0_0 a0_1 a0_2 _ _ l0_3 1048576 t133 _ ?side1 ?side2 A3.out).mono ?_); (case side1 => repeat (first | exact (Kd.C_below HR0_3.out HB.out) | (with_reducible refine Kd.C_alloc ?_ _) | (with_reducible refine Kd.C_drewN ?_ _) | (with_reducible refine Kd.C_drew ?_))); (case side2 => exact HC0_3.out); rintro e w7 ⟨rfl, hb⟩; refine ⟨_, rfl, ?_⟩; have n0_ := Aside0.mk (blk_below (g := gb132) (o := .cells #[.int .i8 a0_0, .int .i8 a0_1, .int .i8 a0_2, .slice A0_3 l0_3.length c0_3] 25 (0, 0)) (by (with_reducible repeat (first | refine blk_drewN ?_ _ | refine blk_drew ?_ | refine blk_alloc ?_ _)); exact BK132.out) hb); have n1_ := Aside0.mk (below_step (by repeat (first | (with_reducible first | exact HB.out | apply below_alloc | apply pw_below_drewN | apply below_drew1 | refine below_set ?_ GE132.out) | exact HB.out)) hb); clear BK132; clear HB; have BK132 := n0_; have HB := n1_; clear n0_ n1_; (try clear hb); (try clear hb2); (try clear hk); (try clear hi)))
  go_ret
  exact ⟨by first | rfl | (simp [errW_none, errW_some] <;> rfl) | (simp [*, errW_none, errW_some] <;> rfl), by repeat (first | (with_reducible first | exact HB.out | apply below_alloc | apply pw_below_drewN | apply below_drew1 | refine below_set ?_ GE132.out) | exact HB.out)⟩
 ·rw [if_neg c4] at H
  have c4b0 : decide (t133 < 0) = false := decide_eq_false c4
  clear c4
  replace H := Option.bind_eq_some_iff.mp H
  obtain ⟨⟨t134, t135, t136, t137⟩, A80, H⟩ := H
  replace H : ((spec_DropPhrase.f t134 t135 t136 t137 a1).bind fun bt140 => ((laws_toBook.f k a0_0 a0_1 a0_2 l0_3).bind fun bt148 => ((impl_DropPhrase.f bt148.1 bt148.2.1 bt148.2.2.1 bt148.2.2.2 a1).bind fun bt155 => ((laws_eqBook.f k bt155.1 bt155.2.1 bt155.2.2.1 bt155.2.2.2.1 bt140.1 bt140.2.1 bt140.2.2.1 bt140.2.2.2.1).bind fun t163 => (if t163 = true then (laws_FnExactDropPhrase.j0 k a1 bt140.2.2.2.2 bt155.2.2.2.2 (bt155.2.2.2.2 != bt140.2.2.2.2) a0_0 a0_1 a0_2 l0_3 bt140.1 bt140.2.1 bt140.2.2.1 bt140.2.2.2.1 bt148.1 bt148.2.1 bt148.2.2.1 bt148.2.2.2 bt155.1 bt155.2.1 bt155.2.2.1 bt155.2.2.2.1) else (laws_FnExactDropPhrase.j0 k a1 bt140.2.2.2.2 bt155.2.2.2.2 true a0_0 a0_1 a0_2 l0_3 bt140.1 bt140.2.1 bt140.2.2.1 bt140.2.2.2.1 bt148.1 bt148.2.1 bt148.2.2.1 bt148.2.2.2 bt155.1 bt155.2.1 bt155.2.2.1 bt155.2.2.2.1)))))) = some r := H
  have A8 := Aside0.mk A80
  clear A80
  replace H := Option.bind_eq_some_iff.mp H
  obtain ⟨⟨t140, t141, t142, t143, t146⟩, A90, H⟩ := H
  replace H : ((laws_toBook.f k a0_0 a0_1 a0_2 l0_3).bind fun bt148 => ((impl_DropPhrase.f bt148.1 bt148.2.1 bt148.2.2.1 bt148.2.2.2 a1).bind fun bt155 => ((laws_eqBook.f k bt155.1 bt155.2.1 bt155.2.2.1 bt155.2.2.2.1 t140 t141 t142 t143).bind fun t163 => (if t163 = true then (laws_FnExactDropPhrase.j0 k a1 t146 bt155.2.2.2.2 (bt155.2.2.2.2 != t146) a0_0 a0_1 a0_2 l0_3 t140 t141 t142 t143 bt148.1 bt148.2.1 bt148.2.2.1 bt148.2.2.2 bt155.1 bt155.2.1 bt155.2.2.1 bt155.2.2.2.1) else (laws_FnExactDropPhrase.j0 k a1 t146 bt155.2.2.2.2 true a0_0 a0_1 a0_2 l0_3 t140 t141 t142 t143 bt148.1 bt148.2.1 bt148.2.2.1 bt148.2.2.2 bt155.1 bt155.2.1 bt155.2.2.1 bt155.2.2.2.1))))) = some r := H
  have A9 := Aside0.mk A90
  clear A90
  replace H := Option.bind_eq_some_iff.mp H
  obtain ⟨⟨t148, t149, t150, t151⟩, A100, H⟩ := H
  replace H : ((impl_DropPhrase.f t148 t149 t150 t151 a1).bind fun bt155 => ((laws_eqBook.f k bt155.1 bt155.2.1 bt155.2.2.1 bt155.2.2.2.1 t140 t141 t142 t143).bind fun t163 => (if t163 = true then (laws_FnExactDropPhrase.j0 k a1 t146 bt155.2.2.2.2 (bt155.2.2.2.2 != t146) a0_0 a0_1 a0_2 l0_3 t140 t141 t142 t143 t148 t149 t150 t151 bt155.1 bt155.2.1 bt155.2.2.1 bt155.2.2.2.1) else (laws_FnExactDropPhrase.j0 k a1 t146 bt155.2.2.2.2 true a0_0 a0_1 a0_2 l0_3 t140 t141 t142 t143 t148 t149 t150 t151 bt155.1 bt155.2.1 bt155.2.2.1 bt155.2.2.2.1)))) = some r := H
  have A10 := Aside0.mk A100
  clear A100
  replace H := Option.bind_eq_some_iff.mp H
  obtain ⟨⟨t155, t156, t157, t158, t161⟩, A110, H⟩ := H
  replace H : ((laws_eqBook.f k t155 t156 t157 t158 t140 t141 t142 t143).bind fun t163 => (if t163 = true then (laws_FnExactDropPhrase.j0 k a1 t146 t161 (t161 != t146) a0_0 a0_1 a0_2 l0_3 t140 t141 t142 t143 t148 t149 t150 t151 t155 t156 t157 t158) else (laws_FnExactDropPhrase.j0 k a1 t146 t161 true a0_0 a0_1 a0_2 l0_3 t140 t141 t142 t143 t148 t149 t150 t151 t155 t156 t157 t158))) = some r := H
  have A11 := Aside0.mk A110
  clear A110
  have HC12 := Aside0.mk H
  clear H
  go_enter Try.func4, Try.ntmps4
  go_upto_region 8 with (first | ((with_reducible refine gate_dst (N := 2) rfl ?_); refine box_event ?hg (N := 2) ?hd (cs := #[.int .i8 a0_0, .int .i8 a0_1, .int .i8 a0_2, .slice A0_3 l0_3.length c0_3]) (t := 25) ?hr ?_; (case hd => rfl); (case hg => rfl); (case hr => first | (go_simp; done) | (go_simp; rfl)); intro gb132 hg w13 hbox hb; have n0_ := Aside0.mk (below_step (by repeat (first | (with_reducible first | exact HB.out | apply below_alloc | apply pw_below_drewN | apply below_drew1) | exact HB.out)) hb); have n1_ := Aside0.mk (hbox); have n2_ := Aside0.mk ((by rw [hg]; exact (below_size (by repeat (first | (with_reducible first | exact HB.out | apply below_alloc | apply pw_below_drewN | apply below_drew1) | exact HB.out))) : w.heap.size ≤ gb132)); have n3_ := Aside0.mk ((by rw [hg]; exact (below_size (by repeat (first | (with_reducible first | exact HB.out | apply below_alloc | apply pw_below_drewN | apply below_drew1) | exact HB.out))) : w.heap.size ≤ gb132)); clear HB; have HB := n0_; have BK132 := n1_; have GW132 := n2_; have GE132 := n3_; clear n0_ n1_ n2_ n3_; clear hb hbox hg; have hcz14_0 : w13.cell? ⟨gb132, 0, none⟩ = some (.int .i8 a0_0) := (blk_cell BK132.out 0).trans rfl; have hcz14_1 : w13.cell? ⟨gb132, 1, none⟩ = some (.int .i8 a0_1) := (blk_cell BK132.out 1).trans rfl; have hcz14_2 : w13.cell? ⟨gb132, 2, none⟩ = some (.int .i8 a0_2) := (blk_cell BK132.out 2).trans rfl; have hcz14_3 : w13.cell? ⟨gb132, 3, none⟩ = some (.slice A0_3 l0_3.length c0_3) := (blk_cell BK132.out 3).trans rfl; have hfz14_0 := blk_frozen BK132.out 0; have hfz14_1 := blk_frozen BK132.out 1; have hfz14_2 := blk_frozen BK132.out 2; have hfz14_3 := blk_frozen BK132.out 3) | ((with_reducible refine gate_callee (f := 12) rfl ?_); refine goesL_ (some 18) rfl rfl Try.func12 (by kernel_rfl) rfl #[.agg #[.int .i8 a0_0, .int .i8 a0_1, .int .i8 a0_2, .slice A0_3 l0_3.length c0_3], .int .i64 1048576] rfl (by (try simp only [List.map_toArray, List.map_cons, List.map_nil]); first | done | rfl | (simp only [List.length_drop, List.length_take]; rfl)) ?_; (with_reducible refine (laws_szBook.calls k a0_0 a0_1 a0_2 _ _ l0_3 1048576 t133 _ ?side1 ?side2 A3.out).mono ?_); (case side1 => repeat (first | exact (Kd.C_below HR0_3.out HB.out) | (with_reducible refine Kd.C_alloc ?_ _) | (with_reducible refine Kd.C_drewN ?_ _) | (with_reducible refine Kd.C_drew ?_))); (case side2 => exact HC0_3.out); rintro e w15 ⟨rfl, hb⟩; refine ⟨_, rfl, ?_⟩; have n0_ := Aside0.mk (blk_below (g := gb132) (o := .cells #[.int .i8 a0_0, .int .i8 a0_1, .int .i8 a0_2, .slice A0_3 l0_3.length c0_3] 25 (0, 0)) (by (with_reducible repeat (first | refine blk_drewN ?_ _ | refine blk_drew ?_ | refine blk_alloc ?_ _)); exact BK132.out) hb); have n1_ := Aside0.mk (below_step (by repeat (first | (with_reducible first | exact HB.out | apply below_alloc | apply pw_below_drewN | apply below_drew1 | refine below_set ?_ GE132.out) | exact HB.out)) hb); clear BK132; clear HB; have BK132 := n0_; have HB := n1_; clear n0_ n1_; (try clear hb); (try clear hb2); (try clear hk); (try clear hi); have hcz16_0 : w15.cell? ⟨gb132, 0, none⟩ = some (.int .i8 a0_0) := (blk_cell BK132.out 0).trans rfl; have hcz16_1 : w15.cell? ⟨gb132, 1, none⟩ = some (.int .i8 a0_1) := (blk_cell BK132.out 1).trans rfl; have hcz16_2 : w15.cell? ⟨gb132, 2, none⟩ = some (.int .i8 a0_2) := (blk_cell BK132.out 2).trans rfl; have hcz16_3 : w15.cell? ⟨gb132, 3, none⟩ = some (.slice A0_3 l0_3.length c0_3) := (blk_cell BK132.out 3).trans rfl; have hfz16_0 := blk_frozen BK132.out 0; have hfz16_1 := blk_frozen BK132.out 1; have hfz16_2 := blk_frozen BK132.out 2; have hfz16_3 := blk_frozen BK132.out 3) | ((with_reducible refine gate_callee (f := 14) rfl ?_); refine goesL_ (some 23) rfl rfl Try.func14 (by kernel_rfl) rfl #[.agg #[.int .i8 a0_0, .int .i8 a0_1, .int .i8 a0_2, .slice A0_3 l0_3.length c0_3]] rfl (by (try simp only [List.map_toArray, List.map_cons, List.map_nil]); first | done | rfl | (simp only [List.length_drop, List.length_take]; rfl)) ?_; (with_reducible refine (laws_toBook.calls k a0_0 a0_1 a0_2 _ _ l0_3 t134 t135 t136 t137 _ ?side1 ?side2 A8.out).mono ?_); (case side1 => repeat (first | exact (Kd.C_below HR0_3.out HB.out) | (with_reducible refine Kd.C_alloc ?_ _) | (with_reducible refine Kd.C_drewN ?_ _) | (with_reducible refine Kd.C_drew ?_))); (case side2 => exact HC0_3.out); rintro e w17 ⟨v138, rfl, ho0, hb⟩; refine ⟨_, rfl, ?_⟩; have n0_ := Aside0.mk (Kd.R_lower ho0 (below_size (by repeat (first | (with_reducible first | exact HB.out | apply below_alloc | apply pw_below_drewN | apply below_drew1 | refine below_set ?_ GE132.out) | exact HB.out)))); have n1_ := Aside0.mk (blk_below (g := gb132) (o := .cells #[.int .i8 a0_0, .int .i8 a0_1, .int .i8 a0_2, .slice A0_3 l0_3.length c0_3] 25 (0, 0)) (by (with_reducible repeat (first | refine blk_drewN ?_ _ | refine blk_drew ?_ | refine blk_alloc ?_ _)); exact BK132.out) hb); have n2_ := Aside0.mk (below_step (by repeat (first | (with_reducible first | exact HB.out | apply below_alloc | apply pw_below_drewN | apply below_drew1 | refine below_set ?_ GE132.out) | exact HB.out)) hb); clear BK132; clear HB; have HO139 := n0_; have BK132 := n1_; have HB := n2_; clear n0_ n1_ n2_; (try clear hb); (try clear hb2); (try clear hk); (try clear hi); (try clear ho0); obtain ⟨Ao18, co18, eo18⟩ := Kd.R_slice HO139.out; subst eo18) | ((with_reducible refine gate_callee (f := 19) rfl ?_); refine goesL_ (some 25) rfl rfl Try.func19 (by kernel_rfl) rfl #[.agg #[.int .i8 t134, .int .i8 t135, .int .i8 t136, .slice Ao18 t137.length co18], .int .i64 a1] rfl (by (try simp only [List.map_toArray, List.map_cons, List.map_nil]); first | done | rfl | (simp only [List.length_drop, List.length_take]; rfl)) ?_; (with_reducible refine (spec_DropPhrase.calls t134 t135 t136 _ _ t137 a1 t140 t141 t142 t143 t146 _ ?side1 ?side2 A9.out).mono ?_); (case side1 => repeat (first | exact (Kd.R_reads' HO139.out).2.2 | (with_reducible refine Kd.C_alloc ?_ _) | (with_reducible refine Kd.C_drewN ?_ _) | (with_reducible refine Kd.C_drew ?_))); (case side2 => exact (Kd.R_reads' HO139.out).2.1); rintro e w19 ⟨v144, rfl, ho0, hb⟩; refine ⟨_, rfl, ?_⟩; have n0_ := Aside0.mk (Kd.R_elder' (by (with_reducible repeat (first | apply Kd.R_alloc | apply Kd.R_drewN | apply Kd.R_drew)); exact HO139.out) (Kd.R_base ho0) hb); have n1_ := Aside0.mk (Kd.R_lower (Kd.R_new' ho0 (Kd.R_lt (by (with_reducible repeat (first | apply Kd.R_alloc | apply Kd.R_drewN | apply Kd.R_drew)); exact HO139.out))) (below_size (by repeat (first | (with_reducible first | exact HB.out | apply below_alloc | apply pw_below_drewN | apply below_drew1 | refine below_set ?_ GE132.out) | exact HB.out)))); have n2_ := Aside0.mk (blk_below (g := gb132) (o := .cells #[.int .i8 a0_0, .int .i8 a0_1, .int .i8 a0_2, .slice A0_3 l0_3.length c0_3] 25 (0, 0)) (by (with_reducible repeat (first | refine blk_drewN ?_ _ | refine blk_drew ?_ | refine blk_alloc ?_ _)); exact BK132.out) hb); have n3_ := Aside0.mk (below_step (by repeat (first | (with_reducible first | exact HB.out | apply below_alloc | apply pw_below_drewN | apply below_drew1 | refine below_set ?_ GE132.out) | exact HB.out)) hb); clear HO139; clear BK132; clear HB; have HO139 := n0_; have HO145 := n1_; have BK132 := n2_; have HB := n3_; clear n0_ n1_ n2_ n3_; (try clear hb); (try clear hb2); (try clear hk); (try clear hi); (try clear ho0)) | ((with_reducible refine gate_dst (N := 6) rfl ?_); refine box_event ?hg (N := 6) ?hd (cs := #[.int .i8 0, .int .i8 0, .int .i8 0, .slice none 0 0]) (t := 27) ?hr ?_; (case hd => rfl); (case hg => rfl); (case hr => first | (go_simp; done) | (go_simp; rfl)); intro gb147 hg w20 hbox hb; have n0_ := Aside0.mk (Kd.R_below (by (with_reducible repeat (first | apply Kd.R_alloc | apply Kd.R_drewN | apply Kd.R_drew)); exact HO139.out) hb); have n1_ := Aside0.mk (Kd.R_below (by (with_reducible repeat (first | apply Kd.R_alloc | apply Kd.R_drewN | apply Kd.R_drew)); exact HO145.out) hb); have n2_ := Aside0.mk (blk_below (g := gb132) (o := .cells #[.int .i8 a0_0, .int .i8 a0_1, .int .i8 a0_2, .slice A0_3 l0_3.length c0_3] 25 (0, 0)) (by (with_reducible repeat (first | refine blk_drewN ?_ _ | refine blk_drew ?_ | refine blk_alloc ?_ _)); exact BK132.out) hb); have n3_ := Aside0.mk (below_step (by repeat (first | (with_reducible first | exact HB.out | apply below_alloc | apply pw_below_drewN | apply below_drew1 | refine below_set ?_ GE132.out) | exact HB.out)) hb); have n4_ := Aside0.mk (hbox); have n5_ := Aside0.mk ((by rw [hg]; exact (below_size (by repeat (first | (with_reducible first | exact HB.out | apply below_alloc | apply pw_below_drewN | apply below_drew1 | refine below_set ?_ GE132.out) | exact HB.out))) : w.heap.size ≤ gb147)); have n6_ := Aside0.mk ((by rw [hg]; exact (below_size (by repeat (first | (with_reducible first | exact HB.out | apply below_alloc | apply pw_below_drewN | apply below_drew1 | refine below_set ?_ GE132.out) | exact HB.out))) : w.heap.size ≤ gb147)); have n7_ := Aside0.mk ((by rw [hg]; exact Nat.ne_of_lt (blk_lt (g := gb132) (o := .cells #[.int .i8 a0_0, .int .i8 a0_1, .int .i8 a0_2, .slice A0_3 l0_3.length c0_3] 25 (0, 0)) (by (with_reducible repeat (first | refine blk_drewN ?_ _ | refine blk_drew ?_ | refine blk_alloc ?_ _)); exact BK132.out)) : gb132 ≠ gb147)); have n8_ := Aside0.mk ((by rw [hg]; exact Nat.ne_of_gt (blk_lt (g := gb132) (o := .cells #[.int .i8 a0_0, .int .i8 a0_1, .int .i8 a0_2, .slice A0_3 l0_3.length c0_3] 25 (0, 0)) (by (with_reducible repeat (first | refine blk_drewN ?_ _ | refine blk_drew ?_ | refine blk_alloc ?_ _)); exact BK132.out)) : gb147 ≠ gb132)); clear HO139; clear HO145; clear BK132; clear HB; have HO139 := n0_; have HO145 := n1_; have BK132 := n2_; have HB := n3_; have BK147 := n4_; have GW147 := n5_; have GE147 := n6_; have NB132_147 := n7_; have NB147_132 := n8_; clear n0_ n1_ n2_ n3_ n4_ n5_ n6_ n7_ n8_; clear hb hbox hg; have hnb21 := NB147_132.out; have hnc21 := NB132_147.out; have hcz22_0 : w20.cell? ⟨gb147, 0, none⟩ = some (.int .i8 0) := (blk_cell BK147.out 0).trans rfl; have hcz22_1 : w20.cell? ⟨gb147, 1, none⟩ = some (.int .i8 0) := (blk_cell BK147.out 1).trans rfl; have hcz22_2 : w20.cell? ⟨gb147, 2, none⟩ = some (.int .i8 0) := (blk_cell BK147.out 2).trans rfl; have hcz22_3 : w20.cell? ⟨gb147, 3, none⟩ = some (.slice none 0 0) := (blk_cell BK147.out 3).trans rfl; have hfz22_0 := blk_frozen BK147.out 0; have hfz22_1 := blk_frozen BK147.out 1; have hfz22_2 := blk_frozen BK147.out 2; have hfz22_3 := blk_frozen BK147.out 3; obtain ⟨Ao23, co23, eo23⟩ := Kd.R_slice HO145.out; subst eo23; have hcz24_0 : w20.cell? ⟨gb132, 0, none⟩ = some (.int .i8 a0_0) := (blk_cell BK132.out 0).trans rfl; have hcz24_1 : w20.cell? ⟨gb132, 1, none⟩ = some (.int .i8 a0_1) := (blk_cell BK132.out 1).trans rfl; have hcz24_2 : w20.cell? ⟨gb132, 2, none⟩ = some (.int .i8 a0_2) := (blk_cell BK132.out 2).trans rfl; have hcz24_3 : w20.cell? ⟨gb132, 3, none⟩ = some (.slice A0_3 l0_3.length c0_3) := (blk_cell BK132.out 3).trans rfl; have hfz24_0 := blk_frozen BK132.out 0; have hfz24_1 := blk_frozen BK132.out 1; have hfz24_2 := blk_frozen BK132.out 2; have hfz24_3 := blk_frozen BK132.out 3) | ((with_reducible refine gate_callee (f := 14) rfl ?_); refine goesL_ (some 29) rfl rfl Try.func14 (by kernel_rfl) rfl #[.agg #[.int .i8 a0_0, .int .i8 a0_1, .int .i8 a0_2, .slice A0_3 l0_3.length c0_3]] rfl (by (try simp only [List.map_toArray, List.map_cons, List.map_nil]); first | done | rfl | (simp only [List.length_drop, List.length_take]; rfl)) ?_; (with_reducible refine (laws_toBook.calls k a0_0 a0_1 a0_2 _ _ l0_3 t148 t149 t150 t151 _ ?side1 ?side2 A10.out).mono ?_); (case side1 => exact Kd.C_below HR0_3.out (by repeat (first | (with_reducible first | exact HB.out | apply below_alloc | apply pw_below_drewN | apply below_drew1 | refine below_set ?_ GE132.out | refine below_set ?_ GE147.out) | exact HB.out))); (case side2 => exact HC0_3.out); rintro e w25 ⟨v152, rfl, ho0, hb⟩; refine ⟨_, rfl, ?_⟩; have n0_ := Aside0.mk (Kd.R_elder' (by (with_reducible repeat (first | apply Kd.R_alloc | apply Kd.R_drewN | apply Kd.R_drew)); exact (Kd.R_mono (Kd.R_far (p := ⟨gb147, 3, none⟩) (Kd.R_far (p := ⟨gb147, 2, none⟩) (Kd.R_far (p := ⟨gb147, 1, none⟩) (Kd.R_far (p := ⟨gb147, 0, none⟩) (Kd.R_types HO139.out BK147.out (by decide)) (fun _ hk => hk.2) (.int .i8 t140)) (fun _ hk => hk.2) (.int .i8 t141)) (fun _ hk => hk.2) (.int .i8 t142)) (fun _ hk => hk.2) (.slice Ao23 t143.length co23)) (fun _ h_ => h_.1))) (Kd.R_base ho0) hb); have n1_ := Aside0.mk (Kd.R_elder' (by (with_reducible repeat (first | apply Kd.R_alloc | apply Kd.R_drewN | apply Kd.R_drew)); exact (Kd.R_mono (Kd.R_far (p := ⟨gb147, 3, none⟩) (Kd.R_far (p := ⟨gb147, 2, none⟩) (Kd.R_far (p := ⟨gb147, 1, none⟩) (Kd.R_far (p := ⟨gb147, 0, none⟩) (Kd.R_types HO145.out BK147.out (by decide)) (fun _ hk => hk.2) (.int .i8 t140)) (fun _ hk => hk.2) (.int .i8 t141)) (fun _ hk => hk.2) (.int .i8 t142)) (fun _ hk => hk.2) (.slice Ao23 t143.length co23)) (fun _ h_ => h_.1))) (Kd.R_base ho0) hb); have n2_ := Aside0.mk (Kd.R_lower (Kd.R_new' (Kd.R_new' ho0 (Kd.R_lt (by (with_reducible repeat (first | apply Kd.R_alloc | apply Kd.R_drewN | apply Kd.R_drew)); exact (Kd.R_mono (Kd.R_far (p := ⟨gb147, 3, none⟩) (Kd.R_far (p := ⟨gb147, 2, none⟩) (Kd.R_far (p := ⟨gb147, 1, none⟩) (Kd.R_far (p := ⟨gb147, 0, none⟩) (Kd.R_types HO139.out BK147.out (by decide)) (fun _ hk => hk.2) (.int .i8 t140)) (fun _ hk => hk.2) (.int .i8 t141)) (fun _ hk => hk.2) (.int .i8 t142)) (fun _ hk => hk.2) (.slice Ao23 t143.length co23)) (fun _ h_ => h_.1))))) (Kd.R_lt (by (with_reducible repeat (first | apply Kd.R_alloc | apply Kd.R_drewN | apply Kd.R_drew)); exact (Kd.R_mono (Kd.R_far (p := ⟨gb147, 3, none⟩) (Kd.R_far (p := ⟨gb147, 2, none⟩) (Kd.R_far (p := ⟨gb147, 1, none⟩) (Kd.R_far (p := ⟨gb147, 0, none⟩) (Kd.R_types HO145.out BK147.out (by decide)) (fun _ hk => hk.2) (.int .i8 t140)) (fun _ hk => hk.2) (.int .i8 t141)) (fun _ hk => hk.2) (.int .i8 t142)) (fun _ hk => hk.2) (.slice Ao23 t143.length co23)) (fun _ h_ => h_.1))))) (below_size (by repeat (first | (with_reducible first | exact HB.out | apply below_alloc | apply pw_below_drewN | apply below_drew1 | refine below_set ?_ GE132.out | refine below_set ?_ GE147.out) | exact HB.out)))); have n3_ := Aside0.mk (blk_below (g := gb132) (o := .cells #[.int .i8 a0_0, .int .i8 a0_1, .int .i8 a0_2, .slice A0_3 l0_3.length c0_3] 25 (0, 0)) (by (with_reducible repeat (first | refine blk_drewN ?_ _ | refine blk_drew ?_ | refine blk_alloc ?_ _)); refine blk_far ?_ NB132_147.out _; (with_reducible repeat (first | refine blk_drewN ?_ _ | refine blk_drew ?_ | refine blk_alloc ?_ _)); refine blk_far ?_ NB132_147.out _; (with_reducible repeat (first | refine blk_drewN ?_ _ | refine blk_drew ?_ | refine blk_alloc ?_ _)); refine blk_far ?_ NB132_147.out _; (with_reducible repeat (first | refine blk_drewN ?_ _ | refine blk_drew ?_ | refine blk_alloc ?_ _)); refine blk_far ?_ NB132_147.out _; (with_reducible repeat (first | refine blk_drewN ?_ _ | refine blk_drew ?_ | refine blk_alloc ?_ _)); exact BK132.out) hb); have n4_ := Aside0.mk (blk_below (g := gb147) (o := .cells #[.int .i8 t140, .int .i8 t141, .int .i8 t142, .slice Ao23 t143.length co23] 27 (0, 0)) (by (with_reducible repeat (first | refine blk_drewN ?_ _ | refine blk_drew ?_ | refine blk_alloc ?_ _)); refine blk_put (cs := #[.int .i8 t140, .int .i8 t141, .int .i8 t142, .slice none 0 0]) ?_ 3 _ rfl; (with_reducible repeat (first | refine blk_drewN ?_ _ | refine blk_drew ?_ | refine blk_alloc ?_ _)); refine blk_put (cs := #[.int .i8 t140, .int .i8 t141, .int .i8 0, .slice none 0 0]) ?_ 2 _ rfl; (with_reducible repeat (first | refine blk_drewN ?_ _ | refine blk_drew ?_ | refine blk_alloc ?_ _)); refine blk_put (cs := #[.int .i8 t140, .int .i8 0, .int .i8 0, .slice none 0 0]) ?_ 1 _ rfl; (with_reducible repeat (first | refine blk_drewN ?_ _ | refine blk_drew ?_ | refine blk_alloc ?_ _)); refine blk_put (cs := #[.int .i8 0, .int .i8 0, .int .i8 0, .slice none 0 0]) ?_ 0 _ rfl; (with_reducible repeat (first | refine blk_drewN ?_ _ | refine blk_drew ?_ | refine blk_alloc ?_ _)); exact BK147.out) hb); have n5_ := Aside0.mk (below_step (by repeat (first | (with_reducible first | exact HB.out | apply below_alloc | apply pw_below_drewN | apply below_drew1 | refine below_set ?_ GE132.out | refine below_set ?_ GE147.out) | exact HB.out)) hb); clear HO139; clear HO145; clear BK132; clear BK147; clear HB; have HO139 := n0_; have HO145 := n1_; have HO153 := n2_; have BK132 := n3_; have BK147 := n4_; have HB := n5_; clear n0_ n1_ n2_ n3_ n4_ n5_; (try clear hb); (try clear hb2); (try clear hk); (try clear hi); (try clear ho0)) | ((with_reducible refine gate_dst (N := 8) rfl ?_); refine box_event ?hg (N := 8) ?hd (cs := #[.int .i8 0, .int .i8 0, .int .i8 0, .slice none 0 0]) (t := 27) ?hr ?_; (case hd => rfl); (case hg => rfl); (case hr => first | (go_simp; done) | (go_simp; rfl)); intro gb154 hg w26 hbox hb; have n0_ := Aside0.mk (Kd.R_below (by (with_reducible repeat (first | apply Kd.R_alloc | apply Kd.R_drewN | apply Kd.R_drew)); exact HO139.out) hb); have n1_ := Aside0.mk (Kd.R_below (by (with_reducible repeat (first | apply Kd.R_alloc | apply Kd.R_drewN | apply Kd.R_drew)); exact HO145.out) hb); have n2_ := Aside0.mk (Kd.R_below (by (with_reducible repeat (first | apply Kd.R_alloc | apply Kd.R_drewN | apply Kd.R_drew)); exact HO153.out) hb); have n3_ := Aside0.mk (blk_below (g := gb132) (o := .cells #[.int .i8 a0_0, .int .i8 a0_1, .int .i8 a0_2, .slice A0_3 l0_3.length c0_3] 25 (0, 0)) (by (with_reducible repeat (first | refine blk_drewN ?_ _ | refine blk_drew ?_ | refine blk_alloc ?_ _)); exact BK132.out) hb); have n4_ := Aside0.mk (blk_below (g := gb147) (o := .cells #[.int .i8 t140, .int .i8 t141, .int .i8 t142, .slice Ao23 t143.length co23] 27 (0, 0)) (by (with_reducible repeat (first | refine blk_drewN ?_ _ | refine blk_drew ?_ | refine blk_alloc ?_ _)); exact BK147.out) hb); have n5_ := Aside0.mk (below_step (by repeat (first | (with_reducible first | exact HB.out | apply below_alloc | apply pw_below_drewN | apply below_drew1 | refine below_set ?_ GE132.out | refine below_set ?_ GE147.out) | exact HB.out)) hb); have n6_ := Aside0.mk (hbox); have n7_ := Aside0.mk ((by rw [hg]; exact (below_size (by repeat (first | (with_reducible first | exact HB.out | apply below_alloc | apply pw_below_drewN | apply below_drew1 | refine below_set ?_ GE132.out | refine below_set ?_ GE147.out) | exact HB.out))) : w.heap.size ≤ gb154)); have n8_ := Aside0.mk ((by rw [hg]; exact (below_size (by repeat (first | (with_reducible first | exact HB.out | apply below_alloc | apply pw_below_drewN | apply below_drew1 | refine below_set ?_ GE132.out | refine below_set ?_ GE147.out) | exact HB.out))) : w.heap.size ≤ gb154)); have n9_ := Aside0.mk ((by rw [hg]; exact Nat.ne_of_lt (blk_lt (g := gb132) (o := .cells #[.int .i8 a0_0, .int .i8 a0_1, .int .i8 a0_2, .slice A0_3 l0_3.length c0_3] 25 (0, 0)) (by (with_reducible repeat (first | refine blk_drewN ?_ _ | refine blk_drew ?_ | refine blk_alloc ?_ _)); exact BK132.out)) : gb132 ≠ gb154)); have n10_ := Aside0.mk ((by rw [hg]; exact Nat.ne_of_gt (blk_lt (g := gb132) (o := .cells #[.int .i8 a0_0, .int .i8 a0_1, .int .i8 a0_2, .slice A0_3 l0_3.length c0_3] 25 (0, 0)) (by (with_reducible repeat (first | refine blk_drewN ?_ _ | refine blk_drew ?_ | refine blk_alloc ?_ _)); exact BK132.out)) : gb154 ≠ gb132)); have n11_ := Aside0.mk ((by rw [hg]; exact Nat.ne_of_lt (blk_lt (g := gb147) (o := .cells #[.int .i8 t140, .int .i8 t141, .int .i8 t142, .slice Ao23 t143.length co23] 27 (0, 0)) (by (with_reducible repeat (first | refine blk_drewN ?_ _ | refine blk_drew ?_ | refine blk_alloc ?_ _)); exact BK147.out)) : gb147 ≠ gb154)); have n12_ := Aside0.mk ((by rw [hg]; exact Nat.ne_of_gt (blk_lt (g := gb147) (o := .cells #[.int .i8 t140, .int .i8 t141, .int .i8 t142, .slice Ao23 t143.length co23] 27 (0, 0)) (by (with_reducible repeat (first | refine blk_drewN ?_ _ | refine blk_drew ?_ | refine blk_alloc ?_ _)); exact BK147.out)) : gb154 ≠ gb147)); clear HO139; clear HO145; clear HO153; clear BK132; clear BK147; clear HB; have HO139 := n0_; have HO145 := n1_; have HO153 := n2_; have BK132 := n3_; have BK147 := n4_; have HB := n5_; have BK154 := n6_; have GW154 := n7_; have GE154 := n8_; have NB132_154 := n9_; have NB154_132 := n10_; have NB147_154 := n11_; have NB154_147 := n12_; clear n0_ n1_ n2_ n3_ n4_ n5_ n6_ n7_ n8_ n9_ n10_ n11_ n12_; clear hb hbox hg; have hnb27 := NB154_132.out; have hnc27 := NB132_154.out; have hnb28 := NB154_147.out; have hnc28 := NB147_154.out; have hcz29_0 : w26.cell? ⟨gb154, 0, none⟩ = some (.int .i8 0) := (blk_cell BK154.out 0).trans rfl; have hcz29_1 : w26.cell? ⟨gb154, 1, none⟩ = some (.int .i8 0) := (blk_cell BK154.out 1).trans rfl; have hcz29_2 : w26.cell? ⟨gb154, 2, none⟩ = some (.int .i8 0) := (blk_cell BK154.out 2).trans rfl; have hcz29_3 : w26.cell? ⟨gb154, 3, none⟩ = some (.slice none 0 0) := (blk_cell BK154.out 3).trans rfl; have hfz29_0 := blk_frozen BK154.out 0; have hfz29_1 := blk_frozen BK154.out 1; have hfz29_2 := blk_frozen BK154.out 2; have hfz29_3 := blk_frozen BK154.out 3; obtain ⟨Ao30, co30, eo30⟩ := Kd.R_slice HO153.out; subst eo30) | ((with_reducible refine gate_callee (f := 20) rfl ?_); refine goesL_ (some 33) rfl rfl Try.func20 (by kernel_rfl) rfl #[.agg #[.int .i8 t148, .int .i8 t149, .int .i8 t150, .slice Ao30 t151.length co30], .int .i64 a1] rfl (by (try simp only [List.map_toArray, List.map_cons, List.map_nil]); first | done | rfl | (simp only [List.length_drop, List.length_take]; rfl)) ?_; (with_reducible refine (impl_DropPhrase.calls t148 t149 t150 _ _ t151 a1 t155 t156 t157 t158 t161 _ ?side1 ?side2 A11.out).mono ?_); (case side1 => refine (Kd.R_reads' (e := 9) (base := w.heap.size) (ok := fun k_ => ((True ∧ some k_ ≠ (.slice Ao18 t137.length co18 : Value).ownBlock) ∧ some k_ ≠ (.slice Ao23 t143.length co23 : Value).ownBlock)) (n := t151.length) (c := co30) ?_).2.2; exact (by (with_reducible repeat (first | apply Kd.R_alloc | apply Kd.R_drewN | apply Kd.R_drew)); exact (Kd.R_mono (Kd.R_far (p := ⟨gb154, 3, none⟩) (Kd.R_far (p := ⟨gb154, 2, none⟩) (Kd.R_far (p := ⟨gb154, 1, none⟩) (Kd.R_far (p := ⟨gb154, 0, none⟩) (Kd.R_types HO153.out BK154.out (by decide)) (fun _ hk => hk.2) (.int .i8 t148)) (fun _ hk => hk.2) (.int .i8 t149)) (fun _ hk => hk.2) (.int .i8 t150)) (fun _ hk => hk.2) (.slice Ao30 t151.length co30)) (fun _ h_ => h_.1)))); (case side2 => exact (Kd.R_reads' HO153.out).2.1); rintro e w31 ⟨v159, rfl, ho0, hb⟩; refine ⟨_, rfl, ?_⟩; have n0_ := Aside0.mk (Kd.R_elder' (by (with_reducible repeat (first | apply Kd.R_alloc | apply Kd.R_drewN | apply Kd.R_drew)); exact (Kd.R_mono (Kd.R_far (p := ⟨gb154, 3, none⟩) (Kd.R_far (p := ⟨gb154, 2, none⟩) (Kd.R_far (p := ⟨gb154, 1, none⟩) (Kd.R_far (p := ⟨gb154, 0, none⟩) (Kd.R_types HO139.out BK154.out (by decide)) (fun _ hk => hk.2) (.int .i8 t148)) (fun _ hk => hk.2) (.int .i8 t149)) (fun _ hk => hk.2) (.int .i8 t150)) (fun _ hk => hk.2) (.slice Ao30 t151.length co30)) (fun _ h_ => h_.1))) (Kd.R_base ho0) hb); have n1_ := Aside0.mk (Kd.R_elder' (by (with_reducible repeat (first | apply Kd.R_alloc | apply Kd.R_drewN | apply Kd.R_drew)); exact (Kd.R_mono (Kd.R_far (p := ⟨gb154, 3, none⟩) (Kd.R_far (p := ⟨gb154, 2, none⟩) (Kd.R_far (p := ⟨gb154, 1, none⟩) (Kd.R_far (p := ⟨gb154, 0, none⟩) (Kd.R_types HO145.out BK154.out (by decide)) (fun _ hk => hk.2) (.int .i8 t148)) (fun _ hk => hk.2) (.int .i8 t149)) (fun _ hk => hk.2) (.int .i8 t150)) (fun _ hk => hk.2) (.slice Ao30 t151.length co30)) (fun _ h_ => h_.1))) (Kd.R_base ho0) hb); have n2_ := Aside0.mk (Kd.R_elder' (by (with_reducible repeat (first | apply Kd.R_alloc | apply Kd.R_drewN | apply Kd.R_drew)); exact (Kd.R_mono (Kd.R_far (p := ⟨gb154, 3, none⟩) (Kd.R_far (p := ⟨gb154, 2, none⟩) (Kd.R_far (p := ⟨gb154, 1, none⟩) (Kd.R_far (p := ⟨gb154, 0, none⟩) (Kd.R_types HO153.out BK154.out (by decide)) (fun _ hk => hk.2) (.int .i8 t148)) (fun _ hk => hk.2) (.int .i8 t149)) (fun _ hk => hk.2) (.int .i8 t150)) (fun _ hk => hk.2) (.slice Ao30 t151.length co30)) (fun _ h_ => h_.1))) (Kd.R_base ho0) hb); have n3_ := Aside0.mk (Kd.R_lower (Kd.R_new' (Kd.R_new' (Kd.R_new' ho0 (Kd.R_lt (by (with_reducible repeat (first | apply Kd.R_alloc | apply Kd.R_drewN | apply Kd.R_drew)); exact (Kd.R_mono (Kd.R_far (p := ⟨gb154, 3, none⟩) (Kd.R_far (p := ⟨gb154, 2, none⟩) (Kd.R_far (p := ⟨gb154, 1, none⟩) (Kd.R_far (p := ⟨gb154, 0, none⟩) (Kd.R_types HO139.out BK154.out (by decide)) (fun _ hk => hk.2) (.int .i8 t148)) (fun _ hk => hk.2) (.int .i8 t149)) (fun _ hk => hk.2) (.int .i8 t150)) (fun _ hk => hk.2) (.slice Ao30 t151.length co30)) (fun _ h_ => h_.1))))) (Kd.R_lt (by (with_reducible repeat (first | apply Kd.R_alloc | apply Kd.R_drewN | apply Kd.R_drew)); exact (Kd.R_mono (Kd.R_far (p := ⟨gb154, 3, none⟩) (Kd.R_far (p := ⟨gb154, 2, none⟩) (Kd.R_far (p := ⟨gb154, 1, none⟩) (Kd.R_far (p := ⟨gb154, 0, none⟩) (Kd.R_types HO145.out BK154.out (by decide)) (fun _ hk => hk.2) (.int .i8 t148)) (fun _ hk => hk.2) (.int .i8 t149)) (fun _ hk => hk.2) (.int .i8 t150)) (fun _ hk => hk.2) (.slice Ao30 t151.length co30)) (fun _ h_ => h_.1))))) (Kd.R_lt (by (with_reducible repeat (first | apply Kd.R_alloc | apply Kd.R_drewN | apply Kd.R_drew)); exact (Kd.R_mono (Kd.R_far (p := ⟨gb154, 3, none⟩) (Kd.R_far (p := ⟨gb154, 2, none⟩) (Kd.R_far (p := ⟨gb154, 1, none⟩) (Kd.R_far (p := ⟨gb154, 0, none⟩) (Kd.R_types HO153.out BK154.out (by decide)) (fun _ hk => hk.2) (.int .i8 t148)) (fun _ hk => hk.2) (.int .i8 t149)) (fun _ hk => hk.2) (.int .i8 t150)) (fun _ hk => hk.2) (.slice Ao30 t151.length co30)) (fun _ h_ => h_.1))))) (below_size (by repeat (first | (with_reducible first | exact HB.out | apply below_alloc | apply pw_below_drewN | apply below_drew1 | refine below_set ?_ GE132.out | refine below_set ?_ GE147.out | refine below_set ?_ GE154.out) | exact HB.out)))); have n4_ := Aside0.mk (blk_below (g := gb132) (o := .cells #[.int .i8 a0_0, .int .i8 a0_1, .int .i8 a0_2, .slice A0_3 l0_3.length c0_3] 25 (0, 0)) (by (with_reducible repeat (first | refine blk_drewN ?_ _ | refine blk_drew ?_ | refine blk_alloc ?_ _)); refine blk_far ?_ NB132_154.out _; (with_reducible repeat (first | refine blk_drewN ?_ _ | refine blk_drew ?_ | refine blk_alloc ?_ _)); refine blk_far ?_ NB132_154.out _; (with_reducible repeat (first | refine blk_drewN ?_ _ | refine blk_drew ?_ | refine blk_alloc ?_ _)); refine blk_far ?_ NB132_154.out _; (with_reducible repeat (first | refine blk_drewN ?_ _ | refine blk_drew ?_ | refine blk_alloc ?_ _)); refine blk_far ?_ NB132_154.out _; (with_reducible repeat (first | refine blk_drewN ?_ _ | refine blk_drew ?_ | refine blk_alloc ?_ _)); exact BK132.out) hb); have n5_ := Aside0.mk (blk_below (g := gb147) (o := .cells #[.int .i8 t140, .int .i8 t141, .int .i8 t142, .slice Ao23 t143.length co23] 27 (0, 0)) (by (with_reducible repeat (first | refine blk_drewN ?_ _ | refine blk_drew ?_ | refine blk_alloc ?_ _)); refine blk_far ?_ NB147_154.out _; (with_reducible repeat (first | refine blk_drewN ?_ _ | refine blk_drew ?_ | refine blk_alloc ?_ _)); refine blk_far ?_ NB147_154.out _; (with_reducible repeat (first | refine blk_drewN ?_ _ | refine blk_drew ?_ | refine blk_alloc ?_ _)); refine blk_far ?_ NB147_154.out _; (with_reducible repeat (first | refine blk_drewN ?_ _ | refine blk_drew ?_ | refine blk_alloc ?_ _)); refine blk_far ?_ NB147_154.out _; (with_reducible repeat (first | refine blk_drewN ?_ _ | refine blk_drew ?_ | refine blk_alloc ?_ _)); exact BK147.out) hb); have n6_ := Aside0.mk (blk_below (g := gb154) (o := .cells #[.int .i8 t148, .int .i8 t149, .int .i8 t150, .slice Ao30 t151.length co30] 27 (0, 0)) (by (with_reducible repeat (first | refine blk_drewN ?_ _ | refine blk_drew ?_ | refine blk_alloc ?_ _)); refine blk_put (cs := #[.int .i8 t148, .int .i8 t149, .int .i8 t150, .slice none 0 0]) ?_ 3 _ rfl; (with_reducible repeat (first | refine blk_drewN ?_ _ | refine blk_drew ?_ | refine blk_alloc ?_ _)); refine blk_put (cs := #[.int .i8 t148, .int .i8 t149, .int .i8 0, .slice none 0 0]) ?_ 2 _ rfl; (with_reducible repeat (first | refine blk_drewN ?_ _ | refine blk_drew ?_ | refine blk_alloc ?_ _)); refine blk_put (cs := #[.int .i8 t148, .int .i8 0, .int .i8 0, .slice none 0 0]) ?_ 1 _ rfl; (with_reducible repeat (first | refine blk_drewN ?_ _ | refine blk_drew ?_ | refine blk_alloc ?_ _)); refine blk_put (cs := #[.int .i8 0, .int .i8 0, .int .i8 0, .slice none 0 0]) ?_ 0 _ rfl; (with_reducible repeat (first | refine blk_drewN ?_ _ | refine blk_drew ?_ | refine blk_alloc ?_ _)); exact BK154.out) hb); have n7_ := Aside0.mk (below_step (by repeat (first | (with_reducible first | exact HB.out | apply below_alloc | apply pw_below_drewN | apply below_drew1 | refine below_set ?_ GE132.out | refine below_set ?_ GE147.out | refine below_set ?_ GE154.out) | exact HB.out)) hb); clear HO139; clear HO145; clear HO153; clear BK132; clear BK147; clear BK154; clear HB; have HO139 := n0_; have HO145 := n1_; have HO153 := n2_; have HO160 := n3_; have BK132 := n4_; have BK147 := n5_; have BK154 := n6_; have HB := n7_; clear n0_ n1_ n2_ n3_ n4_ n5_ n6_ n7_; (try clear hb); (try clear hb2); (try clear hk); (try clear hi); (try clear ho0)) | ((with_reducible refine gate_dst (N := 9) rfl ?_); refine box_event ?hg (N := 9) ?hd (cs := #[.int .i8 0, .int .i8 0, .int .i8 0, .slice none 0 0]) (t := 27) ?hr ?_; (case hd => rfl); (case hg => rfl); (case hr => first | (go_simp; done) | (go_simp; rfl)); intro gb162 hg w32 hbox hb; have n0_ := Aside0.mk (Kd.R_below (by (with_reducible repeat (first | apply Kd.R_alloc | apply Kd.R_drewN | apply Kd.R_drew)); exact HO139.out) hb); have n1_ := Aside0.mk (Kd.R_below (by (with_reducible repeat (first | apply Kd.R_alloc | apply Kd.R_drewN | apply Kd.R_drew)); exact HO145.out) hb); have n2_ := Aside0.mk (Kd.R_below (by (with_reducible repeat (first | apply Kd.R_alloc | apply Kd.R_drewN | apply Kd.R_drew)); exact HO153.out) hb); have n3_ := Aside0.mk (Kd.R_below (by (with_reducible repeat (first | apply Kd.R_alloc | apply Kd.R_drewN | apply Kd.R_drew)); exact HO160.out) hb); have n4_ := Aside0.mk (blk_below (g := gb132) (o := .cells #[.int .i8 a0_0, .int .i8 a0_1, .int .i8 a0_2, .slice A0_3 l0_3.length c0_3] 25 (0, 0)) (by (with_reducible repeat (first | refine blk_drewN ?_ _ | refine blk_drew ?_ | refine blk_alloc ?_ _)); exact BK132.out) hb); have n5_ := Aside0.mk (blk_below (g := gb147) (o := .cells #[.int .i8 t140, .int .i8 t141, .int .i8 t142, .slice Ao23 t143.length co23] 27 (0, 0)) (by (with_reducible repeat (first | refine blk_drewN ?_ _ | refine blk_drew ?_ | refine blk_alloc ?_ _)); exact BK147.out) hb); have n6_ := Aside0.mk (blk_below (g := gb154) (o := .cells #[.int .i8 t148, .int .i8 t149, .int .i8 t150, .slice Ao30 t151.length co30] 27 (0, 0)) (by (with_reducible repeat (first | refine blk_drewN ?_ _ | refine blk_drew ?_ | refine blk_alloc ?_ _)); exact BK154.out) hb); have n7_ := Aside0.mk (below_step (by repeat (first | (with_reducible first | exact HB.out | apply below_alloc | apply pw_below_drewN | apply below_drew1 | refine below_set ?_ GE132.out | refine below_set ?_ GE147.out | refine below_set ?_ GE154.out) | exact HB.out)) hb); have n8_ := Aside0.mk (hbox); have n9_ := Aside0.mk ((by rw [hg]; exact (below_size (by repeat (first | (with_reducible first | exact HB.out | apply below_alloc | apply pw_below_drewN | apply below_drew1 | refine below_set ?_ GE132.out | refine below_set ?_ GE147.out | refine below_set ?_ GE154.out) | exact HB.out))) : w.heap.size ≤ gb162)); have n10_ := Aside0.mk ((by rw [hg]; exact (below_size (by repeat (first | (with_reducible first | exact HB.out | apply below_alloc | apply pw_below_drewN | apply below_drew1 | refine below_set ?_ GE132.out | refine below_set ?_ GE147.out | refine below_set ?_ GE154.out) | exact HB.out))) : w.heap.size ≤ gb162)); have n11_ := Aside0.mk ((by rw [hg]; exact Nat.ne_of_lt (blk_lt (g := gb132) (o := .cells #[.int .i8 a0_0, .int .i8 a0_1, .int .i8 a0_2, .slice A0_3 l0_3.length c0_3] 25 (0, 0)) (by (with_reducible repeat (first | refine blk_drewN ?_ _ | refine blk_drew ?_ | refine blk_alloc ?_ _)); exact BK132.out)) : gb132 ≠ gb162)); have n12_ := Aside0.mk ((by rw [hg]; exact Nat.ne_of_gt (blk_lt (g := gb132) (o := .cells #[.int .i8 a0_0, .int .i8 a0_1, .int .i8 a0_2, .slice A0_3 l0_3.length c0_3] 25 (0, 0)) (by (with_reducible repeat (first | refine blk_drewN ?_ _ | refine blk_drew ?_ | refine blk_alloc ?_ _)); exact BK132.out)) : gb162 ≠ gb132)); have n13_ := Aside0.mk ((by rw [hg]; exact Nat.ne_of_lt (blk_lt (g := gb147) (o := .cells #[.int .i8 t140, .int .i8 t141, .int .i8 t142, .slice Ao23 t143.length co23] 27 (0, 0)) (by (with_reducible repeat (first | refine blk_drewN ?_ _ | refine blk_drew ?_ | refine blk_alloc ?_ _)); exact BK147.out)) : gb147 ≠ gb162)); have n14_ := Aside0.mk ((by rw [hg]; exact Nat.ne_of_gt (blk_lt (g := gb147) (o := .cells #[.int .i8 t140, .int .i8 t141, .int .i8 t142, .slice Ao23 t143.length co23] 27 (0, 0)) (by (with_reducible repeat (first | refine blk_drewN ?_ _ | refine blk_drew ?_ | refine blk_alloc ?_ _)); exact BK147.out)) : gb162 ≠ gb147)); have n15_ := Aside0.mk ((by rw [hg]; exact Nat.ne_of_lt (blk_lt (g := gb154) (o := .cells #[.int .i8 t148, .int .i8 t149, .int .i8 t150, .slice Ao30 t151.length co30] 27 (0, 0)) (by (with_reducible repeat (first | refine blk_drewN ?_ _ | refine blk_drew ?_ | refine blk_alloc ?_ _)); exact BK154.out)) : gb154 ≠ gb162)); have n16_ := Aside0.mk ((by rw [hg]; exact Nat.ne_of_gt (blk_lt (g := gb154) (o := .cells #[.int .i8 t148, .int .i8 t149, .int .i8 t150, .slice Ao30 t151.length co30] 27 (0, 0)) (by (with_reducible repeat (first | refine blk_drewN ?_ _ | refine blk_drew ?_ | refine blk_alloc ?_ _)); exact BK154.out)) : gb162 ≠ gb154)); clear HO139; clear HO145; clear HO153; clear HO160; clear BK132; clear BK147; clear BK154; clear HB; have HO139 := n0_; have HO145 := n1_; have HO153 := n2_; have HO160 := n3_; have BK132 := n4_; have BK147 := n5_; have BK154 := n6_; have HB := n7_; have BK162 := n8_; have GW162 := n9_; have GE162 := n10_; have NB132_162 := n11_; have NB162_132 := n12_; have NB147_162 := n13_; have NB162_147 := n14_; have NB154_162 := n15_; have NB162_154 := n16_; clear n0_ n1_ n2_ n3_ n4_ n5_ n6_ n7_ n8_ n9_ n10_ n11_ n12_ n13_ n14_ n15_ n16_; clear hb hbox hg; have hnb33 := NB162_132.out; have hnc33 := NB132_162.out; have hnb34 := NB162_147.out; have hnc34 := NB147_162.out; have hnb35 := NB162_154.out; have hnc35 := NB154_162.out; have hcz36_0 : w32.cell? ⟨gb162, 0, none⟩ = some (.int .i8 0) := (blk_cell BK162.out 0).trans rfl; have hcz36_1 : w32.cell? ⟨gb162, 1, none⟩ = some (.int .i8 0) := (blk_cell BK162.out 1).trans rfl; have hcz36_2 : w32.cell? ⟨gb162, 2, none⟩ = some (.int .i8 0) := (blk_cell BK162.out 2).trans rfl; have hcz36_3 : w32.cell? ⟨gb162, 3, none⟩ = some (.slice none 0 0) := (blk_cell BK162.out 3).trans rfl; have hfz36_0 := blk_frozen BK162.out 0; have hfz36_1 := blk_frozen BK162.out 1; have hfz36_2 := blk_frozen BK162.out 2; have hfz36_3 := blk_frozen BK162.out 3; obtain ⟨Ao37, co37, eo37⟩ := Kd.R_slice HO160.out; subst eo37))
  (try simp only [Act.put, List.setIfInBounds_toArray, List.set_cons_zero, List.set_cons_succ])
  go_cut [44] (fun v44 wc => ∃ (kq : Nat) (x44_11 : Bool), v44 = .bool x44_11 ∧ Aside0 (laws_FnExactDropPhrase.j0 kq a1 t146 t161 x44_11 a0_0 a0_1 a0_2 l0_3 t140 t141 t142 t143 t148 t149 t150 t151 t155 t156 t157 t158 = some r) ∧ Aside0 (kq ≤ k) ∧ Aside0 (Kd.R Kd.string 9 wc w.heap.size (fun k_ => some k_ ≠ ((.slice Ao30 t151.length co30) : Value).ownBlock ∧ some k_ ≠ ((.slice Ao37 t158.length co37) : Value).ownBlock) (.slice Ao23 t143.length co23) t143) ∧ Aside0 (Kd.R Kd.string 9 wc w.heap.size (fun k_ => some k_ ≠ ((.slice Ao23 t143.length co23) : Value).ownBlock ∧ some k_ ≠ ((.slice Ao37 t158.length co37) : Value).ownBlock) (.slice Ao30 t151.length co30) t151) ∧ Aside0 (Kd.R Kd.string 9 wc w.heap.size (fun k_ => some k_ ≠ ((.slice Ao23 t143.length co23) : Value).ownBlock ∧ some k_ ≠ ((.slice Ao30 t151.length co30) : Value).ownBlock) (.slice Ao37 t158.length co37) t158) ∧ Aside0 (wc.heap[gb132]? = some (.cells #[.int .i8 a0_0, .int .i8 a0_1, .int .i8 a0_2, (.slice A0_3 l0_3.length c0_3)] 25 (0, 0))) ∧ Aside0 (wc.heap[gb147]? = some (.cells #[.int .i8 t140, .int .i8 t141, .int .i8 t142, (.slice Ao23 t143.length co23)] 27 (0, 0))) ∧ Aside0 (wc.heap[gb154]? = some (.cells #[.int .i8 t148, .int .i8 t149, .int .i8 t150, (.slice Ao30 t151.length co30)] 27 (0, 0))) ∧ Aside0 (wc.heap[gb162]? = some (.cells #[.int .i8 t155, .int .i8 t156, .int .i8 t157, (.slice Ao37 t158.length co37)] 27 (0, 0))) ∧ Aside0 (Below w.heap.size w wc))
  case first =>
   have H := HC12.out
   clear HC12
   replace H := Option.bind_eq_some_iff.mp H
   obtain ⟨t163, A380, H⟩ := H
   replace H : (if t163 = true then (laws_FnExactDropPhrase.j0 k a1 t146 t161 (t161 != t146) a0_0 a0_1 a0_2 l0_3 t140 t141 t142 t143 t148 t149 t150 t151 t155 t156 t157 t158) else (laws_FnExactDropPhrase.j0 k a1 t146 t161 true a0_0 a0_1 a0_2 l0_3 t140 t141 t142 t143 t148 t149 t150 t151 t155 t156 t157 t158)) = some r := H
   have A38 := Aside0.mk A380
   clear A380
   by_cases c39 : t163 = true
   ·subst c39
    have H1 : (laws_FnExactDropPhrase.j0 k a1 t146 t161 (t161 != t146) a0_0 a0_1 a0_2 l0_3 t140 t141 t142 t143 t148 t149 t150 t151 t155 t156 t157 t158) = some r := by rw [if_pos rfl] at H; exact H
    clear H
    have H := H1
    clear H1
    have H' := Aside0.mk H
    clear H
    have hnb40 := NB162_132.out
    have hnc40 := NB132_162.out
    have hnb41 := NB162_147.out
    have hnc41 := NB147_162.out
    have hnb42 := NB162_154.out
    have hnc42 := NB154_162.out
    have hcz43_0 : w32.cell? ⟨gb162, 0, none⟩ = some (.int .i8 0) := (blk_cell BK162.out 0).trans rfl
    have hcz43_1 : w32.cell? ⟨gb162, 1, none⟩ = some (.int .i8 0) := (blk_cell BK162.out 1).trans rfl
    have hcz43_2 : w32.cell? ⟨gb162, 2, none⟩ = some (.int .i8 0) := (blk_cell BK162.out 2).trans rfl
    have hcz43_3 : w32.cell? ⟨gb162, 3, none⟩ = some (.slice none 0 0) := (blk_cell BK162.out 3).trans rfl
    have hfz43_0 := blk_frozen BK162.out 0
    have hfz43_1 := blk_frozen BK162.out 1
    have hfz43_2 := blk_frozen BK162.out 2
    have hfz43_3 := blk_frozen BK162.out 3
    have hnb44 := NB147_132.out
    have hnc44 := NB132_147.out
    have hnb45 := NB147_154.out
    have hnc45 := NB154_147.out
    have hcz46_0 : w32.cell? ⟨gb147, 0, none⟩ = some (.int .i8 t140) := (blk_cell BK147.out 0).trans rfl
    have hcz46_1 : w32.cell? ⟨gb147, 1, none⟩ = some (.int .i8 t141) := (blk_cell BK147.out 1).trans rfl
    have hcz46_2 : w32.cell? ⟨gb147, 2, none⟩ = some (.int .i8 t142) := (blk_cell BK147.out 2).trans rfl
    have hcz46_3 : w32.cell? ⟨gb147, 3, none⟩ = some (.slice Ao23 t143.length co23) := (blk_cell BK147.out 3).trans rfl
    have hfz46_0 := blk_frozen BK147.out 0
    have hfz46_1 := blk_frozen BK147.out 1
    have hfz46_2 := blk_frozen BK147.out 2
    have hfz46_3 := blk_frozen BK147.out 3
    go_wp2_with (first | ((with_reducible refine gate_callee (f := 16) rfl ?_); refine goesL_ (some 38) rfl rfl Try.func16 (by kernel_rfl) rfl #[.agg #[.int .i8 t155, .int .i8 t156, .int .i8 t157, .slice Ao37 t158.length co37], .agg #[.int .i8 t140, .int .i8 t141, .int .i8 t142, .slice Ao23 t143.length co23]] rfl (by (try simp only [List.map_toArray, List.map_cons, List.map_nil]); first | done | rfl | (simp only [List.length_drop, List.length_take]; rfl)) ?_; (with_reducible refine (laws_eqBook.calls k t155 t156 t157 _ _ t158 t140 t141 t142 _ _ t143 true _ ?side1 ?side2 ?side3 ?side4 A38.out).mono ?_); (case side1 => refine (Kd.R_reads' (e := 9) (base := w.heap.size) (ok := fun k_ => (((True ∧ some k_ ≠ (.slice Ao18 t137.length co18 : Value).ownBlock) ∧ some k_ ≠ (.slice Ao23 t143.length co23 : Value).ownBlock) ∧ some k_ ≠ (.slice Ao30 t151.length co30 : Value).ownBlock)) (n := t158.length) (c := co37) ?_).2.2; exact (by (with_reducible repeat (first | apply Kd.R_alloc | apply Kd.R_drewN | apply Kd.R_drew)); exact (Kd.R_mono (Kd.R_far (p := ⟨gb162, 3, none⟩) (Kd.R_far (p := ⟨gb162, 2, none⟩) (Kd.R_far (p := ⟨gb162, 1, none⟩) (Kd.R_far (p := ⟨gb162, 0, none⟩) (Kd.R_types HO160.out BK162.out (by decide)) (fun _ hk => hk.2) (.int .i8 t155)) (fun _ hk => hk.2) (.int .i8 t156)) (fun _ hk => hk.2) (.int .i8 t157)) (fun _ hk => hk.2) (.slice Ao37 t158.length co37)) (fun _ h_ => h_.1)))); (case side2 => exact (Kd.R_reads' HO160.out).2.1); (case side3 => refine (Kd.R_reads' (e := 9) (base := w.heap.size) (ok := fun k_ => (((True ∧ some k_ ≠ (.slice Ao18 t137.length co18 : Value).ownBlock) ∧ some k_ ≠ (.slice Ao30 t151.length co30 : Value).ownBlock) ∧ some k_ ≠ (.slice Ao37 t158.length co37 : Value).ownBlock)) (n := t143.length) (c := co23) ?_).2.2; exact (by (with_reducible repeat (first | apply Kd.R_alloc | apply Kd.R_drewN | apply Kd.R_drew)); exact (Kd.R_mono (Kd.R_far (p := ⟨gb162, 3, none⟩) (Kd.R_far (p := ⟨gb162, 2, none⟩) (Kd.R_far (p := ⟨gb162, 1, none⟩) (Kd.R_far (p := ⟨gb162, 0, none⟩) (Kd.R_types HO145.out BK162.out (by decide)) (fun _ hk => hk.2) (.int .i8 t155)) (fun _ hk => hk.2) (.int .i8 t156)) (fun _ hk => hk.2) (.int .i8 t157)) (fun _ hk => hk.2) (.slice Ao37 t158.length co37)) (fun _ h_ => h_.1)))); (case side4 => exact (Kd.R_reads' HO145.out).2.1); rintro e w47 ⟨rfl, hb⟩; refine ⟨_, rfl, ?_⟩; have n0_ := Aside0.mk (Kd.R_below (by (with_reducible repeat (first | apply Kd.R_alloc | apply Kd.R_drewN | apply Kd.R_drew)); exact (Kd.R_mono (Kd.R_far (p := ⟨gb162, 3, none⟩) (Kd.R_far (p := ⟨gb162, 2, none⟩) (Kd.R_far (p := ⟨gb162, 1, none⟩) (Kd.R_far (p := ⟨gb162, 0, none⟩) (Kd.R_types HO139.out BK162.out (by decide)) (fun _ hk => hk.2) (.int .i8 t155)) (fun _ hk => hk.2) (.int .i8 t156)) (fun _ hk => hk.2) (.int .i8 t157)) (fun _ hk => hk.2) (.slice Ao37 t158.length co37)) (fun _ h_ => h_.1))) hb); have n1_ := Aside0.mk (Kd.R_below (by (with_reducible repeat (first | apply Kd.R_alloc | apply Kd.R_drewN | apply Kd.R_drew)); exact (Kd.R_mono (Kd.R_far (p := ⟨gb162, 3, none⟩) (Kd.R_far (p := ⟨gb162, 2, none⟩) (Kd.R_far (p := ⟨gb162, 1, none⟩) (Kd.R_far (p := ⟨gb162, 0, none⟩) (Kd.R_types HO145.out BK162.out (by decide)) (fun _ hk => hk.2) (.int .i8 t155)) (fun _ hk => hk.2) (.int .i8 t156)) (fun _ hk => hk.2) (.int .i8 t157)) (fun _ hk => hk.2) (.slice Ao37 t158.length co37)) (fun _ h_ => h_.1))) hb); have n2_ := Aside0.mk (Kd.R_below (by (with_reducible repeat (first | apply Kd.R_alloc | apply Kd.R_drewN | apply Kd.R_drew)); exact (Kd.R_mono (Kd.R_far (p := ⟨gb162, 3, none⟩) (Kd.R_far (p := ⟨gb162, 2, none⟩) (Kd.R_far (p := ⟨gb162, 1, none⟩) (Kd.R_far (p := ⟨gb162, 0, none⟩) (Kd.R_types HO153.out BK162.out (by decide)) (fun _ hk => hk.2) (.int .i8 t155)) (fun _ hk => hk.2) (.int .i8 t156)) (fun _ hk => hk.2) (.int .i8 t157)) (fun _ hk => hk.2) (.slice Ao37 t158.length co37)) (fun _ h_ => h_.1))) hb); have n3_ := Aside0.mk (Kd.R_below (by (with_reducible repeat (first | apply Kd.R_alloc | apply Kd.R_drewN | apply Kd.R_drew)); exact (Kd.R_mono (Kd.R_far (p := ⟨gb162, 3, none⟩) (Kd.R_far (p := ⟨gb162, 2, none⟩) (Kd.R_far (p := ⟨gb162, 1, none⟩) (Kd.R_far (p := ⟨gb162, 0, none⟩) (Kd.R_types HO160.out BK162.out (by decide)) (fun _ hk => hk.2) (.int .i8 t155)) (fun _ hk => hk.2) (.int .i8 t156)) (fun _ hk => hk.2) (.int .i8 t157)) (fun _ hk => hk.2) (.slice Ao37 t158.length co37)) (fun _ h_ => h_.1))) hb); have n4_ := Aside0.mk (blk_below (g := gb132) (o := .cells #[.int .i8 a0_0, .int .i8 a0_1, .int .i8 a0_2, .slice A0_3 l0_3.length c0_3] 25 (0, 0)) (by (with_reducible repeat (first | refine blk_drewN ?_ _ | refine blk_drew ?_ | refine blk_alloc ?_ _)); refine blk_far ?_ NB132_162.out _; (with_reducible repeat (first | refine blk_drewN ?_ _ | refine blk_drew ?_ | refine blk_alloc ?_ _)); refine blk_far ?_ NB132_162.out _; (with_reducible repeat (first | refine blk_drewN ?_ _ | refine blk_drew ?_ | refine blk_alloc ?_ _)); refine blk_far ?_ NB132_162.out _; (with_reducible repeat (first | refine blk_drewN ?_ _ | refine blk_drew ?_ | refine blk_alloc ?_ _)); refine blk_far ?_ NB132_162.out _; (with_reducible repeat (first | refine blk_drewN ?_ _ | refine blk_drew ?_ | refine blk_alloc ?_ _)); exact BK132.out) hb); have n5_ := Aside0.mk (blk_below (g := gb147) (o := .cells #[.int .i8 t140, .int .i8 t141, .int .i8 t142, .slice Ao23 t143.length co23] 27 (0, 0)) (by (with_reducible repeat (first | refine blk_drewN ?_ _ | refine blk_drew ?_ | refine blk_alloc ?_ _)); refine blk_far ?_ NB147_162.out _; (with_reducible repeat (first | refine blk_drewN ?_ _ | refine blk_drew ?_ | refine blk_alloc ?_ _)); refine blk_far ?_ NB147_162.out _; (with_reducible repeat (first | refine blk_drewN ?_ _ | refine blk_drew ?_ | refine blk_alloc ?_ _)); refine blk_far ?_ NB147_162.out _; (with_reducible repeat (first | refine blk_drewN ?_ _ | refine blk_drew ?_ | refine blk_alloc ?_ _)); refine blk_far ?_ NB147_162.out _; (with_reducible repeat (first | refine blk_drewN ?_ _ | refine blk_drew ?_ | refine blk_alloc ?_ _)); exact BK147.out) hb); have n6_ := Aside0.mk (blk_below (g := gb154) (o := .cells #[.int .i8 t148, .int .i8 t149, .int .i8 t150, .slice Ao30 t151.length co30] 27 (0, 0)) (by (with_reducible repeat (first | refine blk_drewN ?_ _ | refine blk_drew ?_ | refine blk_alloc ?_ _)); refine blk_far ?_ NB154_162.out _; (with_reducible repeat (first | refine blk_drewN ?_ _ | refine blk_drew ?_ | refine blk_alloc ?_ _)); refine blk_far ?_ NB154_162.out _; (with_reducible repeat (first | refine blk_drewN ?_ _ | refine blk_drew ?_ | refine blk_alloc ?_ _)); refine blk_far ?_ NB154_162.out _; (with_reducible repeat (first | refine blk_drewN ?_ _ | refine blk_drew ?_ | refine blk_alloc ?_ _)); refine blk_far ?_ NB154_162.out _; (with_reducible repeat (first | refine blk_drewN ?_ _ | refine blk_drew ?_ | refine blk_alloc ?_ _)); exact BK154.out) hb); have n7_ := Aside0.mk (blk_below (g := gb162) (o := .cells #[.int .i8 t155, .int .i8 t156, .int .i8 t157, .slice Ao37 t158.length co37] 27 (0, 0)) (by (with_reducible repeat (first | refine blk_drewN ?_ _ | refine blk_drew ?_ | refine blk_alloc ?_ _)); refine blk_put (cs := #[.int .i8 t155, .int .i8 t156, .int .i8 t157, .slice none 0 0]) ?_ 3 _ rfl; (with_reducible repeat (first | refine blk_drewN ?_ _ | refine blk_drew ?_ | refine blk_alloc ?_ _)); refine blk_put (cs := #[.int .i8 t155, .int .i8 t156, .int .i8 0, .slice none 0 0]) ?_ 2 _ rfl; (with_reducible repeat (first | refine blk_drewN ?_ _ | refine blk_drew ?_ | refine blk_alloc ?_ _)); refine blk_put (cs := #[.int .i8 t155, .int .i8 0, .int .i8 0, .slice none 0 0]) ?_ 1 _ rfl; (with_reducible repeat (first | refine blk_drewN ?_ _ | refine blk_drew ?_ | refine blk_alloc ?_ _)); refine blk_put (cs := #[.int .i8 0, .int .i8 0, .int .i8 0, .slice none 0 0]) ?_ 0 _ rfl; (with_reducible repeat (first | refine blk_drewN ?_ _ | refine blk_drew ?_ | refine blk_alloc ?_ _)); exact BK162.out) hb); have n8_ := Aside0.mk (below_step (by repeat (first | (with_reducible first | exact HB.out | apply below_alloc | apply pw_below_drewN | apply below_drew1 | refine below_set ?_ GE132.out | refine below_set ?_ GE147.out | refine below_set ?_ GE154.out | refine below_set ?_ GE162.out) | exact HB.out)) hb); clear HO139; clear HO145; clear HO153; clear HO160; clear BK132; clear BK147; clear BK154; clear BK162; clear HB; have HO139 := n0_; have HO145 := n1_; have HO153 := n2_; have HO160 := n3_; have BK132 := n4_; have BK147 := n5_; have BK154 := n6_; have BK162 := n7_; have HB := n8_; clear n0_ n1_ n2_ n3_ n4_ n5_ n6_ n7_ n8_; (try clear hb); (try clear hb2); (try clear hk); (try clear hi)))
    go_meet
    case rel => exact ⟨_, ((t161 != t146)), (by first | rfl | (simp; done) | (simp [*]; done)), H', ⟨by first | omega | exact Nat.le_refl _⟩, ⟨by (with_reducible repeat (first | apply Kd.R_alloc | apply Kd.R_drewN | apply Kd.R_drew)); exact Kd.R_mono HO145.out (fun _ hk => ⟨hk.1.2, hk.2⟩)⟩, ⟨by (with_reducible repeat (first | apply Kd.R_alloc | apply Kd.R_drewN | apply Kd.R_drew)); exact Kd.R_mono HO153.out (fun _ hk => ⟨hk.1.2, hk.2⟩)⟩, ⟨by (with_reducible repeat (first | apply Kd.R_alloc | apply Kd.R_drewN | apply Kd.R_drew)); exact Kd.R_mono HO160.out (fun _ hk => ⟨hk.1.2, hk.2⟩)⟩, ⟨by (with_reducible repeat (first | refine blk_drewN ?_ _ | refine blk_drew ?_ | refine blk_alloc ?_ _)); exact BK132.out⟩, ⟨by (with_reducible repeat (first | refine blk_drewN ?_ _ | refine blk_drew ?_ | refine blk_alloc ?_ _)); exact BK147.out⟩, ⟨by (with_reducible repeat (first | refine blk_drewN ?_ _ | refine blk_drew ?_ | refine blk_alloc ?_ _)); exact BK154.out⟩, ⟨by (with_reducible repeat (first | refine blk_drewN ?_ _ | refine blk_drew ?_ | refine blk_alloc ?_ _)); exact BK162.out⟩, ⟨by repeat (first | (with_reducible first | exact HB.out | apply below_alloc | apply pw_below_drewN | apply below_drew1 | refine below_set ?_ GE132.out | refine below_set ?_ GE147.out | refine below_set ?_ GE154.out | refine below_set ?_ GE162.out) | exact HB.out)⟩⟩
   ·replace c39 := Bool.eq_false_iff.mpr c39
    subst c39
    have H1 : (laws_FnExactDropPhrase.j0 k a1 t146 t161 true a0_0 a0_1 a0_2 l0_3 t140 t141 t142 t143 t148 t149 t150 t151 t155 t156 t157 t158) = some r := by rw [if_neg (show ¬ (false = true) by decide)] at H; exact H
    clear H
    have H := H1
    clear H1
    have H' := Aside0.mk H
    clear H
    have hnb48 := NB162_132.out
    have hnc48 := NB132_162.out
    have hnb49 := NB162_147.out
    have hnc49 := NB147_162.out
    have hnb50 := NB162_154.out
    have hnc50 := NB154_162.out
    have hcz51_0 : w32.cell? ⟨gb162, 0, none⟩ = some (.int .i8 0) := (blk_cell BK162.out 0).trans rfl
    have hcz51_1 : w32.cell? ⟨gb162, 1, none⟩ = some (.int .i8 0) := (blk_cell BK162.out 1).trans rfl
    have hcz51_2 : w32.cell? ⟨gb162, 2, none⟩ = some (.int .i8 0) := (blk_cell BK162.out 2).trans rfl
    have hcz51_3 : w32.cell? ⟨gb162, 3, none⟩ = some (.slice none 0 0) := (blk_cell BK162.out 3).trans rfl
    have hfz51_0 := blk_frozen BK162.out 0
    have hfz51_1 := blk_frozen BK162.out 1
    have hfz51_2 := blk_frozen BK162.out 2
    have hfz51_3 := blk_frozen BK162.out 3
    have hnb52 := NB147_132.out
    have hnc52 := NB132_147.out
    have hnb53 := NB147_154.out
    have hnc53 := NB154_147.out
    have hcz54_0 : w32.cell? ⟨gb147, 0, none⟩ = some (.int .i8 t140) := (blk_cell BK147.out 0).trans rfl
    have hcz54_1 : w32.cell? ⟨gb147, 1, none⟩ = some (.int .i8 t141) := (blk_cell BK147.out 1).trans rfl
    have hcz54_2 : w32.cell? ⟨gb147, 2, none⟩ = some (.int .i8 t142) := (blk_cell BK147.out 2).trans rfl
    have hcz54_3 : w32.cell? ⟨gb147, 3, none⟩ = some (.slice Ao23 t143.length co23) := (blk_cell BK147.out 3).trans rfl
    have hfz54_0 := blk_frozen BK147.out 0
    have hfz54_1 := blk_frozen BK147.out 1
    have hfz54_2 := blk_frozen BK147.out 2
    have hfz54_3 := blk_frozen BK147.out 3
    go_wp2_with (first | ((with_reducible refine gate_callee (f := 16) rfl ?_); refine goesL_ (some 38) rfl rfl Try.func16 (by kernel_rfl) rfl #[.agg #[.int .i8 t155, .int .i8 t156, .int .i8 t157, .slice Ao37 t158.length co37], .agg #[.int .i8 t140, .int .i8 t141, .int .i8 t142, .slice Ao23 t143.length co23]] rfl (by (try simp only [List.map_toArray, List.map_cons, List.map_nil]); first | done | rfl | (simp only [List.length_drop, List.length_take]; rfl)) ?_; (with_reducible refine (laws_eqBook.calls k t155 t156 t157 _ _ t158 t140 t141 t142 _ _ t143 false _ ?side1 ?side2 ?side3 ?side4 A38.out).mono ?_); (case side1 => refine (Kd.R_reads' (e := 9) (base := w.heap.size) (ok := fun k_ => (((True ∧ some k_ ≠ (.slice Ao18 t137.length co18 : Value).ownBlock) ∧ some k_ ≠ (.slice Ao23 t143.length co23 : Value).ownBlock) ∧ some k_ ≠ (.slice Ao30 t151.length co30 : Value).ownBlock)) (n := t158.length) (c := co37) ?_).2.2; exact (by (with_reducible repeat (first | apply Kd.R_alloc | apply Kd.R_drewN | apply Kd.R_drew)); exact (Kd.R_mono (Kd.R_far (p := ⟨gb162, 3, none⟩) (Kd.R_far (p := ⟨gb162, 2, none⟩) (Kd.R_far (p := ⟨gb162, 1, none⟩) (Kd.R_far (p := ⟨gb162, 0, none⟩) (Kd.R_types HO160.out BK162.out (by decide)) (fun _ hk => hk.2) (.int .i8 t155)) (fun _ hk => hk.2) (.int .i8 t156)) (fun _ hk => hk.2) (.int .i8 t157)) (fun _ hk => hk.2) (.slice Ao37 t158.length co37)) (fun _ h_ => h_.1)))); (case side2 => exact (Kd.R_reads' HO160.out).2.1); (case side3 => refine (Kd.R_reads' (e := 9) (base := w.heap.size) (ok := fun k_ => (((True ∧ some k_ ≠ (.slice Ao18 t137.length co18 : Value).ownBlock) ∧ some k_ ≠ (.slice Ao30 t151.length co30 : Value).ownBlock) ∧ some k_ ≠ (.slice Ao37 t158.length co37 : Value).ownBlock)) (n := t143.length) (c := co23) ?_).2.2; exact (by (with_reducible repeat (first | apply Kd.R_alloc | apply Kd.R_drewN | apply Kd.R_drew)); exact (Kd.R_mono (Kd.R_far (p := ⟨gb162, 3, none⟩) (Kd.R_far (p := ⟨gb162, 2, none⟩) (Kd.R_far (p := ⟨gb162, 1, none⟩) (Kd.R_far (p := ⟨gb162, 0, none⟩) (Kd.R_types HO145.out BK162.out (by decide)) (fun _ hk => hk.2) (.int .i8 t155)) (fun _ hk => hk.2) (.int .i8 t156)) (fun _ hk => hk.2) (.int .i8 t157)) (fun _ hk => hk.2) (.slice Ao37 t158.length co37)) (fun _ h_ => h_.1)))); (case side4 => exact (Kd.R_reads' HO145.out).2.1); rintro e w55 ⟨rfl, hb⟩; refine ⟨_, rfl, ?_⟩; have n0_ := Aside0.mk (Kd.R_below (by (with_reducible repeat (first | apply Kd.R_alloc | apply Kd.R_drewN | apply Kd.R_drew)); exact (Kd.R_mono (Kd.R_far (p := ⟨gb162, 3, none⟩) (Kd.R_far (p := ⟨gb162, 2, none⟩) (Kd.R_far (p := ⟨gb162, 1, none⟩) (Kd.R_far (p := ⟨gb162, 0, none⟩) (Kd.R_types HO139.out BK162.out (by decide)) (fun _ hk => hk.2) (.int .i8 t155)) (fun _ hk => hk.2) (.int .i8 t156)) (fun _ hk => hk.2) (.int .i8 t157)) (fun _ hk => hk.2) (.slice Ao37 t158.length co37)) (fun _ h_ => h_.1))) hb); have n1_ := Aside0.mk (Kd.R_below (by (with_reducible repeat (first | apply Kd.R_alloc | apply Kd.R_drewN | apply Kd.R_drew)); exact (Kd.R_mono (Kd.R_far (p := ⟨gb162, 3, none⟩) (Kd.R_far (p := ⟨gb162, 2, none⟩) (Kd.R_far (p := ⟨gb162, 1, none⟩) (Kd.R_far (p := ⟨gb162, 0, none⟩) (Kd.R_types HO145.out BK162.out (by decide)) (fun _ hk => hk.2) (.int .i8 t155)) (fun _ hk => hk.2) (.int .i8 t156)) (fun _ hk => hk.2) (.int .i8 t157)) (fun _ hk => hk.2) (.slice Ao37 t158.length co37)) (fun _ h_ => h_.1))) hb); have n2_ := Aside0.mk (Kd.R_below (by (with_reducible repeat (first | apply Kd.R_alloc | apply Kd.R_drewN | apply Kd.R_drew)); exact (Kd.R_mono (Kd.R_far (p := ⟨gb162, 3, none⟩) (Kd.R_far (p := ⟨gb162, 2, none⟩) (Kd.R_far (p := ⟨gb162, 1, none⟩) (Kd.R_far (p := ⟨gb162, 0, none⟩) (Kd.R_types HO153.out BK162.out (by decide)) (fun _ hk => hk.2) (.int .i8 t155)) (fun _ hk => hk.2) (.int .i8 t156)) (fun _ hk => hk.2) (.int .i8 t157)) (fun _ hk => hk.2) (.slice Ao37 t158.length co37)) (fun _ h_ => h_.1))) hb); have n3_ := Aside0.mk (Kd.R_below (by (with_reducible repeat (first | apply Kd.R_alloc | apply Kd.R_drewN | apply Kd.R_drew)); exact (Kd.R_mono (Kd.R_far (p := ⟨gb162, 3, none⟩) (Kd.R_far (p := ⟨gb162, 2, none⟩) (Kd.R_far (p := ⟨gb162, 1, none⟩) (Kd.R_far (p := ⟨gb162, 0, none⟩) (Kd.R_types HO160.out BK162.out (by decide)) (fun _ hk => hk.2) (.int .i8 t155)) (fun _ hk => hk.2) (.int .i8 t156)) (fun _ hk => hk.2) (.int .i8 t157)) (fun _ hk => hk.2) (.slice Ao37 t158.length co37)) (fun _ h_ => h_.1))) hb); have n4_ := Aside0.mk (blk_below (g := gb132) (o := .cells #[.int .i8 a0_0, .int .i8 a0_1, .int .i8 a0_2, .slice A0_3 l0_3.length c0_3] 25 (0, 0)) (by (with_reducible repeat (first | refine blk_drewN ?_ _ | refine blk_drew ?_ | refine blk_alloc ?_ _)); refine blk_far ?_ NB132_162.out _; (with_reducible repeat (first | refine blk_drewN ?_ _ | refine blk_drew ?_ | refine blk_alloc ?_ _)); refine blk_far ?_ NB132_162.out _; (with_reducible repeat (first | refine blk_drewN ?_ _ | refine blk_drew ?_ | refine blk_alloc ?_ _)); refine blk_far ?_ NB132_162.out _; (with_reducible repeat (first | refine blk_drewN ?_ _ | refine blk_drew ?_ | refine blk_alloc ?_ _)); refine blk_far ?_ NB132_162.out _; (with_reducible repeat (first | refine blk_drewN ?_ _ | refine blk_drew ?_ | refine blk_alloc ?_ _)); exact BK132.out) hb); have n5_ := Aside0.mk (blk_below (g := gb147) (o := .cells #[.int .i8 t140, .int .i8 t141, .int .i8 t142, .slice Ao23 t143.length co23] 27 (0, 0)) (by (with_reducible repeat (first | refine blk_drewN ?_ _ | refine blk_drew ?_ | refine blk_alloc ?_ _)); refine blk_far ?_ NB147_162.out _; (with_reducible repeat (first | refine blk_drewN ?_ _ | refine blk_drew ?_ | refine blk_alloc ?_ _)); refine blk_far ?_ NB147_162.out _; (with_reducible repeat (first | refine blk_drewN ?_ _ | refine blk_drew ?_ | refine blk_alloc ?_ _)); refine blk_far ?_ NB147_162.out _; (with_reducible repeat (first | refine blk_drewN ?_ _ | refine blk_drew ?_ | refine blk_alloc ?_ _)); refine blk_far ?_ NB147_162.out _; (with_reducible repeat (first | refine blk_drewN ?_ _ | refine blk_drew ?_ | refine blk_alloc ?_ _)); exact BK147.out) hb); have n6_ := Aside0.mk (blk_below (g := gb154) (o := .cells #[.int .i8 t148, .int .i8 t149, .int .i8 t150, .slice Ao30 t151.length co30] 27 (0, 0)) (by (with_reducible repeat (first | refine blk_drewN ?_ _ | refine blk_drew ?_ | refine blk_alloc ?_ _)); refine blk_far ?_ NB154_162.out _; (with_reducible repeat (first | refine blk_drewN ?_ _ | refine blk_drew ?_ | refine blk_alloc ?_ _)); refine blk_far ?_ NB154_162.out _; (with_reducible repeat (first | refine blk_drewN ?_ _ | refine blk_drew ?_ | refine blk_alloc ?_ _)); refine blk_far ?_ NB154_162.out _; (with_reducible repeat (first | refine blk_drewN ?_ _ | refine blk_drew ?_ | refine blk_alloc ?_ _)); refine blk_far ?_ NB154_162.out _; (with_reducible repeat (first | refine blk_drewN ?_ _ | refine blk_drew ?_ | refine blk_alloc ?_ _)); exact BK154.out) hb); have n7_ := Aside0.mk (blk_below (g := gb162) (o := .cells #[.int .i8 t155, .int .i8 t156, .int .i8 t157, .slice Ao37 t158.length co37] 27 (0, 0)) (by (with_reducible repeat (first | refine blk_drewN ?_ _ | refine blk_drew ?_ | refine blk_alloc ?_ _)); refine blk_put (cs := #[.int .i8 t155, .int .i8 t156, .int .i8 t157, .slice none 0 0]) ?_ 3 _ rfl; (with_reducible repeat (first | refine blk_drewN ?_ _ | refine blk_drew ?_ | refine blk_alloc ?_ _)); refine blk_put (cs := #[.int .i8 t155, .int .i8 t156, .int .i8 0, .slice none 0 0]) ?_ 2 _ rfl; (with_reducible repeat (first | refine blk_drewN ?_ _ | refine blk_drew ?_ | refine blk_alloc ?_ _)); refine blk_put (cs := #[.int .i8 t155, .int .i8 0, .int .i8 0, .slice none 0 0]) ?_ 1 _ rfl; (with_reducible repeat (first | refine blk_drewN ?_ _ | refine blk_drew ?_ | refine blk_alloc ?_ _)); refine blk_put (cs := #[.int .i8 0, .int .i8 0, .int .i8 0, .slice none 0 0]) ?_ 0 _ rfl; (with_reducible repeat (first | refine blk_drewN ?_ _ | refine blk_drew ?_ | refine blk_alloc ?_ _)); exact BK162.out) hb); have n8_ := Aside0.mk (below_step (by repeat (first | (with_reducible first | exact HB.out | apply below_alloc | apply pw_below_drewN | apply below_drew1 | refine below_set ?_ GE132.out | refine below_set ?_ GE147.out | refine below_set ?_ GE154.out | refine below_set ?_ GE162.out) | exact HB.out)) hb); clear HO139; clear HO145; clear HO153; clear HO160; clear BK132; clear BK147; clear BK154; clear BK162; clear HB; have HO139 := n0_; have HO145 := n1_; have HO153 := n2_; have HO160 := n3_; have BK132 := n4_; have BK147 := n5_; have BK154 := n6_; have BK162 := n7_; have HB := n8_; clear n0_ n1_ n2_ n3_ n4_ n5_ n6_ n7_ n8_; (try clear hb); (try clear hb2); (try clear hk); (try clear hi)))
    go_meet
    case rel => exact ⟨_, (true), (by first | rfl | (simp; done) | (simp [*]; done)), H', ⟨by first | omega | exact Nat.le_refl _⟩, ⟨by (with_reducible repeat (first | apply Kd.R_alloc | apply Kd.R_drewN | apply Kd.R_drew)); exact Kd.R_mono HO145.out (fun _ hk => ⟨hk.1.2, hk.2⟩)⟩, ⟨by (with_reducible repeat (first | apply Kd.R_alloc | apply Kd.R_drewN | apply Kd.R_drew)); exact Kd.R_mono HO153.out (fun _ hk => ⟨hk.1.2, hk.2⟩)⟩, ⟨by (with_reducible repeat (first | apply Kd.R_alloc | apply Kd.R_drewN | apply Kd.R_drew)); exact Kd.R_mono HO160.out (fun _ hk => ⟨hk.1.2, hk.2⟩)⟩, ⟨by (with_reducible repeat (first | refine blk_drewN ?_ _ | refine blk_drew ?_ | refine blk_alloc ?_ _)); exact BK132.out⟩, ⟨by (with_reducible repeat (first | refine blk_drewN ?_ _ | refine blk_drew ?_ | refine blk_alloc ?_ _)); exact BK147.out⟩, ⟨by (with_reducible repeat (first | refine blk_drewN ?_ _ | refine blk_drew ?_ | refine blk_alloc ?_ _)); exact BK154.out⟩, ⟨by (with_reducible repeat (first | refine blk_drewN ?_ _ | refine blk_drew ?_ | refine blk_alloc ?_ _)); exact BK162.out⟩, ⟨by repeat (first | (with_reducible first | exact HB.out | apply below_alloc | apply pw_below_drewN | apply below_drew1 | refine below_set ?_ GE132.out | refine below_set ?_ GE147.out | refine below_set ?_ GE154.out | refine below_set ?_ GE162.out) | exact HB.out)⟩⟩
  case rest =>
   clear HC12
   try clear c1
   try clear c2
   try clear p2
   try clear c3
   try clear c4
   try clear c4b0
   try clear c5
   try clear c12
   try clear c14
   try clear c16
   try clear c19
   try clear c20
   try clear c21
   try clear c27
   try clear c28
   try clear c33
   try clear c34
   try clear c35
   try clear c39
   try clear c40
   try clear c41
   try clear c42
   try clear c44
   try clear c45
   try clear c48
   try clear c49
   try clear c50
   try clear c52
   try clear c53
   try clear hcz14_0
   try clear hcz14_1
   try clear hcz14_2
   try clear hcz14_3
   try clear hcz16_0
   try clear hcz16_1
   try clear hcz16_2
   try clear hcz16_3
   try clear hcz22_0
   try clear hcz22_1
   try clear hcz22_2
   try clear hcz22_3
   try clear hcz24_0
   try clear hcz24_1
   try clear hcz24_2
   try clear hcz24_3
   try clear hcz29_0
   try clear hcz29_1
   try clear hcz29_2
   try clear hcz29_3
   try clear hcz36_0
   try clear hcz36_1
   try clear hcz36_2
   try clear hcz36_3
   try clear hcz43_0
   try clear hcz43_1
   try clear hcz43_2
   try clear hcz43_3
   try clear hcz46_0
   try clear hcz46_1
   try clear hcz46_2
   try clear hcz46_3
   try clear hcz51_0
   try clear hcz51_1
   try clear hcz51_2
   try clear hcz51_3
   try clear hcz54_0
   try clear hcz54_1
   try clear hcz54_2
   try clear hcz54_3
   try clear hcz6_0
   try clear hcz6_1
   try clear hcz6_2
   try clear hcz6_3
   try clear hfz14_0
   try clear hfz14_1
   try clear hfz14_2
   try clear hfz14_3
   try clear hfz16_0
   try clear hfz16_1
   try clear hfz16_2
   try clear hfz16_3
   try clear hfz22_0
   try clear hfz22_1
   try clear hfz22_2
   try clear hfz22_3
   try clear hfz24_0
   try clear hfz24_1
   try clear hfz24_2
   try clear hfz24_3
   try clear hfz29_0
   try clear hfz29_1
   try clear hfz29_2
   try clear hfz29_3
   try clear hfz36_0
   try clear hfz36_1
   try clear hfz36_2
   try clear hfz36_3
   try clear hfz43_0
   try clear hfz43_1
   try clear hfz43_2
   try clear hfz43_3
   try clear hfz46_0
   try clear hfz46_1
   try clear hfz46_2
   try clear hfz46_3
   try clear hfz51_0
   try clear hfz51_1
   try clear hfz51_2
   try clear hfz51_3
   try clear hfz54_0
   try clear hfz54_1
   try clear hfz54_2
   try clear hfz54_3
   try clear hfz6_0
   try clear hfz6_1
   try clear hfz6_2
   try clear hfz6_3
   obtain ⟨kq, x44_11, rfl, HA, HJ11, HO_148003, HO_155003, HO_163003, BK132, BK147, BK154, BK162, HB⟩ := hcut
   cases kq with
   | zero => exact absurd HA.out (by simp [laws_FnExactDropPhrase.j0])
   | succ kj11 =>
    have H := HA.out
    clear HA
    simp only [laws_FnExactDropPhrase.j0] at H
    by_cases c56 : x44_11 = true
    ·subst c56
     have H1 : (some false) = some r := by rw [if_pos rfl] at H; exact H
     clear H
     have H := H1
     clear H1
     obtain rfl := Option.some.inj H
     go_wp2
     go_ret
     exact ⟨by first | rfl | (simp [errW_none, errW_some] <;> rfl) | (simp [*, errW_none, errW_some] <;> rfl), by repeat (first | (with_reducible first | exact HB.out | apply below_alloc | apply pw_below_drewN | apply below_drew1 | refine below_set ?_ GE132.out | refine below_set ?_ GE147.out | refine below_set ?_ GE154.out | refine below_set ?_ GE162.out) | exact HB.out)⟩
    ·replace c56 := Bool.eq_false_iff.mpr c56
     subst c56
     have H1 : ((laws_toBook.f kj11 a0_0 a0_1 a0_2 l0_3).bind fun bt164 => ((laws_eqBook.f kj11 t148 t149 t150 t151 bt164.1 bt164.2.1 bt164.2.2.1 bt164.2.2.2).bind fun t170 => (if t170 = true then ((laws_markBook.f kj11 t148 t149 t150 t151 1).bind fun bt171 => (if bt171.1 < 0 then (laws_FnExactDropPhrase.j1 kj11 a1 t146 true a0_0 a0_1 a0_2 l0_3 t140 t141 t142 t143 t155 t156 t157 t158) else ((laws_eqBook.f kj11 t155 t156 t157 t158 t140 t141 t142 t143).bind fun t173 => (if t173 = true then (laws_FnExactDropPhrase.j1 kj11 a1 t146 (t161 != t146) a0_0 a0_1 a0_2 l0_3 t140 t141 t142 t143 t155 t156 t157 t158) else (laws_FnExactDropPhrase.j1 kj11 a1 t146 true a0_0 a0_1 a0_2 l0_3 t140 t141 t142 t143 t155 t156 t157 t158))))) else (some false)))) = some r := by rw [if_neg (show ¬ (false = true) by decide)] at H; exact H
     clear H
     have H := H1
     clear H1
     replace H := Option.bind_eq_some_iff.mp H
     obtain ⟨⟨t164, t165, t166, t167⟩, A570, H⟩ := H
     replace H : ((laws_eqBook.f kj11 t148 t149 t150 t151 t164 t165 t166 t167).bind fun t170 => (if t170 = true then ((laws_markBook.f kj11 t148 t149 t150 t151 1).bind fun bt171 => (if bt171.1 < 0 then (laws_FnExactDropPhrase.j1 kj11 a1 t146 true a0_0 a0_1 a0_2 l0_3 t140 t141 t142 t143 t155 t156 t157 t158) else ((laws_eqBook.f kj11 t155 t156 t157 t158 t140 t141 t142 t143).bind fun t173 => (if t173 = true then (laws_FnExactDropPhrase.j1 kj11 a1 t146 (t161 != t146) a0_0 a0_1 a0_2 l0_3 t140 t141 t142 t143 t155 t156 t157 t158) else (laws_FnExactDropPhrase.j1 kj11 a1 t146 true a0_0 a0_1 a0_2 l0_3 t140 t141 t142 t143 t155 t156 t157 t158))))) else (some false))) = some r := H
     have A57 := Aside0.mk A570
     clear A570
     replace H := Option.bind_eq_some_iff.mp H
     obtain ⟨t170, A580, H⟩ := H
     replace H : (if t170 = true then ((laws_markBook.f kj11 t148 t149 t150 t151 1).bind fun bt171 => (if bt171.1 < 0 then (laws_FnExactDropPhrase.j1 kj11 a1 t146 true a0_0 a0_1 a0_2 l0_3 t140 t141 t142 t143 t155 t156 t157 t158) else ((laws_eqBook.f kj11 t155 t156 t157 t158 t140 t141 t142 t143).bind fun t173 => (if t173 = true then (laws_FnExactDropPhrase.j1 kj11 a1 t146 (t161 != t146) a0_0 a0_1 a0_2 l0_3 t140 t141 t142 t143 t155 t156 t157 t158) else (laws_FnExactDropPhrase.j1 kj11 a1 t146 true a0_0 a0_1 a0_2 l0_3 t140 t141 t142 t143 t155 t156 t157 t158))))) else (some false)) = some r := H
     have A58 := Aside0.mk A580
     clear A580
     by_cases c59 : t170 = true
     ·subst c59
      have H1 : ((laws_markBook.f kj11 t148 t149 t150 t151 1).bind fun bt171 => (if bt171.1 < 0 then (laws_FnExactDropPhrase.j1 kj11 a1 t146 true a0_0 a0_1 a0_2 l0_3 t140 t141 t142 t143 t155 t156 t157 t158) else ((laws_eqBook.f kj11 t155 t156 t157 t158 t140 t141 t142 t143).bind fun t173 => (if t173 = true then (laws_FnExactDropPhrase.j1 kj11 a1 t146 (t161 != t146) a0_0 a0_1 a0_2 l0_3 t140 t141 t142 t143 t155 t156 t157 t158) else (laws_FnExactDropPhrase.j1 kj11 a1 t146 true a0_0 a0_1 a0_2 l0_3 t140 t141 t142 t143 t155 t156 t157 t158))))) = some r := by rw [if_pos rfl] at H; exact H
      clear H
      have H := H1
      clear H1
      replace H := Option.bind_eq_some_iff.mp H
      obtain ⟨⟨t171, t172⟩, A600, H⟩ := H
      replace H : (if t171 < 0 then (laws_FnExactDropPhrase.j1 kj11 a1 t146 true a0_0 a0_1 a0_2 l0_3 t140 t141 t142 t143 t155 t156 t157 t158) else ((laws_eqBook.f kj11 t155 t156 t157 t158 t140 t141 t142 t143).bind fun t173 => (if t173 = true then (laws_FnExactDropPhrase.j1 kj11 a1 t146 (t161 != t146) a0_0 a0_1 a0_2 l0_3 t140 t141 t142 t143 t155 t156 t157 t158) else (laws_FnExactDropPhrase.j1 kj11 a1 t146 true a0_0 a0_1 a0_2 l0_3 t140 t141 t142 t143 t155 t156 t157 t158)))) = some r := H
      have A60 := Aside0.mk A600
      clear A600
      have HC61 := Aside0.mk H
      clear H
      try go_wp2
      have n0_ := Aside0.mk (Kd.R_drew HO_148003.out)
      have n1_ := Aside0.mk (Kd.R_drew HO_155003.out)
      have n2_ := Aside0.mk (Kd.R_drew HO_163003.out)
      have n3_ := Aside0.mk (blk_drew BK132.out)
      have n4_ := Aside0.mk (blk_drew BK147.out)
      have n5_ := Aside0.mk (blk_drew BK154.out)
      have n6_ := Aside0.mk (blk_drew BK162.out)
      have n7_ := Aside0.mk (below_drew1 HB.out)
      clear HO_148003
      clear HO_155003
      clear HO_163003
      clear BK132
      clear BK147
      clear BK154
      clear BK162
      clear HB
      have HO_148003 := n0_
      have HO_155003 := n1_
      have HO_163003 := n2_
      have BK132 := n3_
      have BK147 := n4_
      have BK154 := n5_
      have BK162 := n6_
      have HB := n7_
      clear n0_ n1_ n2_ n3_ n4_ n5_ n6_ n7_
      refine start_ (n := 5) (S := fun w' => w'.cell? ⟨gb154, 0, none⟩ = some (.int .i8 t148) ∧ w'.cell? ⟨gb154, 1, none⟩ = some (.int .i8 t149) ∧ w'.cell? ⟨gb154, 2, none⟩ = some (.int .i8 t150) ∧ w'.cell? ⟨gb154, 3, none⟩ = some (.slice Ao30 t151.length co30) ∧ w'.cell? ⟨gb132, 0, none⟩ = some (.int .i8 a0_0) ∧ w'.cell? ⟨gb132, 1, none⟩ = some (.int .i8 a0_1) ∧ w'.cell? ⟨gb132, 2, none⟩ = some (.int .i8 a0_2) ∧ w'.cell? ⟨gb132, 3, none⟩ = some (.slice A0_3 l0_3.length c0_3)) (ds := []) #[false, false, false, false, false] (by kernel_rfl) rfl rfl ⟨(blk_cell BK154.out 0).trans rfl, (blk_cell BK154.out 1).trans rfl, (blk_cell BK154.out 2).trans rfl, (blk_cell BK154.out 3).trans rfl, (blk_cell BK132.out 0).trans rfl, (blk_cell BK132.out 1).trans rfl, (blk_cell BK132.out 2).trans rfl, (blk_cell BK132.out 3).trans rfl⟩ (fun hHeld => ?_)
      generalize wc.drew = w62 at HO_148003 HO_155003 HO_163003 BK132 BK147 BK154 BK162 HB hHeld ⊢
      refine take_ (i := 0) (N := some 45) (v := ?_) (a' := ?_) #[true, false, false, false, false] rfl rfl (by kernel_rfl) (fun _ _ _ h => h) (Or.inl ⟨by rfl, ?_⟩) hHeld ?_ ?_
      rotate_left
      ·rintro w' ⟨s0, s1, s2, s3, s4, s5, s6, s7⟩
       go_simp
       with_reducible rfl
      rotate_left
      ·simp only [Act.put, List.setIfInBounds_toArray, List.set_cons_zero, List.set_cons_succ, i64_w, i32_w]
       rfl
      refine take_ (i := 1) (N := some 46) (v := ?_) (a' := ?_) #[true, true, false, false, false] rfl rfl (by kernel_rfl) (fun _ _ _ h => h) (Or.inl ⟨by rfl, ?_⟩) hHeld ?_ ?_
      rotate_left
      ·rintro w' ⟨s0, s1, s2, s3, s4, s5, s6, s7⟩
       go_simp
       with_reducible rfl
      rotate_left
      ·simp only [Act.put, List.setIfInBounds_toArray, List.set_cons_zero, List.set_cons_succ, i64_w, i32_w]
       rfl
      refine one_ (i := 2) (N := some 47) #[true, true, true, false, false] rfl rfl (by kernel_rfl) (by decide) (fun K hK => ?_)
      refine goes_ Try.func14 (by kernel_rfl) rfl #[.agg #[.int .i8 a0_0, .int .i8 a0_1, .int .i8 a0_2, .slice A0_3 l0_3.length c0_3]] (by rfl) rfl rfl (by (try simp only [List.map_toArray, List.map_cons, List.map_nil]); first | done | rfl | (simp only [List.length_drop, List.length_take]; rfl)) ?_
      with_reducible refine (laws_toBook.calls kj11 a0_0 a0_1 a0_2 _ _ l0_3 t164 t165 t166 t167 _ ?side1 ?side2 A57.out).mono ?_
      (case side1 => repeat (first | exact (Kd.C_below HR0_3.out HB.out) | (with_reducible refine Kd.C_alloc ?_ _) | (with_reducible refine Kd.C_drewN ?_ _) | (with_reducible refine Kd.C_drew ?_)))
      (case side2 => exact HC0_3.out)
      rintro e w63 ⟨v168, rfl, ho0, hb⟩
      refine ⟨_, rfl, ?_⟩
      have n0_ := Aside0.mk (Kd.R_elder' (by (with_reducible repeat (first | apply Kd.R_alloc | apply Kd.R_drewN | apply Kd.R_drew)); exact HO_148003.out) (Kd.R_base ho0) hb)
      have n1_ := Aside0.mk (Kd.R_elder' (by (with_reducible repeat (first | apply Kd.R_alloc | apply Kd.R_drewN | apply Kd.R_drew)); exact HO_155003.out) (Kd.R_base ho0) hb)
      have n2_ := Aside0.mk (Kd.R_elder' (by (with_reducible repeat (first | apply Kd.R_alloc | apply Kd.R_drewN | apply Kd.R_drew)); exact HO_163003.out) (Kd.R_base ho0) hb)
      have n3_ := Aside0.mk (Kd.R_lower (Kd.R_new' (Kd.R_new' (Kd.R_new' ho0 (Kd.R_lt (by (with_reducible repeat (first | apply Kd.R_alloc | apply Kd.R_drewN | apply Kd.R_drew)); exact HO_148003.out))) (Kd.R_lt (by (with_reducible repeat (first | apply Kd.R_alloc | apply Kd.R_drewN | apply Kd.R_drew)); exact HO_155003.out))) (Kd.R_lt (by (with_reducible repeat (first | apply Kd.R_alloc | apply Kd.R_drewN | apply Kd.R_drew)); exact HO_163003.out))) (below_size (by repeat (first | (with_reducible first | exact HB.out | apply below_alloc | apply pw_below_drewN | apply below_drew1 | refine below_set ?_ GE132.out | refine below_set ?_ GE147.out | refine below_set ?_ GE154.out | refine below_set ?_ GE162.out) | exact HB.out))))
      have n4_ := Aside0.mk (blk_below (g := gb132) (o := .cells #[.int .i8 a0_0, .int .i8 a0_1, .int .i8 a0_2, .slice A0_3 l0_3.length c0_3] 25 (0, 0)) (by (with_reducible repeat (first | refine blk_drewN ?_ _ | refine blk_drew ?_ | refine blk_alloc ?_ _)); exact BK132.out) hb)
      have n5_ := Aside0.mk (blk_below (g := gb147) (o := .cells #[.int .i8 t140, .int .i8 t141, .int .i8 t142, .slice Ao23 t143.length co23] 27 (0, 0)) (by (with_reducible repeat (first | refine blk_drewN ?_ _ | refine blk_drew ?_ | refine blk_alloc ?_ _)); exact BK147.out) hb)
      have n6_ := Aside0.mk (blk_below (g := gb154) (o := .cells #[.int .i8 t148, .int .i8 t149, .int .i8 t150, .slice Ao30 t151.length co30] 27 (0, 0)) (by (with_reducible repeat (first | refine blk_drewN ?_ _ | refine blk_drew ?_ | refine blk_alloc ?_ _)); exact BK154.out) hb)
      have n7_ := Aside0.mk (blk_below (g := gb162) (o := .cells #[.int .i8 t155, .int .i8 t156, .int .i8 t157, .slice Ao37 t158.length co37] 27 (0, 0)) (by (with_reducible repeat (first | refine blk_drewN ?_ _ | refine blk_drew ?_ | refine blk_alloc ?_ _)); exact BK162.out) hb)
      have n8_ := Aside0.mk (below_step (by repeat (first | (with_reducible first | exact HB.out | apply below_alloc | apply pw_below_drewN | apply below_drew1 | refine below_set ?_ GE132.out | refine below_set ?_ GE147.out | refine below_set ?_ GE154.out | refine below_set ?_ GE162.out) | exact HB.out)) hb)
      clear HO_148003
      clear HO_155003
      clear HO_163003
      clear BK132
      clear BK147
      clear BK154
      clear BK162
      clear HB
      have HO_148003 := n0_
      have HO_155003 := n1_
      have HO_163003 := n2_
      have HO169 := n3_
      have BK132 := n4_
      have BK147 := n5_
      have BK154 := n6_
      have BK162 := n7_
      have HB := n8_
      clear n0_ n1_ n2_ n3_ n4_ n5_ n6_ n7_ n8_
      (try clear hb)
      (try clear hb2)
      (try clear hk)
      (try clear hi)
      (try clear ho0)
      obtain ⟨Ao64, co64, eo64⟩ := Kd.R_slice HO169.out
      (first | subst eo64 | (injection eo64 with f1_ f2_ f3_; have f4_ := f1_.symm; have f5_ := f3_.symm; clear f1_ f2_ f3_; subst f4_; subst f5_))
      refine hK.out _ _ ⟨(blk_cell BK154.out 0).trans rfl, (blk_cell BK154.out 1).trans rfl, (blk_cell BK154.out 2).trans rfl, (blk_cell BK154.out 3).trans rfl, (blk_cell BK132.out 0).trans rfl, (blk_cell BK132.out 1).trans rfl, (blk_cell BK132.out 2).trans rfl, (blk_cell BK132.out 3).trans rfl⟩ (fun hHeld => ?_)
      clear hK K
      refine norm_ (a' := ?_) ?_ ?_
      rotate_left
      ·show Act.put _ (some 47) _ = _
       simp only [Act.put, List.setIfInBounds_toArray, List.set_cons_zero, List.set_cons_succ, i64_w, i32_w]
       rfl
      refine one_ (i := 3) (N := some 48) #[true, true, true, true, false] rfl rfl (by kernel_rfl) (by decide) (fun K hK => ?_)
      refine goes_ Try.func16 (by kernel_rfl) rfl #[.agg #[.int .i8 t148, .int .i8 t149, .int .i8 t150, .slice Ao30 t151.length co30], .agg #[.int .i8 t164, .int .i8 t165, .int .i8 t166, .slice Ao64 t167.length co64]] (by rfl) rfl rfl (by (try simp only [List.map_toArray, List.map_cons, List.map_nil]); first | done | rfl | (simp only [List.length_drop, List.length_take]; rfl)) ?_
      with_reducible refine (laws_eqBook.calls kj11 t148 t149 t150 _ _ t151 t164 t165 t166 _ _ t167 true _ ?side1 ?side2 ?side3 ?side4 A58.out).mono ?_
      (case side1 => repeat (first | exact (Kd.R_reads' HO_155003.out).2.2 | (with_reducible refine Kd.C_alloc ?_ _) | (with_reducible refine Kd.C_drewN ?_ _) | (with_reducible refine Kd.C_drew ?_)))
      (case side2 => exact (Kd.R_reads' HO_155003.out).2.1)
      (case side3 => repeat (first | exact (Kd.R_reads' HO169.out).2.2 | (with_reducible refine Kd.C_alloc ?_ _) | (with_reducible refine Kd.C_drewN ?_ _) | (with_reducible refine Kd.C_drew ?_)))
      (case side4 => exact (Kd.R_reads' HO169.out).2.1)
      rintro e w65 ⟨rfl, hb⟩
      refine ⟨_, rfl, ?_⟩
      have n0_ := Aside0.mk (Kd.R_below (by (with_reducible repeat (first | apply Kd.R_alloc | apply Kd.R_drewN | apply Kd.R_drew)); exact HO_148003.out) hb)
      have n1_ := Aside0.mk (Kd.R_below (by (with_reducible repeat (first | apply Kd.R_alloc | apply Kd.R_drewN | apply Kd.R_drew)); exact HO_155003.out) hb)
      have n2_ := Aside0.mk (Kd.R_below (by (with_reducible repeat (first | apply Kd.R_alloc | apply Kd.R_drewN | apply Kd.R_drew)); exact HO_163003.out) hb)
      have n3_ := Aside0.mk (Kd.R_below (by (with_reducible repeat (first | apply Kd.R_alloc | apply Kd.R_drewN | apply Kd.R_drew)); exact HO169.out) hb)
      have n4_ := Aside0.mk (blk_below (g := gb132) (o := .cells #[.int .i8 a0_0, .int .i8 a0_1, .int .i8 a0_2, .slice A0_3 l0_3.length c0_3] 25 (0, 0)) (by (with_reducible repeat (first | refine blk_drewN ?_ _ | refine blk_drew ?_ | refine blk_alloc ?_ _)); exact BK132.out) hb)
      have n5_ := Aside0.mk (blk_below (g := gb147) (o := .cells #[.int .i8 t140, .int .i8 t141, .int .i8 t142, .slice Ao23 t143.length co23] 27 (0, 0)) (by (with_reducible repeat (first | refine blk_drewN ?_ _ | refine blk_drew ?_ | refine blk_alloc ?_ _)); exact BK147.out) hb)
      have n6_ := Aside0.mk (blk_below (g := gb154) (o := .cells #[.int .i8 t148, .int .i8 t149, .int .i8 t150, .slice Ao30 t151.length co30] 27 (0, 0)) (by (with_reducible repeat (first | refine blk_drewN ?_ _ | refine blk_drew ?_ | refine blk_alloc ?_ _)); exact BK154.out) hb)
      have n7_ := Aside0.mk (blk_below (g := gb162) (o := .cells #[.int .i8 t155, .int .i8 t156, .int .i8 t157, .slice Ao37 t158.length co37] 27 (0, 0)) (by (with_reducible repeat (first | refine blk_drewN ?_ _ | refine blk_drew ?_ | refine blk_alloc ?_ _)); exact BK162.out) hb)
      have n8_ := Aside0.mk (below_step (by repeat (first | (with_reducible first | exact HB.out | apply below_alloc | apply pw_below_drewN | apply below_drew1 | refine below_set ?_ GE132.out | refine below_set ?_ GE147.out | refine below_set ?_ GE154.out | refine below_set ?_ GE162.out) | exact HB.out)) hb)
      clear HO_148003
      clear HO_155003
      clear HO_163003
      clear HO169
      clear BK132
      clear BK147
      clear BK154
      clear BK162
      clear HB
      have HO_148003 := n0_
      have HO_155003 := n1_
      have HO_163003 := n2_
      have HO169 := n3_
      have BK132 := n4_
      have BK147 := n5_
      have BK154 := n6_
      have BK162 := n7_
      have HB := n8_
      clear n0_ n1_ n2_ n3_ n4_ n5_ n6_ n7_ n8_
      (try clear hb)
      (try clear hb2)
      (try clear hk)
      (try clear hi)
      refine hK.out _ _ ⟨(blk_cell BK154.out 0).trans rfl, (blk_cell BK154.out 1).trans rfl, (blk_cell BK154.out 2).trans rfl, (blk_cell BK154.out 3).trans rfl, (blk_cell BK132.out 0).trans rfl, (blk_cell BK132.out 1).trans rfl, (blk_cell BK132.out 2).trans rfl, (blk_cell BK132.out 3).trans rfl⟩ (fun hHeld => ?_)
      clear hK K
      refine norm_ (a' := ?_) ?_ ?_
      rotate_left
      ·show Act.put _ (some 48) _ = _
       simp only [Act.put, List.setIfInBounds_toArray, List.set_cons_zero, List.set_cons_succ, i64_w, i32_w]
       rfl
      refine pure_ (i := 4) (N := some 49) (v := ?_) (a' := ?_) #[true, true, true, true, true] rfl rfl (by kernel_rfl) (fun _ _ _ h => h) (Or.inl ⟨by rfl, ?_⟩) ?_ ?_
      rotate_left
      ·intro w'
       go_simp
       with_reducible rfl
      rotate_left
      ·simp only [Act.put, List.setIfInBounds_toArray, List.set_cons_zero, List.set_cons_succ, i64_w, i32_w]
       rfl
      refine done_ (by kernel_rfl) ?_
      have hnb66 := NB154_132.out
      have hnc66 := NB132_154.out
      have hnb67 := NB154_147.out
      have hnc67 := NB147_154.out
      have hnb68 := NB154_162.out
      have hnc68 := NB162_154.out
      have hcz69_0 : w65.cell? ⟨gb154, 0, none⟩ = some (.int .i8 t148) := (blk_cell BK154.out 0).trans rfl
      have hcz69_1 : w65.cell? ⟨gb154, 1, none⟩ = some (.int .i8 t149) := (blk_cell BK154.out 1).trans rfl
      have hcz69_2 : w65.cell? ⟨gb154, 2, none⟩ = some (.int .i8 t150) := (blk_cell BK154.out 2).trans rfl
      have hcz69_3 : w65.cell? ⟨gb154, 3, none⟩ = some (.slice Ao30 t151.length co30) := (blk_cell BK154.out 3).trans rfl
      have hfz69_0 := blk_frozen BK154.out 0
      have hfz69_1 := blk_frozen BK154.out 1
      have hfz69_2 := blk_frozen BK154.out 2
      have hfz69_3 := blk_frozen BK154.out 3
      go_upto_region 14 with (first | ((with_reducible refine gate_callee (f := 17) rfl ?_); refine goesL_ (some 52) rfl rfl Try.func17 (by kernel_rfl) rfl #[.agg #[.int .i8 t148, .int .i8 t149, .int .i8 t150, .slice Ao30 t151.length co30], .int .i64 1] rfl (by (try simp only [List.map_toArray, List.map_cons, List.map_nil]); first | done | rfl | (simp only [List.length_drop, List.length_take]; rfl)) ?_; (with_reducible refine (laws_markBook.calls kj11 t148 t149 t150 (fun k_ => some k_ = (.slice Ao30 t151.length co30 : Value).ownBlock) (.slice Ao30 t151.length co30) t151 1 t171 t172 w _ ?side1 ?side2 A60.out).mono ?_); (case side1 => repeat (first | (with_reducible first | exact HB.out | apply below_alloc | apply pw_below_drewN | apply below_drew1 | refine below_set ?_ GE132.out | refine below_set ?_ GE147.out | refine below_set ?_ GE154.out | refine below_set ?_ GE162.out) | exact HB.out)); (case side2 => exact Kd.R_tight rfl HO_155003.out); rintro e w70 ⟨rfl, hy0, hb, hkp⟩; refine ⟨_, rfl, ?_⟩; have n0_ := Aside0.mk (Kd.R_mono (ok' := fun k_ => some k_ ≠ (.slice Ao30 t151.length co30 : Value).ownBlock ∧ some k_ ≠ (.slice Ao37 t158.length co37 : Value).ownBlock ∧ some k_ ≠ (.slice Ao64 t167.length co64 : Value).ownBlock) (Kd.R_keptB (HO_148003.out) hkp (fun k_ hk_ hs_ => (hk_.1.1) hs_)) (fun k_ hk_ => ⟨hk_.1.1.1, hk_.1.1.2, hk_.1.2⟩)); have n1_ := Aside0.mk (Kd.R_reok rfl hy0 (fun k_ e_ => HO_155003.out.1 k_ e_)); have n2_ := Aside0.mk (Kd.R_mono (ok' := fun k_ => some k_ ≠ (.slice Ao23 t143.length co23 : Value).ownBlock ∧ some k_ ≠ (.slice Ao30 t151.length co30 : Value).ownBlock ∧ some k_ ≠ (.slice Ao64 t167.length co64 : Value).ownBlock) (Kd.R_keptB (HO_163003.out) hkp (fun k_ hk_ hs_ => (hk_.1.2) hs_)) (fun k_ hk_ => ⟨hk_.1.1.1, hk_.1.1.2, hk_.1.2⟩)); have n3_ := Aside0.mk (blk_kept (by (with_reducible repeat (first | refine blk_drewN ?_ _ | refine blk_drew ?_ | refine blk_alloc ?_ _)); exact BK132.out) hkp (fun hs_ => (fun e_ => (Kd.R_ne HO_155003.out BK132.out (by decide)) e_) hs_)); have n4_ := Aside0.mk (blk_kept (by (with_reducible repeat (first | refine blk_drewN ?_ _ | refine blk_drew ?_ | refine blk_alloc ?_ _)); exact BK147.out) hkp (fun hs_ => (fun e_ => (Kd.R_ne HO_155003.out BK147.out (by decide)) e_) hs_)); have n5_ := Aside0.mk (blk_kept (by (with_reducible repeat (first | refine blk_drewN ?_ _ | refine blk_drew ?_ | refine blk_alloc ?_ _)); exact BK154.out) hkp (fun hs_ => (fun e_ => (Kd.R_ne HO_155003.out BK154.out (by decide)) e_) hs_)); have n6_ := Aside0.mk (blk_kept (by (with_reducible repeat (first | refine blk_drewN ?_ _ | refine blk_drew ?_ | refine blk_alloc ?_ _)); exact BK162.out) hkp (fun hs_ => (fun e_ => (Kd.R_ne HO_155003.out BK162.out (by decide)) e_) hs_)); have n7_ := Aside0.mk (Kd.R_mono (ok' := fun k_ => some k_ ≠ (.slice Ao23 t143.length co23 : Value).ownBlock ∧ some k_ ≠ (.slice Ao30 t151.length co30 : Value).ownBlock ∧ some k_ ≠ (.slice Ao37 t158.length co37 : Value).ownBlock) (Kd.R_keptB (HO169.out) hkp (fun k_ hk_ hs_ => (hk_.1.2) hs_)) (fun k_ hk_ => ⟨hk_.1.1.1.2, hk_.1.1.2, hk_.1.2⟩)); have n8_ := Aside0.mk (hb); clear HO_148003; clear HO_155003; clear HO_163003; clear BK132; clear BK147; clear BK154; clear BK162; clear HO169; clear HB; have HO_148003 := n0_; have HO_155003 := n1_; have HO_163003 := n2_; have BK132 := n3_; have BK147 := n4_; have BK154 := n5_; have BK162 := n6_; have HO169 := n7_; have HB := n8_; clear n0_ n1_ n2_ n3_ n4_ n5_ n6_ n7_ n8_; (try clear hb); (try clear hkp); (try clear hy0)))
      (try simp only [Act.put, List.setIfInBounds_toArray, List.set_cons_zero, List.set_cons_succ])
      go_cut [65] (fun v65 wc => ∃ (kq : Nat) (x65_60 : Bool), v65 = .bool x65_60 ∧ Aside0 (laws_FnExactDropPhrase.j1 kq a1 t146 x65_60 a0_0 a0_1 a0_2 l0_3 t140 t141 t142 t143 t155 t156 t157 t158 = some r) ∧ Aside0 (kq ≤ kj11) ∧ Aside0 (Kd.R Kd.string 9 wc w.heap.size (fun k_ => some k_ ≠ ((.slice Ao30 t151.length co30) : Value).ownBlock ∧ some k_ ≠ ((.slice Ao37 t158.length co37) : Value).ownBlock) (.slice Ao23 t143.length co23) t143) ∧ Aside0 (Kd.R Kd.string 9 wc w.heap.size (fun k_ => some k_ ≠ ((.slice Ao23 t143.length co23) : Value).ownBlock ∧ some k_ ≠ ((.slice Ao37 t158.length co37) : Value).ownBlock) (.slice Ao30 t151.length co30) t172) ∧ Aside0 (Kd.R Kd.string 9 wc w.heap.size (fun k_ => some k_ ≠ ((.slice Ao23 t143.length co23) : Value).ownBlock ∧ some k_ ≠ ((.slice Ao30 t151.length co30) : Value).ownBlock) (.slice Ao37 t158.length co37) t158) ∧ Aside0 (wc.heap[gb132]? = some (.cells #[.int .i8 a0_0, .int .i8 a0_1, .int .i8 a0_2, (.slice A0_3 l0_3.length c0_3)] 25 (0, 0))) ∧ Aside0 (wc.heap[gb147]? = some (.cells #[.int .i8 t140, .int .i8 t141, .int .i8 t142, (.slice Ao23 t143.length co23)] 27 (0, 0))) ∧ Aside0 (wc.heap[gb154]? = some (.cells #[.int .i8 t148, .int .i8 t149, .int .i8 t150, (.slice Ao30 t151.length co30)] 27 (0, 0))) ∧ Aside0 (wc.heap[gb162]? = some (.cells #[.int .i8 t155, .int .i8 t156, .int .i8 t157, (.slice Ao37 t158.length co37)] 27 (0, 0))) ∧ Aside0 (Below w.heap.size w wc))
      case first =>
       have H := HC61.out
       clear HC61
       by_cases c71 : t171 < 0
       ·rw [if_pos c71] at H
        have c71b0 : decide (t171 < 0) = true := decide_eq_true c71
        clear c71
        (first | rw [c71b0] | (simp only [i64_w, i32_w]; rw [c71b0]) | skip)
        have H' := Aside0.mk H
        clear H
        go_wp2
        go_meet
        case rel => exact ⟨_, (true), (by first | rfl | (simp; done) | (simp [*]; done)), H', ⟨by have := HJ11.out; first | omega | exact Nat.le_refl _⟩, ⟨by (with_reducible repeat (first | apply Kd.R_alloc | apply Kd.R_drewN | apply Kd.R_drew)); exact Kd.R_mono HO_148003.out (fun _ hk => ⟨hk.1, hk.2.1⟩)⟩, ⟨by (with_reducible repeat (first | apply Kd.R_alloc | apply Kd.R_drewN | apply Kd.R_drew)); exact Kd.R_mono HO_155003.out (fun _ hk => ⟨hk.1.1, hk.1.2⟩)⟩, ⟨by (with_reducible repeat (first | apply Kd.R_alloc | apply Kd.R_drewN | apply Kd.R_drew)); exact Kd.R_mono HO_163003.out (fun _ hk => ⟨hk.1, hk.2.1⟩)⟩, ⟨by (with_reducible repeat (first | refine blk_drewN ?_ _ | refine blk_drew ?_ | refine blk_alloc ?_ _)); exact BK132.out⟩, ⟨by (with_reducible repeat (first | refine blk_drewN ?_ _ | refine blk_drew ?_ | refine blk_alloc ?_ _)); exact BK147.out⟩, ⟨by (with_reducible repeat (first | refine blk_drewN ?_ _ | refine blk_drew ?_ | refine blk_alloc ?_ _)); exact BK154.out⟩, ⟨by (with_reducible repeat (first | refine blk_drewN ?_ _ | refine blk_drew ?_ | refine blk_alloc ?_ _)); exact BK162.out⟩, ⟨by repeat (first | (with_reducible first | exact HB.out | apply below_alloc | apply pw_below_drewN | apply below_drew1 | refine below_set ?_ GE132.out | refine below_set ?_ GE147.out | refine below_set ?_ GE154.out | refine below_set ?_ GE162.out) | exact HB.out)⟩⟩
       ·rw [if_neg c71] at H
        have c71b0 : decide (t171 < 0) = false := decide_eq_false c71
        clear c71
        (first | rw [c71b0] | (simp only [i64_w, i32_w]; rw [c71b0]) | skip)
        replace H := Option.bind_eq_some_iff.mp H
        obtain ⟨t173, A720, H⟩ := H
        replace H : (if t173 = true then (laws_FnExactDropPhrase.j1 kj11 a1 t146 (t161 != t146) a0_0 a0_1 a0_2 l0_3 t140 t141 t142 t143 t155 t156 t157 t158) else (laws_FnExactDropPhrase.j1 kj11 a1 t146 true a0_0 a0_1 a0_2 l0_3 t140 t141 t142 t143 t155 t156 t157 t158)) = some r := H
        have A72 := Aside0.mk A720
        clear A720
        by_cases c73 : t173 = true
        ·subst c73
         have H1 : (laws_FnExactDropPhrase.j1 kj11 a1 t146 (t161 != t146) a0_0 a0_1 a0_2 l0_3 t140 t141 t142 t143 t155 t156 t157 t158) = some r := by rw [if_pos rfl] at H; exact H
         clear H
         have H := H1
         clear H1
         have H' := Aside0.mk H
         clear H
         have hnb74 := NB162_132.out
         have hnc74 := NB132_162.out
         have hnb75 := NB162_147.out
         have hnc75 := NB147_162.out
         have hnb76 := NB162_154.out
         have hnc76 := NB154_162.out
         have hcz77_0 : w70.cell? ⟨gb162, 0, none⟩ = some (.int .i8 t155) := (blk_cell BK162.out 0).trans rfl
         have hcz77_1 : w70.cell? ⟨gb162, 1, none⟩ = some (.int .i8 t156) := (blk_cell BK162.out 1).trans rfl
         have hcz77_2 : w70.cell? ⟨gb162, 2, none⟩ = some (.int .i8 t157) := (blk_cell BK162.out 2).trans rfl
         have hcz77_3 : w70.cell? ⟨gb162, 3, none⟩ = some (.slice Ao37 t158.length co37) := (blk_cell BK162.out 3).trans rfl
         have hfz77_0 := blk_frozen BK162.out 0
         have hfz77_1 := blk_frozen BK162.out 1
         have hfz77_2 := blk_frozen BK162.out 2
         have hfz77_3 := blk_frozen BK162.out 3
         have hnb78 := NB147_132.out
         have hnc78 := NB132_147.out
         have hnb79 := NB147_154.out
         have hnc79 := NB154_147.out
         have hcz80_0 : w70.cell? ⟨gb147, 0, none⟩ = some (.int .i8 t140) := (blk_cell BK147.out 0).trans rfl
         have hcz80_1 : w70.cell? ⟨gb147, 1, none⟩ = some (.int .i8 t141) := (blk_cell BK147.out 1).trans rfl
         have hcz80_2 : w70.cell? ⟨gb147, 2, none⟩ = some (.int .i8 t142) := (blk_cell BK147.out 2).trans rfl
         have hcz80_3 : w70.cell? ⟨gb147, 3, none⟩ = some (.slice Ao23 t143.length co23) := (blk_cell BK147.out 3).trans rfl
         have hfz80_0 := blk_frozen BK147.out 0
         have hfz80_1 := blk_frozen BK147.out 1
         have hfz80_2 := blk_frozen BK147.out 2
         have hfz80_3 := blk_frozen BK147.out 3
         go_wp2_with (first | (go_at_call 16; (with_reducible refine (laws_eqBook.calls kj11 t155 t156 t157 _ _ t158 t140 t141 t142 _ _ t143 true _ ?side1 ?side2 ?side3 ?side4 A72.out).mono ?_); (case side1 => repeat (first | exact (Kd.R_reads' HO_163003.out).2.2 | (with_reducible refine Kd.C_alloc ?_ _) | (with_reducible refine Kd.C_drewN ?_ _) | (with_reducible refine Kd.C_drew ?_))); (case side2 => exact (Kd.R_reads' HO_163003.out).2.1); (case side3 => repeat (first | exact (Kd.R_reads' HO_148003.out).2.2 | (with_reducible refine Kd.C_alloc ?_ _) | (with_reducible refine Kd.C_drewN ?_ _) | (with_reducible refine Kd.C_drew ?_))); (case side4 => exact (Kd.R_reads' HO_148003.out).2.1); rintro e w81 ⟨rfl, hb⟩; have n0_ := Aside0.mk (Kd.R_below (by (with_reducible repeat (first | apply Kd.R_alloc | apply Kd.R_drewN | apply Kd.R_drew)); exact HO_148003.out) hb); have n1_ := Aside0.mk (Kd.R_below (by (with_reducible repeat (first | apply Kd.R_alloc | apply Kd.R_drewN | apply Kd.R_drew)); exact HO_155003.out) hb); have n2_ := Aside0.mk (Kd.R_below (by (with_reducible repeat (first | apply Kd.R_alloc | apply Kd.R_drewN | apply Kd.R_drew)); exact HO_163003.out) hb); have n3_ := Aside0.mk (Kd.R_below (by (with_reducible repeat (first | apply Kd.R_alloc | apply Kd.R_drewN | apply Kd.R_drew)); exact HO169.out) hb); have n4_ := Aside0.mk (blk_below (g := gb132) (o := .cells #[.int .i8 a0_0, .int .i8 a0_1, .int .i8 a0_2, .slice A0_3 l0_3.length c0_3] 25 (0, 0)) (by (with_reducible repeat (first | refine blk_drewN ?_ _ | refine blk_drew ?_ | refine blk_alloc ?_ _)); exact BK132.out) hb); have n5_ := Aside0.mk (blk_below (g := gb147) (o := .cells #[.int .i8 t140, .int .i8 t141, .int .i8 t142, .slice Ao23 t143.length co23] 27 (0, 0)) (by (with_reducible repeat (first | refine blk_drewN ?_ _ | refine blk_drew ?_ | refine blk_alloc ?_ _)); exact BK147.out) hb); have n6_ := Aside0.mk (blk_below (g := gb154) (o := .cells #[.int .i8 t148, .int .i8 t149, .int .i8 t150, .slice Ao30 t151.length co30] 27 (0, 0)) (by (with_reducible repeat (first | refine blk_drewN ?_ _ | refine blk_drew ?_ | refine blk_alloc ?_ _)); exact BK154.out) hb); have n7_ := Aside0.mk (blk_below (g := gb162) (o := .cells #[.int .i8 t155, .int .i8 t156, .int .i8 t157, .slice Ao37 t158.length co37] 27 (0, 0)) (by (with_reducible repeat (first | refine blk_drewN ?_ _ | refine blk_drew ?_ | refine blk_alloc ?_ _)); exact BK162.out) hb); have n8_ := Aside0.mk (below_step (by repeat (first | (with_reducible first | exact HB.out | apply below_alloc | apply pw_below_drewN | apply below_drew1 | refine below_set ?_ GE132.out | refine below_set ?_ GE147.out | refine below_set ?_ GE154.out | refine below_set ?_ GE162.out) | exact HB.out)) hb); clear HO_148003; clear HO_155003; clear HO_163003; clear HO169; clear BK132; clear BK147; clear BK154; clear BK162; clear HB; have HO_148003 := n0_; have HO_155003 := n1_; have HO_163003 := n2_; have HO169 := n3_; have BK132 := n4_; have BK147 := n5_; have BK154 := n6_; have BK162 := n7_; have HB := n8_; clear n0_ n1_ n2_ n3_ n4_ n5_ n6_ n7_ n8_; (try clear hb); (try clear hb2); (try clear hk); (try clear hi)))
         go_meet
         case rel => exact ⟨_, ((t161 != t146)), (by first | rfl | (simp; done) | (simp [*]; done)), H', ⟨by have := HJ11.out; first | omega | exact Nat.le_refl _⟩, ⟨by (with_reducible repeat (first | apply Kd.R_alloc | apply Kd.R_drewN | apply Kd.R_drew)); exact Kd.R_mono HO_148003.out (fun _ hk => ⟨hk.1, hk.2.1⟩)⟩, ⟨by (with_reducible repeat (first | apply Kd.R_alloc | apply Kd.R_drewN | apply Kd.R_drew)); exact Kd.R_mono HO_155003.out (fun _ hk => ⟨hk.1.1, hk.1.2⟩)⟩, ⟨by (with_reducible repeat (first | apply Kd.R_alloc | apply Kd.R_drewN | apply Kd.R_drew)); exact Kd.R_mono HO_163003.out (fun _ hk => ⟨hk.1, hk.2.1⟩)⟩, ⟨by (with_reducible repeat (first | refine blk_drewN ?_ _ | refine blk_drew ?_ | refine blk_alloc ?_ _)); exact BK132.out⟩, ⟨by (with_reducible repeat (first | refine blk_drewN ?_ _ | refine blk_drew ?_ | refine blk_alloc ?_ _)); exact BK147.out⟩, ⟨by (with_reducible repeat (first | refine blk_drewN ?_ _ | refine blk_drew ?_ | refine blk_alloc ?_ _)); exact BK154.out⟩, ⟨by (with_reducible repeat (first | refine blk_drewN ?_ _ | refine blk_drew ?_ | refine blk_alloc ?_ _)); exact BK162.out⟩, ⟨by repeat (first | (with_reducible first | exact HB.out | apply below_alloc | apply pw_below_drewN | apply below_drew1 | refine below_set ?_ GE132.out | refine below_set ?_ GE147.out | refine below_set ?_ GE154.out | refine below_set ?_ GE162.out) | exact HB.out)⟩⟩
        ·replace c73 := Bool.eq_false_iff.mpr c73
         subst c73
         have H1 : (laws_FnExactDropPhrase.j1 kj11 a1 t146 true a0_0 a0_1 a0_2 l0_3 t140 t141 t142 t143 t155 t156 t157 t158) = some r := by rw [if_neg (show ¬ (false = true) by decide)] at H; exact H
         clear H
         have H := H1
         clear H1
         have H' := Aside0.mk H
         clear H
         have hnb82 := NB162_132.out
         have hnc82 := NB132_162.out
         have hnb83 := NB162_147.out
         have hnc83 := NB147_162.out
         have hnb84 := NB162_154.out
         have hnc84 := NB154_162.out
         have hcz85_0 : w70.cell? ⟨gb162, 0, none⟩ = some (.int .i8 t155) := (blk_cell BK162.out 0).trans rfl
         have hcz85_1 : w70.cell? ⟨gb162, 1, none⟩ = some (.int .i8 t156) := (blk_cell BK162.out 1).trans rfl
         have hcz85_2 : w70.cell? ⟨gb162, 2, none⟩ = some (.int .i8 t157) := (blk_cell BK162.out 2).trans rfl
         have hcz85_3 : w70.cell? ⟨gb162, 3, none⟩ = some (.slice Ao37 t158.length co37) := (blk_cell BK162.out 3).trans rfl
         have hfz85_0 := blk_frozen BK162.out 0
         have hfz85_1 := blk_frozen BK162.out 1
         have hfz85_2 := blk_frozen BK162.out 2
         have hfz85_3 := blk_frozen BK162.out 3
         have hnb86 := NB147_132.out
         have hnc86 := NB132_147.out
         have hnb87 := NB147_154.out
         have hnc87 := NB154_147.out
         have hcz88_0 : w70.cell? ⟨gb147, 0, none⟩ = some (.int .i8 t140) := (blk_cell BK147.out 0).trans rfl
         have hcz88_1 : w70.cell? ⟨gb147, 1, none⟩ = some (.int .i8 t141) := (blk_cell BK147.out 1).trans rfl
         have hcz88_2 : w70.cell? ⟨gb147, 2, none⟩ = some (.int .i8 t142) := (blk_cell BK147.out 2).trans rfl
         have hcz88_3 : w70.cell? ⟨gb147, 3, none⟩ = some (.slice Ao23 t143.length co23) := (blk_cell BK147.out 3).trans rfl
         have hfz88_0 := blk_frozen BK147.out 0
         have hfz88_1 := blk_frozen BK147.out 1
         have hfz88_2 := blk_frozen BK147.out 2
         have hfz88_3 := blk_frozen BK147.out 3
         go_wp2_with (first | (go_at_call 16; (with_reducible refine (laws_eqBook.calls kj11 t155 t156 t157 _ _ t158 t140 t141 t142 _ _ t143 false _ ?side1 ?side2 ?side3 ?side4 A72.out).mono ?_); (case side1 => repeat (first | exact (Kd.R_reads' HO_163003.out).2.2 | (with_reducible refine Kd.C_alloc ?_ _) | (with_reducible refine Kd.C_drewN ?_ _) | (with_reducible refine Kd.C_drew ?_))); (case side2 => exact (Kd.R_reads' HO_163003.out).2.1); (case side3 => repeat (first | exact (Kd.R_reads' HO_148003.out).2.2 | (with_reducible refine Kd.C_alloc ?_ _) | (with_reducible refine Kd.C_drewN ?_ _) | (with_reducible refine Kd.C_drew ?_))); (case side4 => exact (Kd.R_reads' HO_148003.out).2.1); rintro e w89 ⟨rfl, hb⟩; have n0_ := Aside0.mk (Kd.R_below (by (with_reducible repeat (first | apply Kd.R_alloc | apply Kd.R_drewN | apply Kd.R_drew)); exact HO_148003.out) hb); have n1_ := Aside0.mk (Kd.R_below (by (with_reducible repeat (first | apply Kd.R_alloc | apply Kd.R_drewN | apply Kd.R_drew)); exact HO_155003.out) hb); have n2_ := Aside0.mk (Kd.R_below (by (with_reducible repeat (first | apply Kd.R_alloc | apply Kd.R_drewN | apply Kd.R_drew)); exact HO_163003.out) hb); have n3_ := Aside0.mk (Kd.R_below (by (with_reducible repeat (first | apply Kd.R_alloc | apply Kd.R_drewN | apply Kd.R_drew)); exact HO169.out) hb); have n4_ := Aside0.mk (blk_below (g := gb132) (o := .cells #[.int .i8 a0_0, .int .i8 a0_1, .int .i8 a0_2, .slice A0_3 l0_3.length c0_3] 25 (0, 0)) (by (with_reducible repeat (first | refine blk_drewN ?_ _ | refine blk_drew ?_ | refine blk_alloc ?_ _)); exact BK132.out) hb); have n5_ := Aside0.mk (blk_below (g := gb147) (o := .cells #[.int .i8 t140, .int .i8 t141, .int .i8 t142, .slice Ao23 t143.length co23] 27 (0, 0)) (by (with_reducible repeat (first | refine blk_drewN ?_ _ | refine blk_drew ?_ | refine blk_alloc ?_ _)); exact BK147.out) hb); have n6_ := Aside0.mk (blk_below (g := gb154) (o := .cells #[.int .i8 t148, .int .i8 t149, .int .i8 t150, .slice Ao30 t151.length co30] 27 (0, 0)) (by (with_reducible repeat (first | refine blk_drewN ?_ _ | refine blk_drew ?_ | refine blk_alloc ?_ _)); exact BK154.out) hb); have n7_ := Aside0.mk (blk_below (g := gb162) (o := .cells #[.int .i8 t155, .int .i8 t156, .int .i8 t157, .slice Ao37 t158.length co37] 27 (0, 0)) (by (with_reducible repeat (first | refine blk_drewN ?_ _ | refine blk_drew ?_ | refine blk_alloc ?_ _)); exact BK162.out) hb); have n8_ := Aside0.mk (below_step (by repeat (first | (with_reducible first | exact HB.out | apply below_alloc | apply pw_below_drewN | apply below_drew1 | refine below_set ?_ GE132.out | refine below_set ?_ GE147.out | refine below_set ?_ GE154.out | refine below_set ?_ GE162.out) | exact HB.out)) hb); clear HO_148003; clear HO_155003; clear HO_163003; clear HO169; clear BK132; clear BK147; clear BK154; clear BK162; clear HB; have HO_148003 := n0_; have HO_155003 := n1_; have HO_163003 := n2_; have HO169 := n3_; have BK132 := n4_; have BK147 := n5_; have BK154 := n6_; have BK162 := n7_; have HB := n8_; clear n0_ n1_ n2_ n3_ n4_ n5_ n6_ n7_ n8_; (try clear hb); (try clear hb2); (try clear hk); (try clear hi)))
         go_meet
         case rel => exact ⟨_, (true), (by first | rfl | (simp; done) | (simp [*]; done)), H', ⟨by have := HJ11.out; first | omega | exact Nat.le_refl _⟩, ⟨by (with_reducible repeat (first | apply Kd.R_alloc | apply Kd.R_drewN | apply Kd.R_drew)); exact Kd.R_mono HO_148003.out (fun _ hk => ⟨hk.1, hk.2.1⟩)⟩, ⟨by (with_reducible repeat (first | apply Kd.R_alloc | apply Kd.R_drewN | apply Kd.R_drew)); exact Kd.R_mono HO_155003.out (fun _ hk => ⟨hk.1.1, hk.1.2⟩)⟩, ⟨by (with_reducible repeat (first | apply Kd.R_alloc | apply Kd.R_drewN | apply Kd.R_drew)); exact Kd.R_mono HO_163003.out (fun _ hk => ⟨hk.1, hk.2.1⟩)⟩, ⟨by (with_reducible repeat (first | refine blk_drewN ?_ _ | refine blk_drew ?_ | refine blk_alloc ?_ _)); exact BK132.out⟩, ⟨by (with_reducible repeat (first | refine blk_drewN ?_ _ | refine blk_drew ?_ | refine blk_alloc ?_ _)); exact BK147.out⟩, ⟨by (with_reducible repeat (first | refine blk_drewN ?_ _ | refine blk_drew ?_ | refine blk_alloc ?_ _)); exact BK154.out⟩, ⟨by (with_reducible repeat (first | refine blk_drewN ?_ _ | refine blk_drew ?_ | refine blk_alloc ?_ _)); exact BK162.out⟩, ⟨by repeat (first | (with_reducible first | exact HB.out | apply below_alloc | apply pw_below_drewN | apply below_drew1 | refine below_set ?_ GE132.out | refine below_set ?_ GE147.out | refine below_set ?_ GE154.out | refine below_set ?_ GE162.out) | exact HB.out)⟩⟩
      case rest =>
       clear HC61
       try clear c1
       try clear c2
       try clear p2
       try clear c3
       try clear c4
       try clear c4b0
       try clear c5
       try clear c6
       try clear c7
       try clear c8
       try clear c12
       try clear c14
       try clear c16
       try clear c17
       try clear c19
       try clear c20
       try clear c21
       try clear c27
       try clear c28
       try clear c33
       try clear c34
       try clear c35
       try clear c39
       try clear c40
       try clear c41
       try clear c42
       try clear c44
       try clear c45
       try clear c48
       try clear c49
       try clear c50
       try clear c52
       try clear c53
       try clear c56
       try clear c59
       try clear c66
       try clear c67
       try clear c68
       try clear c71
       try clear c71b0
       try clear c73
       try clear c74
       try clear c75
       try clear c76
       try clear c78
       try clear c79
       try clear c82
       try clear c83
       try clear c84
       try clear c86
       try clear c87
       try clear hcz14_0
       try clear hcz14_1
       try clear hcz14_2
       try clear hcz14_3
       try clear hcz16_0
       try clear hcz16_1
       try clear hcz16_2
       try clear hcz16_3
       try clear hcz22_0
       try clear hcz22_1
       try clear hcz22_2
       try clear hcz22_3
       try clear hcz24_0
       try clear hcz24_1
       try clear hcz24_2
       try clear hcz24_3
       try clear hcz29_0
       try clear hcz29_1
       try clear hcz29_2
       try clear hcz29_3
       try clear hcz36_0
       try clear hcz36_1
       try clear hcz36_2
       try clear hcz36_3
       try clear hcz43_0
       try clear hcz43_1
       try clear hcz43_2
       try clear hcz43_3
       try clear hcz46_0
       try clear hcz46_1
       try clear hcz46_2
       try clear hcz46_3
       try clear hcz51_0
       try clear hcz51_1
       try clear hcz51_2
       try clear hcz51_3
       try clear hcz54_0
       try clear hcz54_1
       try clear hcz54_2
       try clear hcz54_3
       try clear hcz69_0
       try clear hcz69_1
       try clear hcz69_2
       try clear hcz69_3
       try clear hcz6_0
       try clear hcz6_1
       try clear hcz6_2
       try clear hcz6_3
       try clear hcz77_0
       try clear hcz77_1
       try clear hcz77_2
       try clear hcz77_3
       try clear hcz80_0
       try clear hcz80_1
       try clear hcz80_2
       try clear hcz80_3
       try clear hcz85_0
       try clear hcz85_1
       try clear hcz85_2
       try clear hcz85_3
       try clear hcz88_0
       try clear hcz88_1
       try clear hcz88_2
       try clear hcz88_3
       try clear hfz14_0
       try clear hfz14_1
       try clear hfz14_2
       try clear hfz14_3
       try clear hfz16_0
       try clear hfz16_1
       try clear hfz16_2
       try clear hfz16_3
       try clear hfz22_0
       try clear hfz22_1
       try clear hfz22_2
       try clear hfz22_3
       try clear hfz24_0
       try clear hfz24_1
       try clear hfz24_2
       try clear hfz24_3
       try clear hfz29_0
       try clear hfz29_1
       try clear hfz29_2
       try clear hfz29_3
       try clear hfz36_0
       try clear hfz36_1
       try clear hfz36_2
       try clear hfz36_3
       try clear hfz43_0
       try clear hfz43_1
       try clear hfz43_2
       try clear hfz43_3
       try clear hfz46_0
       try clear hfz46_1
       try clear hfz46_2
       try clear hfz46_3
       try clear hfz51_0
       try clear hfz51_1
       try clear hfz51_2
       try clear hfz51_3
       try clear hfz54_0
       try clear hfz54_1
       try clear hfz54_2
       try clear hfz54_3
       try clear hfz69_0
       try clear hfz69_1
       try clear hfz69_2
       try clear hfz69_3
       try clear hfz6_0
       try clear hfz6_1
       try clear hfz6_2
       try clear hfz6_3
       try clear hfz77_0
       try clear hfz77_1
       try clear hfz77_2
       try clear hfz77_3
       try clear hfz80_0
       try clear hfz80_1
       try clear hfz80_2
       try clear hfz80_3
       try clear hfz85_0
       try clear hfz85_1
       try clear hfz85_2
       try clear hfz85_3
       try clear hfz88_0
       try clear hfz88_1
       try clear hfz88_2
       try clear hfz88_3
       try clear p2
       obtain ⟨kq, x65_60, rfl, HA, HJ60, HO_148003, HO_155003, HO_163003, BK132, BK147, BK154, BK162, HB⟩ := hcut
       have hl155003_60 := (Kd.R_reads' HO_155003.out).1
       rw [hl155003_60] at HO_155003
       (try simp only [hl155003_60])
       (try simp only [hl155003_60] at BK132)
       (try simp only [hl155003_60] at BK147)
       (try simp only [hl155003_60] at BK154)
       (try simp only [hl155003_60] at BK162)
       (try simp only [hl155003_60] at HO_148003)
       (try simp only [hl155003_60] at HO_163003)
       cases kq with
       | zero => exact absurd HA.out (by simp [laws_FnExactDropPhrase.j1])
       | succ kj60 =>
        have H := HA.out
        clear HA
        simp only [laws_FnExactDropPhrase.j1] at H
        by_cases c90 : x65_60 = true
        ·subst c90
         have H1 : (some false) = some r := by rw [if_pos rfl] at H; exact H
         clear H
         have H := H1
         clear H1
         obtain rfl := Option.some.inj H
         go_wp2
         go_ret
         exact ⟨by first | rfl | (simp [errW_none, errW_some] <;> rfl) | (simp [*, errW_none, errW_some] <;> rfl), by repeat (first | (with_reducible first | exact HB.out | apply below_alloc | apply pw_below_drewN | apply below_drew1 | refine below_set ?_ GE132.out | refine below_set ?_ GE147.out | refine below_set ?_ GE154.out | refine below_set ?_ GE162.out) | exact HB.out)⟩
        ·replace c90 := Bool.eq_false_iff.mpr c90
         subst c90
         have H1 : ((laws_markBook.f kj60 t155 t156 t157 t158 1).bind fun bt174 => ((laws_heldBook.f kj60 t155 t156 t157 bt174.2 1).bind fun t176 => (if t176 < 0 then (some false) else (if t176 = bt174.1 then ((laws_toBook.f kj60 a0_0 a0_1 a0_2 l0_3).bind fun bt177 => ((impl_DropPhrase.f bt177.1 bt177.2.1 bt177.2.2.1 bt177.2.2.2 a1).bind fun bt183 => ((laws_eqBook.f kj60 bt183.1 bt183.2.1 bt183.2.2.1 bt183.2.2.2.1 t140 t141 t142 t143).bind fun t191 => (if t191 = true then (laws_FnExactDropPhrase.j2 kj60 bt174.1 (bt183.2.2.2.2 != t146) t155 t156 t157 bt174.2) else (laws_FnExactDropPhrase.j2 kj60 bt174.1 true t155 t156 t157 bt174.2))))) else (some false))))) = some r := by rw [if_neg (show ¬ (false = true) by decide)] at H; exact H
         clear H
         have H := H1
         clear H1
         replace H := Option.bind_eq_some_iff.mp H
         obtain ⟨⟨t174, t175⟩, A910, H⟩ := H
         replace H : ((laws_heldBook.f kj60 t155 t156 t157 t175 1).bind fun t176 => (if t176 < 0 then (some false) else (if t176 = t174 then ((laws_toBook.f kj60 a0_0 a0_1 a0_2 l0_3).bind fun bt177 => ((impl_DropPhrase.f bt177.1 bt177.2.1 bt177.2.2.1 bt177.2.2.2 a1).bind fun bt183 => ((laws_eqBook.f kj60 bt183.1 bt183.2.1 bt183.2.2.1 bt183.2.2.2.1 t140 t141 t142 t143).bind fun t191 => (if t191 = true then (laws_FnExactDropPhrase.j2 kj60 t174 (bt183.2.2.2.2 != t146) t155 t156 t157 t175) else (laws_FnExactDropPhrase.j2 kj60 t174 true t155 t156 t157 t175))))) else (some false)))) = some r := H
         have A91 := Aside0.mk A910
         clear A910
         replace H := Option.bind_eq_some_iff.mp H
         obtain ⟨t176, A920, H⟩ := H
         replace H : (if t176 < 0 then (some false) else (if t176 = t174 then ((laws_toBook.f kj60 a0_0 a0_1 a0_2 l0_3).bind fun bt177 => ((impl_DropPhrase.f bt177.1 bt177.2.1 bt177.2.2.1 bt177.2.2.2 a1).bind fun bt183 => ((laws_eqBook.f kj60 bt183.1 bt183.2.1 bt183.2.2.1 bt183.2.2.2.1 t140 t141 t142 t143).bind fun t191 => (if t191 = true then (laws_FnExactDropPhrase.j2 kj60 t174 (bt183.2.2.2.2 != t146) t155 t156 t157 t175) else (laws_FnExactDropPhrase.j2 kj60 t174 true t155 t156 t157 t175))))) else (some false))) = some r := H
         have A92 := Aside0.mk A920
         clear A920
         by_cases c93 : t176 < 0
         ·rw [if_pos c93] at H
          have c93b0 : decide (t176 < 0) = true := decide_eq_true c93
          clear c93
          obtain rfl := Option.some.inj H
          have hnb94 := NB162_132.out
          have hnc94 := NB132_162.out
          have hnb95 := NB162_147.out
          have hnc95 := NB147_162.out
          have hnb96 := NB162_154.out
          have hnc96 := NB154_162.out
          have hcz97_0 : wc.cell? ⟨gb162, 0, none⟩ = some (.int .i8 t155) := (blk_cell BK162.out 0).trans rfl
          have hcz97_1 : wc.cell? ⟨gb162, 1, none⟩ = some (.int .i8 t156) := (blk_cell BK162.out 1).trans rfl
          have hcz97_2 : wc.cell? ⟨gb162, 2, none⟩ = some (.int .i8 t157) := (blk_cell BK162.out 2).trans rfl
          have hcz97_3 : wc.cell? ⟨gb162, 3, none⟩ = some (.slice Ao37 t158.length co37) := (blk_cell BK162.out 3).trans rfl
          have hfz97_0 := blk_frozen BK162.out 0
          have hfz97_1 := blk_frozen BK162.out 1
          have hfz97_2 := blk_frozen BK162.out 2
          have hfz97_3 := blk_frozen BK162.out 3
          go_wp2_with (first | ((with_reducible refine gate_callee (f := 17) rfl ?_); refine goesL_ (some 68) rfl rfl Try.func17 (by kernel_rfl) rfl #[.agg #[.int .i8 t155, .int .i8 t156, .int .i8 t157, .slice Ao37 t158.length co37], .int .i64 1] rfl (by (try simp only [List.map_toArray, List.map_cons, List.map_nil]); first | done | rfl | (simp only [List.length_drop, List.length_take]; rfl)) ?_; (with_reducible refine (laws_markBook.calls kj60 t155 t156 t157 (fun k_ => some k_ = (.slice Ao37 t158.length co37 : Value).ownBlock) (.slice Ao37 t158.length co37) t158 1 t174 t175 w _ ?side1 ?side2 A91.out).mono ?_); (case side1 => repeat (first | (with_reducible first | exact HB.out | apply below_alloc | apply pw_below_drewN | apply below_drew1 | refine below_set ?_ GE132.out | refine below_set ?_ GE147.out | refine below_set ?_ GE154.out | refine below_set ?_ GE162.out) | exact HB.out)); (case side2 => exact Kd.R_tight rfl HO_163003.out); rintro e w98 ⟨rfl, hy0, hb, hkp⟩; refine ⟨_, rfl, ?_⟩; have n0_ := Aside0.mk (Kd.R_mono (ok' := fun k_ => some k_ ≠ (.slice Ao30 t172.length co30 : Value).ownBlock ∧ some k_ ≠ (.slice Ao37 t158.length co37 : Value).ownBlock) (Kd.R_keptB (HO_148003.out) hkp (fun k_ hk_ hs_ => (hk_.2) hs_)) (fun k_ hk_ => ⟨hk_.1.1, hk_.1.2⟩)); have n1_ := Aside0.mk (Kd.R_mono (ok' := fun k_ => some k_ ≠ (.slice Ao23 t143.length co23 : Value).ownBlock ∧ some k_ ≠ (.slice Ao37 t158.length co37 : Value).ownBlock) (Kd.R_keptB (HO_155003.out) hkp (fun k_ hk_ hs_ => (hk_.2) hs_)) (fun k_ hk_ => ⟨hk_.1.1, hk_.1.2⟩)); have n2_ := Aside0.mk (Kd.R_reok rfl hy0 (fun k_ e_ => HO_163003.out.1 k_ e_)); have n3_ := Aside0.mk (blk_kept (by (with_reducible repeat (first | refine blk_drewN ?_ _ | refine blk_drew ?_ | refine blk_alloc ?_ _)); exact BK132.out) hkp (fun hs_ => (fun e_ => (Kd.R_ne HO_163003.out BK132.out (by decide)) e_) hs_)); have n4_ := Aside0.mk (blk_kept (by (with_reducible repeat (first | refine blk_drewN ?_ _ | refine blk_drew ?_ | refine blk_alloc ?_ _)); exact BK147.out) hkp (fun hs_ => (fun e_ => (Kd.R_ne HO_163003.out BK147.out (by decide)) e_) hs_)); have n5_ := Aside0.mk (blk_kept (by (with_reducible repeat (first | refine blk_drewN ?_ _ | refine blk_drew ?_ | refine blk_alloc ?_ _)); exact BK154.out) hkp (fun hs_ => (fun e_ => (Kd.R_ne HO_163003.out BK154.out (by decide)) e_) hs_)); have n6_ := Aside0.mk (blk_kept (by (with_reducible repeat (first | refine blk_drewN ?_ _ | refine blk_drew ?_ | refine blk_alloc ?_ _)); exact BK162.out) hkp (fun hs_ => (fun e_ => (Kd.R_ne HO_163003.out BK162.out (by decide)) e_) hs_)); have n7_ := Aside0.mk (hb); clear HO_148003; clear HO_155003; clear HO_163003; clear BK132; clear BK147; clear BK154; clear BK162; clear HB; have HO_148003 := n0_; have HO_155003 := n1_; have HO_163003 := n2_; have BK132 := n3_; have BK147 := n4_; have BK154 := n5_; have BK162 := n6_; have HB := n7_; clear n0_ n1_ n2_ n3_ n4_ n5_ n6_ n7_; (try clear hb); (try clear hkp); (try clear hy0); have hcz99_0 : w98.cell? ⟨gb162, 0, none⟩ = some (.int .i8 t155) := (blk_cell BK162.out 0).trans rfl; have hcz99_1 : w98.cell? ⟨gb162, 1, none⟩ = some (.int .i8 t156) := (blk_cell BK162.out 1).trans rfl; have hcz99_2 : w98.cell? ⟨gb162, 2, none⟩ = some (.int .i8 t157) := (blk_cell BK162.out 2).trans rfl; have hcz99_3 : w98.cell? ⟨gb162, 3, none⟩ = some (.slice Ao37 t158.length co37) := (blk_cell BK162.out 3).trans rfl; have hfz99_0 := blk_frozen BK162.out 0; have hfz99_1 := blk_frozen BK162.out 1; have hfz99_2 := blk_frozen BK162.out 2; have hfz99_3 := blk_frozen BK162.out 3) | ((with_reducible refine gate_callee (f := 18) rfl ?_); refine goesL_ (some 71) rfl rfl Try.func18 (by kernel_rfl) rfl #[.agg #[.int .i8 t155, .int .i8 t156, .int .i8 t157, .slice Ao37 t175.length co37], .int .i64 1] rfl (by (try simp only [List.map_toArray, List.map_cons, List.map_nil]); first | done | (rw [show t175.length = t158.length from (Kd.R_reads' HO_163003.out).1.symm] <;> rfl) | rfl | (simp only [List.length_drop, List.length_take]; rfl)) ?_; (with_reducible refine (laws_heldBook.calls kj60 t155 t156 t157 _ _ t175 1 t176 _ ?side1 ?side2 A92.out).mono ?_); (case side1 => repeat (first | exact (Kd.R_reads' HO_163003.out).2.2 | (with_reducible refine Kd.C_alloc ?_ _) | (with_reducible refine Kd.C_drewN ?_ _) | (with_reducible refine Kd.C_drew ?_))); (case side2 => rw [show t175.length = t158.length from (Kd.R_reads' HO_163003.out).1.symm]; exact (Kd.R_reads' HO_163003.out).2.1); rintro e w100 ⟨rfl, hb⟩; refine ⟨_, rfl, ?_⟩; have n0_ := Aside0.mk (Kd.R_below (by (with_reducible repeat (first | apply Kd.R_alloc | apply Kd.R_drewN | apply Kd.R_drew)); exact HO_148003.out) hb); have n1_ := Aside0.mk (Kd.R_below (by (with_reducible repeat (first | apply Kd.R_alloc | apply Kd.R_drewN | apply Kd.R_drew)); exact HO_155003.out) hb); have n2_ := Aside0.mk (Kd.R_below (by (with_reducible repeat (first | apply Kd.R_alloc | apply Kd.R_drewN | apply Kd.R_drew)); exact HO_163003.out) hb); have n3_ := Aside0.mk (blk_below (g := gb132) (o := .cells #[.int .i8 a0_0, .int .i8 a0_1, .int .i8 a0_2, .slice A0_3 l0_3.length c0_3] 25 (0, 0)) (by (with_reducible repeat (first | refine blk_drewN ?_ _ | refine blk_drew ?_ | refine blk_alloc ?_ _)); exact BK132.out) hb); have n4_ := Aside0.mk (blk_below (g := gb147) (o := .cells #[.int .i8 t140, .int .i8 t141, .int .i8 t142, .slice Ao23 t143.length co23] 27 (0, 0)) (by (with_reducible repeat (first | refine blk_drewN ?_ _ | refine blk_drew ?_ | refine blk_alloc ?_ _)); exact BK147.out) hb); have n5_ := Aside0.mk (blk_below (g := gb154) (o := .cells #[.int .i8 t148, .int .i8 t149, .int .i8 t150, .slice Ao30 t172.length co30] 27 (0, 0)) (by (with_reducible repeat (first | refine blk_drewN ?_ _ | refine blk_drew ?_ | refine blk_alloc ?_ _)); exact BK154.out) hb); have n6_ := Aside0.mk (blk_below (g := gb162) (o := .cells #[.int .i8 t155, .int .i8 t156, .int .i8 t157, .slice Ao37 t158.length co37] 27 (0, 0)) (by (with_reducible repeat (first | refine blk_drewN ?_ _ | refine blk_drew ?_ | refine blk_alloc ?_ _)); exact BK162.out) hb); have n7_ := Aside0.mk (below_step (by repeat (first | (with_reducible first | exact HB.out | apply below_alloc | apply pw_below_drewN | apply below_drew1 | refine below_set ?_ GE132.out | refine below_set ?_ GE147.out | refine below_set ?_ GE154.out | refine below_set ?_ GE162.out) | exact HB.out)) hb); clear HO_148003; clear HO_155003; clear HO_163003; clear BK132; clear BK147; clear BK154; clear BK162; clear HB; have HO_148003 := n0_; have HO_155003 := n1_; have HO_163003 := n2_; have BK132 := n3_; have BK147 := n4_; have BK154 := n5_; have BK162 := n6_; have HB := n7_; clear n0_ n1_ n2_ n3_ n4_ n5_ n6_ n7_; (try clear hb); (try clear hb2); (try clear hk); (try clear hi)))
          go_ret
          exact ⟨by first | rfl | (simp [errW_none, errW_some] <;> rfl) | (simp [*, errW_none, errW_some] <;> rfl), by repeat (first | (with_reducible first | exact HB.out | apply below_alloc | apply pw_below_drewN | apply below_drew1 | refine below_set ?_ GE132.out | refine below_set ?_ GE147.out | refine below_set ?_ GE154.out | refine below_set ?_ GE162.out) | exact HB.out)⟩
         ·rw [if_neg c93] at H
          have c93b0 : decide (t176 < 0) = false := decide_eq_false c93
          clear c93
          by_cases c101 : t176 = t174
          ·rw [if_pos c101] at H
           have c101b0 : (t176 == t174) = true := beq_iff_eq.mpr c101
           have c101b1 : (t176 != t174) = false := bne_eq_false_iff_eq.mpr c101
           clear c101
           replace H := Option.bind_eq_some_iff.mp H
           obtain ⟨⟨t177, t178, t179, t180⟩, A1020, H⟩ := H
           replace H : ((impl_DropPhrase.f t177 t178 t179 t180 a1).bind fun bt183 => ((laws_eqBook.f kj60 bt183.1 bt183.2.1 bt183.2.2.1 bt183.2.2.2.1 t140 t141 t142 t143).bind fun t191 => (if t191 = true then (laws_FnExactDropPhrase.j2 kj60 t174 (bt183.2.2.2.2 != t146) t155 t156 t157 t175) else (laws_FnExactDropPhrase.j2 kj60 t174 true t155 t156 t157 t175)))) = some r := H
           have A102 := Aside0.mk A1020
           clear A1020
           replace H := Option.bind_eq_some_iff.mp H
           obtain ⟨⟨t183, t184, t185, t186, t189⟩, A1030, H⟩ := H
           replace H : ((laws_eqBook.f kj60 t183 t184 t185 t186 t140 t141 t142 t143).bind fun t191 => (if t191 = true then (laws_FnExactDropPhrase.j2 kj60 t174 (t189 != t146) t155 t156 t157 t175) else (laws_FnExactDropPhrase.j2 kj60 t174 true t155 t156 t157 t175))) = some r := H
           have A103 := Aside0.mk A1030
           clear A1030
           have HC104 := Aside0.mk H
           clear H
           have hnb105 := NB162_132.out
           have hnc105 := NB132_162.out
           have hnb106 := NB162_147.out
           have hnc106 := NB147_162.out
           have hnb107 := NB162_154.out
           have hnc107 := NB154_162.out
           have hcz108_0 : wc.cell? ⟨gb162, 0, none⟩ = some (.int .i8 t155) := (blk_cell BK162.out 0).trans rfl
           have hcz108_1 : wc.cell? ⟨gb162, 1, none⟩ = some (.int .i8 t156) := (blk_cell BK162.out 1).trans rfl
           have hcz108_2 : wc.cell? ⟨gb162, 2, none⟩ = some (.int .i8 t157) := (blk_cell BK162.out 2).trans rfl
           have hcz108_3 : wc.cell? ⟨gb162, 3, none⟩ = some (.slice Ao37 t158.length co37) := (blk_cell BK162.out 3).trans rfl
           have hfz108_0 := blk_frozen BK162.out 0
           have hfz108_1 := blk_frozen BK162.out 1
           have hfz108_2 := blk_frozen BK162.out 2
           have hfz108_3 := blk_frozen BK162.out 3
           go_upto_region 25 with (first | ((with_reducible refine gate_callee (f := 17) rfl ?_); refine goesL_ (some 68) rfl rfl Try.func17 (by kernel_rfl) rfl #[.agg #[.int .i8 t155, .int .i8 t156, .int .i8 t157, .slice Ao37 t158.length co37], .int .i64 1] rfl (by (try simp only [List.map_toArray, List.map_cons, List.map_nil]); first | done | rfl | (simp only [List.length_drop, List.length_take]; rfl)) ?_; (with_reducible refine (laws_markBook.calls kj60 t155 t156 t157 (fun k_ => some k_ = (.slice Ao37 t158.length co37 : Value).ownBlock) (.slice Ao37 t158.length co37) t158 1 t174 t175 w _ ?side1 ?side2 A91.out).mono ?_); (case side1 => repeat (first | (with_reducible first | exact HB.out | apply below_alloc | apply pw_below_drewN | apply below_drew1 | refine below_set ?_ GE132.out | refine below_set ?_ GE147.out | refine below_set ?_ GE154.out | refine below_set ?_ GE162.out) | exact HB.out)); (case side2 => exact Kd.R_tight rfl HO_163003.out); rintro e w109 ⟨rfl, hy0, hb, hkp⟩; refine ⟨_, rfl, ?_⟩; have n0_ := Aside0.mk (Kd.R_mono (ok' := fun k_ => some k_ ≠ (.slice Ao30 t172.length co30 : Value).ownBlock ∧ some k_ ≠ (.slice Ao37 t158.length co37 : Value).ownBlock) (Kd.R_keptB (HO_148003.out) hkp (fun k_ hk_ hs_ => (hk_.2) hs_)) (fun k_ hk_ => ⟨hk_.1.1, hk_.1.2⟩)); have n1_ := Aside0.mk (Kd.R_mono (ok' := fun k_ => some k_ ≠ (.slice Ao23 t143.length co23 : Value).ownBlock ∧ some k_ ≠ (.slice Ao37 t158.length co37 : Value).ownBlock) (Kd.R_keptB (HO_155003.out) hkp (fun k_ hk_ hs_ => (hk_.2) hs_)) (fun k_ hk_ => ⟨hk_.1.1, hk_.1.2⟩)); have n2_ := Aside0.mk (Kd.R_reok rfl hy0 (fun k_ e_ => HO_163003.out.1 k_ e_)); have n3_ := Aside0.mk (blk_kept (by (with_reducible repeat (first | refine blk_drewN ?_ _ | refine blk_drew ?_ | refine blk_alloc ?_ _)); exact BK132.out) hkp (fun hs_ => (fun e_ => (Kd.R_ne HO_163003.out BK132.out (by decide)) e_) hs_)); have n4_ := Aside0.mk (blk_kept (by (with_reducible repeat (first | refine blk_drewN ?_ _ | refine blk_drew ?_ | refine blk_alloc ?_ _)); exact BK147.out) hkp (fun hs_ => (fun e_ => (Kd.R_ne HO_163003.out BK147.out (by decide)) e_) hs_)); have n5_ := Aside0.mk (blk_kept (by (with_reducible repeat (first | refine blk_drewN ?_ _ | refine blk_drew ?_ | refine blk_alloc ?_ _)); exact BK154.out) hkp (fun hs_ => (fun e_ => (Kd.R_ne HO_163003.out BK154.out (by decide)) e_) hs_)); have n6_ := Aside0.mk (blk_kept (by (with_reducible repeat (first | refine blk_drewN ?_ _ | refine blk_drew ?_ | refine blk_alloc ?_ _)); exact BK162.out) hkp (fun hs_ => (fun e_ => (Kd.R_ne HO_163003.out BK162.out (by decide)) e_) hs_)); have n7_ := Aside0.mk (hb); clear HO_148003; clear HO_155003; clear HO_163003; clear BK132; clear BK147; clear BK154; clear BK162; clear HB; have HO_148003 := n0_; have HO_155003 := n1_; have HO_163003 := n2_; have BK132 := n3_; have BK147 := n4_; have BK154 := n5_; have BK162 := n6_; have HB := n7_; clear n0_ n1_ n2_ n3_ n4_ n5_ n6_ n7_; (try clear hb); (try clear hkp); (try clear hy0); have hcz110_0 : w109.cell? ⟨gb162, 0, none⟩ = some (.int .i8 t155) := (blk_cell BK162.out 0).trans rfl; have hcz110_1 : w109.cell? ⟨gb162, 1, none⟩ = some (.int .i8 t156) := (blk_cell BK162.out 1).trans rfl; have hcz110_2 : w109.cell? ⟨gb162, 2, none⟩ = some (.int .i8 t157) := (blk_cell BK162.out 2).trans rfl; have hcz110_3 : w109.cell? ⟨gb162, 3, none⟩ = some (.slice Ao37 t158.length co37) := (blk_cell BK162.out 3).trans rfl; have hfz110_0 := blk_frozen BK162.out 0; have hfz110_1 := blk_frozen BK162.out 1; have hfz110_2 := blk_frozen BK162.out 2; have hfz110_3 := blk_frozen BK162.out 3) | ((with_reducible refine gate_callee (f := 18) rfl ?_); refine goesL_ (some 71) rfl rfl Try.func18 (by kernel_rfl) rfl #[.agg #[.int .i8 t155, .int .i8 t156, .int .i8 t157, .slice Ao37 t175.length co37], .int .i64 1] rfl (by (try simp only [List.map_toArray, List.map_cons, List.map_nil]); first | done | (rw [show t175.length = t158.length from (Kd.R_reads' HO_163003.out).1.symm] <;> rfl) | rfl | (simp only [List.length_drop, List.length_take]; rfl)) ?_; (with_reducible refine (laws_heldBook.calls kj60 t155 t156 t157 _ _ t175 1 t176 _ ?side1 ?side2 A92.out).mono ?_); (case side1 => repeat (first | exact (Kd.R_reads' HO_163003.out).2.2 | (with_reducible refine Kd.C_alloc ?_ _) | (with_reducible refine Kd.C_drewN ?_ _) | (with_reducible refine Kd.C_drew ?_))); (case side2 => rw [show t175.length = t158.length from (Kd.R_reads' HO_163003.out).1.symm]; exact (Kd.R_reads' HO_163003.out).2.1); rintro e w111 ⟨rfl, hb⟩; refine ⟨_, rfl, ?_⟩; have n0_ := Aside0.mk (Kd.R_below (by (with_reducible repeat (first | apply Kd.R_alloc | apply Kd.R_drewN | apply Kd.R_drew)); exact HO_148003.out) hb); have n1_ := Aside0.mk (Kd.R_below (by (with_reducible repeat (first | apply Kd.R_alloc | apply Kd.R_drewN | apply Kd.R_drew)); exact HO_155003.out) hb); have n2_ := Aside0.mk (Kd.R_below (by (with_reducible repeat (first | apply Kd.R_alloc | apply Kd.R_drewN | apply Kd.R_drew)); exact HO_163003.out) hb); have n3_ := Aside0.mk (blk_below (g := gb132) (o := .cells #[.int .i8 a0_0, .int .i8 a0_1, .int .i8 a0_2, .slice A0_3 l0_3.length c0_3] 25 (0, 0)) (by (with_reducible repeat (first | refine blk_drewN ?_ _ | refine blk_drew ?_ | refine blk_alloc ?_ _)); exact BK132.out) hb); have n4_ := Aside0.mk (blk_below (g := gb147) (o := .cells #[.int .i8 t140, .int .i8 t141, .int .i8 t142, .slice Ao23 t143.length co23] 27 (0, 0)) (by (with_reducible repeat (first | refine blk_drewN ?_ _ | refine blk_drew ?_ | refine blk_alloc ?_ _)); exact BK147.out) hb); have n5_ := Aside0.mk (blk_below (g := gb154) (o := .cells #[.int .i8 t148, .int .i8 t149, .int .i8 t150, .slice Ao30 t172.length co30] 27 (0, 0)) (by (with_reducible repeat (first | refine blk_drewN ?_ _ | refine blk_drew ?_ | refine blk_alloc ?_ _)); exact BK154.out) hb); have n6_ := Aside0.mk (blk_below (g := gb162) (o := .cells #[.int .i8 t155, .int .i8 t156, .int .i8 t157, .slice Ao37 t158.length co37] 27 (0, 0)) (by (with_reducible repeat (first | refine blk_drewN ?_ _ | refine blk_drew ?_ | refine blk_alloc ?_ _)); exact BK162.out) hb); have n7_ := Aside0.mk (below_step (by repeat (first | (with_reducible first | exact HB.out | apply below_alloc | apply pw_below_drewN | apply below_drew1 | refine below_set ?_ GE132.out | refine below_set ?_ GE147.out | refine below_set ?_ GE154.out | refine below_set ?_ GE162.out) | exact HB.out)) hb); clear HO_148003; clear HO_155003; clear HO_163003; clear BK132; clear BK147; clear BK154; clear BK162; clear HB; have HO_148003 := n0_; have HO_155003 := n1_; have HO_163003 := n2_; have BK132 := n3_; have BK147 := n4_; have BK154 := n5_; have BK162 := n6_; have HB := n7_; clear n0_ n1_ n2_ n3_ n4_ n5_ n6_ n7_; (try clear hb); (try clear hb2); (try clear hk); (try clear hi); have hnb112 := NB132_147.out; have hnc112 := NB147_132.out; have hnb113 := NB132_154.out; have hnc113 := NB154_132.out; have hcz114_0 : w111.cell? ⟨gb132, 0, none⟩ = some (.int .i8 a0_0) := (blk_cell BK132.out 0).trans rfl; have hcz114_1 : w111.cell? ⟨gb132, 1, none⟩ = some (.int .i8 a0_1) := (blk_cell BK132.out 1).trans rfl; have hcz114_2 : w111.cell? ⟨gb132, 2, none⟩ = some (.int .i8 a0_2) := (blk_cell BK132.out 2).trans rfl; have hcz114_3 : w111.cell? ⟨gb132, 3, none⟩ = some (.slice A0_3 l0_3.length c0_3) := (blk_cell BK132.out 3).trans rfl; have hfz114_0 := blk_frozen BK132.out 0; have hfz114_1 := blk_frozen BK132.out 1; have hfz114_2 := blk_frozen BK132.out 2; have hfz114_3 := blk_frozen BK132.out 3) | ((with_reducible refine gate_callee (f := 14) rfl ?_); refine goesL_ (some 79) rfl rfl Try.func14 (by kernel_rfl) rfl #[.agg #[.int .i8 a0_0, .int .i8 a0_1, .int .i8 a0_2, .slice A0_3 l0_3.length c0_3]] rfl (by (try simp only [List.map_toArray, List.map_cons, List.map_nil]); first | done | rfl | (simp only [List.length_drop, List.length_take]; rfl)) ?_; (with_reducible refine (laws_toBook.calls kj60 a0_0 a0_1 a0_2 _ _ l0_3 t177 t178 t179 t180 _ ?side1 ?side2 A102.out).mono ?_); (case side1 => repeat (first | exact (Kd.C_below HR0_3.out HB.out) | (with_reducible refine Kd.C_alloc ?_ _) | (with_reducible refine Kd.C_drewN ?_ _) | (with_reducible refine Kd.C_drew ?_))); (case side2 => exact HC0_3.out); rintro e w115 ⟨v181, rfl, ho0, hb⟩; refine ⟨_, rfl, ?_⟩; have n0_ := Aside0.mk (Kd.R_elder' (by (with_reducible repeat (first | apply Kd.R_alloc | apply Kd.R_drewN | apply Kd.R_drew)); exact HO_148003.out) (Kd.R_base ho0) hb); have n1_ := Aside0.mk (Kd.R_elder' (by (with_reducible repeat (first | apply Kd.R_alloc | apply Kd.R_drewN | apply Kd.R_drew)); exact HO_155003.out) (Kd.R_base ho0) hb); have n2_ := Aside0.mk (Kd.R_elder' (by (with_reducible repeat (first | apply Kd.R_alloc | apply Kd.R_drewN | apply Kd.R_drew)); exact HO_163003.out) (Kd.R_base ho0) hb); have n3_ := Aside0.mk (Kd.R_lower (Kd.R_new' (Kd.R_new' (Kd.R_new' ho0 (Kd.R_lt (by (with_reducible repeat (first | apply Kd.R_alloc | apply Kd.R_drewN | apply Kd.R_drew)); exact HO_148003.out))) (Kd.R_lt (by (with_reducible repeat (first | apply Kd.R_alloc | apply Kd.R_drewN | apply Kd.R_drew)); exact HO_155003.out))) (Kd.R_lt (by (with_reducible repeat (first | apply Kd.R_alloc | apply Kd.R_drewN | apply Kd.R_drew)); exact HO_163003.out))) (below_size (by repeat (first | (with_reducible first | exact HB.out | apply below_alloc | apply pw_below_drewN | apply below_drew1 | refine below_set ?_ GE132.out | refine below_set ?_ GE147.out | refine below_set ?_ GE154.out | refine below_set ?_ GE162.out) | exact HB.out)))); have n4_ := Aside0.mk (blk_below (g := gb132) (o := .cells #[.int .i8 a0_0, .int .i8 a0_1, .int .i8 a0_2, .slice A0_3 l0_3.length c0_3] 25 (0, 0)) (by (with_reducible repeat (first | refine blk_drewN ?_ _ | refine blk_drew ?_ | refine blk_alloc ?_ _)); exact BK132.out) hb); have n5_ := Aside0.mk (blk_below (g := gb147) (o := .cells #[.int .i8 t140, .int .i8 t141, .int .i8 t142, .slice Ao23 t143.length co23] 27 (0, 0)) (by (with_reducible repeat (first | refine blk_drewN ?_ _ | refine blk_drew ?_ | refine blk_alloc ?_ _)); exact BK147.out) hb); have n6_ := Aside0.mk (blk_below (g := gb154) (o := .cells #[.int .i8 t148, .int .i8 t149, .int .i8 t150, .slice Ao30 t172.length co30] 27 (0, 0)) (by (with_reducible repeat (first | refine blk_drewN ?_ _ | refine blk_drew ?_ | refine blk_alloc ?_ _)); exact BK154.out) hb); have n7_ := Aside0.mk (blk_below (g := gb162) (o := .cells #[.int .i8 t155, .int .i8 t156, .int .i8 t157, .slice Ao37 t158.length co37] 27 (0, 0)) (by (with_reducible repeat (first | refine blk_drewN ?_ _ | refine blk_drew ?_ | refine blk_alloc ?_ _)); exact BK162.out) hb); have n8_ := Aside0.mk (below_step (by repeat (first | (with_reducible first | exact HB.out | apply below_alloc | apply pw_below_drewN | apply below_drew1 | refine below_set ?_ GE132.out | refine below_set ?_ GE147.out | refine below_set ?_ GE154.out | refine below_set ?_ GE162.out) | exact HB.out)) hb); clear HO_148003; clear HO_155003; clear HO_163003; clear BK132; clear BK147; clear BK154; clear BK162; clear HB; have HO_148003 := n0_; have HO_155003 := n1_; have HO_163003 := n2_; have HO182 := n3_; have BK132 := n4_; have BK147 := n5_; have BK154 := n6_; have BK162 := n7_; have HB := n8_; clear n0_ n1_ n2_ n3_ n4_ n5_ n6_ n7_ n8_; (try clear hb); (try clear hb2); (try clear hk); (try clear hi); (try clear ho0); obtain ⟨Ao116, co116, eo116⟩ := Kd.R_slice HO182.out; subst eo116) | ((with_reducible refine gate_callee (f := 20) rfl ?_); refine goesL_ (some 81) rfl rfl Try.func20 (by kernel_rfl) rfl #[.agg #[.int .i8 t177, .int .i8 t178, .int .i8 t179, .slice Ao116 t180.length co116], .int .i64 a1] rfl (by (try simp only [List.map_toArray, List.map_cons, List.map_nil]); first | done | rfl | (simp only [List.length_drop, List.length_take]; rfl)) ?_; (with_reducible refine (impl_DropPhrase.calls t177 t178 t179 _ _ t180 a1 t183 t184 t185 t186 t189 _ ?side1 ?side2 A103.out).mono ?_); (case side1 => repeat (first | exact (Kd.R_reads' HO182.out).2.2 | (with_reducible refine Kd.C_alloc ?_ _) | (with_reducible refine Kd.C_drewN ?_ _) | (with_reducible refine Kd.C_drew ?_))); (case side2 => exact (Kd.R_reads' HO182.out).2.1); rintro e w117 ⟨v187, rfl, ho0, hb⟩; refine ⟨_, rfl, ?_⟩; have n0_ := Aside0.mk (Kd.R_elder' (by (with_reducible repeat (first | apply Kd.R_alloc | apply Kd.R_drewN | apply Kd.R_drew)); exact HO_148003.out) (Kd.R_base ho0) hb); have n1_ := Aside0.mk (Kd.R_elder' (by (with_reducible repeat (first | apply Kd.R_alloc | apply Kd.R_drewN | apply Kd.R_drew)); exact HO_155003.out) (Kd.R_base ho0) hb); have n2_ := Aside0.mk (Kd.R_elder' (by (with_reducible repeat (first | apply Kd.R_alloc | apply Kd.R_drewN | apply Kd.R_drew)); exact HO_163003.out) (Kd.R_base ho0) hb); have n3_ := Aside0.mk (Kd.R_elder' (by (with_reducible repeat (first | apply Kd.R_alloc | apply Kd.R_drewN | apply Kd.R_drew)); exact HO182.out) (Kd.R_base ho0) hb); have n4_ := Aside0.mk (Kd.R_lower (Kd.R_new' (Kd.R_new' (Kd.R_new' (Kd.R_new' ho0 (Kd.R_lt (by (with_reducible repeat (first | apply Kd.R_alloc | apply Kd.R_drewN | apply Kd.R_drew)); exact HO_148003.out))) (Kd.R_lt (by (with_reducible repeat (first | apply Kd.R_alloc | apply Kd.R_drewN | apply Kd.R_drew)); exact HO_155003.out))) (Kd.R_lt (by (with_reducible repeat (first | apply Kd.R_alloc | apply Kd.R_drewN | apply Kd.R_drew)); exact HO_163003.out))) (Kd.R_lt (by (with_reducible repeat (first | apply Kd.R_alloc | apply Kd.R_drewN | apply Kd.R_drew)); exact HO182.out))) (below_size (by repeat (first | (with_reducible first | exact HB.out | apply below_alloc | apply pw_below_drewN | apply below_drew1 | refine below_set ?_ GE132.out | refine below_set ?_ GE147.out | refine below_set ?_ GE154.out | refine below_set ?_ GE162.out) | exact HB.out)))); have n5_ := Aside0.mk (blk_below (g := gb132) (o := .cells #[.int .i8 a0_0, .int .i8 a0_1, .int .i8 a0_2, .slice A0_3 l0_3.length c0_3] 25 (0, 0)) (by (with_reducible repeat (first | refine blk_drewN ?_ _ | refine blk_drew ?_ | refine blk_alloc ?_ _)); exact BK132.out) hb); have n6_ := Aside0.mk (blk_below (g := gb147) (o := .cells #[.int .i8 t140, .int .i8 t141, .int .i8 t142, .slice Ao23 t143.length co23] 27 (0, 0)) (by (with_reducible repeat (first | refine blk_drewN ?_ _ | refine blk_drew ?_ | refine blk_alloc ?_ _)); exact BK147.out) hb); have n7_ := Aside0.mk (blk_below (g := gb154) (o := .cells #[.int .i8 t148, .int .i8 t149, .int .i8 t150, .slice Ao30 t172.length co30] 27 (0, 0)) (by (with_reducible repeat (first | refine blk_drewN ?_ _ | refine blk_drew ?_ | refine blk_alloc ?_ _)); exact BK154.out) hb); have n8_ := Aside0.mk (blk_below (g := gb162) (o := .cells #[.int .i8 t155, .int .i8 t156, .int .i8 t157, .slice Ao37 t158.length co37] 27 (0, 0)) (by (with_reducible repeat (first | refine blk_drewN ?_ _ | refine blk_drew ?_ | refine blk_alloc ?_ _)); exact BK162.out) hb); have n9_ := Aside0.mk (below_step (by repeat (first | (with_reducible first | exact HB.out | apply below_alloc | apply pw_below_drewN | apply below_drew1 | refine below_set ?_ GE132.out | refine below_set ?_ GE147.out | refine below_set ?_ GE154.out | refine below_set ?_ GE162.out) | exact HB.out)) hb); clear HO_148003; clear HO_155003; clear HO_163003; clear HO182; clear BK132; clear BK147; clear BK154; clear BK162; clear HB; have HO_148003 := n0_; have HO_155003 := n1_; have HO_163003 := n2_; have HO182 := n3_; have HO188 := n4_; have BK132 := n5_; have BK147 := n6_; have BK154 := n7_; have BK162 := n8_; have HB := n9_; clear n0_ n1_ n2_ n3_ n4_ n5_ n6_ n7_ n8_ n9_; (try clear hb); (try clear hb2); (try clear hk); (try clear hi); (try clear ho0)) | ((with_reducible refine gate_dst (N := 14) rfl ?_); refine box_event ?hg (N := 14) ?hd (cs := #[.int .i8 0, .int .i8 0, .int .i8 0, .slice none 0 0]) (t := 27) ?hr ?_; (case hd => rfl); (case hg => rfl); (case hr => first | (go_simp; done) | (go_simp; rfl)); intro gb190 hg w118 hbox hb; have n0_ := Aside0.mk (Kd.R_below (by (with_reducible repeat (first | apply Kd.R_alloc | apply Kd.R_drewN | apply Kd.R_drew)); exact HO_148003.out) hb); have n1_ := Aside0.mk (Kd.R_below (by (with_reducible repeat (first | apply Kd.R_alloc | apply Kd.R_drewN | apply Kd.R_drew)); exact HO_155003.out) hb); have n2_ := Aside0.mk (Kd.R_below (by (with_reducible repeat (first | apply Kd.R_alloc | apply Kd.R_drewN | apply Kd.R_drew)); exact HO_163003.out) hb); have n3_ := Aside0.mk (Kd.R_below (by (with_reducible repeat (first | apply Kd.R_alloc | apply Kd.R_drewN | apply Kd.R_drew)); exact HO182.out) hb); have n4_ := Aside0.mk (Kd.R_below (by (with_reducible repeat (first | apply Kd.R_alloc | apply Kd.R_drewN | apply Kd.R_drew)); exact HO188.out) hb); have n5_ := Aside0.mk (blk_below (g := gb132) (o := .cells #[.int .i8 a0_0, .int .i8 a0_1, .int .i8 a0_2, .slice A0_3 l0_3.length c0_3] 25 (0, 0)) (by (with_reducible repeat (first | refine blk_drewN ?_ _ | refine blk_drew ?_ | refine blk_alloc ?_ _)); exact BK132.out) hb); have n6_ := Aside0.mk (blk_below (g := gb147) (o := .cells #[.int .i8 t140, .int .i8 t141, .int .i8 t142, .slice Ao23 t143.length co23] 27 (0, 0)) (by (with_reducible repeat (first | refine blk_drewN ?_ _ | refine blk_drew ?_ | refine blk_alloc ?_ _)); exact BK147.out) hb); have n7_ := Aside0.mk (blk_below (g := gb154) (o := .cells #[.int .i8 t148, .int .i8 t149, .int .i8 t150, .slice Ao30 t172.length co30] 27 (0, 0)) (by (with_reducible repeat (first | refine blk_drewN ?_ _ | refine blk_drew ?_ | refine blk_alloc ?_ _)); exact BK154.out) hb); have n8_ := Aside0.mk (blk_below (g := gb162) (o := .cells #[.int .i8 t155, .int .i8 t156, .int .i8 t157, .slice Ao37 t158.length co37] 27 (0, 0)) (by (with_reducible repeat (first | refine blk_drewN ?_ _ | refine blk_drew ?_ | refine blk_alloc ?_ _)); exact BK162.out) hb); have n9_ := Aside0.mk (below_step (by repeat (first | (with_reducible first | exact HB.out | apply below_alloc | apply pw_below_drewN | apply below_drew1 | refine below_set ?_ GE132.out | refine below_set ?_ GE147.out | refine below_set ?_ GE154.out | refine below_set ?_ GE162.out) | exact HB.out)) hb); have n10_ := Aside0.mk (hbox); have n11_ := Aside0.mk ((by rw [hg]; exact (below_size (by repeat (first | (with_reducible first | exact HB.out | apply below_alloc | apply pw_below_drewN | apply below_drew1 | refine below_set ?_ GE132.out | refine below_set ?_ GE147.out | refine below_set ?_ GE154.out | refine below_set ?_ GE162.out) | exact HB.out))) : w.heap.size ≤ gb190)); have n12_ := Aside0.mk ((by rw [hg]; exact (below_size (by repeat (first | (with_reducible first | exact HB.out | apply below_alloc | apply pw_below_drewN | apply below_drew1 | refine below_set ?_ GE132.out | refine below_set ?_ GE147.out | refine below_set ?_ GE154.out | refine below_set ?_ GE162.out) | exact HB.out))) : w.heap.size ≤ gb190)); have n13_ := Aside0.mk ((by rw [hg]; exact Nat.ne_of_lt (blk_lt (g := gb132) (o := .cells #[.int .i8 a0_0, .int .i8 a0_1, .int .i8 a0_2, .slice A0_3 l0_3.length c0_3] 25 (0, 0)) (by (with_reducible repeat (first | refine blk_drewN ?_ _ | refine blk_drew ?_ | refine blk_alloc ?_ _)); exact BK132.out)) : gb132 ≠ gb190)); have n14_ := Aside0.mk ((by rw [hg]; exact Nat.ne_of_gt (blk_lt (g := gb132) (o := .cells #[.int .i8 a0_0, .int .i8 a0_1, .int .i8 a0_2, .slice A0_3 l0_3.length c0_3] 25 (0, 0)) (by (with_reducible repeat (first | refine blk_drewN ?_ _ | refine blk_drew ?_ | refine blk_alloc ?_ _)); exact BK132.out)) : gb190 ≠ gb132)); have n15_ := Aside0.mk ((by rw [hg]; exact Nat.ne_of_lt (blk_lt (g := gb147) (o := .cells #[.int .i8 t140, .int .i8 t141, .int .i8 t142, .slice Ao23 t143.length co23] 27 (0, 0)) (by (with_reducible repeat (first | refine blk_drewN ?_ _ | refine blk_drew ?_ | refine blk_alloc ?_ _)); exact BK147.out)) : gb147 ≠ gb190)); have n16_ := Aside0.mk ((by rw [hg]; exact Nat.ne_of_gt (blk_lt (g := gb147) (o := .cells #[.int .i8 t140, .int .i8 t141, .int .i8 t142, .slice Ao23 t143.length co23] 27 (0, 0)) (by (with_reducible repeat (first | refine blk_drewN ?_ _ | refine blk_drew ?_ | refine blk_alloc ?_ _)); exact BK147.out)) : gb190 ≠ gb147)); have n17_ := Aside0.mk ((by rw [hg]; exact Nat.ne_of_lt (blk_lt (g := gb154) (o := .cells #[.int .i8 t148, .int .i8 t149, .int .i8 t150, .slice Ao30 t172.length co30] 27 (0, 0)) (by (with_reducible repeat (first | refine blk_drewN ?_ _ | refine blk_drew ?_ | refine blk_alloc ?_ _)); exact BK154.out)) : gb154 ≠ gb190)); have n18_ := Aside0.mk ((by rw [hg]; exact Nat.ne_of_gt (blk_lt (g := gb154) (o := .cells #[.int .i8 t148, .int .i8 t149, .int .i8 t150, .slice Ao30 t172.length co30] 27 (0, 0)) (by (with_reducible repeat (first | refine blk_drewN ?_ _ | refine blk_drew ?_ | refine blk_alloc ?_ _)); exact BK154.out)) : gb190 ≠ gb154)); have n19_ := Aside0.mk ((by rw [hg]; exact Nat.ne_of_lt (blk_lt (g := gb162) (o := .cells #[.int .i8 t155, .int .i8 t156, .int .i8 t157, .slice Ao37 t158.length co37] 27 (0, 0)) (by (with_reducible repeat (first | refine blk_drewN ?_ _ | refine blk_drew ?_ | refine blk_alloc ?_ _)); exact BK162.out)) : gb162 ≠ gb190)); have n20_ := Aside0.mk ((by rw [hg]; exact Nat.ne_of_gt (blk_lt (g := gb162) (o := .cells #[.int .i8 t155, .int .i8 t156, .int .i8 t157, .slice Ao37 t158.length co37] 27 (0, 0)) (by (with_reducible repeat (first | refine blk_drewN ?_ _ | refine blk_drew ?_ | refine blk_alloc ?_ _)); exact BK162.out)) : gb190 ≠ gb162)); clear HO_148003; clear HO_155003; clear HO_163003; clear HO182; clear HO188; clear BK132; clear BK147; clear BK154; clear BK162; clear HB; have HO_148003 := n0_; have HO_155003 := n1_; have HO_163003 := n2_; have HO182 := n3_; have HO188 := n4_; have BK132 := n5_; have BK147 := n6_; have BK154 := n7_; have BK162 := n8_; have HB := n9_; have BK190 := n10_; have GW190 := n11_; have GE190 := n12_; have NB132_190 := n13_; have NB190_132 := n14_; have NB147_190 := n15_; have NB190_147 := n16_; have NB154_190 := n17_; have NB190_154 := n18_; have NB162_190 := n19_; have NB190_162 := n20_; clear n0_ n1_ n2_ n3_ n4_ n5_ n6_ n7_ n8_ n9_ n10_ n11_ n12_ n13_ n14_ n15_ n16_ n17_ n18_ n19_ n20_; clear hb hbox hg; have hnb119 := NB190_132.out; have hnc119 := NB132_190.out; have hnb120 := NB190_147.out; have hnc120 := NB147_190.out; have hnb121 := NB190_154.out; have hnc121 := NB154_190.out; have hnb122 := NB190_162.out; have hnc122 := NB162_190.out; have hcz123_0 : w118.cell? ⟨gb190, 0, none⟩ = some (.int .i8 0) := (blk_cell BK190.out 0).trans rfl; have hcz123_1 : w118.cell? ⟨gb190, 1, none⟩ = some (.int .i8 0) := (blk_cell BK190.out 1).trans rfl; have hcz123_2 : w118.cell? ⟨gb190, 2, none⟩ = some (.int .i8 0) := (blk_cell BK190.out 2).trans rfl; have hcz123_3 : w118.cell? ⟨gb190, 3, none⟩ = some (.slice none 0 0) := (blk_cell BK190.out 3).trans rfl; have hfz123_0 := blk_frozen BK190.out 0; have hfz123_1 := blk_frozen BK190.out 1; have hfz123_2 := blk_frozen BK190.out 2; have hfz123_3 := blk_frozen BK190.out 3; obtain ⟨Ao124, co124, eo124⟩ := Kd.R_slice HO188.out; subst eo124))
           (try simp only [Act.put, List.setIfInBounds_toArray, List.set_cons_zero, List.set_cons_succ])
           go_cut [92] (fun v92 wc => ∃ (kq : Nat) (x92_103 : Bool), v92 = .bool x92_103 ∧ Aside0 (laws_FnExactDropPhrase.j2 kq t174 x92_103 t155 t156 t157 t175 = some r) ∧ Aside0 (kq ≤ kj60) ∧ Aside0 (Kd.R Kd.string 9 wc w.heap.size (fun k_ => some k_ ≠ ((.slice Ao30 t172.length co30) : Value).ownBlock ∧ some k_ ≠ ((.slice Ao37 t158.length co37) : Value).ownBlock ∧ some k_ ≠ ((.slice Ao124 t186.length co124) : Value).ownBlock) (.slice Ao23 t143.length co23) t143) ∧ Aside0 (Kd.R Kd.string 9 wc w.heap.size (fun k_ => some k_ ≠ ((.slice Ao23 t143.length co23) : Value).ownBlock ∧ some k_ ≠ ((.slice Ao37 t158.length co37) : Value).ownBlock ∧ some k_ ≠ ((.slice Ao124 t186.length co124) : Value).ownBlock) (.slice Ao30 t172.length co30) t172) ∧ Aside0 (Kd.R Kd.string 9 wc w.heap.size (fun k_ => some k_ ≠ ((.slice Ao23 t143.length co23) : Value).ownBlock ∧ some k_ ≠ ((.slice Ao30 t172.length co30) : Value).ownBlock ∧ some k_ ≠ ((.slice Ao124 t186.length co124) : Value).ownBlock) (.slice Ao37 t158.length co37) t175) ∧ Aside0 (Kd.R Kd.string 9 wc w.heap.size (fun k_ => some k_ ≠ ((.slice Ao23 t143.length co23) : Value).ownBlock ∧ some k_ ≠ ((.slice Ao30 t172.length co30) : Value).ownBlock ∧ some k_ ≠ ((.slice Ao37 t158.length co37) : Value).ownBlock) (.slice Ao124 t186.length co124) t186) ∧ Aside0 (wc.heap[gb132]? = some (.cells #[.int .i8 a0_0, .int .i8 a0_1, .int .i8 a0_2, (.slice A0_3 l0_3.length c0_3)] 25 (0, 0))) ∧ Aside0 (wc.heap[gb147]? = some (.cells #[.int .i8 t140, .int .i8 t141, .int .i8 t142, (.slice Ao23 t143.length co23)] 27 (0, 0))) ∧ Aside0 (wc.heap[gb154]? = some (.cells #[.int .i8 t148, .int .i8 t149, .int .i8 t150, (.slice Ao30 t172.length co30)] 27 (0, 0))) ∧ Aside0 (wc.heap[gb162]? = some (.cells #[.int .i8 t155, .int .i8 t156, .int .i8 t157, (.slice Ao37 t158.length co37)] 27 (0, 0))) ∧ Aside0 (wc.heap[gb190]? = some (.cells #[.int .i8 t183, .int .i8 t184, .int .i8 t185, (.slice Ao124 t186.length co124)] 27 (0, 0))) ∧ Aside0 (Below w.heap.size w wc))
           case first =>
            have H := HC104.out
            clear HC104
            replace H := Option.bind_eq_some_iff.mp H
            obtain ⟨t191, A1250, H⟩ := H
            replace H : (if t191 = true then (laws_FnExactDropPhrase.j2 kj60 t174 (t189 != t146) t155 t156 t157 t175) else (laws_FnExactDropPhrase.j2 kj60 t174 true t155 t156 t157 t175)) = some r := H
            have A125 := Aside0.mk A1250
            clear A1250
            by_cases c126 : t191 = true
            ·subst c126
             have H1 : (laws_FnExactDropPhrase.j2 kj60 t174 (t189 != t146) t155 t156 t157 t175) = some r := by rw [if_pos rfl] at H; exact H
             clear H
             have H := H1
             clear H1
             have H' := Aside0.mk H
             clear H
             have hnb127 := NB190_132.out
             have hnc127 := NB132_190.out
             have hnb128 := NB190_147.out
             have hnc128 := NB147_190.out
             have hnb129 := NB190_154.out
             have hnc129 := NB154_190.out
             have hnb130 := NB190_162.out
             have hnc130 := NB162_190.out
             have hcz131_0 : w118.cell? ⟨gb190, 0, none⟩ = some (.int .i8 0) := (blk_cell BK190.out 0).trans rfl
             have hcz131_1 : w118.cell? ⟨gb190, 1, none⟩ = some (.int .i8 0) := (blk_cell BK190.out 1).trans rfl
             have hcz131_2 : w118.cell? ⟨gb190, 2, none⟩ = some (.int .i8 0) := (blk_cell BK190.out 2).trans rfl
             have hcz131_3 : w118.cell? ⟨gb190, 3, none⟩ = some (.slice none 0 0) := (blk_cell BK190.out 3).trans rfl
             have hfz131_0 := blk_frozen BK190.out 0
             have hfz131_1 := blk_frozen BK190.out 1
             have hfz131_2 := blk_frozen BK190.out 2
             have hfz131_3 := blk_frozen BK190.out 3
             have hnb132 := NB147_132.out
             have hnc132 := NB132_147.out
             have hnb133 := NB147_154.out
             have hnc133 := NB154_147.out
             have hnb134 := NB147_162.out
             have hnc134 := NB162_147.out
             have hcz135_0 : w118.cell? ⟨gb147, 0, none⟩ = some (.int .i8 t140) := (blk_cell BK147.out 0).trans rfl
             have hcz135_1 : w118.cell? ⟨gb147, 1, none⟩ = some (.int .i8 t141) := (blk_cell BK147.out 1).trans rfl
             have hcz135_2 : w118.cell? ⟨gb147, 2, none⟩ = some (.int .i8 t142) := (blk_cell BK147.out 2).trans rfl
             have hcz135_3 : w118.cell? ⟨gb147, 3, none⟩ = some (.slice Ao23 t143.length co23) := (blk_cell BK147.out 3).trans rfl
             have hfz135_0 := blk_frozen BK147.out 0
             have hfz135_1 := blk_frozen BK147.out 1
             have hfz135_2 := blk_frozen BK147.out 2
             have hfz135_3 := blk_frozen BK147.out 3
             go_wp2_with (first | ((with_reducible refine gate_callee (f := 16) rfl ?_); refine goesL_ (some 86) rfl rfl Try.func16 (by kernel_rfl) rfl #[.agg #[.int .i8 t183, .int .i8 t184, .int .i8 t185, .slice Ao124 t186.length co124], .agg #[.int .i8 t140, .int .i8 t141, .int .i8 t142, .slice Ao23 t143.length co23]] rfl (by (try simp only [List.map_toArray, List.map_cons, List.map_nil]); first | done | rfl | (simp only [List.length_drop, List.length_take]; rfl)) ?_; (with_reducible refine (laws_eqBook.calls kj60 t183 t184 t185 _ _ t186 t140 t141 t142 _ _ t143 true _ ?side1 ?side2 ?side3 ?side4 A125.out).mono ?_); (case side1 => refine (Kd.R_reads' (e := 9) (base := w.heap.size) (ok := fun k_ => ((((True ∧ some k_ ≠ (.slice Ao23 t143.length co23 : Value).ownBlock) ∧ some k_ ≠ (.slice Ao30 t172.length co30 : Value).ownBlock) ∧ some k_ ≠ (.slice Ao37 t158.length co37 : Value).ownBlock) ∧ some k_ ≠ (.slice Ao116 t180.length co116 : Value).ownBlock)) (n := t186.length) (c := co124) ?_).2.2; exact (by (with_reducible repeat (first | apply Kd.R_alloc | apply Kd.R_drewN | apply Kd.R_drew)); exact (Kd.R_mono (Kd.R_far (p := ⟨gb190, 3, none⟩) (Kd.R_far (p := ⟨gb190, 2, none⟩) (Kd.R_far (p := ⟨gb190, 1, none⟩) (Kd.R_far (p := ⟨gb190, 0, none⟩) (Kd.R_types HO188.out BK190.out (by decide)) (fun _ hk => hk.2) (.int .i8 t183)) (fun _ hk => hk.2) (.int .i8 t184)) (fun _ hk => hk.2) (.int .i8 t185)) (fun _ hk => hk.2) (.slice Ao124 t186.length co124)) (fun _ h_ => h_.1)))); (case side2 => exact (Kd.R_reads' HO188.out).2.1); (case side3 => refine (Kd.R_reads' (e := 9) (base := w.heap.size) (ok := fun k_ => (((some k_ ≠ (.slice Ao30 t172.length co30 : Value).ownBlock ∧ some k_ ≠ (.slice Ao37 t158.length co37 : Value).ownBlock) ∧ some k_ ≠ (.slice Ao116 t180.length co116 : Value).ownBlock) ∧ some k_ ≠ (.slice Ao124 t186.length co124 : Value).ownBlock)) (n := t143.length) (c := co23) ?_).2.2; exact (by (with_reducible repeat (first | apply Kd.R_alloc | apply Kd.R_drewN | apply Kd.R_drew)); exact (Kd.R_mono (Kd.R_far (p := ⟨gb190, 3, none⟩) (Kd.R_far (p := ⟨gb190, 2, none⟩) (Kd.R_far (p := ⟨gb190, 1, none⟩) (Kd.R_far (p := ⟨gb190, 0, none⟩) (Kd.R_types HO_148003.out BK190.out (by decide)) (fun _ hk => hk.2) (.int .i8 t183)) (fun _ hk => hk.2) (.int .i8 t184)) (fun _ hk => hk.2) (.int .i8 t185)) (fun _ hk => hk.2) (.slice Ao124 t186.length co124)) (fun _ h_ => h_.1)))); (case side4 => exact (Kd.R_reads' HO_148003.out).2.1); rintro e w136 ⟨rfl, hb⟩; refine ⟨_, rfl, ?_⟩; have n0_ := Aside0.mk (Kd.R_below (by (with_reducible repeat (first | apply Kd.R_alloc | apply Kd.R_drewN | apply Kd.R_drew)); exact (Kd.R_mono (Kd.R_far (p := ⟨gb190, 3, none⟩) (Kd.R_far (p := ⟨gb190, 2, none⟩) (Kd.R_far (p := ⟨gb190, 1, none⟩) (Kd.R_far (p := ⟨gb190, 0, none⟩) (Kd.R_types HO_148003.out BK190.out (by decide)) (fun _ hk => hk.2) (.int .i8 t183)) (fun _ hk => hk.2) (.int .i8 t184)) (fun _ hk => hk.2) (.int .i8 t185)) (fun _ hk => hk.2) (.slice Ao124 t186.length co124)) (fun _ h_ => h_.1))) hb); have n1_ := Aside0.mk (Kd.R_below (by (with_reducible repeat (first | apply Kd.R_alloc | apply Kd.R_drewN | apply Kd.R_drew)); exact (Kd.R_mono (Kd.R_far (p := ⟨gb190, 3, none⟩) (Kd.R_far (p := ⟨gb190, 2, none⟩) (Kd.R_far (p := ⟨gb190, 1, none⟩) (Kd.R_far (p := ⟨gb190, 0, none⟩) (Kd.R_types HO_155003.out BK190.out (by decide)) (fun _ hk => hk.2) (.int .i8 t183)) (fun _ hk => hk.2) (.int .i8 t184)) (fun _ hk => hk.2) (.int .i8 t185)) (fun _ hk => hk.2) (.slice Ao124 t186.length co124)) (fun _ h_ => h_.1))) hb); have n2_ := Aside0.mk (Kd.R_below (by (with_reducible repeat (first | apply Kd.R_alloc | apply Kd.R_drewN | apply Kd.R_drew)); exact (Kd.R_mono (Kd.R_far (p := ⟨gb190, 3, none⟩) (Kd.R_far (p := ⟨gb190, 2, none⟩) (Kd.R_far (p := ⟨gb190, 1, none⟩) (Kd.R_far (p := ⟨gb190, 0, none⟩) (Kd.R_types HO_163003.out BK190.out (by decide)) (fun _ hk => hk.2) (.int .i8 t183)) (fun _ hk => hk.2) (.int .i8 t184)) (fun _ hk => hk.2) (.int .i8 t185)) (fun _ hk => hk.2) (.slice Ao124 t186.length co124)) (fun _ h_ => h_.1))) hb); have n3_ := Aside0.mk (Kd.R_below (by (with_reducible repeat (first | apply Kd.R_alloc | apply Kd.R_drewN | apply Kd.R_drew)); exact (Kd.R_mono (Kd.R_far (p := ⟨gb190, 3, none⟩) (Kd.R_far (p := ⟨gb190, 2, none⟩) (Kd.R_far (p := ⟨gb190, 1, none⟩) (Kd.R_far (p := ⟨gb190, 0, none⟩) (Kd.R_types HO182.out BK190.out (by decide)) (fun _ hk => hk.2) (.int .i8 t183)) (fun _ hk => hk.2) (.int .i8 t184)) (fun _ hk => hk.2) (.int .i8 t185)) (fun _ hk => hk.2) (.slice Ao124 t186.length co124)) (fun _ h_ => h_.1))) hb); have n4_ := Aside0.mk (Kd.R_below (by (with_reducible repeat (first | apply Kd.R_alloc | apply Kd.R_drewN | apply Kd.R_drew)); exact (Kd.R_mono (Kd.R_far (p := ⟨gb190, 3, none⟩) (Kd.R_far (p := ⟨gb190, 2, none⟩) (Kd.R_far (p := ⟨gb190, 1, none⟩) (Kd.R_far (p := ⟨gb190, 0, none⟩) (Kd.R_types HO188.out BK190.out (by decide)) (fun _ hk => hk.2) (.int .i8 t183)) (fun _ hk => hk.2) (.int .i8 t184)) (fun _ hk => hk.2) (.int .i8 t185)) (fun _ hk => hk.2) (.slice Ao124 t186.length co124)) (fun _ h_ => h_.1))) hb); have n5_ := Aside0.mk (blk_below (g := gb132) (o := .cells #[.int .i8 a0_0, .int .i8 a0_1, .int .i8 a0_2, .slice A0_3 l0_3.length c0_3] 25 (0, 0)) (by (with_reducible repeat (first | refine blk_drewN ?_ _ | refine blk_drew ?_ | refine blk_alloc ?_ _)); refine blk_far ?_ NB132_190.out _; (with_reducible repeat (first | refine blk_drewN ?_ _ | refine blk_drew ?_ | refine blk_alloc ?_ _)); refine blk_far ?_ NB132_190.out _; (with_reducible repeat (first | refine blk_drewN ?_ _ | refine blk_drew ?_ | refine blk_alloc ?_ _)); refine blk_far ?_ NB132_190.out _; (with_reducible repeat (first | refine blk_drewN ?_ _ | refine blk_drew ?_ | refine blk_alloc ?_ _)); refine blk_far ?_ NB132_190.out _; (with_reducible repeat (first | refine blk_drewN ?_ _ | refine blk_drew ?_ | refine blk_alloc ?_ _)); exact BK132.out) hb); have n6_ := Aside0.mk (blk_below (g := gb147) (o := .cells #[.int .i8 t140, .int .i8 t141, .int .i8 t142, .slice Ao23 t143.length co23] 27 (0, 0)) (by (with_reducible repeat (first | refine blk_drewN ?_ _ | refine blk_drew ?_ | refine blk_alloc ?_ _)); refine blk_far ?_ NB147_190.out _; (with_reducible repeat (first | refine blk_drewN ?_ _ | refine blk_drew ?_ | refine blk_alloc ?_ _)); refine blk_far ?_ NB147_190.out _; (with_reducible repeat (first | refine blk_drewN ?_ _ | refine blk_drew ?_ | refine blk_alloc ?_ _)); refine blk_far ?_ NB147_190.out _; (with_reducible repeat (first | refine blk_drewN ?_ _ | refine blk_drew ?_ | refine blk_alloc ?_ _)); refine blk_far ?_ NB147_190.out _; (with_reducible repeat (first | refine blk_drewN ?_ _ | refine blk_drew ?_ | refine blk_alloc ?_ _)); exact BK147.out) hb); have n7_ := Aside0.mk (blk_below (g := gb154) (o := .cells #[.int .i8 t148, .int .i8 t149, .int .i8 t150, .slice Ao30 t172.length co30] 27 (0, 0)) (by (with_reducible repeat (first | refine blk_drewN ?_ _ | refine blk_drew ?_ | refine blk_alloc ?_ _)); refine blk_far ?_ NB154_190.out _; (with_reducible repeat (first | refine blk_drewN ?_ _ | refine blk_drew ?_ | refine blk_alloc ?_ _)); refine blk_far ?_ NB154_190.out _; (with_reducible repeat (first | refine blk_drewN ?_ _ | refine blk_drew ?_ | refine blk_alloc ?_ _)); refine blk_far ?_ NB154_190.out _; (with_reducible repeat (first | refine blk_drewN ?_ _ | refine blk_drew ?_ | refine blk_alloc ?_ _)); refine blk_far ?_ NB154_190.out _; (with_reducible repeat (first | refine blk_drewN ?_ _ | refine blk_drew ?_ | refine blk_alloc ?_ _)); exact BK154.out) hb); have n8_ := Aside0.mk (blk_below (g := gb162) (o := .cells #[.int .i8 t155, .int .i8 t156, .int .i8 t157, .slice Ao37 t158.length co37] 27 (0, 0)) (by (with_reducible repeat (first | refine blk_drewN ?_ _ | refine blk_drew ?_ | refine blk_alloc ?_ _)); refine blk_far ?_ NB162_190.out _; (with_reducible repeat (first | refine blk_drewN ?_ _ | refine blk_drew ?_ | refine blk_alloc ?_ _)); refine blk_far ?_ NB162_190.out _; (with_reducible repeat (first | refine blk_drewN ?_ _ | refine blk_drew ?_ | refine blk_alloc ?_ _)); refine blk_far ?_ NB162_190.out _; (with_reducible repeat (first | refine blk_drewN ?_ _ | refine blk_drew ?_ | refine blk_alloc ?_ _)); refine blk_far ?_ NB162_190.out _; (with_reducible repeat (first | refine blk_drewN ?_ _ | refine blk_drew ?_ | refine blk_alloc ?_ _)); exact BK162.out) hb); have n9_ := Aside0.mk (blk_below (g := gb190) (o := .cells #[.int .i8 t183, .int .i8 t184, .int .i8 t185, .slice Ao124 t186.length co124] 27 (0, 0)) (by (with_reducible repeat (first | refine blk_drewN ?_ _ | refine blk_drew ?_ | refine blk_alloc ?_ _)); refine blk_put (cs := #[.int .i8 t183, .int .i8 t184, .int .i8 t185, .slice none 0 0]) ?_ 3 _ rfl; (with_reducible repeat (first | refine blk_drewN ?_ _ | refine blk_drew ?_ | refine blk_alloc ?_ _)); refine blk_put (cs := #[.int .i8 t183, .int .i8 t184, .int .i8 0, .slice none 0 0]) ?_ 2 _ rfl; (with_reducible repeat (first | refine blk_drewN ?_ _ | refine blk_drew ?_ | refine blk_alloc ?_ _)); refine blk_put (cs := #[.int .i8 t183, .int .i8 0, .int .i8 0, .slice none 0 0]) ?_ 1 _ rfl; (with_reducible repeat (first | refine blk_drewN ?_ _ | refine blk_drew ?_ | refine blk_alloc ?_ _)); refine blk_put (cs := #[.int .i8 0, .int .i8 0, .int .i8 0, .slice none 0 0]) ?_ 0 _ rfl; (with_reducible repeat (first | refine blk_drewN ?_ _ | refine blk_drew ?_ | refine blk_alloc ?_ _)); exact BK190.out) hb); have n10_ := Aside0.mk (below_step (by repeat (first | (with_reducible first | exact HB.out | apply below_alloc | apply pw_below_drewN | apply below_drew1 | refine below_set ?_ GE132.out | refine below_set ?_ GE147.out | refine below_set ?_ GE154.out | refine below_set ?_ GE162.out | refine below_set ?_ GE190.out) | exact HB.out)) hb); clear HO_148003; clear HO_155003; clear HO_163003; clear HO182; clear HO188; clear BK132; clear BK147; clear BK154; clear BK162; clear BK190; clear HB; have HO_148003 := n0_; have HO_155003 := n1_; have HO_163003 := n2_; have HO182 := n3_; have HO188 := n4_; have BK132 := n5_; have BK147 := n6_; have BK154 := n7_; have BK162 := n8_; have BK190 := n9_; have HB := n10_; clear n0_ n1_ n2_ n3_ n4_ n5_ n6_ n7_ n8_ n9_ n10_; (try clear hb); (try clear hb2); (try clear hk); (try clear hi)))
             go_meet
             case rel => exact ⟨_, ((t189 != t146)), (by first | rfl | (simp; done) | (simp [*]; done)), H', ⟨by have := HJ11.out; have := HJ60.out; first | omega | exact Nat.le_refl _⟩, ⟨by (try simp only [hl155003_60]); (with_reducible repeat (first | apply Kd.R_alloc | apply Kd.R_drewN | apply Kd.R_drew)); exact Kd.R_mono HO_148003.out (fun _ hk => ⟨hk.1.1.1, ⟨hk.1.1.2, hk.2⟩⟩)⟩, ⟨by (try simp only [hl155003_60]); (with_reducible repeat (first | apply Kd.R_alloc | apply Kd.R_drewN | apply Kd.R_drew)); exact Kd.R_mono HO_155003.out (fun _ hk => ⟨hk.1.1.1, ⟨hk.1.1.2, hk.2⟩⟩)⟩, ⟨by (try simp only [hl155003_60]); (with_reducible repeat (first | apply Kd.R_alloc | apply Kd.R_drewN | apply Kd.R_drew)); exact Kd.R_mono HO_163003.out (fun _ hk => ⟨hk.1.1.1, ⟨hk.1.1.2, hk.2⟩⟩)⟩, ⟨by (try simp only [hl155003_60]); (with_reducible repeat (first | apply Kd.R_alloc | apply Kd.R_drewN | apply Kd.R_drew)); exact Kd.R_mono HO188.out (fun _ hk => ⟨hk.1.1.1.2, ⟨hk.1.1.2, hk.1.2⟩⟩)⟩, ⟨by (try simp only [hl155003_60]); (with_reducible repeat (first | refine blk_drewN ?_ _ | refine blk_drew ?_ | refine blk_alloc ?_ _)); exact BK132.out⟩, ⟨by (try simp only [hl155003_60]); (with_reducible repeat (first | refine blk_drewN ?_ _ | refine blk_drew ?_ | refine blk_alloc ?_ _)); exact BK147.out⟩, ⟨by (try simp only [hl155003_60]); (with_reducible repeat (first | refine blk_drewN ?_ _ | refine blk_drew ?_ | refine blk_alloc ?_ _)); exact BK154.out⟩, ⟨by (try simp only [hl155003_60]); (with_reducible repeat (first | refine blk_drewN ?_ _ | refine blk_drew ?_ | refine blk_alloc ?_ _)); exact BK162.out⟩, ⟨by (try simp only [hl155003_60]); (with_reducible repeat (first | refine blk_drewN ?_ _ | refine blk_drew ?_ | refine blk_alloc ?_ _)); exact BK190.out⟩, ⟨by repeat (first | (with_reducible first | exact HB.out | apply below_alloc | apply pw_below_drewN | apply below_drew1 | refine below_set ?_ GE132.out | refine below_set ?_ GE147.out | refine below_set ?_ GE154.out | refine below_set ?_ GE162.out | refine below_set ?_ GE190.out) | exact HB.out)⟩⟩
            ·replace c126 := Bool.eq_false_iff.mpr c126
             subst c126
             have H1 : (laws_FnExactDropPhrase.j2 kj60 t174 true t155 t156 t157 t175) = some r := by rw [if_neg (show ¬ (false = true) by decide)] at H; exact H
             clear H
             have H := H1
             clear H1
             have H' := Aside0.mk H
             clear H
             have hnb137 := NB190_132.out
             have hnc137 := NB132_190.out
             have hnb138 := NB190_147.out
             have hnc138 := NB147_190.out
             have hnb139 := NB190_154.out
             have hnc139 := NB154_190.out
             have hnb140 := NB190_162.out
             have hnc140 := NB162_190.out
             have hcz141_0 : w118.cell? ⟨gb190, 0, none⟩ = some (.int .i8 0) := (blk_cell BK190.out 0).trans rfl
             have hcz141_1 : w118.cell? ⟨gb190, 1, none⟩ = some (.int .i8 0) := (blk_cell BK190.out 1).trans rfl
             have hcz141_2 : w118.cell? ⟨gb190, 2, none⟩ = some (.int .i8 0) := (blk_cell BK190.out 2).trans rfl
             have hcz141_3 : w118.cell? ⟨gb190, 3, none⟩ = some (.slice none 0 0) := (blk_cell BK190.out 3).trans rfl
             have hfz141_0 := blk_frozen BK190.out 0
             have hfz141_1 := blk_frozen BK190.out 1
             have hfz141_2 := blk_frozen BK190.out 2
             have hfz141_3 := blk_frozen BK190.out 3
             have hnb142 := NB147_132.out
             have hnc142 := NB132_147.out
             have hnb143 := NB147_154.out
             have hnc143 := NB154_147.out
             have hnb144 := NB147_162.out
             have hnc144 := NB162_147.out
             have hcz145_0 : w118.cell? ⟨gb147, 0, none⟩ = some (.int .i8 t140) := (blk_cell BK147.out 0).trans rfl
             have hcz145_1 : w118.cell? ⟨gb147, 1, none⟩ = some (.int .i8 t141) := (blk_cell BK147.out 1).trans rfl
             have hcz145_2 : w118.cell? ⟨gb147, 2, none⟩ = some (.int .i8 t142) := (blk_cell BK147.out 2).trans rfl
             have hcz145_3 : w118.cell? ⟨gb147, 3, none⟩ = some (.slice Ao23 t143.length co23) := (blk_cell BK147.out 3).trans rfl
             have hfz145_0 := blk_frozen BK147.out 0
             have hfz145_1 := blk_frozen BK147.out 1
             have hfz145_2 := blk_frozen BK147.out 2
             have hfz145_3 := blk_frozen BK147.out 3
             go_wp2_with (first | ((with_reducible refine gate_callee (f := 16) rfl ?_); refine goesL_ (some 86) rfl rfl Try.func16 (by kernel_rfl) rfl #[.agg #[.int .i8 t183, .int .i8 t184, .int .i8 t185, .slice Ao124 t186.length co124], .agg #[.int .i8 t140, .int .i8 t141, .int .i8 t142, .slice Ao23 t143.length co23]] rfl (by (try simp only [List.map_toArray, List.map_cons, List.map_nil]); first | done | rfl | (simp only [List.length_drop, List.length_take]; rfl)) ?_; (with_reducible refine (laws_eqBook.calls kj60 t183 t184 t185 _ _ t186 t140 t141 t142 _ _ t143 false _ ?side1 ?side2 ?side3 ?side4 A125.out).mono ?_); (case side1 => refine (Kd.R_reads' (e := 9) (base := w.heap.size) (ok := fun k_ => ((((True ∧ some k_ ≠ (.slice Ao23 t143.length co23 : Value).ownBlock) ∧ some k_ ≠ (.slice Ao30 t172.length co30 : Value).ownBlock) ∧ some k_ ≠ (.slice Ao37 t158.length co37 : Value).ownBlock) ∧ some k_ ≠ (.slice Ao116 t180.length co116 : Value).ownBlock)) (n := t186.length) (c := co124) ?_).2.2; exact (by (with_reducible repeat (first | apply Kd.R_alloc | apply Kd.R_drewN | apply Kd.R_drew)); exact (Kd.R_mono (Kd.R_far (p := ⟨gb190, 3, none⟩) (Kd.R_far (p := ⟨gb190, 2, none⟩) (Kd.R_far (p := ⟨gb190, 1, none⟩) (Kd.R_far (p := ⟨gb190, 0, none⟩) (Kd.R_types HO188.out BK190.out (by decide)) (fun _ hk => hk.2) (.int .i8 t183)) (fun _ hk => hk.2) (.int .i8 t184)) (fun _ hk => hk.2) (.int .i8 t185)) (fun _ hk => hk.2) (.slice Ao124 t186.length co124)) (fun _ h_ => h_.1)))); (case side2 => exact (Kd.R_reads' HO188.out).2.1); (case side3 => refine (Kd.R_reads' (e := 9) (base := w.heap.size) (ok := fun k_ => (((some k_ ≠ (.slice Ao30 t172.length co30 : Value).ownBlock ∧ some k_ ≠ (.slice Ao37 t158.length co37 : Value).ownBlock) ∧ some k_ ≠ (.slice Ao116 t180.length co116 : Value).ownBlock) ∧ some k_ ≠ (.slice Ao124 t186.length co124 : Value).ownBlock)) (n := t143.length) (c := co23) ?_).2.2; exact (by (with_reducible repeat (first | apply Kd.R_alloc | apply Kd.R_drewN | apply Kd.R_drew)); exact (Kd.R_mono (Kd.R_far (p := ⟨gb190, 3, none⟩) (Kd.R_far (p := ⟨gb190, 2, none⟩) (Kd.R_far (p := ⟨gb190, 1, none⟩) (Kd.R_far (p := ⟨gb190, 0, none⟩) (Kd.R_types HO_148003.out BK190.out (by decide)) (fun _ hk => hk.2) (.int .i8 t183)) (fun _ hk => hk.2) (.int .i8 t184)) (fun _ hk => hk.2) (.int .i8 t185)) (fun _ hk => hk.2) (.slice Ao124 t186.length co124)) (fun _ h_ => h_.1)))); (case side4 => exact (Kd.R_reads' HO_148003.out).2.1); rintro e w146 ⟨rfl, hb⟩; refine ⟨_, rfl, ?_⟩; have n0_ := Aside0.mk (Kd.R_below (by (with_reducible repeat (first | apply Kd.R_alloc | apply Kd.R_drewN | apply Kd.R_drew)); exact (Kd.R_mono (Kd.R_far (p := ⟨gb190, 3, none⟩) (Kd.R_far (p := ⟨gb190, 2, none⟩) (Kd.R_far (p := ⟨gb190, 1, none⟩) (Kd.R_far (p := ⟨gb190, 0, none⟩) (Kd.R_types HO_148003.out BK190.out (by decide)) (fun _ hk => hk.2) (.int .i8 t183)) (fun _ hk => hk.2) (.int .i8 t184)) (fun _ hk => hk.2) (.int .i8 t185)) (fun _ hk => hk.2) (.slice Ao124 t186.length co124)) (fun _ h_ => h_.1))) hb); have n1_ := Aside0.mk (Kd.R_below (by (with_reducible repeat (first | apply Kd.R_alloc | apply Kd.R_drewN | apply Kd.R_drew)); exact (Kd.R_mono (Kd.R_far (p := ⟨gb190, 3, none⟩) (Kd.R_far (p := ⟨gb190, 2, none⟩) (Kd.R_far (p := ⟨gb190, 1, none⟩) (Kd.R_far (p := ⟨gb190, 0, none⟩) (Kd.R_types HO_155003.out BK190.out (by decide)) (fun _ hk => hk.2) (.int .i8 t183)) (fun _ hk => hk.2) (.int .i8 t184)) (fun _ hk => hk.2) (.int .i8 t185)) (fun _ hk => hk.2) (.slice Ao124 t186.length co124)) (fun _ h_ => h_.1))) hb); have n2_ := Aside0.mk (Kd.R_below (by (with_reducible repeat (first | apply Kd.R_alloc | apply Kd.R_drewN | apply Kd.R_drew)); exact (Kd.R_mono (Kd.R_far (p := ⟨gb190, 3, none⟩) (Kd.R_far (p := ⟨gb190, 2, none⟩) (Kd.R_far (p := ⟨gb190, 1, none⟩) (Kd.R_far (p := ⟨gb190, 0, none⟩) (Kd.R_types HO_163003.out BK190.out (by decide)) (fun _ hk => hk.2) (.int .i8 t183)) (fun _ hk => hk.2) (.int .i8 t184)) (fun _ hk => hk.2) (.int .i8 t185)) (fun _ hk => hk.2) (.slice Ao124 t186.length co124)) (fun _ h_ => h_.1))) hb); have n3_ := Aside0.mk (Kd.R_below (by (with_reducible repeat (first | apply Kd.R_alloc | apply Kd.R_drewN | apply Kd.R_drew)); exact (Kd.R_mono (Kd.R_far (p := ⟨gb190, 3, none⟩) (Kd.R_far (p := ⟨gb190, 2, none⟩) (Kd.R_far (p := ⟨gb190, 1, none⟩) (Kd.R_far (p := ⟨gb190, 0, none⟩) (Kd.R_types HO182.out BK190.out (by decide)) (fun _ hk => hk.2) (.int .i8 t183)) (fun _ hk => hk.2) (.int .i8 t184)) (fun _ hk => hk.2) (.int .i8 t185)) (fun _ hk => hk.2) (.slice Ao124 t186.length co124)) (fun _ h_ => h_.1))) hb); have n4_ := Aside0.mk (Kd.R_below (by (with_reducible repeat (first | apply Kd.R_alloc | apply Kd.R_drewN | apply Kd.R_drew)); exact (Kd.R_mono (Kd.R_far (p := ⟨gb190, 3, none⟩) (Kd.R_far (p := ⟨gb190, 2, none⟩) (Kd.R_far (p := ⟨gb190, 1, none⟩) (Kd.R_far (p := ⟨gb190, 0, none⟩) (Kd.R_types HO188.out BK190.out (by decide)) (fun _ hk => hk.2) (.int .i8 t183)) (fun _ hk => hk.2) (.int .i8 t184)) (fun _ hk => hk.2) (.int .i8 t185)) (fun _ hk => hk.2) (.slice Ao124 t186.length co124)) (fun _ h_ => h_.1))) hb); have n5_ := Aside0.mk (blk_below (g := gb132) (o := .cells #[.int .i8 a0_0, .int .i8 a0_1, .int .i8 a0_2, .slice A0_3 l0_3.length c0_3] 25 (0, 0)) (by (with_reducible repeat (first | refine blk_drewN ?_ _ | refine blk_drew ?_ | refine blk_alloc ?_ _)); refine blk_far ?_ NB132_190.out _; (with_reducible repeat (first | refine blk_drewN ?_ _ | refine blk_drew ?_ | refine blk_alloc ?_ _)); refine blk_far ?_ NB132_190.out _; (with_reducible repeat (first | refine blk_drewN ?_ _ | refine blk_drew ?_ | refine blk_alloc ?_ _)); refine blk_far ?_ NB132_190.out _; (with_reducible repeat (first | refine blk_drewN ?_ _ | refine blk_drew ?_ | refine blk_alloc ?_ _)); refine blk_far ?_ NB132_190.out _; (with_reducible repeat (first | refine blk_drewN ?_ _ | refine blk_drew ?_ | refine blk_alloc ?_ _)); exact BK132.out) hb); have n6_ := Aside0.mk (blk_below (g := gb147) (o := .cells #[.int .i8 t140, .int .i8 t141, .int .i8 t142, .slice Ao23 t143.length co23] 27 (0, 0)) (by (with_reducible repeat (first | refine blk_drewN ?_ _ | refine blk_drew ?_ | refine blk_alloc ?_ _)); refine blk_far ?_ NB147_190.out _; (with_reducible repeat (first | refine blk_drewN ?_ _ | refine blk_drew ?_ | refine blk_alloc ?_ _)); refine blk_far ?_ NB147_190.out _; (with_reducible repeat (first | refine blk_drewN ?_ _ | refine blk_drew ?_ | refine blk_alloc ?_ _)); refine blk_far ?_ NB147_190.out _; (with_reducible repeat (first | refine blk_drewN ?_ _ | refine blk_drew ?_ | refine blk_alloc ?_ _)); refine blk_far ?_ NB147_190.out _; (with_reducible repeat (first | refine blk_drewN ?_ _ | refine blk_drew ?_ | refine blk_alloc ?_ _)); exact BK147.out) hb); have n7_ := Aside0.mk (blk_below (g := gb154) (o := .cells #[.int .i8 t148, .int .i8 t149, .int .i8 t150, .slice Ao30 t172.length co30] 27 (0, 0)) (by (with_reducible repeat (first | refine blk_drewN ?_ _ | refine blk_drew ?_ | refine blk_alloc ?_ _)); refine blk_far ?_ NB154_190.out _; (with_reducible repeat (first | refine blk_drewN ?_ _ | refine blk_drew ?_ | refine blk_alloc ?_ _)); refine blk_far ?_ NB154_190.out _; (with_reducible repeat (first | refine blk_drewN ?_ _ | refine blk_drew ?_ | refine blk_alloc ?_ _)); refine blk_far ?_ NB154_190.out _; (with_reducible repeat (first | refine blk_drewN ?_ _ | refine blk_drew ?_ | refine blk_alloc ?_ _)); refine blk_far ?_ NB154_190.out _; (with_reducible repeat (first | refine blk_drewN ?_ _ | refine blk_drew ?_ | refine blk_alloc ?_ _)); exact BK154.out) hb); have n8_ := Aside0.mk (blk_below (g := gb162) (o := .cells #[.int .i8 t155, .int .i8 t156, .int .i8 t157, .slice Ao37 t158.length co37] 27 (0, 0)) (by (with_reducible repeat (first | refine blk_drewN ?_ _ | refine blk_drew ?_ | refine blk_alloc ?_ _)); refine blk_far ?_ NB162_190.out _; (with_reducible repeat (first | refine blk_drewN ?_ _ | refine blk_drew ?_ | refine blk_alloc ?_ _)); refine blk_far ?_ NB162_190.out _; (with_reducible repeat (first | refine blk_drewN ?_ _ | refine blk_drew ?_ | refine blk_alloc ?_ _)); refine blk_far ?_ NB162_190.out _; (with_reducible repeat (first | refine blk_drewN ?_ _ | refine blk_drew ?_ | refine blk_alloc ?_ _)); refine blk_far ?_ NB162_190.out _; (with_reducible repeat (first | refine blk_drewN ?_ _ | refine blk_drew ?_ | refine blk_alloc ?_ _)); exact BK162.out) hb); have n9_ := Aside0.mk (blk_below (g := gb190) (o := .cells #[.int .i8 t183, .int .i8 t184, .int .i8 t185, .slice Ao124 t186.length co124] 27 (0, 0)) (by (with_reducible repeat (first | refine blk_drewN ?_ _ | refine blk_drew ?_ | refine blk_alloc ?_ _)); refine blk_put (cs := #[.int .i8 t183, .int .i8 t184, .int .i8 t185, .slice none 0 0]) ?_ 3 _ rfl; (with_reducible repeat (first | refine blk_drewN ?_ _ | refine blk_drew ?_ | refine blk_alloc ?_ _)); refine blk_put (cs := #[.int .i8 t183, .int .i8 t184, .int .i8 0, .slice none 0 0]) ?_ 2 _ rfl; (with_reducible repeat (first | refine blk_drewN ?_ _ | refine blk_drew ?_ | refine blk_alloc ?_ _)); refine blk_put (cs := #[.int .i8 t183, .int .i8 0, .int .i8 0, .slice none 0 0]) ?_ 1 _ rfl; (with_reducible repeat (first | refine blk_drewN ?_ _ | refine blk_drew ?_ | refine blk_alloc ?_ _)); refine blk_put (cs := #[.int .i8 0, .int .i8 0, .int .i8 0, .slice none 0 0]) ?_ 0 _ rfl; (with_reducible repeat (first | refine blk_drewN ?_ _ | refine blk_drew ?_ | refine blk_alloc ?_ _)); exact BK190.out) hb); have n10_ := Aside0.mk (below_step (by repeat (first | (with_reducible first | exact HB.out | apply below_alloc | apply pw_below_drewN | apply below_drew1 | refine below_set ?_ GE132.out | refine below_set ?_ GE147.out | refine below_set ?_ GE154.out | refine below_set ?_ GE162.out | refine below_set ?_ GE190.out) | exact HB.out)) hb); clear HO_148003; clear HO_155003; clear HO_163003; clear HO182; clear HO188; clear BK132; clear BK147; clear BK154; clear BK162; clear BK190; clear HB; have HO_148003 := n0_; have HO_155003 := n1_; have HO_163003 := n2_; have HO182 := n3_; have HO188 := n4_; have BK132 := n5_; have BK147 := n6_; have BK154 := n7_; have BK162 := n8_; have BK190 := n9_; have HB := n10_; clear n0_ n1_ n2_ n3_ n4_ n5_ n6_ n7_ n8_ n9_ n10_; (try clear hb); (try clear hb2); (try clear hk); (try clear hi)))
             go_meet
             case rel => exact ⟨_, (true), (by first | rfl | (simp; done) | (simp [*]; done)), H', ⟨by have := HJ11.out; have := HJ60.out; first | omega | exact Nat.le_refl _⟩, ⟨by (try simp only [hl155003_60]); (with_reducible repeat (first | apply Kd.R_alloc | apply Kd.R_drewN | apply Kd.R_drew)); exact Kd.R_mono HO_148003.out (fun _ hk => ⟨hk.1.1.1, ⟨hk.1.1.2, hk.2⟩⟩)⟩, ⟨by (try simp only [hl155003_60]); (with_reducible repeat (first | apply Kd.R_alloc | apply Kd.R_drewN | apply Kd.R_drew)); exact Kd.R_mono HO_155003.out (fun _ hk => ⟨hk.1.1.1, ⟨hk.1.1.2, hk.2⟩⟩)⟩, ⟨by (try simp only [hl155003_60]); (with_reducible repeat (first | apply Kd.R_alloc | apply Kd.R_drewN | apply Kd.R_drew)); exact Kd.R_mono HO_163003.out (fun _ hk => ⟨hk.1.1.1, ⟨hk.1.1.2, hk.2⟩⟩)⟩, ⟨by (try simp only [hl155003_60]); (with_reducible repeat (first | apply Kd.R_alloc | apply Kd.R_drewN | apply Kd.R_drew)); exact Kd.R_mono HO188.out (fun _ hk => ⟨hk.1.1.1.2, ⟨hk.1.1.2, hk.1.2⟩⟩)⟩, ⟨by (try simp only [hl155003_60]); (with_reducible repeat (first | refine blk_drewN ?_ _ | refine blk_drew ?_ | refine blk_alloc ?_ _)); exact BK132.out⟩, ⟨by (try simp only [hl155003_60]); (with_reducible repeat (first | refine blk_drewN ?_ _ | refine blk_drew ?_ | refine blk_alloc ?_ _)); exact BK147.out⟩, ⟨by (try simp only [hl155003_60]); (with_reducible repeat (first | refine blk_drewN ?_ _ | refine blk_drew ?_ | refine blk_alloc ?_ _)); exact BK154.out⟩, ⟨by (try simp only [hl155003_60]); (with_reducible repeat (first | refine blk_drewN ?_ _ | refine blk_drew ?_ | refine blk_alloc ?_ _)); exact BK162.out⟩, ⟨by (try simp only [hl155003_60]); (with_reducible repeat (first | refine blk_drewN ?_ _ | refine blk_drew ?_ | refine blk_alloc ?_ _)); exact BK190.out⟩, ⟨by repeat (first | (with_reducible first | exact HB.out | apply below_alloc | apply pw_below_drewN | apply below_drew1 | refine below_set ?_ GE132.out | refine below_set ?_ GE147.out | refine below_set ?_ GE154.out | refine below_set ?_ GE162.out | refine below_set ?_ GE190.out) | exact HB.out)⟩⟩
           case rest =>
            clear HC104
            try clear c1
            try clear c2
            try clear p2
            try clear c3
            try clear c4
            try clear c4b0
            try clear c5
            try clear c6
            try clear c7
            try clear c8
            try clear c9
            try clear c10
            try clear c11
            try clear c12
            try clear c13
            try clear c14
            try clear c16
            try clear c17
            try clear c18
            try clear c19
            try clear c20
            try clear c21
            try clear c27
            try clear c28
            try clear c33
            try clear c34
            try clear c35
            try clear c39
            try clear c40
            try clear c41
            try clear c42
            try clear c44
            try clear c45
            try clear c48
            try clear c49
            try clear c50
            try clear c52
            try clear c53
            try clear c56
            try clear c59
            try clear c66
            try clear c67
            try clear c68
            try clear c71
            try clear c71b0
            try clear c73
            try clear c74
            try clear c75
            try clear c76
            try clear c78
            try clear c79
            try clear c82
            try clear c83
            try clear c84
            try clear c86
            try clear c87
            try clear c90
            try clear c93
            try clear c93b0
            try clear c94
            try clear c95
            try clear c96
            try clear c101
            try clear c101b0
            try clear c101b1
            try clear c105
            try clear c106
            try clear c107
            try clear c112
            try clear c113
            try clear c119
            try clear c120
            try clear c121
            try clear c122
            try clear c126
            try clear c127
            try clear c128
            try clear c129
            try clear c130
            try clear c132
            try clear c133
            try clear c134
            try clear c137
            try clear c138
            try clear c139
            try clear c140
            try clear c142
            try clear c143
            try clear c144
            try clear hcz108_0
            try clear hcz108_1
            try clear hcz108_2
            try clear hcz108_3
            try clear hcz110_0
            try clear hcz110_1
            try clear hcz110_2
            try clear hcz110_3
            try clear hcz114_0
            try clear hcz114_1
            try clear hcz114_2
            try clear hcz114_3
            try clear hcz123_0
            try clear hcz123_1
            try clear hcz123_2
            try clear hcz123_3
            try clear hcz131_0
            try clear hcz131_1
            try clear hcz131_2
            try clear hcz131_3
            try clear hcz135_0
            try clear hcz135_1
            try clear hcz135_2
            try clear hcz135_3
            try clear hcz141_0
            try clear hcz141_1
            try clear hcz141_2
            try clear hcz141_3
            try clear hcz145_0
            try clear hcz145_1
            try clear hcz145_2
            try clear hcz145_3
            try clear hcz14_0
            try clear hcz14_1
            try clear hcz14_2
            try clear hcz14_3
            try clear hcz16_0
            try clear hcz16_1
            try clear hcz16_2
            try clear hcz16_3
            try clear hcz22_0
            try clear hcz22_1
            try clear hcz22_2
            try clear hcz22_3
            try clear hcz24_0
            try clear hcz24_1
            try clear hcz24_2
            try clear hcz24_3
            try clear hcz29_0
            try clear hcz29_1
            try clear hcz29_2
            try clear hcz29_3
            try clear hcz36_0
            try clear hcz36_1
            try clear hcz36_2
            try clear hcz36_3
            try clear hcz43_0
            try clear hcz43_1
            try clear hcz43_2
            try clear hcz43_3
            try clear hcz46_0
            try clear hcz46_1
            try clear hcz46_2
            try clear hcz46_3
            try clear hcz51_0
            try clear hcz51_1
            try clear hcz51_2
            try clear hcz51_3
            try clear hcz54_0
            try clear hcz54_1
            try clear hcz54_2
            try clear hcz54_3
            try clear hcz69_0
            try clear hcz69_1
            try clear hcz69_2
            try clear hcz69_3
            try clear hcz6_0
            try clear hcz6_1
            try clear hcz6_2
            try clear hcz6_3
            try clear hcz77_0
            try clear hcz77_1
            try clear hcz77_2
            try clear hcz77_3
            try clear hcz80_0
            try clear hcz80_1
            try clear hcz80_2
            try clear hcz80_3
            try clear hcz85_0
            try clear hcz85_1
            try clear hcz85_2
            try clear hcz85_3
            try clear hcz88_0
            try clear hcz88_1
            try clear hcz88_2
            try clear hcz88_3
            try clear hcz97_0
            try clear hcz97_1
            try clear hcz97_2
            try clear hcz97_3
            try clear hcz99_0
            try clear hcz99_1
            try clear hcz99_2
            try clear hcz99_3
            try clear hfz108_0
            try clear hfz108_1
            try clear hfz108_2
            try clear hfz108_3
            try clear hfz110_0
            try clear hfz110_1
            try clear hfz110_2
            try clear hfz110_3
            try clear hfz114_0
            try clear hfz114_1
            try clear hfz114_2
            try clear hfz114_3
            try clear hfz123_0
            try clear hfz123_1
            try clear hfz123_2
            try clear hfz123_3
            try clear hfz131_0
            try clear hfz131_1
            try clear hfz131_2
            try clear hfz131_3
            try clear hfz135_0
            try clear hfz135_1
            try clear hfz135_2
            try clear hfz135_3
            try clear hfz141_0
            try clear hfz141_1
            try clear hfz141_2
            try clear hfz141_3
            try clear hfz145_0
            try clear hfz145_1
            try clear hfz145_2
            try clear hfz145_3
            try clear hfz14_0
            try clear hfz14_1
            try clear hfz14_2
            try clear hfz14_3
            try clear hfz16_0
            try clear hfz16_1
            try clear hfz16_2
            try clear hfz16_3
            try clear hfz22_0
            try clear hfz22_1
            try clear hfz22_2
            try clear hfz22_3
            try clear hfz24_0
            try clear hfz24_1
            try clear hfz24_2
            try clear hfz24_3
            try clear hfz29_0
            try clear hfz29_1
            try clear hfz29_2
            try clear hfz29_3
            try clear hfz36_0
            try clear hfz36_1
            try clear hfz36_2
            try clear hfz36_3
            try clear hfz43_0
            try clear hfz43_1
            try clear hfz43_2
            try clear hfz43_3
            try clear hfz46_0
            try clear hfz46_1
            try clear hfz46_2
            try clear hfz46_3
            try clear hfz51_0
            try clear hfz51_1
            try clear hfz51_2
            try clear hfz51_3
            try clear hfz54_0
            try clear hfz54_1
            try clear hfz54_2
            try clear hfz54_3
            try clear hfz69_0
            try clear hfz69_1
            try clear hfz69_2
            try clear hfz69_3
            try clear hfz6_0
            try clear hfz6_1
            try clear hfz6_2
            try clear hfz6_3
            try clear hfz77_0
            try clear hfz77_1
            try clear hfz77_2
            try clear hfz77_3
            try clear hfz80_0
            try clear hfz80_1
            try clear hfz80_2
            try clear hfz80_3
            try clear hfz85_0
            try clear hfz85_1
            try clear hfz85_2
            try clear hfz85_3
            try clear hfz88_0
            try clear hfz88_1
            try clear hfz88_2
            try clear hfz88_3
            try clear hfz97_0
            try clear hfz97_1
            try clear hfz97_2
            try clear hfz97_3
            try clear hfz99_0
            try clear hfz99_1
            try clear hfz99_2
            try clear hfz99_3
            try clear p2
            obtain ⟨kq, x92_103, rfl, HA, HJ103, HO_148003, HO_155003, HO_163003, HO_191003, BK132, BK147, BK154, BK162, BK190, HB⟩ := hcut
            have hl163003_103 := (Kd.R_reads' HO_163003.out).1
            rw [hl163003_103] at HO_163003
            (try simp only [hl163003_103])
            (try simp only [hl163003_103] at BK132)
            (try simp only [hl163003_103] at BK147)
            (try simp only [hl163003_103] at BK154)
            (try simp only [hl163003_103] at BK162)
            (try simp only [hl163003_103] at BK190)
            (try simp only [hl163003_103] at HO_148003)
            (try simp only [hl163003_103] at HO_155003)
            (try simp only [hl163003_103] at HO_191003)
            cases kq with
            | zero => exact absurd HA.out (by simp [laws_FnExactDropPhrase.j2])
            | succ kj103 =>
             have H := HA.out
             clear HA
             simp only [laws_FnExactDropPhrase.j2] at H
             by_cases c147 : x92_103 = true
             ·subst c147
              have H1 : (some false) = some r := by rw [if_pos rfl] at H; exact H
              clear H
              have H := H1
              clear H1
              obtain rfl := Option.some.inj H
              go_wp2
              go_ret
              exact ⟨by first | rfl | (simp [errW_none, errW_some] <;> rfl) | (simp [*, errW_none, errW_some] <;> rfl), by repeat (first | (with_reducible first | exact HB.out | apply below_alloc | apply pw_below_drewN | apply below_drew1 | refine below_set ?_ GE132.out | refine below_set ?_ GE147.out | refine below_set ?_ GE154.out | refine below_set ?_ GE162.out | refine below_set ?_ GE190.out) | exact HB.out)⟩
             ·replace c147 := Bool.eq_false_iff.mpr c147
              subst c147
              have H1 : ((laws_heldBook.f kj103 t155 t156 t157 t175 1).bind fun t192 => (if t192 < 0 then (some false) else (if t192 = t174 then (some true) else (some false)))) = some r := by rw [if_neg (show ¬ (false = true) by decide)] at H; exact H
              clear H
              have H := H1
              clear H1
              replace H := Option.bind_eq_some_iff.mp H
              obtain ⟨t192, A1480, H⟩ := H
              replace H : (if t192 < 0 then (some false) else (if t192 = t174 then (some true) else (some false))) = some r := H
              have A148 := Aside0.mk A1480
              clear A1480
              by_cases c149 : t192 < 0
              ·rw [if_pos c149] at H
               have c149b0 : decide (t192 < 0) = true := decide_eq_true c149
               clear c149
               obtain rfl := Option.some.inj H
               have hnb150 := NB162_132.out
               have hnc150 := NB132_162.out
               have hnb151 := NB162_147.out
               have hnc151 := NB147_162.out
               have hnb152 := NB162_154.out
               have hnc152 := NB154_162.out
               have hnb153 := NB162_190.out
               have hnc153 := NB190_162.out
               have hcz154_0 : wc.cell? ⟨gb162, 0, none⟩ = some (.int .i8 t155) := (blk_cell BK162.out 0).trans rfl
               have hcz154_1 : wc.cell? ⟨gb162, 1, none⟩ = some (.int .i8 t156) := (blk_cell BK162.out 1).trans rfl
               have hcz154_2 : wc.cell? ⟨gb162, 2, none⟩ = some (.int .i8 t157) := (blk_cell BK162.out 2).trans rfl
               have hcz154_3 : wc.cell? ⟨gb162, 3, none⟩ = some (.slice Ao37 t175.length co37) := (blk_cell BK162.out 3).trans rfl
               have hfz154_0 := blk_frozen BK162.out 0
               have hfz154_1 := blk_frozen BK162.out 1
               have hfz154_2 := blk_frozen BK162.out 2
               have hfz154_3 := blk_frozen BK162.out 3
               go_wp2_with (first | ((with_reducible refine gate_callee (f := 18) rfl ?_); refine goesL_ (some 95) rfl rfl Try.func18 (by kernel_rfl) rfl #[.agg #[.int .i8 t155, .int .i8 t156, .int .i8 t157, .slice Ao37 t175.length co37], .int .i64 1] rfl (by (try simp only [List.map_toArray, List.map_cons, List.map_nil]); first | done | rfl | (simp only [List.length_drop, List.length_take]; rfl)) ?_; (with_reducible refine (laws_heldBook.calls kj103 t155 t156 t157 _ _ t175 1 t192 _ ?side1 ?side2 A148.out).mono ?_); (case side1 => repeat (first | exact (Kd.R_reads' HO_163003.out).2.2 | (with_reducible refine Kd.C_alloc ?_ _) | (with_reducible refine Kd.C_drewN ?_ _) | (with_reducible refine Kd.C_drew ?_))); (case side2 => exact (Kd.R_reads' HO_163003.out).2.1); rintro e w155 ⟨rfl, hb⟩; refine ⟨_, rfl, ?_⟩; have n0_ := Aside0.mk (Kd.R_below (by (with_reducible repeat (first | apply Kd.R_alloc | apply Kd.R_drewN | apply Kd.R_drew)); exact HO_148003.out) hb); have n1_ := Aside0.mk (Kd.R_below (by (with_reducible repeat (first | apply Kd.R_alloc | apply Kd.R_drewN | apply Kd.R_drew)); exact HO_155003.out) hb); have n2_ := Aside0.mk (Kd.R_below (by (with_reducible repeat (first | apply Kd.R_alloc | apply Kd.R_drewN | apply Kd.R_drew)); exact HO_163003.out) hb); have n3_ := Aside0.mk (Kd.R_below (by (with_reducible repeat (first | apply Kd.R_alloc | apply Kd.R_drewN | apply Kd.R_drew)); exact HO_191003.out) hb); have n4_ := Aside0.mk (blk_below (g := gb132) (o := .cells #[.int .i8 a0_0, .int .i8 a0_1, .int .i8 a0_2, .slice A0_3 l0_3.length c0_3] 25 (0, 0)) (by (with_reducible repeat (first | refine blk_drewN ?_ _ | refine blk_drew ?_ | refine blk_alloc ?_ _)); exact BK132.out) hb); have n5_ := Aside0.mk (blk_below (g := gb147) (o := .cells #[.int .i8 t140, .int .i8 t141, .int .i8 t142, .slice Ao23 t143.length co23] 27 (0, 0)) (by (with_reducible repeat (first | refine blk_drewN ?_ _ | refine blk_drew ?_ | refine blk_alloc ?_ _)); exact BK147.out) hb); have n6_ := Aside0.mk (blk_below (g := gb154) (o := .cells #[.int .i8 t148, .int .i8 t149, .int .i8 t150, .slice Ao30 t172.length co30] 27 (0, 0)) (by (with_reducible repeat (first | refine blk_drewN ?_ _ | refine blk_drew ?_ | refine blk_alloc ?_ _)); exact BK154.out) hb); have n7_ := Aside0.mk (blk_below (g := gb162) (o := .cells #[.int .i8 t155, .int .i8 t156, .int .i8 t157, .slice Ao37 t175.length co37] 27 (0, 0)) (by (with_reducible repeat (first | refine blk_drewN ?_ _ | refine blk_drew ?_ | refine blk_alloc ?_ _)); exact BK162.out) hb); have n8_ := Aside0.mk (blk_below (g := gb190) (o := .cells #[.int .i8 t183, .int .i8 t184, .int .i8 t185, .slice Ao124 t186.length co124] 27 (0, 0)) (by (with_reducible repeat (first | refine blk_drewN ?_ _ | refine blk_drew ?_ | refine blk_alloc ?_ _)); exact BK190.out) hb); have n9_ := Aside0.mk (below_step (by repeat (first | (with_reducible first | exact HB.out | apply below_alloc | apply pw_below_drewN | apply below_drew1 | refine below_set ?_ GE132.out | refine below_set ?_ GE147.out | refine below_set ?_ GE154.out | refine below_set ?_ GE162.out | refine below_set ?_ GE190.out) | exact HB.out)) hb); clear HO_148003; clear HO_155003; clear HO_163003; clear HO_191003; clear BK132; clear BK147; clear BK154; clear BK162; clear BK190; clear HB; have HO_148003 := n0_; have HO_155003 := n1_; have HO_163003 := n2_; have HO_191003 := n3_; have BK132 := n4_; have BK147 := n5_; have BK154 := n6_; have BK162 := n7_; have BK190 := n8_; have HB := n9_; clear n0_ n1_ n2_ n3_ n4_ n5_ n6_ n7_ n8_ n9_; (try clear hb); (try clear hb2); (try clear hk); (try clear hi)))
               go_ret
               exact ⟨by first | rfl | (simp [errW_none, errW_some] <;> rfl) | (simp [*, errW_none, errW_some] <;> rfl), by repeat (first | (with_reducible first | exact HB.out | apply below_alloc | apply pw_below_drewN | apply below_drew1 | refine below_set ?_ GE132.out | refine below_set ?_ GE147.out | refine below_set ?_ GE154.out | refine below_set ?_ GE162.out | refine below_set ?_ GE190.out) | exact HB.out)⟩
              ·rw [if_neg c149] at H
               have c149b0 : decide (t192 < 0) = false := decide_eq_false c149
               clear c149
               by_cases c156 : t192 = t174
               ·rw [if_pos c156] at H
                have c156b0 : (t192 == t174) = true := beq_iff_eq.mpr c156
                have c156b1 : (t192 != t174) = false := bne_eq_false_iff_eq.mpr c156
                clear c156
                obtain rfl := Option.some.inj H
                have hnb157 := NB162_132.out
                have hnc157 := NB132_162.out
                have hnb158 := NB162_147.out
                have hnc158 := NB147_162.out
                have hnb159 := NB162_154.out
                have hnc159 := NB154_162.out
                have hnb160 := NB162_190.out
                have hnc160 := NB190_162.out
                have hcz161_0 : wc.cell? ⟨gb162, 0, none⟩ = some (.int .i8 t155) := (blk_cell BK162.out 0).trans rfl
                have hcz161_1 : wc.cell? ⟨gb162, 1, none⟩ = some (.int .i8 t156) := (blk_cell BK162.out 1).trans rfl
                have hcz161_2 : wc.cell? ⟨gb162, 2, none⟩ = some (.int .i8 t157) := (blk_cell BK162.out 2).trans rfl
                have hcz161_3 : wc.cell? ⟨gb162, 3, none⟩ = some (.slice Ao37 t175.length co37) := (blk_cell BK162.out 3).trans rfl
                have hfz161_0 := blk_frozen BK162.out 0
                have hfz161_1 := blk_frozen BK162.out 1
                have hfz161_2 := blk_frozen BK162.out 2
                have hfz161_3 := blk_frozen BK162.out 3
                go_wp2_with (first | ((with_reducible refine gate_callee (f := 18) rfl ?_); refine goesL_ (some 95) rfl rfl Try.func18 (by kernel_rfl) rfl #[.agg #[.int .i8 t155, .int .i8 t156, .int .i8 t157, .slice Ao37 t175.length co37], .int .i64 1] rfl (by (try simp only [List.map_toArray, List.map_cons, List.map_nil]); first | done | rfl | (simp only [List.length_drop, List.length_take]; rfl)) ?_; (with_reducible refine (laws_heldBook.calls kj103 t155 t156 t157 _ _ t175 1 t192 _ ?side1 ?side2 A148.out).mono ?_); (case side1 => repeat (first | exact (Kd.R_reads' HO_163003.out).2.2 | (with_reducible refine Kd.C_alloc ?_ _) | (with_reducible refine Kd.C_drewN ?_ _) | (with_reducible refine Kd.C_drew ?_))); (case side2 => exact (Kd.R_reads' HO_163003.out).2.1); rintro e w162 ⟨rfl, hb⟩; refine ⟨_, rfl, ?_⟩; have n0_ := Aside0.mk (Kd.R_below (by (with_reducible repeat (first | apply Kd.R_alloc | apply Kd.R_drewN | apply Kd.R_drew)); exact HO_148003.out) hb); have n1_ := Aside0.mk (Kd.R_below (by (with_reducible repeat (first | apply Kd.R_alloc | apply Kd.R_drewN | apply Kd.R_drew)); exact HO_155003.out) hb); have n2_ := Aside0.mk (Kd.R_below (by (with_reducible repeat (first | apply Kd.R_alloc | apply Kd.R_drewN | apply Kd.R_drew)); exact HO_163003.out) hb); have n3_ := Aside0.mk (Kd.R_below (by (with_reducible repeat (first | apply Kd.R_alloc | apply Kd.R_drewN | apply Kd.R_drew)); exact HO_191003.out) hb); have n4_ := Aside0.mk (blk_below (g := gb132) (o := .cells #[.int .i8 a0_0, .int .i8 a0_1, .int .i8 a0_2, .slice A0_3 l0_3.length c0_3] 25 (0, 0)) (by (with_reducible repeat (first | refine blk_drewN ?_ _ | refine blk_drew ?_ | refine blk_alloc ?_ _)); exact BK132.out) hb); have n5_ := Aside0.mk (blk_below (g := gb147) (o := .cells #[.int .i8 t140, .int .i8 t141, .int .i8 t142, .slice Ao23 t143.length co23] 27 (0, 0)) (by (with_reducible repeat (first | refine blk_drewN ?_ _ | refine blk_drew ?_ | refine blk_alloc ?_ _)); exact BK147.out) hb); have n6_ := Aside0.mk (blk_below (g := gb154) (o := .cells #[.int .i8 t148, .int .i8 t149, .int .i8 t150, .slice Ao30 t172.length co30] 27 (0, 0)) (by (with_reducible repeat (first | refine blk_drewN ?_ _ | refine blk_drew ?_ | refine blk_alloc ?_ _)); exact BK154.out) hb); have n7_ := Aside0.mk (blk_below (g := gb162) (o := .cells #[.int .i8 t155, .int .i8 t156, .int .i8 t157, .slice Ao37 t175.length co37] 27 (0, 0)) (by (with_reducible repeat (first | refine blk_drewN ?_ _ | refine blk_drew ?_ | refine blk_alloc ?_ _)); exact BK162.out) hb); have n8_ := Aside0.mk (blk_below (g := gb190) (o := .cells #[.int .i8 t183, .int .i8 t184, .int .i8 t185, .slice Ao124 t186.length co124] 27 (0, 0)) (by (with_reducible repeat (first | refine blk_drewN ?_ _ | refine blk_drew ?_ | refine blk_alloc ?_ _)); exact BK190.out) hb); have n9_ := Aside0.mk (below_step (by repeat (first | (with_reducible first | exact HB.out | apply below_alloc | apply pw_below_drewN | apply below_drew1 | refine below_set ?_ GE132.out | refine below_set ?_ GE147.out | refine below_set ?_ GE154.out | refine below_set ?_ GE162.out | refine below_set ?_ GE190.out) | exact HB.out)) hb); clear HO_148003; clear HO_155003; clear HO_163003; clear HO_191003; clear BK132; clear BK147; clear BK154; clear BK162; clear BK190; clear HB; have HO_148003 := n0_; have HO_155003 := n1_; have HO_163003 := n2_; have HO_191003 := n3_; have BK132 := n4_; have BK147 := n5_; have BK154 := n6_; have BK162 := n7_; have BK190 := n8_; have HB := n9_; clear n0_ n1_ n2_ n3_ n4_ n5_ n6_ n7_ n8_ n9_; (try clear hb); (try clear hb2); (try clear hk); (try clear hi)))
                go_ret
                exact ⟨by first | rfl | (simp [errW_none, errW_some] <;> rfl) | (simp [*, errW_none, errW_some] <;> rfl), by repeat (first | (with_reducible first | exact HB.out | apply below_alloc | apply pw_below_drewN | apply below_drew1 | refine below_set ?_ GE132.out | refine below_set ?_ GE147.out | refine below_set ?_ GE154.out | refine below_set ?_ GE162.out | refine below_set ?_ GE190.out) | exact HB.out)⟩
               ·rw [if_neg c156] at H
                have c156b0 : (t192 == t174) = false := beq_eq_false_iff_ne.mpr c156
                have c156b1 : (t192 != t174) = true := bne_iff_ne.mpr c156
                obtain rfl := Option.some.inj H
                have hnb163 := NB162_132.out
                have hnc163 := NB132_162.out
                have hnb164 := NB162_147.out
                have hnc164 := NB147_162.out
                have hnb165 := NB162_154.out
                have hnc165 := NB154_162.out
                have hnb166 := NB162_190.out
                have hnc166 := NB190_162.out
                have hcz167_0 : wc.cell? ⟨gb162, 0, none⟩ = some (.int .i8 t155) := (blk_cell BK162.out 0).trans rfl
                have hcz167_1 : wc.cell? ⟨gb162, 1, none⟩ = some (.int .i8 t156) := (blk_cell BK162.out 1).trans rfl
                have hcz167_2 : wc.cell? ⟨gb162, 2, none⟩ = some (.int .i8 t157) := (blk_cell BK162.out 2).trans rfl
                have hcz167_3 : wc.cell? ⟨gb162, 3, none⟩ = some (.slice Ao37 t175.length co37) := (blk_cell BK162.out 3).trans rfl
                have hfz167_0 := blk_frozen BK162.out 0
                have hfz167_1 := blk_frozen BK162.out 1
                have hfz167_2 := blk_frozen BK162.out 2
                have hfz167_3 := blk_frozen BK162.out 3
                go_wp2_with (first | ((with_reducible refine gate_callee (f := 18) rfl ?_); refine goesL_ (some 95) rfl rfl Try.func18 (by kernel_rfl) rfl #[.agg #[.int .i8 t155, .int .i8 t156, .int .i8 t157, .slice Ao37 t175.length co37], .int .i64 1] rfl (by (try simp only [List.map_toArray, List.map_cons, List.map_nil]); first | done | rfl | (simp only [List.length_drop, List.length_take]; rfl)) ?_; (with_reducible refine (laws_heldBook.calls kj103 t155 t156 t157 _ _ t175 1 t192 _ ?side1 ?side2 A148.out).mono ?_); (case side1 => repeat (first | exact (Kd.R_reads' HO_163003.out).2.2 | (with_reducible refine Kd.C_alloc ?_ _) | (with_reducible refine Kd.C_drewN ?_ _) | (with_reducible refine Kd.C_drew ?_))); (case side2 => exact (Kd.R_reads' HO_163003.out).2.1); rintro e w168 ⟨rfl, hb⟩; refine ⟨_, rfl, ?_⟩; have n0_ := Aside0.mk (Kd.R_below (by (with_reducible repeat (first | apply Kd.R_alloc | apply Kd.R_drewN | apply Kd.R_drew)); exact HO_148003.out) hb); have n1_ := Aside0.mk (Kd.R_below (by (with_reducible repeat (first | apply Kd.R_alloc | apply Kd.R_drewN | apply Kd.R_drew)); exact HO_155003.out) hb); have n2_ := Aside0.mk (Kd.R_below (by (with_reducible repeat (first | apply Kd.R_alloc | apply Kd.R_drewN | apply Kd.R_drew)); exact HO_163003.out) hb); have n3_ := Aside0.mk (Kd.R_below (by (with_reducible repeat (first | apply Kd.R_alloc | apply Kd.R_drewN | apply Kd.R_drew)); exact HO_191003.out) hb); have n4_ := Aside0.mk (blk_below (g := gb132) (o := .cells #[.int .i8 a0_0, .int .i8 a0_1, .int .i8 a0_2, .slice A0_3 l0_3.length c0_3] 25 (0, 0)) (by (with_reducible repeat (first | refine blk_drewN ?_ _ | refine blk_drew ?_ | refine blk_alloc ?_ _)); exact BK132.out) hb); have n5_ := Aside0.mk (blk_below (g := gb147) (o := .cells #[.int .i8 t140, .int .i8 t141, .int .i8 t142, .slice Ao23 t143.length co23] 27 (0, 0)) (by (with_reducible repeat (first | refine blk_drewN ?_ _ | refine blk_drew ?_ | refine blk_alloc ?_ _)); exact BK147.out) hb); have n6_ := Aside0.mk (blk_below (g := gb154) (o := .cells #[.int .i8 t148, .int .i8 t149, .int .i8 t150, .slice Ao30 t172.length co30] 27 (0, 0)) (by (with_reducible repeat (first | refine blk_drewN ?_ _ | refine blk_drew ?_ | refine blk_alloc ?_ _)); exact BK154.out) hb); have n7_ := Aside0.mk (blk_below (g := gb162) (o := .cells #[.int .i8 t155, .int .i8 t156, .int .i8 t157, .slice Ao37 t175.length co37] 27 (0, 0)) (by (with_reducible repeat (first | refine blk_drewN ?_ _ | refine blk_drew ?_ | refine blk_alloc ?_ _)); exact BK162.out) hb); have n8_ := Aside0.mk (blk_below (g := gb190) (o := .cells #[.int .i8 t183, .int .i8 t184, .int .i8 t185, .slice Ao124 t186.length co124] 27 (0, 0)) (by (with_reducible repeat (first | refine blk_drewN ?_ _ | refine blk_drew ?_ | refine blk_alloc ?_ _)); exact BK190.out) hb); have n9_ := Aside0.mk (below_step (by repeat (first | (with_reducible first | exact HB.out | apply below_alloc | apply pw_below_drewN | apply below_drew1 | refine below_set ?_ GE132.out | refine below_set ?_ GE147.out | refine below_set ?_ GE154.out | refine below_set ?_ GE162.out | refine below_set ?_ GE190.out) | exact HB.out)) hb); clear HO_148003; clear HO_155003; clear HO_163003; clear HO_191003; clear BK132; clear BK147; clear BK154; clear BK162; clear BK190; clear HB; have HO_148003 := n0_; have HO_155003 := n1_; have HO_163003 := n2_; have HO_191003 := n3_; have BK132 := n4_; have BK147 := n5_; have BK154 := n6_; have BK162 := n7_; have BK190 := n8_; have HB := n9_; clear n0_ n1_ n2_ n3_ n4_ n5_ n6_ n7_ n8_ n9_; (try clear hb); (try clear hb2); (try clear hk); (try clear hi)))
                go_ret
                exact ⟨by first | rfl | (simp [errW_none, errW_some] <;> rfl) | (simp [*, errW_none, errW_some] <;> rfl), by repeat (first | (with_reducible first | exact HB.out | apply below_alloc | apply pw_below_drewN | apply below_drew1 | refine below_set ?_ GE132.out | refine below_set ?_ GE147.out | refine below_set ?_ GE154.out | refine below_set ?_ GE162.out | refine below_set ?_ GE190.out) | exact HB.out)⟩
          ·rw [if_neg c101] at H
           have c101b0 : (t176 == t174) = false := beq_eq_false_iff_ne.mpr c101
           have c101b1 : (t176 != t174) = true := bne_iff_ne.mpr c101
           obtain rfl := Option.some.inj H
           have hnb169 := NB162_132.out
           have hnc169 := NB132_162.out
           have hnb170 := NB162_147.out
           have hnc170 := NB147_162.out
           have hnb171 := NB162_154.out
           have hnc171 := NB154_162.out
           have hcz172_0 : wc.cell? ⟨gb162, 0, none⟩ = some (.int .i8 t155) := (blk_cell BK162.out 0).trans rfl
           have hcz172_1 : wc.cell? ⟨gb162, 1, none⟩ = some (.int .i8 t156) := (blk_cell BK162.out 1).trans rfl
           have hcz172_2 : wc.cell? ⟨gb162, 2, none⟩ = some (.int .i8 t157) := (blk_cell BK162.out 2).trans rfl
           have hcz172_3 : wc.cell? ⟨gb162, 3, none⟩ = some (.slice Ao37 t158.length co37) := (blk_cell BK162.out 3).trans rfl
           have hfz172_0 := blk_frozen BK162.out 0
           have hfz172_1 := blk_frozen BK162.out 1
           have hfz172_2 := blk_frozen BK162.out 2
           have hfz172_3 := blk_frozen BK162.out 3
           go_wp2_with (first | ((with_reducible refine gate_callee (f := 17) rfl ?_); refine goesL_ (some 68) rfl rfl Try.func17 (by kernel_rfl) rfl #[.agg #[.int .i8 t155, .int .i8 t156, .int .i8 t157, .slice Ao37 t158.length co37], .int .i64 1] rfl (by (try simp only [List.map_toArray, List.map_cons, List.map_nil]); first | done | rfl | (simp only [List.length_drop, List.length_take]; rfl)) ?_; (with_reducible refine (laws_markBook.calls kj60 t155 t156 t157 (fun k_ => some k_ = (.slice Ao37 t158.length co37 : Value).ownBlock) (.slice Ao37 t158.length co37) t158 1 t174 t175 w _ ?side1 ?side2 A91.out).mono ?_); (case side1 => repeat (first | (with_reducible first | exact HB.out | apply below_alloc | apply pw_below_drewN | apply below_drew1 | refine below_set ?_ GE132.out | refine below_set ?_ GE147.out | refine below_set ?_ GE154.out | refine below_set ?_ GE162.out) | exact HB.out)); (case side2 => exact Kd.R_tight rfl HO_163003.out); rintro e w173 ⟨rfl, hy0, hb, hkp⟩; refine ⟨_, rfl, ?_⟩; have n0_ := Aside0.mk (Kd.R_mono (ok' := fun k_ => some k_ ≠ (.slice Ao30 t172.length co30 : Value).ownBlock ∧ some k_ ≠ (.slice Ao37 t158.length co37 : Value).ownBlock) (Kd.R_keptB (HO_148003.out) hkp (fun k_ hk_ hs_ => (hk_.2) hs_)) (fun k_ hk_ => ⟨hk_.1.1, hk_.1.2⟩)); have n1_ := Aside0.mk (Kd.R_mono (ok' := fun k_ => some k_ ≠ (.slice Ao23 t143.length co23 : Value).ownBlock ∧ some k_ ≠ (.slice Ao37 t158.length co37 : Value).ownBlock) (Kd.R_keptB (HO_155003.out) hkp (fun k_ hk_ hs_ => (hk_.2) hs_)) (fun k_ hk_ => ⟨hk_.1.1, hk_.1.2⟩)); have n2_ := Aside0.mk (Kd.R_reok rfl hy0 (fun k_ e_ => HO_163003.out.1 k_ e_)); have n3_ := Aside0.mk (blk_kept (by (with_reducible repeat (first | refine blk_drewN ?_ _ | refine blk_drew ?_ | refine blk_alloc ?_ _)); exact BK132.out) hkp (fun hs_ => (fun e_ => (Kd.R_ne HO_163003.out BK132.out (by decide)) e_) hs_)); have n4_ := Aside0.mk (blk_kept (by (with_reducible repeat (first | refine blk_drewN ?_ _ | refine blk_drew ?_ | refine blk_alloc ?_ _)); exact BK147.out) hkp (fun hs_ => (fun e_ => (Kd.R_ne HO_163003.out BK147.out (by decide)) e_) hs_)); have n5_ := Aside0.mk (blk_kept (by (with_reducible repeat (first | refine blk_drewN ?_ _ | refine blk_drew ?_ | refine blk_alloc ?_ _)); exact BK154.out) hkp (fun hs_ => (fun e_ => (Kd.R_ne HO_163003.out BK154.out (by decide)) e_) hs_)); have n6_ := Aside0.mk (blk_kept (by (with_reducible repeat (first | refine blk_drewN ?_ _ | refine blk_drew ?_ | refine blk_alloc ?_ _)); exact BK162.out) hkp (fun hs_ => (fun e_ => (Kd.R_ne HO_163003.out BK162.out (by decide)) e_) hs_)); have n7_ := Aside0.mk (hb); clear HO_148003; clear HO_155003; clear HO_163003; clear BK132; clear BK147; clear BK154; clear BK162; clear HB; have HO_148003 := n0_; have HO_155003 := n1_; have HO_163003 := n2_; have BK132 := n3_; have BK147 := n4_; have BK154 := n5_; have BK162 := n6_; have HB := n7_; clear n0_ n1_ n2_ n3_ n4_ n5_ n6_ n7_; (try clear hb); (try clear hkp); (try clear hy0); have hcz174_0 : w173.cell? ⟨gb162, 0, none⟩ = some (.int .i8 t155) := (blk_cell BK162.out 0).trans rfl; have hcz174_1 : w173.cell? ⟨gb162, 1, none⟩ = some (.int .i8 t156) := (blk_cell BK162.out 1).trans rfl; have hcz174_2 : w173.cell? ⟨gb162, 2, none⟩ = some (.int .i8 t157) := (blk_cell BK162.out 2).trans rfl; have hcz174_3 : w173.cell? ⟨gb162, 3, none⟩ = some (.slice Ao37 t158.length co37) := (blk_cell BK162.out 3).trans rfl; have hfz174_0 := blk_frozen BK162.out 0; have hfz174_1 := blk_frozen BK162.out 1; have hfz174_2 := blk_frozen BK162.out 2; have hfz174_3 := blk_frozen BK162.out 3) | ((with_reducible refine gate_callee (f := 18) rfl ?_); refine goesL_ (some 71) rfl rfl Try.func18 (by kernel_rfl) rfl #[.agg #[.int .i8 t155, .int .i8 t156, .int .i8 t157, .slice Ao37 t175.length co37], .int .i64 1] rfl (by (try simp only [List.map_toArray, List.map_cons, List.map_nil]); first | done | (rw [show t175.length = t158.length from (Kd.R_reads' HO_163003.out).1.symm] <;> rfl) | rfl | (simp only [List.length_drop, List.length_take]; rfl)) ?_; (with_reducible refine (laws_heldBook.calls kj60 t155 t156 t157 _ _ t175 1 t176 _ ?side1 ?side2 A92.out).mono ?_); (case side1 => repeat (first | exact (Kd.R_reads' HO_163003.out).2.2 | (with_reducible refine Kd.C_alloc ?_ _) | (with_reducible refine Kd.C_drewN ?_ _) | (with_reducible refine Kd.C_drew ?_))); (case side2 => rw [show t175.length = t158.length from (Kd.R_reads' HO_163003.out).1.symm]; exact (Kd.R_reads' HO_163003.out).2.1); rintro e w175 ⟨rfl, hb⟩; refine ⟨_, rfl, ?_⟩; have n0_ := Aside0.mk (Kd.R_below (by (with_reducible repeat (first | apply Kd.R_alloc | apply Kd.R_drewN | apply Kd.R_drew)); exact HO_148003.out) hb); have n1_ := Aside0.mk (Kd.R_below (by (with_reducible repeat (first | apply Kd.R_alloc | apply Kd.R_drewN | apply Kd.R_drew)); exact HO_155003.out) hb); have n2_ := Aside0.mk (Kd.R_below (by (with_reducible repeat (first | apply Kd.R_alloc | apply Kd.R_drewN | apply Kd.R_drew)); exact HO_163003.out) hb); have n3_ := Aside0.mk (blk_below (g := gb132) (o := .cells #[.int .i8 a0_0, .int .i8 a0_1, .int .i8 a0_2, .slice A0_3 l0_3.length c0_3] 25 (0, 0)) (by (with_reducible repeat (first | refine blk_drewN ?_ _ | refine blk_drew ?_ | refine blk_alloc ?_ _)); exact BK132.out) hb); have n4_ := Aside0.mk (blk_below (g := gb147) (o := .cells #[.int .i8 t140, .int .i8 t141, .int .i8 t142, .slice Ao23 t143.length co23] 27 (0, 0)) (by (with_reducible repeat (first | refine blk_drewN ?_ _ | refine blk_drew ?_ | refine blk_alloc ?_ _)); exact BK147.out) hb); have n5_ := Aside0.mk (blk_below (g := gb154) (o := .cells #[.int .i8 t148, .int .i8 t149, .int .i8 t150, .slice Ao30 t172.length co30] 27 (0, 0)) (by (with_reducible repeat (first | refine blk_drewN ?_ _ | refine blk_drew ?_ | refine blk_alloc ?_ _)); exact BK154.out) hb); have n6_ := Aside0.mk (blk_below (g := gb162) (o := .cells #[.int .i8 t155, .int .i8 t156, .int .i8 t157, .slice Ao37 t158.length co37] 27 (0, 0)) (by (with_reducible repeat (first | refine blk_drewN ?_ _ | refine blk_drew ?_ | refine blk_alloc ?_ _)); exact BK162.out) hb); have n7_ := Aside0.mk (below_step (by repeat (first | (with_reducible first | exact HB.out | apply below_alloc | apply pw_below_drewN | apply below_drew1 | refine below_set ?_ GE132.out | refine below_set ?_ GE147.out | refine below_set ?_ GE154.out | refine below_set ?_ GE162.out) | exact HB.out)) hb); clear HO_148003; clear HO_155003; clear HO_163003; clear BK132; clear BK147; clear BK154; clear BK162; clear HB; have HO_148003 := n0_; have HO_155003 := n1_; have HO_163003 := n2_; have BK132 := n3_; have BK147 := n4_; have BK154 := n5_; have BK162 := n6_; have HB := n7_; clear n0_ n1_ n2_ n3_ n4_ n5_ n6_ n7_; (try clear hb); (try clear hb2); (try clear hk); (try clear hi)))
           go_ret
           exact ⟨by first | rfl | (simp [errW_none, errW_some] <;> rfl) | (simp [*, errW_none, errW_some] <;> rfl), by repeat (first | (with_reducible first | exact HB.out | apply below_alloc | apply pw_below_drewN | apply below_drew1 | refine below_set ?_ GE132.out | refine below_set ?_ GE147.out | refine below_set ?_ GE154.out | refine below_set ?_ GE162.out) | exact HB.out)⟩
     ·replace c59 := Bool.eq_false_iff.mpr c59
      subst c59
      have H1 : (some false) = some r := by rw [if_neg (show ¬ (false = true) by decide)] at H; exact H
      clear H
      have H := H1
      clear H1
      obtain rfl := Option.some.inj H
      try go_wp2
      have n0_ := Aside0.mk (Kd.R_drew HO_148003.out)
      have n1_ := Aside0.mk (Kd.R_drew HO_155003.out)
      have n2_ := Aside0.mk (Kd.R_drew HO_163003.out)
      have n3_ := Aside0.mk (blk_drew BK132.out)
      have n4_ := Aside0.mk (blk_drew BK147.out)
      have n5_ := Aside0.mk (blk_drew BK154.out)
      have n6_ := Aside0.mk (blk_drew BK162.out)
      have n7_ := Aside0.mk (below_drew1 HB.out)
      clear HO_148003
      clear HO_155003
      clear HO_163003
      clear BK132
      clear BK147
      clear BK154
      clear BK162
      clear HB
      have HO_148003 := n0_
      have HO_155003 := n1_
      have HO_163003 := n2_
      have BK132 := n3_
      have BK147 := n4_
      have BK154 := n5_
      have BK162 := n6_
      have HB := n7_
      clear n0_ n1_ n2_ n3_ n4_ n5_ n6_ n7_
      refine start_ (n := 5) (S := fun w' => w'.cell? ⟨gb154, 0, none⟩ = some (.int .i8 t148) ∧ w'.cell? ⟨gb154, 1, none⟩ = some (.int .i8 t149) ∧ w'.cell? ⟨gb154, 2, none⟩ = some (.int .i8 t150) ∧ w'.cell? ⟨gb154, 3, none⟩ = some (.slice Ao30 t151.length co30) ∧ w'.cell? ⟨gb132, 0, none⟩ = some (.int .i8 a0_0) ∧ w'.cell? ⟨gb132, 1, none⟩ = some (.int .i8 a0_1) ∧ w'.cell? ⟨gb132, 2, none⟩ = some (.int .i8 a0_2) ∧ w'.cell? ⟨gb132, 3, none⟩ = some (.slice A0_3 l0_3.length c0_3)) (ds := []) #[false, false, false, false, false] (by kernel_rfl) rfl rfl ⟨(blk_cell BK154.out 0).trans rfl, (blk_cell BK154.out 1).trans rfl, (blk_cell BK154.out 2).trans rfl, (blk_cell BK154.out 3).trans rfl, (blk_cell BK132.out 0).trans rfl, (blk_cell BK132.out 1).trans rfl, (blk_cell BK132.out 2).trans rfl, (blk_cell BK132.out 3).trans rfl⟩ (fun hHeld => ?_)
      generalize wc.drew = w176 at HO_148003 HO_155003 HO_163003 BK132 BK147 BK154 BK162 HB hHeld ⊢
      refine take_ (i := 0) (N := some 45) (v := ?_) (a' := ?_) #[true, false, false, false, false] rfl rfl (by kernel_rfl) (fun _ _ _ h => h) (Or.inl ⟨by rfl, ?_⟩) hHeld ?_ ?_
      rotate_left
      ·rintro w' ⟨s0, s1, s2, s3, s4, s5, s6, s7⟩
       go_simp
       with_reducible rfl
      rotate_left
      ·simp only [Act.put, List.setIfInBounds_toArray, List.set_cons_zero, List.set_cons_succ, i64_w, i32_w]
       rfl
      refine take_ (i := 1) (N := some 46) (v := ?_) (a' := ?_) #[true, true, false, false, false] rfl rfl (by kernel_rfl) (fun _ _ _ h => h) (Or.inl ⟨by rfl, ?_⟩) hHeld ?_ ?_
      rotate_left
      ·rintro w' ⟨s0, s1, s2, s3, s4, s5, s6, s7⟩
       go_simp
       with_reducible rfl
      rotate_left
      ·simp only [Act.put, List.setIfInBounds_toArray, List.set_cons_zero, List.set_cons_succ, i64_w, i32_w]
       rfl
      refine one_ (i := 2) (N := some 47) #[true, true, true, false, false] rfl rfl (by kernel_rfl) (by decide) (fun K hK => ?_)
      refine goes_ Try.func14 (by kernel_rfl) rfl #[.agg #[.int .i8 a0_0, .int .i8 a0_1, .int .i8 a0_2, .slice A0_3 l0_3.length c0_3]] (by rfl) rfl rfl (by (try simp only [List.map_toArray, List.map_cons, List.map_nil]); first | done | rfl | (simp only [List.length_drop, List.length_take]; rfl)) ?_
      with_reducible refine (laws_toBook.calls kj11 a0_0 a0_1 a0_2 _ _ l0_3 t164 t165 t166 t167 _ ?side1 ?side2 A57.out).mono ?_
      (case side1 => repeat (first | exact (Kd.C_below HR0_3.out HB.out) | (with_reducible refine Kd.C_alloc ?_ _) | (with_reducible refine Kd.C_drewN ?_ _) | (with_reducible refine Kd.C_drew ?_)))
      (case side2 => exact HC0_3.out)
      rintro e w177 ⟨v168, rfl, ho0, hb⟩
      refine ⟨_, rfl, ?_⟩
      have n0_ := Aside0.mk (Kd.R_elder' (by (with_reducible repeat (first | apply Kd.R_alloc | apply Kd.R_drewN | apply Kd.R_drew)); exact HO_148003.out) (Kd.R_base ho0) hb)
      have n1_ := Aside0.mk (Kd.R_elder' (by (with_reducible repeat (first | apply Kd.R_alloc | apply Kd.R_drewN | apply Kd.R_drew)); exact HO_155003.out) (Kd.R_base ho0) hb)
      have n2_ := Aside0.mk (Kd.R_elder' (by (with_reducible repeat (first | apply Kd.R_alloc | apply Kd.R_drewN | apply Kd.R_drew)); exact HO_163003.out) (Kd.R_base ho0) hb)
      have n3_ := Aside0.mk (Kd.R_lower (Kd.R_new' (Kd.R_new' (Kd.R_new' ho0 (Kd.R_lt (by (with_reducible repeat (first | apply Kd.R_alloc | apply Kd.R_drewN | apply Kd.R_drew)); exact HO_148003.out))) (Kd.R_lt (by (with_reducible repeat (first | apply Kd.R_alloc | apply Kd.R_drewN | apply Kd.R_drew)); exact HO_155003.out))) (Kd.R_lt (by (with_reducible repeat (first | apply Kd.R_alloc | apply Kd.R_drewN | apply Kd.R_drew)); exact HO_163003.out))) (below_size (by repeat (first | (with_reducible first | exact HB.out | apply below_alloc | apply pw_below_drewN | apply below_drew1 | refine below_set ?_ GE132.out | refine below_set ?_ GE147.out | refine below_set ?_ GE154.out | refine below_set ?_ GE162.out) | exact HB.out))))
      have n4_ := Aside0.mk (blk_below (g := gb132) (o := .cells #[.int .i8 a0_0, .int .i8 a0_1, .int .i8 a0_2, .slice A0_3 l0_3.length c0_3] 25 (0, 0)) (by (with_reducible repeat (first | refine blk_drewN ?_ _ | refine blk_drew ?_ | refine blk_alloc ?_ _)); exact BK132.out) hb)
      have n5_ := Aside0.mk (blk_below (g := gb147) (o := .cells #[.int .i8 t140, .int .i8 t141, .int .i8 t142, .slice Ao23 t143.length co23] 27 (0, 0)) (by (with_reducible repeat (first | refine blk_drewN ?_ _ | refine blk_drew ?_ | refine blk_alloc ?_ _)); exact BK147.out) hb)
      have n6_ := Aside0.mk (blk_below (g := gb154) (o := .cells #[.int .i8 t148, .int .i8 t149, .int .i8 t150, .slice Ao30 t151.length co30] 27 (0, 0)) (by (with_reducible repeat (first | refine blk_drewN ?_ _ | refine blk_drew ?_ | refine blk_alloc ?_ _)); exact BK154.out) hb)
      have n7_ := Aside0.mk (blk_below (g := gb162) (o := .cells #[.int .i8 t155, .int .i8 t156, .int .i8 t157, .slice Ao37 t158.length co37] 27 (0, 0)) (by (with_reducible repeat (first | refine blk_drewN ?_ _ | refine blk_drew ?_ | refine blk_alloc ?_ _)); exact BK162.out) hb)
      have n8_ := Aside0.mk (below_step (by repeat (first | (with_reducible first | exact HB.out | apply below_alloc | apply pw_below_drewN | apply below_drew1 | refine below_set ?_ GE132.out | refine below_set ?_ GE147.out | refine below_set ?_ GE154.out | refine below_set ?_ GE162.out) | exact HB.out)) hb)
      clear HO_148003
      clear HO_155003
      clear HO_163003
      clear BK132
      clear BK147
      clear BK154
      clear BK162
      clear HB
      have HO_148003 := n0_
      have HO_155003 := n1_
      have HO_163003 := n2_
      have HO169 := n3_
      have BK132 := n4_
      have BK147 := n5_
      have BK154 := n6_
      have BK162 := n7_
      have HB := n8_
      clear n0_ n1_ n2_ n3_ n4_ n5_ n6_ n7_ n8_
      (try clear hb)
      (try clear hb2)
      (try clear hk)
      (try clear hi)
      (try clear ho0)
      obtain ⟨Ao178, co178, eo178⟩ := Kd.R_slice HO169.out
      (first | subst eo178 | (injection eo178 with f1_ f2_ f3_; have f4_ := f1_.symm; have f5_ := f3_.symm; clear f1_ f2_ f3_; subst f4_; subst f5_))
      refine hK.out _ _ ⟨(blk_cell BK154.out 0).trans rfl, (blk_cell BK154.out 1).trans rfl, (blk_cell BK154.out 2).trans rfl, (blk_cell BK154.out 3).trans rfl, (blk_cell BK132.out 0).trans rfl, (blk_cell BK132.out 1).trans rfl, (blk_cell BK132.out 2).trans rfl, (blk_cell BK132.out 3).trans rfl⟩ (fun hHeld => ?_)
      clear hK K
      refine norm_ (a' := ?_) ?_ ?_
      rotate_left
      ·show Act.put _ (some 47) _ = _
       simp only [Act.put, List.setIfInBounds_toArray, List.set_cons_zero, List.set_cons_succ, i64_w, i32_w]
       rfl
      refine one_ (i := 3) (N := some 48) #[true, true, true, true, false] rfl rfl (by kernel_rfl) (by decide) (fun K hK => ?_)
      refine goes_ Try.func16 (by kernel_rfl) rfl #[.agg #[.int .i8 t148, .int .i8 t149, .int .i8 t150, .slice Ao30 t151.length co30], .agg #[.int .i8 t164, .int .i8 t165, .int .i8 t166, .slice Ao178 t167.length co178]] (by rfl) rfl rfl (by (try simp only [List.map_toArray, List.map_cons, List.map_nil]); first | done | rfl | (simp only [List.length_drop, List.length_take]; rfl)) ?_
      with_reducible refine (laws_eqBook.calls kj11 t148 t149 t150 _ _ t151 t164 t165 t166 _ _ t167 false _ ?side1 ?side2 ?side3 ?side4 A58.out).mono ?_
      (case side1 => repeat (first | exact (Kd.R_reads' HO_155003.out).2.2 | (with_reducible refine Kd.C_alloc ?_ _) | (with_reducible refine Kd.C_drewN ?_ _) | (with_reducible refine Kd.C_drew ?_)))
      (case side2 => exact (Kd.R_reads' HO_155003.out).2.1)
      (case side3 => repeat (first | exact (Kd.R_reads' HO169.out).2.2 | (with_reducible refine Kd.C_alloc ?_ _) | (with_reducible refine Kd.C_drewN ?_ _) | (with_reducible refine Kd.C_drew ?_)))
      (case side4 => exact (Kd.R_reads' HO169.out).2.1)
      rintro e w179 ⟨rfl, hb⟩
      refine ⟨_, rfl, ?_⟩
      have n0_ := Aside0.mk (Kd.R_below (by (with_reducible repeat (first | apply Kd.R_alloc | apply Kd.R_drewN | apply Kd.R_drew)); exact HO_148003.out) hb)
      have n1_ := Aside0.mk (Kd.R_below (by (with_reducible repeat (first | apply Kd.R_alloc | apply Kd.R_drewN | apply Kd.R_drew)); exact HO_155003.out) hb)
      have n2_ := Aside0.mk (Kd.R_below (by (with_reducible repeat (first | apply Kd.R_alloc | apply Kd.R_drewN | apply Kd.R_drew)); exact HO_163003.out) hb)
      have n3_ := Aside0.mk (Kd.R_below (by (with_reducible repeat (first | apply Kd.R_alloc | apply Kd.R_drewN | apply Kd.R_drew)); exact HO169.out) hb)
      have n4_ := Aside0.mk (blk_below (g := gb132) (o := .cells #[.int .i8 a0_0, .int .i8 a0_1, .int .i8 a0_2, .slice A0_3 l0_3.length c0_3] 25 (0, 0)) (by (with_reducible repeat (first | refine blk_drewN ?_ _ | refine blk_drew ?_ | refine blk_alloc ?_ _)); exact BK132.out) hb)
      have n5_ := Aside0.mk (blk_below (g := gb147) (o := .cells #[.int .i8 t140, .int .i8 t141, .int .i8 t142, .slice Ao23 t143.length co23] 27 (0, 0)) (by (with_reducible repeat (first | refine blk_drewN ?_ _ | refine blk_drew ?_ | refine blk_alloc ?_ _)); exact BK147.out) hb)
      have n6_ := Aside0.mk (blk_below (g := gb154) (o := .cells #[.int .i8 t148, .int .i8 t149, .int .i8 t150, .slice Ao30 t151.length co30] 27 (0, 0)) (by (with_reducible repeat (first | refine blk_drewN ?_ _ | refine blk_drew ?_ | refine blk_alloc ?_ _)); exact BK154.out) hb)
      have n7_ := Aside0.mk (blk_below (g := gb162) (o := .cells #[.int .i8 t155, .int .i8 t156, .int .i8 t157, .slice Ao37 t158.length co37] 27 (0, 0)) (by (with_reducible repeat (first | refine blk_drewN ?_ _ | refine blk_drew ?_ | refine blk_alloc ?_ _)); exact BK162.out) hb)
      have n8_ := Aside0.mk (below_step (by repeat (first | (with_reducible first | exact HB.out | apply below_alloc | apply pw_below_drewN | apply below_drew1 | refine below_set ?_ GE132.out | refine below_set ?_ GE147.out | refine below_set ?_ GE154.out | refine below_set ?_ GE162.out) | exact HB.out)) hb)
      clear HO_148003
      clear HO_155003
      clear HO_163003
      clear HO169
      clear BK132
      clear BK147
      clear BK154
      clear BK162
      clear HB
      have HO_148003 := n0_
      have HO_155003 := n1_
      have HO_163003 := n2_
      have HO169 := n3_
      have BK132 := n4_
      have BK147 := n5_
      have BK154 := n6_
      have BK162 := n7_
      have HB := n8_
      clear n0_ n1_ n2_ n3_ n4_ n5_ n6_ n7_ n8_
      (try clear hb)
      (try clear hb2)
      (try clear hk)
      (try clear hi)
      refine hK.out _ _ ⟨(blk_cell BK154.out 0).trans rfl, (blk_cell BK154.out 1).trans rfl, (blk_cell BK154.out 2).trans rfl, (blk_cell BK154.out 3).trans rfl, (blk_cell BK132.out 0).trans rfl, (blk_cell BK132.out 1).trans rfl, (blk_cell BK132.out 2).trans rfl, (blk_cell BK132.out 3).trans rfl⟩ (fun hHeld => ?_)
      clear hK K
      refine norm_ (a' := ?_) ?_ ?_
      rotate_left
      ·show Act.put _ (some 48) _ = _
       simp only [Act.put, List.setIfInBounds_toArray, List.set_cons_zero, List.set_cons_succ, i64_w, i32_w]
       rfl
      refine pure_ (i := 4) (N := some 49) (v := ?_) (a' := ?_) #[true, true, true, true, true] rfl rfl (by kernel_rfl) (fun _ _ _ h => h) (Or.inl ⟨by rfl, ?_⟩) ?_ ?_
      rotate_left
      ·intro w'
       go_simp
       with_reducible rfl
      rotate_left
      ·simp only [Act.put, List.setIfInBounds_toArray, List.set_cons_zero, List.set_cons_succ, i64_w, i32_w]
       rfl
      refine done_ (by kernel_rfl) ?_
      try go_wp2
      go_ret
      exact ⟨by first | rfl | (simp [errW_none, errW_some] <;> rfl) | (simp [*, errW_none, errW_some] <;> rfl), by repeat (first | (with_reducible first | exact HB.out | apply below_alloc | apply pw_below_drewN | apply below_drew1 | refine below_set ?_ GE132.out | refine below_set ?_ GE147.out | refine below_set ?_ GE154.out | refine below_set ?_ GE162.out) | exact HB.out)⟩
end Go.Proofs.Ytckpfodpfplaeaa.E
namespace Go.Proofs.Ytckpfodpfplaeaa.E
open Go.RowKit Go.Proofs.YtckpfodpfplaeaaW.PrintWords Go.Proofs.YtckpfodpfplaeaaW.PrintLast Go.Proofs.Ytckpfodpfplaeaa.U
set_option linter.unusedVariables false
set_option linter.unusedSimpArgs false
theorem rdB_get (ph : List ByteArray) (i : Nat) (hi : i < ph.length) : rdOf ByteArray.empty ph (i : Int) = ph[i] := by
 unfold rdOf; simp [List.getElem?_eq_getElem hi]
theorem szStringS_ev (l : List ByteArray) (a : Int) (ha : 0 ≤ a ∧ a ≤ 1048576) (hl : l.length ≤ maxLen) (hls : ∀ x ∈ l, x.size ≤ maxLen) :
  ∃ r, Ev (fun k => laws_szStringS.f k l a) r ∧ r ≤ a ∧ (0 ≤ r → (l.length : Int) ≤ a ∧ ∀ x ∈ l, (x.size : Int) ≤ a) := by
 unfold laws_szStringS.f
 have hl2 := hl
 unfold maxLen at hl2
 rw [w64 (x := a - (l.length : Int)) (by omega) (by omega)]
 by_cases h : a - (l.length : Int) < 0
 ·exact ⟨-1, pos h (cons rfl), by omega, fun h => by omega⟩
 have key : ∀ (d i : Nat) (b : Int), i + d = l.length → 0 ≤ b → b ≤ a → (∀ j : Nat, j < i → ((rdOf ByteArray.empty l (j : Int)).size : Int) ≤ a) →
   ∃ r, Ev (fun k => laws_szStringS.l0 k l b (i : Int)) r ∧ r ≤ a ∧ (0 ≤ r → ∀ j : Nat, j < l.length → ((rdOf ByteArray.empty l (j : Int)).size : Int) ≤ a) := by
  intro d
  induction d with
  | zero =>
   intro i b hi hb0 hb1 hp
   refine ⟨b, ?_, hb1, fun _ j hj => hp j (by omega)⟩
   refine Ev.step (fun k => by rw [laws_szStringS.l0]) ?_
   exact neg (by omega) (Ev.now _)
  | succ d ih =>
   intro i b hi hb0 hb1 hp
   have hm : (rdOf ByteArray.empty l (i : Int)).size ≤ maxLen := by rw [rdB_get l i (by omega)]; exact hls _ (List.getElem_mem _)
   unfold maxLen at hm
   have hw : wrap64 (b - ((rdOf ByteArray.empty l (i : Int)).size : Int)) = b - ((rdOf ByteArray.empty l (i : Int)).size : Int) := w64 (by omega) (by omega)
   by_cases hc : b < ((rdOf ByteArray.empty l (i : Int)).size : Int)
   ·refine ⟨-1, ?_, by omega, fun h => by omega⟩
    refine Ev.step (fun k => by rw [laws_szStringS.l0]) ?_
    rw [hw]
    exact pos (by omega) (pos (by omega) (pos (by omega) (cons rfl)))
   ·obtain ⟨r, hr, h1, h2⟩ := ih (i + 1) (b - ((rdOf ByteArray.empty l (i : Int)).size : Int)) (by omega) (by omega) (by omega) (fun j hj => by
     rcases Nat.lt_or_ge j i with h | h
     ·exact hp j h
     ·obtain rfl : j = i := by omega
      omega)
    refine ⟨r, ?_, h1, h2⟩
    refine Ev.step (fun k => by rw [laws_szStringS.l0]) ?_
    rw [hw, w64 (x := (i : Int) + 1) (by omega) (by omega)]
    exact pos (by omega) (pos (by omega) (neg (by omega) hr))
 obtain ⟨r, hr, h1, h2⟩ := key l.length 0 (a - (l.length : Int)) (by omega) (by omega) (by omega) (fun j hj => by omega)
 refine ⟨r, neg h hr, h1, fun h0 => ⟨by omega, fun x hx => ?_⟩⟩
 obtain ⟨j, hj, rfl⟩ := List.getElem_of_mem hx
 have := h2 h0 j hj
 rwa [rdB_get l j hj] at this
theorem szBook_ev (K L S : Int) (l : List ByteArray) (a : Int) (ha : 0 ≤ a ∧ a ≤ 1048576) (hl : l.length ≤ maxLen) (hls : ∀ x ∈ l, x.size ≤ maxLen) :
  ∃ r, Ev (fun k => laws_szBook.f k K L S l a) r ∧ r ≤ a ∧ (0 ≤ r → (l.length : Int) ≤ a ∧ ∀ x ∈ l, (x.size : Int) ≤ a) := by
 obtain ⟨r, h1, h2, h3⟩ := szStringS_ev l a ha hl hls
 unfold laws_szBook.f
 by_cases h : r < 0
 ·exact ⟨-1, Ev.bind h1 (pos h (cons rfl)), by omega, fun h => by omega⟩
 ·exact ⟨r, Ev.bind h1 (neg h (cons rfl)), h2, h3⟩
theorem toListB {l l' : List ByteArray} {n : Nat} (h1 : l.length = n) (h2 : l'.length = n) (h : ∀ j, j < n → l[j]? = l'[j]?) : l = l' := by
 apply List.ext_getElem?
 intro j
 rcases Nat.lt_or_ge j n with hj | hj
 ·exact h j hj
 ·rw [List.getElem?_eq_none (by omega), List.getElem?_eq_none (by omega)]
theorem toStringS_ev (l : List ByteArray) (hn : l.length ≤ 1048576) : Ev (fun k => laws_toStringS.f k l) l := by
 unfold laws_toStringS.f
 refine pos (by omega) (pos (by omega) ?_)
 rw [Int.toNat_natCast]
 refine iter (F := fun k (s : List ByteArray × Int) => laws_toStringS.l0 k l s.1 s.2) (fun i s => s.2 = (i : Int) ∧ s.1.length = l.length ∧ ∀ j, j < i → s.1[j]? = l[j]?) l l.length ?_ ?_ 0 (List.replicate l.length _, 0) (by omega) ⟨rfl, by simp, fun j hj => by omega⟩
 ·rintro i ⟨s, x⟩ hi ⟨rfl, hl, hp⟩
  dsimp only at hl hp
  refine .inl ⟨(s.set i (rdOf ByteArray.empty l (i : Int)), ((i + 1 : Nat) : Int)), ⟨rfl, by simpa using hl, fun j hj => ?_⟩, Ev.step fun k => ?_⟩
  ·dsimp only
   by_cases e : j = i
   ·subst e; rw [List.getElem?_set_self (by omega), rdB_get l j hi, List.getElem?_eq_getElem hi]
   ·rw [List.getElem?_set_ne (by omega)]; exact hp j (by omega)
  ·simp only [laws_toStringS.l0]
   rw [if_pos (by omega), if_pos (by omega), if_pos (by omega), w64 (by omega) (by omega), Int.toNat_natCast]; rfl
 ·rintro ⟨s, x⟩ ⟨rfl, hl, hp⟩
  dsimp only at hl hp
  refine Ev.step (f := fun _ => some s) (fun k => ?_) (cons (toListB hl rfl hp))
  simp only [laws_toStringS.l0]; rw [if_neg (by omega)]
theorem toBook_ev (K L S : Int) (l : List ByteArray) (hn : l.length ≤ 1048576) : Ev (fun k => laws_toBook.f k K L S l) (K, L, S, l) := by
 unfold laws_toBook.f
 exact Ev.bind (toStringS_ev l hn) (cons rfl)
theorem eqStringS_l0 (l : List ByteArray) (hn : l.length ≤ 9223372036854775806) : ∀ (d i : Nat), i + d = l.length → Ev (fun k => laws_eqStringS.l0 k l l (i : Int)) true := by
 intro d
 induction d with
 | zero =>
  intro i hi
  refine Ev.step (f := fun _ => some true) (fun k => ?_) (cons rfl)
  simp only [laws_eqStringS.l0]; rw [if_neg (by omega)]
 | succ d ih =>
  intro i hi
  refine Ev.step (f := fun k => laws_eqStringS.l0 k l l ((i + 1 : Nat) : Int)) (fun k => ?_) (ih (i + 1) (by omega))
  simp only [laws_eqStringS.l0]; rw [if_pos (by omega), if_pos (by omega), if_pos (by omega), if_pos trivial, w64 (by omega) (by omega)]; rfl
theorem eqStringS_refl (l : List ByteArray) (hn : l.length ≤ 9223372036854775806) : Ev (fun k => laws_eqStringS.f k l l) true := by
 unfold laws_eqStringS.f
 exact pos rfl (eqStringS_l0 l hn l.length 0 (by omega))
theorem eqBook_refl (K L S : Int) (l : List ByteArray) (hn : l.length ≤ 9223372036854775806) : Ev (fun k => laws_eqBook.f k K L S l K L S l) true := by
 unfold laws_eqBook.f
 exact pos rfl (pos rfl (pos rfl (Ev.bind (eqStringS_refl l hn) (pos rfl (cons rfl)))))
theorem bits_book {K L S : Int} {ph : List ByteArray} (hK : WfI .i8 K) (hL : WfI .i8 L) (hS : WfI .i8 S) (hn : ph.length ≤ 1048576) (hs : ∀ x ∈ ph, x.size ≤ 1048576) : (Arr.smallPh ph && (Arr.in8 K && (Arr.in8 L && Arr.in8 S))) = true := by
 have e : ∀ a : Int, WfI .i8 a → Arr.in8 a = true := fun a ha => decide_eq_true (Arr.wfi8 ha)
 rw [e K hK, e L hL, e S hS]
 unfold Arr.smallPh
 rw [decide_eq_true (show ph.length ≤ 100000000 by omega)]
 have : (ph.all fun s => decide (s.size ≤ 140737488351232)) = true := List.all_eq_true.2 fun s hm => decide_eq_true (by have := hs s hm; omega)
 rw [this]; rfl
end Go.Proofs.Ytckpfodpfplaeaa.E
namespace Go.Proofs.Ytckpfodpfplaeaa.E
open Go.RowKit Go.Proofs.YtckpfodpfplaeaaW.PrintWords Go.Proofs.YtckpfodpfplaeaaW.PrintLast Go.Proofs.Ytckpfodpfplaeaa.U
set_option linter.unusedVariables false
set_option linter.unusedSimpArgs false
theorem markText_l0 : ∀ (d : Nat) (x0 : Int) (x3 : ByteArray), 0 ≤ x0 → x0 < 10 ^ d → x0 ≤ 9223372036854775807 → x3.size + d ≤ 1000 → ∃ s, Ev (fun k => laws_markText.l0 k x0 x3) s := by
 intro d
 induction d with
 | zero =>
  intro x0 x3 h0 h1 hm h2
  have : x0 = 0 := by simp at h1; omega
  subst this
  exact ⟨_, Ev.step (fun k => by rw [laws_markText.l0]) (neg (by omega) (pos (by omega) (Ev.now _)))⟩
 | succ d ih =>
  intro x0 x3 h0 h1 hm h2
  by_cases hp : x0 > 0
  ·have hd : Int.tdiv x0 10 = x0 / 10 := Int.tdiv_eq_ediv_of_nonneg h0
   have hlt : x0 / 10 < 10 ^ d := by
    have : (10 : Int) ^ (d + 1) = 10 ^ d * 10 := Int.pow_succ ..
    rw [this] at h1
    exact Int.ediv_lt_of_lt_mul (by decide) h1
   have hw : wrap64 (Int.tdiv x0 10) = x0 / 10 := by rw [hd]; exact w64 (by omega) (by omega)
   have hsz : ∀ y : Int, (strOfNums ([y] : List Int)).size = 1 := fun y => by rw [strOfNums_size]; rfl
   obtain ⟨s, hs⟩ := ih (x0 / 10) (strOfNums [(wrap64 (48 + (Int.tmod x0 10))) % 256] ++ x3) (by omega) hlt (by omega) (by rw [ByteArray.size_append, hsz]; omega)
   refine ⟨s, ?_⟩
   rw [← hw] at hs
   refine Ev.step (fun k => by rw [laws_markText.l0]) ?_
   exact pos hp (bindc rfl (pos (by rw [hsz]; omega) hs))
  ·have : x0 = 0 := by omega
   subst this
   exact ⟨_, Ev.step (fun k => by rw [laws_markText.l0]) (neg (by omega) (pos (by omega) (Ev.now _)))⟩
theorem markText_ex (a : Int) (h : a ≤ 9223372036854775807) : ∃ s, Ev (fun k => laws_markText.f k a) s := by
 unfold laws_markText.f
 by_cases h0 : a ≤ 0
 ·exact ⟨_, pos h0 (Ev.now _)⟩
 ·have h20 : (10 : Int) ^ 20 = 100000000000000000000 := by decide
  obtain ⟨s, hs⟩ := markText_l0 20 a ⟨#[]⟩ (by omega) (by rw [h20]; omega) h (by decide)
  exact ⟨s, neg h0 hs⟩
noncomputable def mT (a : Int) : ByteArray := Classical.epsilon fun s => Ev (fun k => laws_markText.f k a) s
theorem mT_ev (a : Int) (h : a ≤ 9223372036854775807) : Ev (fun k => laws_markText.f k a) (mT a) := Classical.epsilon_spec (markText_ex a h)
noncomputable def marksT (n : Nat) (a : Int) : List ByteArray := (List.range n).map fun (j : Nat) => mT (a + (j : Int))
theorem marksT_length (n : Nat) (a : Int) : (marksT n a).length = n := by simp [marksT]
theorem markStringS_l0 (n : Nat) (a : Int) (ha : 0 ≤ a) (hb : a + n ≤ 9223372036854775806) : ∀ (d i : Nat) (x0 : List ByteArray), i + d = n → x0.length = n → (∀ j, j < i → x0[j]? = (marksT n a)[j]?) →
  Ev (fun k => laws_markStringS.l0 k x0 (a + i) (i : Int)) (a + n, marksT n a) := by
 intro d
 induction d with
 | zero =>
  intro i x0 hi hl hp
  obtain rfl : i = n := by omega
  refine Ev.step (f := fun _ => some (a + i, x0)) (fun k => by simp only [laws_markStringS.l0]; rw [if_neg (by omega)]) (cons ?_)
  rw [show x0 = marksT i a from List.ext_getElem? fun j => by
   rcases Nat.lt_or_ge j i with h | h
   ·exact hp j h
   ·rw [List.getElem?_eq_none (by omega), List.getElem?_eq_none (by rw [marksT_length]; omega)]]
 | succ d ih =>
  intro i x0 hi hl hp
  have hgo := ih (i + 1) (x0.set i (mT (a + i))) (by omega) (by simpa using hl) (fun j hj => by
   by_cases e : j = i
   ·subst e
    rw [List.getElem?_set_self (by omega)]
    simp [marksT, List.getElem?_map, List.getElem?_range (show j < n by omega)]
   ·rw [List.getElem?_set_ne (by omega)]; exact hp j (by omega))
  refine Ev.step (fun k => by rw [laws_markStringS.l0]) ?_
  refine pos (by omega) (Ev.bind (mT_ev (a + i) (by omega)) (pos (by omega) ?_))
  rw [w64 (by omega) (by omega), w64 (by omega) (by omega), show a + (i : Int) + 1 = a + ((i + 1 : Nat) : Int) by omega, show (i : Int) + 1 = ((i + 1 : Nat) : Int) by omega, Int.toNat_natCast]
  exact hgo
theorem markBook_ev (K L S : Int) (l : List ByteArray) (a : Int) (ha : 0 ≤ a) (hb : a + l.length ≤ 9223372036854775806) : Ev (fun k => laws_markBook.f k K L S l a) (a + l.length, marksT l.length a) := by
 unfold laws_markBook.f laws_markStringS.f
 exact Ev.bind (by simpa using markStringS_l0 l.length a ha hb l.length 0 l (by omega) rfl (fun j hj => by omega)) (cons rfl)
end Go.Proofs.Ytckpfodpfplaeaa.E
namespace Go.Proofs.Ytckpfodpfplaeaa.E
open Go.RowKit Go.Proofs.YtckpfodpfplaeaaW.PrintWords Go.Proofs.YtckpfodpfplaeaaW.PrintLast Go.Proofs.Ytckpfodpfplaeaa.U
set_option linter.unusedVariables false
set_option linter.unusedSimpArgs false
theorem heldStringS_l0 (n : Nat) (a : Int) (ha : 0 ≤ a) (hb : a + n ≤ 9223372036854775806) : ∀ (d i : Nat), i + d = n → Ev (fun k => laws_heldStringS.l0 k (marksT n a) (a + i) (i : Int)) (a + n) := by
 intro d
 induction d with
 | zero =>
  intro i hi
  obtain rfl : i = n := by omega
  exact Ev.step (f := fun _ => some (a + i)) (fun k => by simp only [laws_heldStringS.l0]; rw [marksT_length, if_neg (by omega)]) (cons rfl)
 | succ d ih =>
  intro i hi
  have hgo := ih (i + 1) (by omega)
  have hr : rdOf ByteArray.empty (marksT n a) (i : Int) = mT (a + i) := by
   unfold rdOf
   simp [marksT, List.getElem?_map, List.getElem?_range (show i < n by omega)]
  refine Ev.step (fun k => by rw [laws_heldStringS.l0]) ?_
  refine pos (by rw [marksT_length]; omega) (pos (by omega) (Ev.bind (mT_ev (a + i) (by omega)) (pos (by rw [hr]) ?_)))
  rw [w64 (by omega) (by omega), w64 (by omega) (by omega), show a + (i : Int) + 1 = a + ((i + 1 : Nat) : Int) by omega, show (i : Int) + 1 = ((i + 1 : Nat) : Int) by omega]
  exact hgo
theorem heldBook_ev (K L S : Int) (n : Nat) (a : Int) (ha : 0 ≤ a) (hb : a + n ≤ 9223372036854775806) : Ev (fun k => laws_heldBook.f k K L S (marksT n a) a) (a + n) := by
 unfold laws_heldBook.f laws_heldStringS.f
 exact Ev.bind (by simpa using heldStringS_l0 n a ha hb n 0 (by omega)) (neg (by omega) (cons rfl))
end Go.Proofs.Ytckpfodpfplaeaa.E
namespace Go.Proofs.Ytckpfodpfplaeaa.Pure
open Go.RowKit Go.Proofs.Ytckpfodpfplaeaa.E Go.Proofs.YtckpfodpfplaeaaW.PrintWords Go.Proofs.YtckpfodpfplaeaaW.PrintLast Go.Proofs.Ytckpfodpfplaeaa.U
set_option linter.unusedVariables false
set_option linter.unusedSimpArgs false
theorem dropW_len (K L S : Int) (ph : List ByteArray) (i : Int) : (Arr.dropW K L S ph i).1.2.2.2.length ≤ ph.length + 1 := by
 unfold Arr.dropW
 repeat' split
 all_goals simp
 all_goals omega
def FnExactDropPhrasePure : Prop := ∀ (K L S : Int) (ph : List ByteArray) (i : Int), WfI .i8 K → WfI .i8 L → WfI .i8 S → WfL WfS ph → WfI .i64 i → ∃ k, laws_FnExactDropPhrase.f k K L S ph i = some true
theorem FnExactDropPhrase : FnExactDropPhrasePure := by
 intro K L S ph i hK hL hS hph hi
 apply Ev.rounds
 unfold laws_FnExactDropPhrase.f
 obtain ⟨r1, h1, hr1, hp1⟩ := szBook_ev K L S ph 1048576 (by omega) hph.1 hph.2
 by_cases c1 : r1 < 0
 ·exact (Ev.bind h1 (pos c1 (cons rfl)))
 have q1 := hp1 (by omega)
 have n1 : ph.length ≤ 1048576 := by have := q1.1; omega
 have m1 : ∀ x ∈ ph, x.size ≤ 1048576 := fun x hx => by have := q1.2 x hx; omega
 have hb := bits_book hK hL hS n1 m1
 have t1 := toBook_ev K L S ph n1
 have hsp : spec_DropPhrase.f K L S ph i = some ((Arr.dropW K L S ph i).1.1, (Arr.dropW K L S ph i).1.2.1, (Arr.dropW K L S ph i).1.2.2.1, (Arr.dropW K L S ph i).1.2.2.2, (Arr.dropW K L S ph i).2) := by unfold spec_DropPhrase.f; rw [if_pos hb]
 have him : impl_DropPhrase.f K L S ph i = some ((Arr.dropW K L S ph i).1.1, (Arr.dropW K L S ph i).1.2.1, (Arr.dropW K L S ph i).1.2.2.1, (Arr.dropW K L S ph i).1.2.2.2, (Arr.dropW K L S ph i).2) := by unfold impl_DropPhrase.f; rw [if_pos hb]
 have hl := dropW_len K L S ph i
 generalize Arr.dropW K L S ph i = R at *
 obtain ⟨⟨x1, x2, x3, q⟩, x4⟩ := R
 dsimp only at hsp him hl
 have he := eqBook_refl x1 x2 x3 q (by omega)
 refine (Ev.bind h1 (neg c1 (Ev.bind t1 (bindc hsp (Ev.bind t1 (bindc him (Ev.bind he (pos rfl ?_))))))))
 refine Ev.step (fun k => by rw [laws_FnExactDropPhrase.j0]) ?_
 refine neg (by simp) (Ev.bind t1 (Ev.bind (eqBook_refl K L S ph (by omega)) (pos rfl ?_)))
 refine Ev.bind (markBook_ev K L S ph 1 (by omega) (by omega)) (neg (by show ¬ (1 + (ph.length : Int) < 0); omega) (Ev.bind he (pos rfl ?_)))
 refine Ev.step (fun k => by rw [laws_FnExactDropPhrase.j1]) ?_
 have hk := heldBook_ev x1 x2 x3 q.length 1 (by omega) (by omega)
 refine neg (by simp) (Ev.bind (markBook_ev x1 x2 x3 q 1 (by omega) (by omega)) (Ev.bind hk (neg (by omega) (pos rfl ?_))))
 refine Ev.bind t1 (bindc him (Ev.bind he (pos rfl ?_)))
 refine Ev.step (fun k => by rw [laws_FnExactDropPhrase.j2]) ?_
 exact neg (by simp) (Ev.bind hk (neg (by omega) (pos rfl (cons rfl))))
end Go.Proofs.Ytckpfodpfplaeaa.Pure
namespace Go.Proofs.Ytckpfodpfplaeaa.Open
open Go.RowKit Go.Proofs.YtckpfodpfplaeaaW.PrintWords Go.Proofs.Ytckpfodpfplaeaa.U Go.Deep
set_option linter.unusedVariables false
set_option linter.unusedSimpArgs false
def Opens {α : Type} (P : Program) (t : TypeId) (d : Kd α) (wf : α → Prop) : Prop :=
 ∀ {H : Type} (enc : TypeId × Value → H) (w : World) (held : Bool) (fuel : Nat) (cs : List Value) (x : DataW H × List MemPlace),
  DataW.trod enc P w 0 (fun _ => true) held fuel t cs = some x → ∃ a, d.K w a cs ∧ wf a
section
variable {P : Program} {t : TypeId}
theorem opens_int {k : IntKind} (ht : P.underlying t = some (.int k)) : Opens P t (Kd.int k) (WfI k) := by
 intro H enc w held fuel cs x h
 obtain ⟨n, rfl, _, hw⟩ := DataW.trod_int ht h
 exact ⟨n, rfl, hw⟩
theorem opens_string (ht : P.underlying t = some .string) : Opens P t Kd.string WfS := by
 intro H enc w held fuel cs x h
 obtain ⟨s, rfl, _, hs⟩ := DataW.trod_string ht h
 exact ⟨s, rfl, hs⟩
theorem list_of {α : Type} (n : Nat) (p : Nat → α → Prop) (h : ∀ i, i < n → ∃ a, p i a) : ∃ l : List α, l.length = n ∧ ∀ (i : Nat) (a : α), l[i]? = some a → p i a := by
 induction n with
 | zero => exact ⟨[], rfl, fun i a hi => by simp at hi⟩
 | succ n ih =>
  obtain ⟨l, hl, hp⟩ := ih (fun i hi => h i (by omega))
  obtain ⟨a, ha⟩ := h n (by omega)
  refine ⟨l ++ [a], by simp [hl], fun i b hb => ?_⟩
  rcases Nat.lt_or_ge i l.length with hi | hi
  ·rw [List.getElem?_append_left hi] at hb; exact hp i b hb
  ·rw [List.getElem?_append_right hi] at hb
   have : i - l.length = 0 := by
    rcases Nat.eq_zero_or_pos (i - l.length) with h0 | h0
    ·exact h0
    ·rw [List.getElem?_eq_none (by simp; omega)] at hb; cases hb
   rw [this] at hb
   simp at hb
   subst hb
   obtain rfl : i = n := by omega
   exact ha
theorem add_mul (a : Addr) (i m j : Nat) : (a.add (i * m)).add j = a.add (i * m + j) := by
 unfold Addr.add
 by_cases h1 : i * m = 0 <;> by_cases h2 : j = 0 <;> simp [h1, h2] <;> omega
theorem opens_slice {α : Type} {e : TypeId} {d : Kd α} {wf : α → Prop} (ht : P.underlying t = some (.slice e)) (hc : P.cellsOf e = d.sz) (he : Opens P e d wf) : Opens P t (Kd.slice e d) (WfL wf) := by
 intro H enc w held fuel cs x h
 rcases open_slice ht h with ⟨rfl, _⟩ | ⟨a, len, cap, m, n, D, Pl, rfl, hb, hl, hm, hmm, rfl, hx⟩
 ·exact ⟨[], ⟨none, 0, rfl, Nat.le_refl _, Kd.C_nil d w⟩, by simp [WfL, maxLen]⟩
 ·simp only [if_true] at hmm
  subst hmm
  have each : ∀ i, i < len → ∃ y : α, (∃ cs', w.cells? 0 (a.add (i * P.cellsOf e)) (P.cellsOf e) = some cs' ∧ d.K w y cs') ∧ wf y := by
   intro i hi
   obtain ⟨cs', h1, h2⟩ := hx i (by omega)
   obtain ⟨y, hy, hwf⟩ := he enc w held n cs' _ h2
   exact ⟨y, ⟨cs', h1, hy⟩, hwf⟩
  obtain ⟨l, hll, hp⟩ := list_of len _ each
  refine ⟨l, ⟨some a, m, by rw [hll], by omega, ⟨rfl, by rw [hll]; unfold maxLen at hm; omega, fun _ => ⟨a, rfl, fun j y hj => ?_⟩⟩⟩, by rw [hll]; omega, fun y hy => ?_⟩
  ·obtain ⟨⟨cs', h1, h2⟩, _⟩ := hp j y hj
   refine ⟨cs', d.K_len h2, h2, fun i u hu => ?_⟩
   obtain ⟨_, hlen, hcell⟩ := World.cells?_some h1
   have hi : i < P.cellsOf e := by rw [← hlen]; exact (List.getElem?_eq_some_iff.1 hu).1
   have := hcell i hi
   rw [add_mul, hc, hu] at this
   exact this
  ·obtain ⟨j, hj, rfl⟩ := List.getElem_of_mem hy
   exact (hp j _ (List.getElem?_eq_getElem hj)).2
theorem opens_four {α : Type} {k0 k1 k2 : IntKind} {e : TypeId} {d : Kd α} {wf : α → Prop} {f0 f1 f2 f3 : Field} (ht : P.underlying t = some (.struct #[f0, f1, f2, f3])) (h0 : P.underlying f0.type = some (.int k0)) (h1 : P.underlying f1.type = some (.int k1)) (h2 : P.underlying f2.type = some (.int k2)) (h3 : P.underlying f3.type = some (.slice e))
  (c0 : P.cellsOf f0.type = 1) (c1 : P.cellsOf f1.type = 1) (c2 : P.cellsOf f2.type = 1) (c3 : P.cellsOf f3.type = 1) (ct : P.cellsOf t = 4) (o0 : f0.offset = 0) (o1 : f1.offset = 1) (o2 : f2.offset = 2) (o3 : f3.offset = 3) (hc : P.cellsOf e = d.sz) (he : Opens P e d wf)
  {H : Type} (enc : TypeId × Value → H) (w : World) (held : Bool) (fuel : Nat) (cs : List Value) (x : DataW H × List MemPlace) (h : DataW.trod enc P w 0 (fun _ => true) held fuel t cs = some x) :
  ∃ (a b c : Int) (A : Option Addr) (m : Nat) (l : List α), cs = [.int k0 a, .int k1 b, .int k2 c, .slice A l.length m] ∧ WfI k0 a ∧ WfI k1 b ∧ WfI k2 c ∧ l.length ≤ m ∧ Kd.C d w A l.length l ∧ WfL wf l := by
 obtain ⟨y0, y1, y2, y3, n, rfl, hl, g0, g1, g2, g3⟩ := Go.Joins.trod_struct4 ht h
 rw [ct] at hl
 match cs, hl with
 | [v0, v1, v2, v3], _ =>
  rw [o0, c0] at g0
  rw [o1, c1] at g1
  rw [o2, c2] at g2
  rw [o3, c3] at g3
  obtain ⟨a, e0, wa⟩ := opens_int h0 enc w held n _ _ g0
  obtain ⟨b, e1, wb⟩ := opens_int h1 enc w held n _ _ g1
  obtain ⟨c, e2, wc⟩ := opens_int h2 enc w held n _ _ g2
  obtain ⟨l, ⟨A, m, e3, hm, hC⟩, wl⟩ := opens_slice h3 hc he enc w held n _ _ g3
  have z0 : [v0] = [Value.int k0 a] := e0
  have z1 : [v1] = [Value.int k1 b] := e1
  have z2 : [v2] = [Value.int k2 c] := e2
  have z3 : [v3] = [Value.slice A l.length m] := e3
  clear e0 e1 e2 e3
  cases z0
  cases z1
  cases z2
  cases z3
  exact ⟨a, b, c, A, m, l, rfl, wa, wb, wc, hm, hC, wl⟩
theorem agg_four {v v0 v1 v2 v3 : Value} (h : v.cells.toList = [v0, v1, v2, v3]) : v = .agg #[v0, v1, v2, v3] := by
 have : ∃ cs, v = .agg cs := by
  cases v <;> first | exact ⟨_, rfl⟩ | (simp [Value.cells] at h)
 obtain ⟨cs, rfl⟩ := this
 have h2 : cs.toList = [v0, v1, v2, v3] := h
 rw [← h2]
end
end Go.Proofs.Ytckpfodpfplaeaa.Open
