/- The texts that the statement FnExactReplacePhrase needs, part 5: contracts of the program's functions and plain laws, without what it does not reach. No condition beyond what each theorem says. -/
import Derived.Below
import Derived.Deep.Draws
import Derived.Deep.AppendLies
import Derived.Maps.AppendAt
import Derived.OwnWalk
import Derived.Laws.BytesArg
import Derived.Laws.MakeOwn
import Derived.Laws.OwnMore
import Derived.Deep.OwnRows
import Derived.Tactics
import Derived.Lib.ConvBytes
import Derived.Laws.Slices
import Derived.WalkKit
import Derived.KernelRfl
import Derived.RowKit3
import Derived.Deep.LoopGhost
import Derived.Deep.QuietTactic
import Derived.BigQuiet
import Derived.WideLaws
import Derived.Deep.DeepCutAuto
import Derived.Deep.CutBlock
import Derived.Deep.RegionHeld3
import Derived.Laws.Rows
import Derived.Lib.AppendStr
import Derived.ArgAppend
import Derived.Laws.IdiomCopy
import Derived.RowKit
import Derived.Laws.Tables
import Derived.BigFrame
import Derived.Laws.CopyRow
import Derived.Laws.ResultCell
import Derived.OrdersHeld
import Derived.Laws.BitsLemmas
import Derived.Laws.StructEq
import Derived.Test.YtckpfodpfplaeaaProg
import Derived.WalkSpells
import Derived.StillTailTactics
import Derived.Laws.CopyOwn
import Derived.ProofKit
import Derived.OpenShut
import Derived.Deep.Slices
import Derived.Lib.SmallJoins
import Derived.Test.YtckpfodpfplaeaaRows
import Derived.ShutString
import Derived.ChangeOld
import Derived.SizedLaws
import Derived.Test.YtckpfodpfplaeaaZFnExactReplacePhrase4
namespace Go.Proofs.Ytckpfodpfplaeaa.E
open Go.RowKit Go.Proofs.YtckpfodpfplaeaaW.PrintWords Go.Proofs.YtckpfodpfplaeaaW.PrintLast Go.Proofs.YtckpfodpfplaeaaW.PrintMore
attribute [local go_sem] max2_int min2_int max_two min_two max_three min_three max_four min_four
set_option linter.unusedVariables false
set_option linter.unusedSimpArgs false
mutual
def laws_FnExactReplacePhrase.j0 : Nat → Int → ByteArray → Int → Int → Bool → Int → Int → Int → List ByteArray → Int → Int → Int → List ByteArray → Int → Int → Int → List ByteArray → Int → Int → Int → List ByteArray → Option (Bool)
 | 0, _, _, _, _, _, _, _, _, _, _, _, _, _, _, _, _, _, _, _, _, _ => none
 | k + 1, x1, x2, x9, x12, x51, x157000, x157001, x157002, x157003, x172000, x172001, x172002, x172003, x179000, x179001, x179002, x179003, x187000, x187001, x187002, x187003 => if x51 = true then (some false) else ((laws_toBook.f k x157000 x157001 x157002 x157003).bind fun bt188 => ((laws_eqBook.f k x179000 x179001 x179002 x179003 bt188.1 bt188.2.1 bt188.2.2.1 bt188.2.2.2).bind fun t194 => (if t194 = true then ((laws_markBook.f k x179000 x179001 x179002 x179003 1).bind fun bt195 => (if bt195.1 < 0 then (laws_FnExactReplacePhrase.j1 k x1 x2 x9 true x157000 x157001 x157002 x157003 x172000 x172001 x172002 x172003 x187000 x187001 x187002 x187003) else ((laws_eqBook.f k x187000 x187001 x187002 x187003 x172000 x172001 x172002 x172003).bind fun t197 => (if t197 = true then (laws_FnExactReplacePhrase.j1 k x1 x2 x9 (x12 != x9) x157000 x157001 x157002 x157003 x172000 x172001 x172002 x172003 x187000 x187001 x187002 x187003) else (laws_FnExactReplacePhrase.j1 k x1 x2 x9 true x157000 x157001 x157002 x157003 x172000 x172001 x172002 x172003 x187000 x187001 x187002 x187003))))) else (some false))))
def laws_FnExactReplacePhrase.j1 : Nat → Int → ByteArray → Int → Bool → Int → Int → Int → List ByteArray → Int → Int → Int → List ByteArray → Int → Int → Int → List ByteArray → Option (Bool)
 | 0, _, _, _, _, _, _, _, _, _, _, _, _, _, _, _, _ => none
 | k + 1, x1, x2, x9, x72, x157000, x157001, x157002, x157003, x172000, x172001, x172002, x172003, x187000, x187001, x187002, x187003 => if x72 = true then (some false) else ((laws_markBook.f k x187000 x187001 x187002 x187003 1).bind fun bt198 => ((laws_heldBook.f k x187000 x187001 x187002 bt198.2 1).bind fun t200 => (if t200 < 0 then (some false) else (if t200 = bt198.1 then ((laws_toBook.f k x157000 x157001 x157002 x157003).bind fun bt201 => ((impl_ReplacePhrase.f k bt201.1 bt201.2.1 bt201.2.2.1 bt201.2.2.2 x1 x2).bind fun bt207 => ((laws_eqBook.f k bt207.1 bt207.2.1 bt207.2.2.1 bt207.2.2.2.1 x172000 x172001 x172002 x172003).bind fun t215 => (if t215 = true then (laws_FnExactReplacePhrase.j2 k bt198.1 (bt207.2.2.2.2 != x9) x187000 x187001 x187002 bt198.2) else (laws_FnExactReplacePhrase.j2 k bt198.1 true x187000 x187001 x187002 bt198.2))))) else (some false)))))
def laws_FnExactReplacePhrase.j2 : Nat → Int → Bool → Int → Int → Int → List ByteArray → Option (Bool)
 | 0, _, _, _, _, _, _ => none
 | k + 1, x14, x100, x187000, x187001, x187002, x187003 => if x100 = true then (some false) else ((laws_heldBook.f k x187000 x187001 x187002 x187003 1).bind fun t216 => (if t216 < 0 then (some false) else (if t216 = x14 then (some true) else (some false))))
end
def laws_FnExactReplacePhrase.f (k : Nat) (a0_0 : Int) (a0_1 : Int) (a0_2 : Int) (l0_3 : List ByteArray) (a1 : Int) (a2 : ByteArray) : Option (Bool) := if (a2.size : Int) > 1048576 then (some true) else ((laws_szBook.f k a0_0 a0_1 a0_2 l0_3 1048576).bind fun t157 => (if t157 < 0 then (some true) else ((laws_toBook.f k a0_0 a0_1 a0_2 l0_3).bind fun bt158 => ((spec_ReplacePhrase.f bt158.1 bt158.2.1 bt158.2.2.1 bt158.2.2.2 a1 a2).bind fun bt164 => ((laws_toBook.f k a0_0 a0_1 a0_2 l0_3).bind fun bt172 => ((impl_ReplacePhrase.f k bt172.1 bt172.2.1 bt172.2.2.1 bt172.2.2.2 a1 a2).bind fun bt179 => ((laws_eqBook.f k bt179.1 bt179.2.1 bt179.2.2.1 bt179.2.2.2.1 bt164.1 bt164.2.1 bt164.2.2.1 bt164.2.2.2.1).bind fun t187 => (if t187 = true then (laws_FnExactReplacePhrase.j0 k a1 a2 bt164.2.2.2.2 bt179.2.2.2.2 (bt179.2.2.2.2 != bt164.2.2.2.2) a0_0 a0_1 a0_2 l0_3 bt164.1 bt164.2.1 bt164.2.2.1 bt164.2.2.2.1 bt172.1 bt172.2.1 bt172.2.2.1 bt172.2.2.2 bt179.1 bt179.2.1 bt179.2.2.1 bt179.2.2.2.1) else (laws_FnExactReplacePhrase.j0 k a1 a2 bt164.2.2.2.2 bt179.2.2.2.2 true a0_0 a0_1 a0_2 l0_3 bt164.1 bt164.2.1 bt164.2.2.1 bt164.2.2.2.1 bt172.1 bt172.2.1 bt172.2.2.1 bt172.2.2.2 bt179.1 bt179.2.1 bt179.2.2.1 bt179.2.2.2.1)))))))))
set_option maxHeartbeats 8000000 in
set_option maxRecDepth 100000 in
theorem laws_FnExactReplacePhrase.calls (k : Nat) (a0_0 : Int) (a0_1 : Int) (a0_2 : Int) (A0_3 : Option Addr) (c0_3 : Nat) (l0_3 : List ByteArray) (a1 : Int) (a2 : ByteArray) (r : Bool) (w : World) (hr0_3 : Kd.C Kd.string w A0_3 l0_3.length l0_3) (hc0_3 : l0_3.length ≤ c0_3) (h : laws_FnExactReplacePhrase.f k a0_0 a0_1 a0_2 l0_3 a1 a2 = some r) :
  Calls Try.prog 5 #[.agg #[.int .i8 a0_0, .int .i8 a0_1, .int .i8 a0_2, .slice A0_3 l0_3.length c0_3], .int .i64 a1, .string a2] w fun e w' => e = .returned (.bool r) ∧ Below w.heap.size w w' := by
 have hu25 := Try.underlying25
 have hu27 := Try.underlying27
 have HR0_3 := Aside0.mk hr0_3
 have HC0_3 := Aside0.mk hc0_3
 clear hr0_3 hc0_3
 have HB := Aside0.mk (Below.refl w.heap.size w)
 have H : (if (a2.size : Int) > 1048576 then (some true) else ((laws_szBook.f k a0_0 a0_1 a0_2 l0_3 1048576).bind fun t157 => (if t157 < 0 then (some true) else ((laws_toBook.f k a0_0 a0_1 a0_2 l0_3).bind fun bt158 => ((spec_ReplacePhrase.f bt158.1 bt158.2.1 bt158.2.2.1 bt158.2.2.2 a1 a2).bind fun bt164 => ((laws_toBook.f k a0_0 a0_1 a0_2 l0_3).bind fun bt172 => ((impl_ReplacePhrase.f k bt172.1 bt172.2.1 bt172.2.2.1 bt172.2.2.2 a1 a2).bind fun bt179 => ((laws_eqBook.f k bt179.1 bt179.2.1 bt179.2.2.1 bt179.2.2.2.1 bt164.1 bt164.2.1 bt164.2.2.1 bt164.2.2.2.1).bind fun t187 => (if t187 = true then (laws_FnExactReplacePhrase.j0 k a1 a2 bt164.2.2.2.2 bt179.2.2.2.2 (bt179.2.2.2.2 != bt164.2.2.2.2) a0_0 a0_1 a0_2 l0_3 bt164.1 bt164.2.1 bt164.2.2.1 bt164.2.2.2.1 bt172.1 bt172.2.1 bt172.2.2.1 bt172.2.2.2 bt179.1 bt179.2.1 bt179.2.2.1 bt179.2.2.2.1) else (laws_FnExactReplacePhrase.j0 k a1 a2 bt164.2.2.2.2 bt179.2.2.2.2 true a0_0 a0_1 a0_2 l0_3 bt164.1 bt164.2.1 bt164.2.2.1 bt164.2.2.2.1 bt172.1 bt172.2.1 bt172.2.2.1 bt172.2.2.2 bt179.1 bt179.2.1 bt179.2.2.1 bt179.2.2.2.1)))))))))) = some r := h
 clear h
 by_cases c4 : (a2.size : Int) > 1048576
 ·rw [if_pos c4] at H
  have c4b0 : decide (1048576 < (a2.size : Int)) = true := decide_eq_true c4
  have c4b1 : decide (1048576 < a2.size) = true := decide_eq_true (by omega)
  clear c4
  obtain rfl := Option.some.inj H
  go_enter Try.func5, Try.ntmps5
  go_wp2_with (first | ((with_reducible refine gate_dst (N := 3) rfl ?_); refine box_event ?hg (N := 3) ?hd (cs := #[.int .i8 a0_0, .int .i8 a0_1, .int .i8 a0_2, .slice A0_3 l0_3.length c0_3]) (t := 25) ?hr ?_; (case hd => rfl); (case hg => rfl); (case hr => first | (go_simp; done) | (go_simp; rfl)); intro gb156 hg w5 hbox hb; have n0_ := Aside0.mk (below_step (by repeat (first | (with_reducible first | exact HB.out | apply below_alloc | apply pw_below_drewN | apply below_drew1) | exact HB.out)) hb); have n1_ := Aside0.mk (hbox); have n2_ := Aside0.mk ((by rw [hg]; exact (below_size (by repeat (first | (with_reducible first | exact HB.out | apply below_alloc | apply pw_below_drewN | apply below_drew1) | exact HB.out))) : w.heap.size ≤ gb156)); have n3_ := Aside0.mk ((by rw [hg]; exact (below_size (by repeat (first | (with_reducible first | exact HB.out | apply below_alloc | apply pw_below_drewN | apply below_drew1) | exact HB.out))) : w.heap.size ≤ gb156)); clear HB; have HB := n0_; have BK156 := n1_; have GW156 := n2_; have GE156 := n3_; clear n0_ n1_ n2_ n3_; clear hb hbox hg))
  go_ret
  exact ⟨by first | rfl | (simp [errW_none, errW_some] <;> rfl) | (simp [*, errW_none, errW_some] <;> rfl), by repeat (first | (with_reducible first | exact HB.out | apply below_alloc | apply pw_below_drewN | apply below_drew1 | refine below_set ?_ GE156.out) | exact HB.out)⟩
 ·rw [if_neg c4] at H
  have c4b0 : decide (1048576 < (a2.size : Int)) = false := decide_eq_false c4
  have c4b1 : decide (1048576 < a2.size) = false := decide_eq_false (by omega)
  clear c4
  replace H := Option.bind_eq_some_iff.mp H
  obtain ⟨t157, A60, H⟩ := H
  replace H : (if t157 < 0 then (some true) else ((laws_toBook.f k a0_0 a0_1 a0_2 l0_3).bind fun bt158 => ((spec_ReplacePhrase.f bt158.1 bt158.2.1 bt158.2.2.1 bt158.2.2.2 a1 a2).bind fun bt164 => ((laws_toBook.f k a0_0 a0_1 a0_2 l0_3).bind fun bt172 => ((impl_ReplacePhrase.f k bt172.1 bt172.2.1 bt172.2.2.1 bt172.2.2.2 a1 a2).bind fun bt179 => ((laws_eqBook.f k bt179.1 bt179.2.1 bt179.2.2.1 bt179.2.2.2.1 bt164.1 bt164.2.1 bt164.2.2.1 bt164.2.2.2.1).bind fun t187 => (if t187 = true then (laws_FnExactReplacePhrase.j0 k a1 a2 bt164.2.2.2.2 bt179.2.2.2.2 (bt179.2.2.2.2 != bt164.2.2.2.2) a0_0 a0_1 a0_2 l0_3 bt164.1 bt164.2.1 bt164.2.2.1 bt164.2.2.2.1 bt172.1 bt172.2.1 bt172.2.2.1 bt172.2.2.2 bt179.1 bt179.2.1 bt179.2.2.1 bt179.2.2.2.1) else (laws_FnExactReplacePhrase.j0 k a1 a2 bt164.2.2.2.2 bt179.2.2.2.2 true a0_0 a0_1 a0_2 l0_3 bt164.1 bt164.2.1 bt164.2.2.1 bt164.2.2.2.1 bt172.1 bt172.2.1 bt172.2.2.1 bt172.2.2.2 bt179.1 bt179.2.1 bt179.2.2.1 bt179.2.2.2.1)))))))) = some r := H
  have A6 := Aside0.mk A60
  clear A60
  by_cases c7 : t157 < 0
  ·rw [if_pos c7] at H
   have c7b0 : decide (t157 < 0) = true := decide_eq_true c7
   clear c7
   obtain rfl := Option.some.inj H
   go_enter Try.func5, Try.ntmps5
   go_wp2_with (first | ((with_reducible refine gate_dst (N := 3) rfl ?_); refine box_event ?hg (N := 3) ?hd (cs := #[.int .i8 a0_0, .int .i8 a0_1, .int .i8 a0_2, .slice A0_3 l0_3.length c0_3]) (t := 25) ?hr ?_; (case hd => rfl); (case hg => rfl); (case hr => first | (go_simp; done) | (go_simp; rfl)); intro gb156 hg w8 hbox hb; have n0_ := Aside0.mk (below_step (by repeat (first | (with_reducible first | exact HB.out | apply below_alloc | apply pw_below_drewN | apply below_drew1) | exact HB.out)) hb); have n1_ := Aside0.mk (hbox); have n2_ := Aside0.mk ((by rw [hg]; exact (below_size (by repeat (first | (with_reducible first | exact HB.out | apply below_alloc | apply pw_below_drewN | apply below_drew1) | exact HB.out))) : w.heap.size ≤ gb156)); have n3_ := Aside0.mk ((by rw [hg]; exact (below_size (by repeat (first | (with_reducible first | exact HB.out | apply below_alloc | apply pw_below_drewN | apply below_drew1) | exact HB.out))) : w.heap.size ≤ gb156)); clear HB; have HB := n0_; have BK156 := n1_; have GW156 := n2_; have GE156 := n3_; clear n0_ n1_ n2_ n3_; clear hb hbox hg; have hcz9_0 : w8.cell? ⟨gb156, 0, none⟩ = some (.int .i8 a0_0) := (blk_cell BK156.out 0).trans rfl; have hcz9_1 : w8.cell? ⟨gb156, 1, none⟩ = some (.int .i8 a0_1) := (blk_cell BK156.out 1).trans rfl; have hcz9_2 : w8.cell? ⟨gb156, 2, none⟩ = some (.int .i8 a0_2) := (blk_cell BK156.out 2).trans rfl; have hcz9_3 : w8.cell? ⟨gb156, 3, none⟩ = some (.slice A0_3 l0_3.length c0_3) := (blk_cell BK156.out 3).trans rfl; have hfz9_0 := blk_frozen BK156.out 0; have hfz9_1 := blk_frozen BK156.out 1; have hfz9_2 := blk_frozen BK156.out 2; have hfz9_3 := blk_frozen BK156.out 3) | ((with_reducible refine gate_callee (f := 12) rfl ?_); refine goesL_ (some 23) rfl rfl Try.func12 (by kernel_rfl) rfl #[.agg #[.int .i8 a0_0, .int .i8 a0_1, .int .i8 a0_2, .slice A0_3 l0_3.length c0_3], .int .i64 1048576] rfl (by (try simp only [List.map_toArray, List.map_cons, List.map_nil]); first | done | rfl | (simp only [List.length_drop, List.length_take]; rfl)) ?_; (with_reducible refine (laws_szBook.calls k a0_0 a0_1 a0_2 _ _ l0_3 1048576 t157 _ ?side1 ?side2 A6.out).mono ?_); (case side1 => repeat (first | exact (Kd.C_below HR0_3.out HB.out) | (with_reducible refine Kd.C_alloc ?_ _) | (with_reducible refine Kd.C_drewN ?_ _) | (with_reducible refine Kd.C_drew ?_))); (case side2 => exact HC0_3.out); rintro e w10 ⟨rfl, hb⟩; refine ⟨_, rfl, ?_⟩; have n0_ := Aside0.mk (blk_below (g := gb156) (o := .cells #[.int .i8 a0_0, .int .i8 a0_1, .int .i8 a0_2, .slice A0_3 l0_3.length c0_3] 25 (0, 0)) (by (with_reducible repeat (first | refine blk_drewN ?_ _ | refine blk_drew ?_ | refine blk_alloc ?_ _)); exact BK156.out) hb); have n1_ := Aside0.mk (below_step (by repeat (first | (with_reducible first | exact HB.out | apply below_alloc | apply pw_below_drewN | apply below_drew1 | refine below_set ?_ GE156.out) | exact HB.out)) hb); clear BK156; clear HB; have BK156 := n0_; have HB := n1_; clear n0_ n1_; (try clear hb); (try clear hb2); (try clear hk); (try clear hi)))
   go_ret
   exact ⟨by first | rfl | (simp [errW_none, errW_some] <;> rfl) | (simp [*, errW_none, errW_some] <;> rfl), by repeat (first | (with_reducible first | exact HB.out | apply below_alloc | apply pw_below_drewN | apply below_drew1 | refine below_set ?_ GE156.out) | exact HB.out)⟩
  ·rw [if_neg c7] at H
   have c7b0 : decide (t157 < 0) = false := decide_eq_false c7
   clear c7
   replace H := Option.bind_eq_some_iff.mp H
   obtain ⟨⟨t158, t159, t160, t161⟩, A110, H⟩ := H
   replace H : ((spec_ReplacePhrase.f t158 t159 t160 t161 a1 a2).bind fun bt164 => ((laws_toBook.f k a0_0 a0_1 a0_2 l0_3).bind fun bt172 => ((impl_ReplacePhrase.f k bt172.1 bt172.2.1 bt172.2.2.1 bt172.2.2.2 a1 a2).bind fun bt179 => ((laws_eqBook.f k bt179.1 bt179.2.1 bt179.2.2.1 bt179.2.2.2.1 bt164.1 bt164.2.1 bt164.2.2.1 bt164.2.2.2.1).bind fun t187 => (if t187 = true then (laws_FnExactReplacePhrase.j0 k a1 a2 bt164.2.2.2.2 bt179.2.2.2.2 (bt179.2.2.2.2 != bt164.2.2.2.2) a0_0 a0_1 a0_2 l0_3 bt164.1 bt164.2.1 bt164.2.2.1 bt164.2.2.2.1 bt172.1 bt172.2.1 bt172.2.2.1 bt172.2.2.2 bt179.1 bt179.2.1 bt179.2.2.1 bt179.2.2.2.1) else (laws_FnExactReplacePhrase.j0 k a1 a2 bt164.2.2.2.2 bt179.2.2.2.2 true a0_0 a0_1 a0_2 l0_3 bt164.1 bt164.2.1 bt164.2.2.1 bt164.2.2.2.1 bt172.1 bt172.2.1 bt172.2.2.1 bt172.2.2.2 bt179.1 bt179.2.1 bt179.2.2.1 bt179.2.2.2.1)))))) = some r := H
   have A11 := Aside0.mk A110
   clear A110
   replace H := Option.bind_eq_some_iff.mp H
   obtain ⟨⟨t164, t165, t166, t167, t170⟩, A120, H⟩ := H
   replace H : ((laws_toBook.f k a0_0 a0_1 a0_2 l0_3).bind fun bt172 => ((impl_ReplacePhrase.f k bt172.1 bt172.2.1 bt172.2.2.1 bt172.2.2.2 a1 a2).bind fun bt179 => ((laws_eqBook.f k bt179.1 bt179.2.1 bt179.2.2.1 bt179.2.2.2.1 t164 t165 t166 t167).bind fun t187 => (if t187 = true then (laws_FnExactReplacePhrase.j0 k a1 a2 t170 bt179.2.2.2.2 (bt179.2.2.2.2 != t170) a0_0 a0_1 a0_2 l0_3 t164 t165 t166 t167 bt172.1 bt172.2.1 bt172.2.2.1 bt172.2.2.2 bt179.1 bt179.2.1 bt179.2.2.1 bt179.2.2.2.1) else (laws_FnExactReplacePhrase.j0 k a1 a2 t170 bt179.2.2.2.2 true a0_0 a0_1 a0_2 l0_3 t164 t165 t166 t167 bt172.1 bt172.2.1 bt172.2.2.1 bt172.2.2.2 bt179.1 bt179.2.1 bt179.2.2.1 bt179.2.2.2.1))))) = some r := H
   have A12 := Aside0.mk A120
   clear A120
   replace H := Option.bind_eq_some_iff.mp H
   obtain ⟨⟨t172, t173, t174, t175⟩, A130, H⟩ := H
   replace H : ((impl_ReplacePhrase.f k t172 t173 t174 t175 a1 a2).bind fun bt179 => ((laws_eqBook.f k bt179.1 bt179.2.1 bt179.2.2.1 bt179.2.2.2.1 t164 t165 t166 t167).bind fun t187 => (if t187 = true then (laws_FnExactReplacePhrase.j0 k a1 a2 t170 bt179.2.2.2.2 (bt179.2.2.2.2 != t170) a0_0 a0_1 a0_2 l0_3 t164 t165 t166 t167 t172 t173 t174 t175 bt179.1 bt179.2.1 bt179.2.2.1 bt179.2.2.2.1) else (laws_FnExactReplacePhrase.j0 k a1 a2 t170 bt179.2.2.2.2 true a0_0 a0_1 a0_2 l0_3 t164 t165 t166 t167 t172 t173 t174 t175 bt179.1 bt179.2.1 bt179.2.2.1 bt179.2.2.2.1)))) = some r := H
   have A13 := Aside0.mk A130
   clear A130
   replace H := Option.bind_eq_some_iff.mp H
   obtain ⟨⟨t179, t180, t181, t182, t185⟩, A140, H⟩ := H
   replace H : ((laws_eqBook.f k t179 t180 t181 t182 t164 t165 t166 t167).bind fun t187 => (if t187 = true then (laws_FnExactReplacePhrase.j0 k a1 a2 t170 t185 (t185 != t170) a0_0 a0_1 a0_2 l0_3 t164 t165 t166 t167 t172 t173 t174 t175 t179 t180 t181 t182) else (laws_FnExactReplacePhrase.j0 k a1 a2 t170 t185 true a0_0 a0_1 a0_2 l0_3 t164 t165 t166 t167 t172 t173 t174 t175 t179 t180 t181 t182))) = some r := H
   have A14 := Aside0.mk A140
   clear A140
   have HC15 := Aside0.mk H
   clear H
   go_enter Try.func5, Try.ntmps5
   go_upto_region 10 with (first | ((with_reducible refine gate_dst (N := 3) rfl ?_); refine box_event ?hg (N := 3) ?hd (cs := #[.int .i8 a0_0, .int .i8 a0_1, .int .i8 a0_2, .slice A0_3 l0_3.length c0_3]) (t := 25) ?hr ?_; (case hd => rfl); (case hg => rfl); (case hr => first | (go_simp; done) | (go_simp; rfl)); intro gb156 hg w16 hbox hb; have n0_ := Aside0.mk (below_step (by repeat (first | (with_reducible first | exact HB.out | apply below_alloc | apply pw_below_drewN | apply below_drew1) | exact HB.out)) hb); have n1_ := Aside0.mk (hbox); have n2_ := Aside0.mk ((by rw [hg]; exact (below_size (by repeat (first | (with_reducible first | exact HB.out | apply below_alloc | apply pw_below_drewN | apply below_drew1) | exact HB.out))) : w.heap.size ≤ gb156)); have n3_ := Aside0.mk ((by rw [hg]; exact (below_size (by repeat (first | (with_reducible first | exact HB.out | apply below_alloc | apply pw_below_drewN | apply below_drew1) | exact HB.out))) : w.heap.size ≤ gb156)); clear HB; have HB := n0_; have BK156 := n1_; have GW156 := n2_; have GE156 := n3_; clear n0_ n1_ n2_ n3_; clear hb hbox hg; have hcz17_0 : w16.cell? ⟨gb156, 0, none⟩ = some (.int .i8 a0_0) := (blk_cell BK156.out 0).trans rfl; have hcz17_1 : w16.cell? ⟨gb156, 1, none⟩ = some (.int .i8 a0_1) := (blk_cell BK156.out 1).trans rfl; have hcz17_2 : w16.cell? ⟨gb156, 2, none⟩ = some (.int .i8 a0_2) := (blk_cell BK156.out 2).trans rfl; have hcz17_3 : w16.cell? ⟨gb156, 3, none⟩ = some (.slice A0_3 l0_3.length c0_3) := (blk_cell BK156.out 3).trans rfl; have hfz17_0 := blk_frozen BK156.out 0; have hfz17_1 := blk_frozen BK156.out 1; have hfz17_2 := blk_frozen BK156.out 2; have hfz17_3 := blk_frozen BK156.out 3) | ((with_reducible refine gate_callee (f := 12) rfl ?_); refine goesL_ (some 23) rfl rfl Try.func12 (by kernel_rfl) rfl #[.agg #[.int .i8 a0_0, .int .i8 a0_1, .int .i8 a0_2, .slice A0_3 l0_3.length c0_3], .int .i64 1048576] rfl (by (try simp only [List.map_toArray, List.map_cons, List.map_nil]); first | done | rfl | (simp only [List.length_drop, List.length_take]; rfl)) ?_; (with_reducible refine (laws_szBook.calls k a0_0 a0_1 a0_2 _ _ l0_3 1048576 t157 _ ?side1 ?side2 A6.out).mono ?_); (case side1 => repeat (first | exact (Kd.C_below HR0_3.out HB.out) | (with_reducible refine Kd.C_alloc ?_ _) | (with_reducible refine Kd.C_drewN ?_ _) | (with_reducible refine Kd.C_drew ?_))); (case side2 => exact HC0_3.out); rintro e w18 ⟨rfl, hb⟩; refine ⟨_, rfl, ?_⟩; have n0_ := Aside0.mk (blk_below (g := gb156) (o := .cells #[.int .i8 a0_0, .int .i8 a0_1, .int .i8 a0_2, .slice A0_3 l0_3.length c0_3] 25 (0, 0)) (by (with_reducible repeat (first | refine blk_drewN ?_ _ | refine blk_drew ?_ | refine blk_alloc ?_ _)); exact BK156.out) hb); have n1_ := Aside0.mk (below_step (by repeat (first | (with_reducible first | exact HB.out | apply below_alloc | apply pw_below_drewN | apply below_drew1 | refine below_set ?_ GE156.out) | exact HB.out)) hb); clear BK156; clear HB; have BK156 := n0_; have HB := n1_; clear n0_ n1_; (try clear hb); (try clear hb2); (try clear hk); (try clear hi); have hcz19_0 : w18.cell? ⟨gb156, 0, none⟩ = some (.int .i8 a0_0) := (blk_cell BK156.out 0).trans rfl; have hcz19_1 : w18.cell? ⟨gb156, 1, none⟩ = some (.int .i8 a0_1) := (blk_cell BK156.out 1).trans rfl; have hcz19_2 : w18.cell? ⟨gb156, 2, none⟩ = some (.int .i8 a0_2) := (blk_cell BK156.out 2).trans rfl; have hcz19_3 : w18.cell? ⟨gb156, 3, none⟩ = some (.slice A0_3 l0_3.length c0_3) := (blk_cell BK156.out 3).trans rfl; have hfz19_0 := blk_frozen BK156.out 0; have hfz19_1 := blk_frozen BK156.out 1; have hfz19_2 := blk_frozen BK156.out 2; have hfz19_3 := blk_frozen BK156.out 3) | ((with_reducible refine gate_callee (f := 14) rfl ?_); refine goesL_ (some 28) rfl rfl Try.func14 (by kernel_rfl) rfl #[.agg #[.int .i8 a0_0, .int .i8 a0_1, .int .i8 a0_2, .slice A0_3 l0_3.length c0_3]] rfl (by (try simp only [List.map_toArray, List.map_cons, List.map_nil]); first | done | rfl | (simp only [List.length_drop, List.length_take]; rfl)) ?_; (with_reducible refine (laws_toBook.calls k a0_0 a0_1 a0_2 _ _ l0_3 t158 t159 t160 t161 _ ?side1 ?side2 A11.out).mono ?_); (case side1 => repeat (first | exact (Kd.C_below HR0_3.out HB.out) | (with_reducible refine Kd.C_alloc ?_ _) | (with_reducible refine Kd.C_drewN ?_ _) | (with_reducible refine Kd.C_drew ?_))); (case side2 => exact HC0_3.out); rintro e w20 ⟨v162, rfl, ho0, hb⟩; refine ⟨_, rfl, ?_⟩; have n0_ := Aside0.mk (Kd.R_lower ho0 (below_size (by repeat (first | (with_reducible first | exact HB.out | apply below_alloc | apply pw_below_drewN | apply below_drew1 | refine below_set ?_ GE156.out) | exact HB.out)))); have n1_ := Aside0.mk (blk_below (g := gb156) (o := .cells #[.int .i8 a0_0, .int .i8 a0_1, .int .i8 a0_2, .slice A0_3 l0_3.length c0_3] 25 (0, 0)) (by (with_reducible repeat (first | refine blk_drewN ?_ _ | refine blk_drew ?_ | refine blk_alloc ?_ _)); exact BK156.out) hb); have n2_ := Aside0.mk (below_step (by repeat (first | (with_reducible first | exact HB.out | apply below_alloc | apply pw_below_drewN | apply below_drew1 | refine below_set ?_ GE156.out) | exact HB.out)) hb); clear BK156; clear HB; have HO163 := n0_; have BK156 := n1_; have HB := n2_; clear n0_ n1_ n2_; (try clear hb); (try clear hb2); (try clear hk); (try clear hi); (try clear ho0); obtain ⟨Ao21, co21, eo21⟩ := Kd.R_slice HO163.out; subst eo21) | ((with_reducible refine gate_callee (f := 21) rfl ?_); refine goesL_ (some 31) rfl rfl Try.func21 (by kernel_rfl) rfl #[.agg #[.int .i8 t158, .int .i8 t159, .int .i8 t160, .slice Ao21 t161.length co21], .int .i64 a1, .string a2] rfl (by (try simp only [List.map_toArray, List.map_cons, List.map_nil]); first | done | rfl | (simp only [List.length_drop, List.length_take]; rfl)) ?_; (with_reducible refine (spec_ReplacePhrase.calls t158 t159 t160 _ _ t161 a1 a2 t164 t165 t166 t167 t170 _ ?side1 ?side2 A12.out).mono ?_); (case side1 => repeat (first | exact (Kd.R_reads' HO163.out).2.2 | (with_reducible refine Kd.C_alloc ?_ _) | (with_reducible refine Kd.C_drewN ?_ _) | (with_reducible refine Kd.C_drew ?_))); (case side2 => exact (Kd.R_reads' HO163.out).2.1); rintro e w22 ⟨v168, rfl, ho0, hb⟩; refine ⟨_, rfl, ?_⟩; have n0_ := Aside0.mk (Kd.R_elder' (by (with_reducible repeat (first | apply Kd.R_alloc | apply Kd.R_drewN | apply Kd.R_drew)); exact HO163.out) (Kd.R_base ho0) hb); have n1_ := Aside0.mk (Kd.R_lower (Kd.R_new' ho0 (Kd.R_lt (by (with_reducible repeat (first | apply Kd.R_alloc | apply Kd.R_drewN | apply Kd.R_drew)); exact HO163.out))) (below_size (by repeat (first | (with_reducible first | exact HB.out | apply below_alloc | apply pw_below_drewN | apply below_drew1 | refine below_set ?_ GE156.out) | exact HB.out)))); have n2_ := Aside0.mk (blk_below (g := gb156) (o := .cells #[.int .i8 a0_0, .int .i8 a0_1, .int .i8 a0_2, .slice A0_3 l0_3.length c0_3] 25 (0, 0)) (by (with_reducible repeat (first | refine blk_drewN ?_ _ | refine blk_drew ?_ | refine blk_alloc ?_ _)); exact BK156.out) hb); have n3_ := Aside0.mk (below_step (by repeat (first | (with_reducible first | exact HB.out | apply below_alloc | apply pw_below_drewN | apply below_drew1 | refine below_set ?_ GE156.out) | exact HB.out)) hb); clear HO163; clear BK156; clear HB; have HO163 := n0_; have HO169 := n1_; have BK156 := n2_; have HB := n3_; clear n0_ n1_ n2_ n3_; (try clear hb); (try clear hb2); (try clear hk); (try clear hi); (try clear ho0)) | ((with_reducible refine gate_dst (N := 8) rfl ?_); refine box_event ?hg (N := 8) ?hd (cs := #[.int .i8 0, .int .i8 0, .int .i8 0, .slice none 0 0]) (t := 27) ?hr ?_; (case hd => rfl); (case hg => rfl); (case hr => first | (go_simp; done) | (go_simp; rfl)); intro gb171 hg w23 hbox hb; have n0_ := Aside0.mk (Kd.R_below (by (with_reducible repeat (first | apply Kd.R_alloc | apply Kd.R_drewN | apply Kd.R_drew)); exact HO163.out) hb); have n1_ := Aside0.mk (Kd.R_below (by (with_reducible repeat (first | apply Kd.R_alloc | apply Kd.R_drewN | apply Kd.R_drew)); exact HO169.out) hb); have n2_ := Aside0.mk (blk_below (g := gb156) (o := .cells #[.int .i8 a0_0, .int .i8 a0_1, .int .i8 a0_2, .slice A0_3 l0_3.length c0_3] 25 (0, 0)) (by (with_reducible repeat (first | refine blk_drewN ?_ _ | refine blk_drew ?_ | refine blk_alloc ?_ _)); exact BK156.out) hb); have n3_ := Aside0.mk (below_step (by repeat (first | (with_reducible first | exact HB.out | apply below_alloc | apply pw_below_drewN | apply below_drew1 | refine below_set ?_ GE156.out) | exact HB.out)) hb); have n4_ := Aside0.mk (hbox); have n5_ := Aside0.mk ((by rw [hg]; exact (below_size (by repeat (first | (with_reducible first | exact HB.out | apply below_alloc | apply pw_below_drewN | apply below_drew1 | refine below_set ?_ GE156.out) | exact HB.out))) : w.heap.size ≤ gb171)); have n6_ := Aside0.mk ((by rw [hg]; exact (below_size (by repeat (first | (with_reducible first | exact HB.out | apply below_alloc | apply pw_below_drewN | apply below_drew1 | refine below_set ?_ GE156.out) | exact HB.out))) : w.heap.size ≤ gb171)); have n7_ := Aside0.mk ((by rw [hg]; exact Nat.ne_of_lt (blk_lt (g := gb156) (o := .cells #[.int .i8 a0_0, .int .i8 a0_1, .int .i8 a0_2, .slice A0_3 l0_3.length c0_3] 25 (0, 0)) (by (with_reducible repeat (first | refine blk_drewN ?_ _ | refine blk_drew ?_ | refine blk_alloc ?_ _)); exact BK156.out)) : gb156 ≠ gb171)); have n8_ := Aside0.mk ((by rw [hg]; exact Nat.ne_of_gt (blk_lt (g := gb156) (o := .cells #[.int .i8 a0_0, .int .i8 a0_1, .int .i8 a0_2, .slice A0_3 l0_3.length c0_3] 25 (0, 0)) (by (with_reducible repeat (first | refine blk_drewN ?_ _ | refine blk_drew ?_ | refine blk_alloc ?_ _)); exact BK156.out)) : gb171 ≠ gb156)); clear HO163; clear HO169; clear BK156; clear HB; have HO163 := n0_; have HO169 := n1_; have BK156 := n2_; have HB := n3_; have BK171 := n4_; have GW171 := n5_; have GE171 := n6_; have NB156_171 := n7_; have NB171_156 := n8_; clear n0_ n1_ n2_ n3_ n4_ n5_ n6_ n7_ n8_; clear hb hbox hg; have hnb24 := NB171_156.out; have hnc24 := NB156_171.out; have hcz25_0 : w23.cell? ⟨gb171, 0, none⟩ = some (.int .i8 0) := (blk_cell BK171.out 0).trans rfl; have hcz25_1 : w23.cell? ⟨gb171, 1, none⟩ = some (.int .i8 0) := (blk_cell BK171.out 1).trans rfl; have hcz25_2 : w23.cell? ⟨gb171, 2, none⟩ = some (.int .i8 0) := (blk_cell BK171.out 2).trans rfl; have hcz25_3 : w23.cell? ⟨gb171, 3, none⟩ = some (.slice none 0 0) := (blk_cell BK171.out 3).trans rfl; have hfz25_0 := blk_frozen BK171.out 0; have hfz25_1 := blk_frozen BK171.out 1; have hfz25_2 := blk_frozen BK171.out 2; have hfz25_3 := blk_frozen BK171.out 3; obtain ⟨Ao26, co26, eo26⟩ := Kd.R_slice HO169.out; subst eo26; have hcz27_0 : w23.cell? ⟨gb156, 0, none⟩ = some (.int .i8 a0_0) := (blk_cell BK156.out 0).trans rfl; have hcz27_1 : w23.cell? ⟨gb156, 1, none⟩ = some (.int .i8 a0_1) := (blk_cell BK156.out 1).trans rfl; have hcz27_2 : w23.cell? ⟨gb156, 2, none⟩ = some (.int .i8 a0_2) := (blk_cell BK156.out 2).trans rfl; have hcz27_3 : w23.cell? ⟨gb156, 3, none⟩ = some (.slice A0_3 l0_3.length c0_3) := (blk_cell BK156.out 3).trans rfl; have hfz27_0 := blk_frozen BK156.out 0; have hfz27_1 := blk_frozen BK156.out 1; have hfz27_2 := blk_frozen BK156.out 2; have hfz27_3 := blk_frozen BK156.out 3) | ((with_reducible refine gate_callee (f := 14) rfl ?_); refine goesL_ (some 35) rfl rfl Try.func14 (by kernel_rfl) rfl #[.agg #[.int .i8 a0_0, .int .i8 a0_1, .int .i8 a0_2, .slice A0_3 l0_3.length c0_3]] rfl (by (try simp only [List.map_toArray, List.map_cons, List.map_nil]); first | done | rfl | (simp only [List.length_drop, List.length_take]; rfl)) ?_; (with_reducible refine (laws_toBook.calls k a0_0 a0_1 a0_2 _ _ l0_3 t172 t173 t174 t175 _ ?side1 ?side2 A13.out).mono ?_); (case side1 => exact Kd.C_below HR0_3.out (by repeat (first | (with_reducible first | exact HB.out | apply below_alloc | apply pw_below_drewN | apply below_drew1 | refine below_set ?_ GE156.out | refine below_set ?_ GE171.out) | exact HB.out))); (case side2 => exact HC0_3.out); rintro e w28 ⟨v176, rfl, ho0, hb⟩; refine ⟨_, rfl, ?_⟩; have n0_ := Aside0.mk (Kd.R_elder' (by (with_reducible repeat (first | apply Kd.R_alloc | apply Kd.R_drewN | apply Kd.R_drew)); exact (Kd.R_mono (Kd.R_far (p := ⟨gb171, 3, none⟩) (Kd.R_far (p := ⟨gb171, 2, none⟩) (Kd.R_far (p := ⟨gb171, 1, none⟩) (Kd.R_far (p := ⟨gb171, 0, none⟩) (Kd.R_types HO163.out BK171.out (by decide)) (fun _ hk => hk.2) (.int .i8 t164)) (fun _ hk => hk.2) (.int .i8 t165)) (fun _ hk => hk.2) (.int .i8 t166)) (fun _ hk => hk.2) (.slice Ao26 t167.length co26)) (fun _ h_ => h_.1))) (Kd.R_base ho0) hb); have n1_ := Aside0.mk (Kd.R_elder' (by (with_reducible repeat (first | apply Kd.R_alloc | apply Kd.R_drewN | apply Kd.R_drew)); exact (Kd.R_mono (Kd.R_far (p := ⟨gb171, 3, none⟩) (Kd.R_far (p := ⟨gb171, 2, none⟩) (Kd.R_far (p := ⟨gb171, 1, none⟩) (Kd.R_far (p := ⟨gb171, 0, none⟩) (Kd.R_types HO169.out BK171.out (by decide)) (fun _ hk => hk.2) (.int .i8 t164)) (fun _ hk => hk.2) (.int .i8 t165)) (fun _ hk => hk.2) (.int .i8 t166)) (fun _ hk => hk.2) (.slice Ao26 t167.length co26)) (fun _ h_ => h_.1))) (Kd.R_base ho0) hb); have n2_ := Aside0.mk (Kd.R_lower (Kd.R_new' (Kd.R_new' ho0 (Kd.R_lt (by (with_reducible repeat (first | apply Kd.R_alloc | apply Kd.R_drewN | apply Kd.R_drew)); exact (Kd.R_mono (Kd.R_far (p := ⟨gb171, 3, none⟩) (Kd.R_far (p := ⟨gb171, 2, none⟩) (Kd.R_far (p := ⟨gb171, 1, none⟩) (Kd.R_far (p := ⟨gb171, 0, none⟩) (Kd.R_types HO163.out BK171.out (by decide)) (fun _ hk => hk.2) (.int .i8 t164)) (fun _ hk => hk.2) (.int .i8 t165)) (fun _ hk => hk.2) (.int .i8 t166)) (fun _ hk => hk.2) (.slice Ao26 t167.length co26)) (fun _ h_ => h_.1))))) (Kd.R_lt (by (with_reducible repeat (first | apply Kd.R_alloc | apply Kd.R_drewN | apply Kd.R_drew)); exact (Kd.R_mono (Kd.R_far (p := ⟨gb171, 3, none⟩) (Kd.R_far (p := ⟨gb171, 2, none⟩) (Kd.R_far (p := ⟨gb171, 1, none⟩) (Kd.R_far (p := ⟨gb171, 0, none⟩) (Kd.R_types HO169.out BK171.out (by decide)) (fun _ hk => hk.2) (.int .i8 t164)) (fun _ hk => hk.2) (.int .i8 t165)) (fun _ hk => hk.2) (.int .i8 t166)) (fun _ hk => hk.2) (.slice Ao26 t167.length co26)) (fun _ h_ => h_.1))))) (below_size (by repeat (first | (with_reducible first | exact HB.out | apply below_alloc | apply pw_below_drewN | apply below_drew1 | refine below_set ?_ GE156.out | refine below_set ?_ GE171.out) | exact HB.out)))); have n3_ := Aside0.mk (blk_below (g := gb156) (o := .cells #[.int .i8 a0_0, .int .i8 a0_1, .int .i8 a0_2, .slice A0_3 l0_3.length c0_3] 25 (0, 0)) (by (with_reducible repeat (first | refine blk_drewN ?_ _ | refine blk_drew ?_ | refine blk_alloc ?_ _)); refine blk_far ?_ NB156_171.out _; (with_reducible repeat (first | refine blk_drewN ?_ _ | refine blk_drew ?_ | refine blk_alloc ?_ _)); refine blk_far ?_ NB156_171.out _; (with_reducible repeat (first | refine blk_drewN ?_ _ | refine blk_drew ?_ | refine blk_alloc ?_ _)); refine blk_far ?_ NB156_171.out _; (with_reducible repeat (first | refine blk_drewN ?_ _ | refine blk_drew ?_ | refine blk_alloc ?_ _)); refine blk_far ?_ NB156_171.out _; (with_reducible repeat (first | refine blk_drewN ?_ _ | refine blk_drew ?_ | refine blk_alloc ?_ _)); exact BK156.out) hb); have n4_ := Aside0.mk (blk_below (g := gb171) (o := .cells #[.int .i8 t164, .int .i8 t165, .int .i8 t166, .slice Ao26 t167.length co26] 27 (0, 0)) (by (with_reducible repeat (first | refine blk_drewN ?_ _ | refine blk_drew ?_ | refine blk_alloc ?_ _)); refine blk_put (cs := #[.int .i8 t164, .int .i8 t165, .int .i8 t166, .slice none 0 0]) ?_ 3 _ rfl; (with_reducible repeat (first | refine blk_drewN ?_ _ | refine blk_drew ?_ | refine blk_alloc ?_ _)); refine blk_put (cs := #[.int .i8 t164, .int .i8 t165, .int .i8 0, .slice none 0 0]) ?_ 2 _ rfl; (with_reducible repeat (first | refine blk_drewN ?_ _ | refine blk_drew ?_ | refine blk_alloc ?_ _)); refine blk_put (cs := #[.int .i8 t164, .int .i8 0, .int .i8 0, .slice none 0 0]) ?_ 1 _ rfl; (with_reducible repeat (first | refine blk_drewN ?_ _ | refine blk_drew ?_ | refine blk_alloc ?_ _)); refine blk_put (cs := #[.int .i8 0, .int .i8 0, .int .i8 0, .slice none 0 0]) ?_ 0 _ rfl; (with_reducible repeat (first | refine blk_drewN ?_ _ | refine blk_drew ?_ | refine blk_alloc ?_ _)); exact BK171.out) hb); have n5_ := Aside0.mk (below_step (by repeat (first | (with_reducible first | exact HB.out | apply below_alloc | apply pw_below_drewN | apply below_drew1 | refine below_set ?_ GE156.out | refine below_set ?_ GE171.out) | exact HB.out)) hb); clear HO163; clear HO169; clear BK156; clear BK171; clear HB; have HO163 := n0_; have HO169 := n1_; have HO177 := n2_; have BK156 := n3_; have BK171 := n4_; have HB := n5_; clear n0_ n1_ n2_ n3_ n4_ n5_; (try clear hb); (try clear hb2); (try clear hk); (try clear hi); (try clear ho0)) | ((with_reducible refine gate_dst (N := 10) rfl ?_); refine box_event ?hg (N := 10) ?hd (cs := #[.int .i8 0, .int .i8 0, .int .i8 0, .slice none 0 0]) (t := 27) ?hr ?_; (case hd => rfl); (case hg => rfl); (case hr => first | (go_simp; done) | (go_simp; rfl)); intro gb178 hg w29 hbox hb; have n0_ := Aside0.mk (Kd.R_below (by (with_reducible repeat (first | apply Kd.R_alloc | apply Kd.R_drewN | apply Kd.R_drew)); exact HO163.out) hb); have n1_ := Aside0.mk (Kd.R_below (by (with_reducible repeat (first | apply Kd.R_alloc | apply Kd.R_drewN | apply Kd.R_drew)); exact HO169.out) hb); have n2_ := Aside0.mk (Kd.R_below (by (with_reducible repeat (first | apply Kd.R_alloc | apply Kd.R_drewN | apply Kd.R_drew)); exact HO177.out) hb); have n3_ := Aside0.mk (blk_below (g := gb156) (o := .cells #[.int .i8 a0_0, .int .i8 a0_1, .int .i8 a0_2, .slice A0_3 l0_3.length c0_3] 25 (0, 0)) (by (with_reducible repeat (first | refine blk_drewN ?_ _ | refine blk_drew ?_ | refine blk_alloc ?_ _)); exact BK156.out) hb); have n4_ := Aside0.mk (blk_below (g := gb171) (o := .cells #[.int .i8 t164, .int .i8 t165, .int .i8 t166, .slice Ao26 t167.length co26] 27 (0, 0)) (by (with_reducible repeat (first | refine blk_drewN ?_ _ | refine blk_drew ?_ | refine blk_alloc ?_ _)); exact BK171.out) hb); have n5_ := Aside0.mk (below_step (by repeat (first | (with_reducible first | exact HB.out | apply below_alloc | apply pw_below_drewN | apply below_drew1 | refine below_set ?_ GE156.out | refine below_set ?_ GE171.out) | exact HB.out)) hb); have n6_ := Aside0.mk (hbox); have n7_ := Aside0.mk ((by rw [hg]; exact (below_size (by repeat (first | (with_reducible first | exact HB.out | apply below_alloc | apply pw_below_drewN | apply below_drew1 | refine below_set ?_ GE156.out | refine below_set ?_ GE171.out) | exact HB.out))) : w.heap.size ≤ gb178)); have n8_ := Aside0.mk ((by rw [hg]; exact (below_size (by repeat (first | (with_reducible first | exact HB.out | apply below_alloc | apply pw_below_drewN | apply below_drew1 | refine below_set ?_ GE156.out | refine below_set ?_ GE171.out) | exact HB.out))) : w.heap.size ≤ gb178)); have n9_ := Aside0.mk ((by rw [hg]; exact Nat.ne_of_lt (blk_lt (g := gb156) (o := .cells #[.int .i8 a0_0, .int .i8 a0_1, .int .i8 a0_2, .slice A0_3 l0_3.length c0_3] 25 (0, 0)) (by (with_reducible repeat (first | refine blk_drewN ?_ _ | refine blk_drew ?_ | refine blk_alloc ?_ _)); exact BK156.out)) : gb156 ≠ gb178)); have n10_ := Aside0.mk ((by rw [hg]; exact Nat.ne_of_gt (blk_lt (g := gb156) (o := .cells #[.int .i8 a0_0, .int .i8 a0_1, .int .i8 a0_2, .slice A0_3 l0_3.length c0_3] 25 (0, 0)) (by (with_reducible repeat (first | refine blk_drewN ?_ _ | refine blk_drew ?_ | refine blk_alloc ?_ _)); exact BK156.out)) : gb178 ≠ gb156)); have n11_ := Aside0.mk ((by rw [hg]; exact Nat.ne_of_lt (blk_lt (g := gb171) (o := .cells #[.int .i8 t164, .int .i8 t165, .int .i8 t166, .slice Ao26 t167.length co26] 27 (0, 0)) (by (with_reducible repeat (first | refine blk_drewN ?_ _ | refine blk_drew ?_ | refine blk_alloc ?_ _)); exact BK171.out)) : gb171 ≠ gb178)); have n12_ := Aside0.mk ((by rw [hg]; exact Nat.ne_of_gt (blk_lt (g := gb171) (o := .cells #[.int .i8 t164, .int .i8 t165, .int .i8 t166, .slice Ao26 t167.length co26] 27 (0, 0)) (by (with_reducible repeat (first | refine blk_drewN ?_ _ | refine blk_drew ?_ | refine blk_alloc ?_ _)); exact BK171.out)) : gb178 ≠ gb171)); clear HO163; clear HO169; clear HO177; clear BK156; clear BK171; clear HB; have HO163 := n0_; have HO169 := n1_; have HO177 := n2_; have BK156 := n3_; have BK171 := n4_; have HB := n5_; have BK178 := n6_; have GW178 := n7_; have GE178 := n8_; have NB156_178 := n9_; have NB178_156 := n10_; have NB171_178 := n11_; have NB178_171 := n12_; clear n0_ n1_ n2_ n3_ n4_ n5_ n6_ n7_ n8_ n9_ n10_ n11_ n12_; clear hb hbox hg; have hnb30 := NB178_156.out; have hnc30 := NB156_178.out; have hnb31 := NB178_171.out; have hnc31 := NB171_178.out; have hcz32_0 : w29.cell? ⟨gb178, 0, none⟩ = some (.int .i8 0) := (blk_cell BK178.out 0).trans rfl; have hcz32_1 : w29.cell? ⟨gb178, 1, none⟩ = some (.int .i8 0) := (blk_cell BK178.out 1).trans rfl; have hcz32_2 : w29.cell? ⟨gb178, 2, none⟩ = some (.int .i8 0) := (blk_cell BK178.out 2).trans rfl; have hcz32_3 : w29.cell? ⟨gb178, 3, none⟩ = some (.slice none 0 0) := (blk_cell BK178.out 3).trans rfl; have hfz32_0 := blk_frozen BK178.out 0; have hfz32_1 := blk_frozen BK178.out 1; have hfz32_2 := blk_frozen BK178.out 2; have hfz32_3 := blk_frozen BK178.out 3; obtain ⟨Ao33, co33, eo33⟩ := Kd.R_slice HO177.out; subst eo33) | ((with_reducible refine gate_callee (f := 22) rfl ?_); refine goesL_ (some 40) rfl rfl Try.func22 (by kernel_rfl) rfl #[.agg #[.int .i8 t172, .int .i8 t173, .int .i8 t174, .slice Ao33 t175.length co33], .int .i64 a1, .string a2] rfl (by (try simp only [List.map_toArray, List.map_cons, List.map_nil]); first | done | rfl | (simp only [List.length_drop, List.length_take]; rfl)) ?_; (with_reducible refine (impl_ReplacePhrase.calls k t172 t173 t174 _ _ t175 a1 a2 t179 t180 t181 t182 t185 _ ?side1 ?side2 A14.out).mono ?_); (case side1 => refine (Kd.R_reads' (e := 9) (base := w.heap.size) (ok := fun k_ => ((True ∧ some k_ ≠ (.slice Ao21 t161.length co21 : Value).ownBlock) ∧ some k_ ≠ (.slice Ao26 t167.length co26 : Value).ownBlock)) (n := t175.length) (c := co33) ?_).2.2; exact (by (with_reducible repeat (first | apply Kd.R_alloc | apply Kd.R_drewN | apply Kd.R_drew)); exact (Kd.R_mono (Kd.R_far (p := ⟨gb178, 3, none⟩) (Kd.R_far (p := ⟨gb178, 2, none⟩) (Kd.R_far (p := ⟨gb178, 1, none⟩) (Kd.R_far (p := ⟨gb178, 0, none⟩) (Kd.R_types HO177.out BK178.out (by decide)) (fun _ hk => hk.2) (.int .i8 t172)) (fun _ hk => hk.2) (.int .i8 t173)) (fun _ hk => hk.2) (.int .i8 t174)) (fun _ hk => hk.2) (.slice Ao33 t175.length co33)) (fun _ h_ => h_.1)))); (case side2 => exact (Kd.R_reads' HO177.out).2.1); rintro e w34 ⟨v183, rfl, ho0, hb⟩; refine ⟨_, rfl, ?_⟩; have n0_ := Aside0.mk (Kd.R_elder' (by (with_reducible repeat (first | apply Kd.R_alloc | apply Kd.R_drewN | apply Kd.R_drew)); exact (Kd.R_mono (Kd.R_far (p := ⟨gb178, 3, none⟩) (Kd.R_far (p := ⟨gb178, 2, none⟩) (Kd.R_far (p := ⟨gb178, 1, none⟩) (Kd.R_far (p := ⟨gb178, 0, none⟩) (Kd.R_types HO163.out BK178.out (by decide)) (fun _ hk => hk.2) (.int .i8 t172)) (fun _ hk => hk.2) (.int .i8 t173)) (fun _ hk => hk.2) (.int .i8 t174)) (fun _ hk => hk.2) (.slice Ao33 t175.length co33)) (fun _ h_ => h_.1))) (Kd.R_base ho0) hb); have n1_ := Aside0.mk (Kd.R_elder' (by (with_reducible repeat (first | apply Kd.R_alloc | apply Kd.R_drewN | apply Kd.R_drew)); exact (Kd.R_mono (Kd.R_far (p := ⟨gb178, 3, none⟩) (Kd.R_far (p := ⟨gb178, 2, none⟩) (Kd.R_far (p := ⟨gb178, 1, none⟩) (Kd.R_far (p := ⟨gb178, 0, none⟩) (Kd.R_types HO169.out BK178.out (by decide)) (fun _ hk => hk.2) (.int .i8 t172)) (fun _ hk => hk.2) (.int .i8 t173)) (fun _ hk => hk.2) (.int .i8 t174)) (fun _ hk => hk.2) (.slice Ao33 t175.length co33)) (fun _ h_ => h_.1))) (Kd.R_base ho0) hb); have n2_ := Aside0.mk (Kd.R_elder' (by (with_reducible repeat (first | apply Kd.R_alloc | apply Kd.R_drewN | apply Kd.R_drew)); exact (Kd.R_mono (Kd.R_far (p := ⟨gb178, 3, none⟩) (Kd.R_far (p := ⟨gb178, 2, none⟩) (Kd.R_far (p := ⟨gb178, 1, none⟩) (Kd.R_far (p := ⟨gb178, 0, none⟩) (Kd.R_types HO177.out BK178.out (by decide)) (fun _ hk => hk.2) (.int .i8 t172)) (fun _ hk => hk.2) (.int .i8 t173)) (fun _ hk => hk.2) (.int .i8 t174)) (fun _ hk => hk.2) (.slice Ao33 t175.length co33)) (fun _ h_ => h_.1))) (Kd.R_base ho0) hb); have n3_ := Aside0.mk (Kd.R_lower (Kd.R_new' (Kd.R_new' (Kd.R_new' ho0 (Kd.R_lt (by (with_reducible repeat (first | apply Kd.R_alloc | apply Kd.R_drewN | apply Kd.R_drew)); exact (Kd.R_mono (Kd.R_far (p := ⟨gb178, 3, none⟩) (Kd.R_far (p := ⟨gb178, 2, none⟩) (Kd.R_far (p := ⟨gb178, 1, none⟩) (Kd.R_far (p := ⟨gb178, 0, none⟩) (Kd.R_types HO163.out BK178.out (by decide)) (fun _ hk => hk.2) (.int .i8 t172)) (fun _ hk => hk.2) (.int .i8 t173)) (fun _ hk => hk.2) (.int .i8 t174)) (fun _ hk => hk.2) (.slice Ao33 t175.length co33)) (fun _ h_ => h_.1))))) (Kd.R_lt (by (with_reducible repeat (first | apply Kd.R_alloc | apply Kd.R_drewN | apply Kd.R_drew)); exact (Kd.R_mono (Kd.R_far (p := ⟨gb178, 3, none⟩) (Kd.R_far (p := ⟨gb178, 2, none⟩) (Kd.R_far (p := ⟨gb178, 1, none⟩) (Kd.R_far (p := ⟨gb178, 0, none⟩) (Kd.R_types HO169.out BK178.out (by decide)) (fun _ hk => hk.2) (.int .i8 t172)) (fun _ hk => hk.2) (.int .i8 t173)) (fun _ hk => hk.2) (.int .i8 t174)) (fun _ hk => hk.2) (.slice Ao33 t175.length co33)) (fun _ h_ => h_.1))))) (Kd.R_lt (by (with_reducible repeat (first | apply Kd.R_alloc | apply Kd.R_drewN | apply Kd.R_drew)); exact (Kd.R_mono (Kd.R_far (p := ⟨gb178, 3, none⟩) (Kd.R_far (p := ⟨gb178, 2, none⟩) (Kd.R_far (p := ⟨gb178, 1, none⟩) (Kd.R_far (p := ⟨gb178, 0, none⟩) (Kd.R_types HO177.out BK178.out (by decide)) (fun _ hk => hk.2) (.int .i8 t172)) (fun _ hk => hk.2) (.int .i8 t173)) (fun _ hk => hk.2) (.int .i8 t174)) (fun _ hk => hk.2) (.slice Ao33 t175.length co33)) (fun _ h_ => h_.1))))) (below_size (by repeat (first | (with_reducible first | exact HB.out | apply below_alloc | apply pw_below_drewN | apply below_drew1 | refine below_set ?_ GE156.out | refine below_set ?_ GE171.out | refine below_set ?_ GE178.out) | exact HB.out)))); have n4_ := Aside0.mk (blk_below (g := gb156) (o := .cells #[.int .i8 a0_0, .int .i8 a0_1, .int .i8 a0_2, .slice A0_3 l0_3.length c0_3] 25 (0, 0)) (by (with_reducible repeat (first | refine blk_drewN ?_ _ | refine blk_drew ?_ | refine blk_alloc ?_ _)); refine blk_far ?_ NB156_178.out _; (with_reducible repeat (first | refine blk_drewN ?_ _ | refine blk_drew ?_ | refine blk_alloc ?_ _)); refine blk_far ?_ NB156_178.out _; (with_reducible repeat (first | refine blk_drewN ?_ _ | refine blk_drew ?_ | refine blk_alloc ?_ _)); refine blk_far ?_ NB156_178.out _; (with_reducible repeat (first | refine blk_drewN ?_ _ | refine blk_drew ?_ | refine blk_alloc ?_ _)); refine blk_far ?_ NB156_178.out _; (with_reducible repeat (first | refine blk_drewN ?_ _ | refine blk_drew ?_ | refine blk_alloc ?_ _)); exact BK156.out) hb); have n5_ := Aside0.mk (blk_below (g := gb171) (o := .cells #[.int .i8 t164, .int .i8 t165, .int .i8 t166, .slice Ao26 t167.length co26] 27 (0, 0)) (by (with_reducible repeat (first | refine blk_drewN ?_ _ | refine blk_drew ?_ | refine blk_alloc ?_ _)); refine blk_far ?_ NB171_178.out _; (with_reducible repeat (first | refine blk_drewN ?_ _ | refine blk_drew ?_ | refine blk_alloc ?_ _)); refine blk_far ?_ NB171_178.out _; (with_reducible repeat (first | refine blk_drewN ?_ _ | refine blk_drew ?_ | refine blk_alloc ?_ _)); refine blk_far ?_ NB171_178.out _; (with_reducible repeat (first | refine blk_drewN ?_ _ | refine blk_drew ?_ | refine blk_alloc ?_ _)); refine blk_far ?_ NB171_178.out _; (with_reducible repeat (first | refine blk_drewN ?_ _ | refine blk_drew ?_ | refine blk_alloc ?_ _)); exact BK171.out) hb); have n6_ := Aside0.mk (blk_below (g := gb178) (o := .cells #[.int .i8 t172, .int .i8 t173, .int .i8 t174, .slice Ao33 t175.length co33] 27 (0, 0)) (by (with_reducible repeat (first | refine blk_drewN ?_ _ | refine blk_drew ?_ | refine blk_alloc ?_ _)); refine blk_put (cs := #[.int .i8 t172, .int .i8 t173, .int .i8 t174, .slice none 0 0]) ?_ 3 _ rfl; (with_reducible repeat (first | refine blk_drewN ?_ _ | refine blk_drew ?_ | refine blk_alloc ?_ _)); refine blk_put (cs := #[.int .i8 t172, .int .i8 t173, .int .i8 0, .slice none 0 0]) ?_ 2 _ rfl; (with_reducible repeat (first | refine blk_drewN ?_ _ | refine blk_drew ?_ | refine blk_alloc ?_ _)); refine blk_put (cs := #[.int .i8 t172, .int .i8 0, .int .i8 0, .slice none 0 0]) ?_ 1 _ rfl; (with_reducible repeat (first | refine blk_drewN ?_ _ | refine blk_drew ?_ | refine blk_alloc ?_ _)); refine blk_put (cs := #[.int .i8 0, .int .i8 0, .int .i8 0, .slice none 0 0]) ?_ 0 _ rfl; (with_reducible repeat (first | refine blk_drewN ?_ _ | refine blk_drew ?_ | refine blk_alloc ?_ _)); exact BK178.out) hb); have n7_ := Aside0.mk (below_step (by repeat (first | (with_reducible first | exact HB.out | apply below_alloc | apply pw_below_drewN | apply below_drew1 | refine below_set ?_ GE156.out | refine below_set ?_ GE171.out | refine below_set ?_ GE178.out) | exact HB.out)) hb); clear HO163; clear HO169; clear HO177; clear BK156; clear BK171; clear BK178; clear HB; have HO163 := n0_; have HO169 := n1_; have HO177 := n2_; have HO184 := n3_; have BK156 := n4_; have BK171 := n5_; have BK178 := n6_; have HB := n7_; clear n0_ n1_ n2_ n3_ n4_ n5_ n6_ n7_; (try clear hb); (try clear hb2); (try clear hk); (try clear hi); (try clear ho0)) | ((with_reducible refine gate_dst (N := 11) rfl ?_); refine box_event ?hg (N := 11) ?hd (cs := #[.int .i8 0, .int .i8 0, .int .i8 0, .slice none 0 0]) (t := 27) ?hr ?_; (case hd => rfl); (case hg => rfl); (case hr => first | (go_simp; done) | (go_simp; rfl)); intro gb186 hg w35 hbox hb; have n0_ := Aside0.mk (Kd.R_below (by (with_reducible repeat (first | apply Kd.R_alloc | apply Kd.R_drewN | apply Kd.R_drew)); exact HO163.out) hb); have n1_ := Aside0.mk (Kd.R_below (by (with_reducible repeat (first | apply Kd.R_alloc | apply Kd.R_drewN | apply Kd.R_drew)); exact HO169.out) hb); have n2_ := Aside0.mk (Kd.R_below (by (with_reducible repeat (first | apply Kd.R_alloc | apply Kd.R_drewN | apply Kd.R_drew)); exact HO177.out) hb); have n3_ := Aside0.mk (Kd.R_below (by (with_reducible repeat (first | apply Kd.R_alloc | apply Kd.R_drewN | apply Kd.R_drew)); exact HO184.out) hb); have n4_ := Aside0.mk (blk_below (g := gb156) (o := .cells #[.int .i8 a0_0, .int .i8 a0_1, .int .i8 a0_2, .slice A0_3 l0_3.length c0_3] 25 (0, 0)) (by (with_reducible repeat (first | refine blk_drewN ?_ _ | refine blk_drew ?_ | refine blk_alloc ?_ _)); exact BK156.out) hb); have n5_ := Aside0.mk (blk_below (g := gb171) (o := .cells #[.int .i8 t164, .int .i8 t165, .int .i8 t166, .slice Ao26 t167.length co26] 27 (0, 0)) (by (with_reducible repeat (first | refine blk_drewN ?_ _ | refine blk_drew ?_ | refine blk_alloc ?_ _)); exact BK171.out) hb); have n6_ := Aside0.mk (blk_below (g := gb178) (o := .cells #[.int .i8 t172, .int .i8 t173, .int .i8 t174, .slice Ao33 t175.length co33] 27 (0, 0)) (by (with_reducible repeat (first | refine blk_drewN ?_ _ | refine blk_drew ?_ | refine blk_alloc ?_ _)); exact BK178.out) hb); have n7_ := Aside0.mk (below_step (by repeat (first | (with_reducible first | exact HB.out | apply below_alloc | apply pw_below_drewN | apply below_drew1 | refine below_set ?_ GE156.out | refine below_set ?_ GE171.out | refine below_set ?_ GE178.out) | exact HB.out)) hb); have n8_ := Aside0.mk (hbox); have n9_ := Aside0.mk ((by rw [hg]; exact (below_size (by repeat (first | (with_reducible first | exact HB.out | apply below_alloc | apply pw_below_drewN | apply below_drew1 | refine below_set ?_ GE156.out | refine below_set ?_ GE171.out | refine below_set ?_ GE178.out) | exact HB.out))) : w.heap.size ≤ gb186)); have n10_ := Aside0.mk ((by rw [hg]; exact (below_size (by repeat (first | (with_reducible first | exact HB.out | apply below_alloc | apply pw_below_drewN | apply below_drew1 | refine below_set ?_ GE156.out | refine below_set ?_ GE171.out | refine below_set ?_ GE178.out) | exact HB.out))) : w.heap.size ≤ gb186)); have n11_ := Aside0.mk ((by rw [hg]; exact Nat.ne_of_lt (blk_lt (g := gb156) (o := .cells #[.int .i8 a0_0, .int .i8 a0_1, .int .i8 a0_2, .slice A0_3 l0_3.length c0_3] 25 (0, 0)) (by (with_reducible repeat (first | refine blk_drewN ?_ _ | refine blk_drew ?_ | refine blk_alloc ?_ _)); exact BK156.out)) : gb156 ≠ gb186)); have n12_ := Aside0.mk ((by rw [hg]; exact Nat.ne_of_gt (blk_lt (g := gb156) (o := .cells #[.int .i8 a0_0, .int .i8 a0_1, .int .i8 a0_2, .slice A0_3 l0_3.length c0_3] 25 (0, 0)) (by (with_reducible repeat (first | refine blk_drewN ?_ _ | refine blk_drew ?_ | refine blk_alloc ?_ _)); exact BK156.out)) : gb186 ≠ gb156)); have n13_ := Aside0.mk ((by rw [hg]; exact Nat.ne_of_lt (blk_lt (g := gb171) (o := .cells #[.int .i8 t164, .int .i8 t165, .int .i8 t166, .slice Ao26 t167.length co26] 27 (0, 0)) (by (with_reducible repeat (first | refine blk_drewN ?_ _ | refine blk_drew ?_ | refine blk_alloc ?_ _)); exact BK171.out)) : gb171 ≠ gb186)); have n14_ := Aside0.mk ((by rw [hg]; exact Nat.ne_of_gt (blk_lt (g := gb171) (o := .cells #[.int .i8 t164, .int .i8 t165, .int .i8 t166, .slice Ao26 t167.length co26] 27 (0, 0)) (by (with_reducible repeat (first | refine blk_drewN ?_ _ | refine blk_drew ?_ | refine blk_alloc ?_ _)); exact BK171.out)) : gb186 ≠ gb171)); have n15_ := Aside0.mk ((by rw [hg]; exact Nat.ne_of_lt (blk_lt (g := gb178) (o := .cells #[.int .i8 t172, .int .i8 t173, .int .i8 t174, .slice Ao33 t175.length co33] 27 (0, 0)) (by (with_reducible repeat (first | refine blk_drewN ?_ _ | refine blk_drew ?_ | refine blk_alloc ?_ _)); exact BK178.out)) : gb178 ≠ gb186)); have n16_ := Aside0.mk ((by rw [hg]; exact Nat.ne_of_gt (blk_lt (g := gb178) (o := .cells #[.int .i8 t172, .int .i8 t173, .int .i8 t174, .slice Ao33 t175.length co33] 27 (0, 0)) (by (with_reducible repeat (first | refine blk_drewN ?_ _ | refine blk_drew ?_ | refine blk_alloc ?_ _)); exact BK178.out)) : gb186 ≠ gb178)); clear HO163; clear HO169; clear HO177; clear HO184; clear BK156; clear BK171; clear BK178; clear HB; have HO163 := n0_; have HO169 := n1_; have HO177 := n2_; have HO184 := n3_; have BK156 := n4_; have BK171 := n5_; have BK178 := n6_; have HB := n7_; have BK186 := n8_; have GW186 := n9_; have GE186 := n10_; have NB156_186 := n11_; have NB186_156 := n12_; have NB171_186 := n13_; have NB186_171 := n14_; have NB178_186 := n15_; have NB186_178 := n16_; clear n0_ n1_ n2_ n3_ n4_ n5_ n6_ n7_ n8_ n9_ n10_ n11_ n12_ n13_ n14_ n15_ n16_; clear hb hbox hg; have hnb36 := NB186_156.out; have hnc36 := NB156_186.out; have hnb37 := NB186_171.out; have hnc37 := NB171_186.out; have hnb38 := NB186_178.out; have hnc38 := NB178_186.out; have hcz39_0 : w35.cell? ⟨gb186, 0, none⟩ = some (.int .i8 0) := (blk_cell BK186.out 0).trans rfl; have hcz39_1 : w35.cell? ⟨gb186, 1, none⟩ = some (.int .i8 0) := (blk_cell BK186.out 1).trans rfl; have hcz39_2 : w35.cell? ⟨gb186, 2, none⟩ = some (.int .i8 0) := (blk_cell BK186.out 2).trans rfl; have hcz39_3 : w35.cell? ⟨gb186, 3, none⟩ = some (.slice none 0 0) := (blk_cell BK186.out 3).trans rfl; have hfz39_0 := blk_frozen BK186.out 0; have hfz39_1 := blk_frozen BK186.out 1; have hfz39_2 := blk_frozen BK186.out 2; have hfz39_3 := blk_frozen BK186.out 3; obtain ⟨Ao40, co40, eo40⟩ := Kd.R_slice HO184.out; subst eo40))
   (try simp only [Act.put, List.setIfInBounds_toArray, List.set_cons_zero, List.set_cons_succ])
   go_cut [51] (fun v51 wc => ∃ (kq : Nat) (x51_14 : Bool), v51 = .bool x51_14 ∧ Aside0 (laws_FnExactReplacePhrase.j0 kq a1 a2 t170 t185 x51_14 a0_0 a0_1 a0_2 l0_3 t164 t165 t166 t167 t172 t173 t174 t175 t179 t180 t181 t182 = some r) ∧ Aside0 (kq ≤ k) ∧ Aside0 (Kd.R Kd.string 9 wc w.heap.size (fun k_ => some k_ ≠ ((.slice Ao33 t175.length co33) : Value).ownBlock ∧ some k_ ≠ ((.slice Ao40 t182.length co40) : Value).ownBlock) (.slice Ao26 t167.length co26) t167) ∧ Aside0 (Kd.R Kd.string 9 wc w.heap.size (fun k_ => some k_ ≠ ((.slice Ao26 t167.length co26) : Value).ownBlock ∧ some k_ ≠ ((.slice Ao40 t182.length co40) : Value).ownBlock) (.slice Ao33 t175.length co33) t175) ∧ Aside0 (Kd.R Kd.string 9 wc w.heap.size (fun k_ => some k_ ≠ ((.slice Ao26 t167.length co26) : Value).ownBlock ∧ some k_ ≠ ((.slice Ao33 t175.length co33) : Value).ownBlock) (.slice Ao40 t182.length co40) t182) ∧ Aside0 (wc.heap[gb156]? = some (.cells #[.int .i8 a0_0, .int .i8 a0_1, .int .i8 a0_2, (.slice A0_3 l0_3.length c0_3)] 25 (0, 0))) ∧ Aside0 (wc.heap[gb171]? = some (.cells #[.int .i8 t164, .int .i8 t165, .int .i8 t166, (.slice Ao26 t167.length co26)] 27 (0, 0))) ∧ Aside0 (wc.heap[gb178]? = some (.cells #[.int .i8 t172, .int .i8 t173, .int .i8 t174, (.slice Ao33 t175.length co33)] 27 (0, 0))) ∧ Aside0 (wc.heap[gb186]? = some (.cells #[.int .i8 t179, .int .i8 t180, .int .i8 t181, (.slice Ao40 t182.length co40)] 27 (0, 0))) ∧ Aside0 (Below w.heap.size w wc))
   case first =>
    have H := HC15.out
    clear HC15
    replace H := Option.bind_eq_some_iff.mp H
    obtain ⟨t187, A410, H⟩ := H
    replace H : (if t187 = true then (laws_FnExactReplacePhrase.j0 k a1 a2 t170 t185 (t185 != t170) a0_0 a0_1 a0_2 l0_3 t164 t165 t166 t167 t172 t173 t174 t175 t179 t180 t181 t182) else (laws_FnExactReplacePhrase.j0 k a1 a2 t170 t185 true a0_0 a0_1 a0_2 l0_3 t164 t165 t166 t167 t172 t173 t174 t175 t179 t180 t181 t182)) = some r := H
    have A41 := Aside0.mk A410
    clear A410
    by_cases c42 : t187 = true
    ·subst c42
     have H1 : (laws_FnExactReplacePhrase.j0 k a1 a2 t170 t185 (t185 != t170) a0_0 a0_1 a0_2 l0_3 t164 t165 t166 t167 t172 t173 t174 t175 t179 t180 t181 t182) = some r := by rw [if_pos rfl] at H; exact H
     clear H
     have H := H1
     clear H1
     have H' := Aside0.mk H
     clear H
     have hnb43 := NB186_156.out
     have hnc43 := NB156_186.out
     have hnb44 := NB186_171.out
     have hnc44 := NB171_186.out
     have hnb45 := NB186_178.out
     have hnc45 := NB178_186.out
     have hcz46_0 : w35.cell? ⟨gb186, 0, none⟩ = some (.int .i8 0) := (blk_cell BK186.out 0).trans rfl
     have hcz46_1 : w35.cell? ⟨gb186, 1, none⟩ = some (.int .i8 0) := (blk_cell BK186.out 1).trans rfl
     have hcz46_2 : w35.cell? ⟨gb186, 2, none⟩ = some (.int .i8 0) := (blk_cell BK186.out 2).trans rfl
     have hcz46_3 : w35.cell? ⟨gb186, 3, none⟩ = some (.slice none 0 0) := (blk_cell BK186.out 3).trans rfl
     have hfz46_0 := blk_frozen BK186.out 0
     have hfz46_1 := blk_frozen BK186.out 1
     have hfz46_2 := blk_frozen BK186.out 2
     have hfz46_3 := blk_frozen BK186.out 3
     have hnb47 := NB171_156.out
     have hnc47 := NB156_171.out
     have hnb48 := NB171_178.out
     have hnc48 := NB178_171.out
     have hcz49_0 : w35.cell? ⟨gb171, 0, none⟩ = some (.int .i8 t164) := (blk_cell BK171.out 0).trans rfl
     have hcz49_1 : w35.cell? ⟨gb171, 1, none⟩ = some (.int .i8 t165) := (blk_cell BK171.out 1).trans rfl
     have hcz49_2 : w35.cell? ⟨gb171, 2, none⟩ = some (.int .i8 t166) := (blk_cell BK171.out 2).trans rfl
     have hcz49_3 : w35.cell? ⟨gb171, 3, none⟩ = some (.slice Ao26 t167.length co26) := (blk_cell BK171.out 3).trans rfl
     have hfz49_0 := blk_frozen BK171.out 0
     have hfz49_1 := blk_frozen BK171.out 1
     have hfz49_2 := blk_frozen BK171.out 2
     have hfz49_3 := blk_frozen BK171.out 3
     go_wp2_with (first | ((with_reducible refine gate_callee (f := 16) rfl ?_); refine goesL_ (some 45) rfl rfl Try.func16 (by kernel_rfl) rfl #[.agg #[.int .i8 t179, .int .i8 t180, .int .i8 t181, .slice Ao40 t182.length co40], .agg #[.int .i8 t164, .int .i8 t165, .int .i8 t166, .slice Ao26 t167.length co26]] rfl (by (try simp only [List.map_toArray, List.map_cons, List.map_nil]); first | done | rfl | (simp only [List.length_drop, List.length_take]; rfl)) ?_; (with_reducible refine (laws_eqBook.calls k t179 t180 t181 _ _ t182 t164 t165 t166 _ _ t167 true _ ?side1 ?side2 ?side3 ?side4 A41.out).mono ?_); (case side1 => refine (Kd.R_reads' (e := 9) (base := w.heap.size) (ok := fun k_ => (((True ∧ some k_ ≠ (.slice Ao21 t161.length co21 : Value).ownBlock) ∧ some k_ ≠ (.slice Ao26 t167.length co26 : Value).ownBlock) ∧ some k_ ≠ (.slice Ao33 t175.length co33 : Value).ownBlock)) (n := t182.length) (c := co40) ?_).2.2; exact (by (with_reducible repeat (first | apply Kd.R_alloc | apply Kd.R_drewN | apply Kd.R_drew)); exact (Kd.R_mono (Kd.R_far (p := ⟨gb186, 3, none⟩) (Kd.R_far (p := ⟨gb186, 2, none⟩) (Kd.R_far (p := ⟨gb186, 1, none⟩) (Kd.R_far (p := ⟨gb186, 0, none⟩) (Kd.R_types HO184.out BK186.out (by decide)) (fun _ hk => hk.2) (.int .i8 t179)) (fun _ hk => hk.2) (.int .i8 t180)) (fun _ hk => hk.2) (.int .i8 t181)) (fun _ hk => hk.2) (.slice Ao40 t182.length co40)) (fun _ h_ => h_.1)))); (case side2 => exact (Kd.R_reads' HO184.out).2.1); (case side3 => refine (Kd.R_reads' (e := 9) (base := w.heap.size) (ok := fun k_ => (((True ∧ some k_ ≠ (.slice Ao21 t161.length co21 : Value).ownBlock) ∧ some k_ ≠ (.slice Ao33 t175.length co33 : Value).ownBlock) ∧ some k_ ≠ (.slice Ao40 t182.length co40 : Value).ownBlock)) (n := t167.length) (c := co26) ?_).2.2; exact (by (with_reducible repeat (first | apply Kd.R_alloc | apply Kd.R_drewN | apply Kd.R_drew)); exact (Kd.R_mono (Kd.R_far (p := ⟨gb186, 3, none⟩) (Kd.R_far (p := ⟨gb186, 2, none⟩) (Kd.R_far (p := ⟨gb186, 1, none⟩) (Kd.R_far (p := ⟨gb186, 0, none⟩) (Kd.R_types HO169.out BK186.out (by decide)) (fun _ hk => hk.2) (.int .i8 t179)) (fun _ hk => hk.2) (.int .i8 t180)) (fun _ hk => hk.2) (.int .i8 t181)) (fun _ hk => hk.2) (.slice Ao40 t182.length co40)) (fun _ h_ => h_.1)))); (case side4 => exact (Kd.R_reads' HO169.out).2.1); rintro e w50 ⟨rfl, hb⟩; refine ⟨_, rfl, ?_⟩; have n0_ := Aside0.mk (Kd.R_below (by (with_reducible repeat (first | apply Kd.R_alloc | apply Kd.R_drewN | apply Kd.R_drew)); exact (Kd.R_mono (Kd.R_far (p := ⟨gb186, 3, none⟩) (Kd.R_far (p := ⟨gb186, 2, none⟩) (Kd.R_far (p := ⟨gb186, 1, none⟩) (Kd.R_far (p := ⟨gb186, 0, none⟩) (Kd.R_types HO163.out BK186.out (by decide)) (fun _ hk => hk.2) (.int .i8 t179)) (fun _ hk => hk.2) (.int .i8 t180)) (fun _ hk => hk.2) (.int .i8 t181)) (fun _ hk => hk.2) (.slice Ao40 t182.length co40)) (fun _ h_ => h_.1))) hb); have n1_ := Aside0.mk (Kd.R_below (by (with_reducible repeat (first | apply Kd.R_alloc | apply Kd.R_drewN | apply Kd.R_drew)); exact (Kd.R_mono (Kd.R_far (p := ⟨gb186, 3, none⟩) (Kd.R_far (p := ⟨gb186, 2, none⟩) (Kd.R_far (p := ⟨gb186, 1, none⟩) (Kd.R_far (p := ⟨gb186, 0, none⟩) (Kd.R_types HO169.out BK186.out (by decide)) (fun _ hk => hk.2) (.int .i8 t179)) (fun _ hk => hk.2) (.int .i8 t180)) (fun _ hk => hk.2) (.int .i8 t181)) (fun _ hk => hk.2) (.slice Ao40 t182.length co40)) (fun _ h_ => h_.1))) hb); have n2_ := Aside0.mk (Kd.R_below (by (with_reducible repeat (first | apply Kd.R_alloc | apply Kd.R_drewN | apply Kd.R_drew)); exact (Kd.R_mono (Kd.R_far (p := ⟨gb186, 3, none⟩) (Kd.R_far (p := ⟨gb186, 2, none⟩) (Kd.R_far (p := ⟨gb186, 1, none⟩) (Kd.R_far (p := ⟨gb186, 0, none⟩) (Kd.R_types HO177.out BK186.out (by decide)) (fun _ hk => hk.2) (.int .i8 t179)) (fun _ hk => hk.2) (.int .i8 t180)) (fun _ hk => hk.2) (.int .i8 t181)) (fun _ hk => hk.2) (.slice Ao40 t182.length co40)) (fun _ h_ => h_.1))) hb); have n3_ := Aside0.mk (Kd.R_below (by (with_reducible repeat (first | apply Kd.R_alloc | apply Kd.R_drewN | apply Kd.R_drew)); exact (Kd.R_mono (Kd.R_far (p := ⟨gb186, 3, none⟩) (Kd.R_far (p := ⟨gb186, 2, none⟩) (Kd.R_far (p := ⟨gb186, 1, none⟩) (Kd.R_far (p := ⟨gb186, 0, none⟩) (Kd.R_types HO184.out BK186.out (by decide)) (fun _ hk => hk.2) (.int .i8 t179)) (fun _ hk => hk.2) (.int .i8 t180)) (fun _ hk => hk.2) (.int .i8 t181)) (fun _ hk => hk.2) (.slice Ao40 t182.length co40)) (fun _ h_ => h_.1))) hb); have n4_ := Aside0.mk (blk_below (g := gb156) (o := .cells #[.int .i8 a0_0, .int .i8 a0_1, .int .i8 a0_2, .slice A0_3 l0_3.length c0_3] 25 (0, 0)) (by (with_reducible repeat (first | refine blk_drewN ?_ _ | refine blk_drew ?_ | refine blk_alloc ?_ _)); refine blk_far ?_ NB156_186.out _; (with_reducible repeat (first | refine blk_drewN ?_ _ | refine blk_drew ?_ | refine blk_alloc ?_ _)); refine blk_far ?_ NB156_186.out _; (with_reducible repeat (first | refine blk_drewN ?_ _ | refine blk_drew ?_ | refine blk_alloc ?_ _)); refine blk_far ?_ NB156_186.out _; (with_reducible repeat (first | refine blk_drewN ?_ _ | refine blk_drew ?_ | refine blk_alloc ?_ _)); refine blk_far ?_ NB156_186.out _; (with_reducible repeat (first | refine blk_drewN ?_ _ | refine blk_drew ?_ | refine blk_alloc ?_ _)); exact BK156.out) hb); have n5_ := Aside0.mk (blk_below (g := gb171) (o := .cells #[.int .i8 t164, .int .i8 t165, .int .i8 t166, .slice Ao26 t167.length co26] 27 (0, 0)) (by (with_reducible repeat (first | refine blk_drewN ?_ _ | refine blk_drew ?_ | refine blk_alloc ?_ _)); refine blk_far ?_ NB171_186.out _; (with_reducible repeat (first | refine blk_drewN ?_ _ | refine blk_drew ?_ | refine blk_alloc ?_ _)); refine blk_far ?_ NB171_186.out _; (with_reducible repeat (first | refine blk_drewN ?_ _ | refine blk_drew ?_ | refine blk_alloc ?_ _)); refine blk_far ?_ NB171_186.out _; (with_reducible repeat (first | refine blk_drewN ?_ _ | refine blk_drew ?_ | refine blk_alloc ?_ _)); refine blk_far ?_ NB171_186.out _; (with_reducible repeat (first | refine blk_drewN ?_ _ | refine blk_drew ?_ | refine blk_alloc ?_ _)); exact BK171.out) hb); have n6_ := Aside0.mk (blk_below (g := gb178) (o := .cells #[.int .i8 t172, .int .i8 t173, .int .i8 t174, .slice Ao33 t175.length co33] 27 (0, 0)) (by (with_reducible repeat (first | refine blk_drewN ?_ _ | refine blk_drew ?_ | refine blk_alloc ?_ _)); refine blk_far ?_ NB178_186.out _; (with_reducible repeat (first | refine blk_drewN ?_ _ | refine blk_drew ?_ | refine blk_alloc ?_ _)); refine blk_far ?_ NB178_186.out _; (with_reducible repeat (first | refine blk_drewN ?_ _ | refine blk_drew ?_ | refine blk_alloc ?_ _)); refine blk_far ?_ NB178_186.out _; (with_reducible repeat (first | refine blk_drewN ?_ _ | refine blk_drew ?_ | refine blk_alloc ?_ _)); refine blk_far ?_ NB178_186.out _; (with_reducible repeat (first | refine blk_drewN ?_ _ | refine blk_drew ?_ | refine blk_alloc ?_ _)); exact BK178.out) hb); have n7_ := Aside0.mk (blk_below (g := gb186) (o := .cells #[.int .i8 t179, .int .i8 t180, .int .i8 t181, .slice Ao40 t182.length co40] 27 (0, 0)) (by (with_reducible repeat (first | refine blk_drewN ?_ _ | refine blk_drew ?_ | refine blk_alloc ?_ _)); refine blk_put (cs := #[.int .i8 t179, .int .i8 t180, .int .i8 t181, .slice none 0 0]) ?_ 3 _ rfl; (with_reducible repeat (first | refine blk_drewN ?_ _ | refine blk_drew ?_ | refine blk_alloc ?_ _)); refine blk_put (cs := #[.int .i8 t179, .int .i8 t180, .int .i8 0, .slice none 0 0]) ?_ 2 _ rfl; (with_reducible repeat (first | refine blk_drewN ?_ _ | refine blk_drew ?_ | refine blk_alloc ?_ _)); refine blk_put (cs := #[.int .i8 t179, .int .i8 0, .int .i8 0, .slice none 0 0]) ?_ 1 _ rfl; (with_reducible repeat (first | refine blk_drewN ?_ _ | refine blk_drew ?_ | refine blk_alloc ?_ _)); refine blk_put (cs := #[.int .i8 0, .int .i8 0, .int .i8 0, .slice none 0 0]) ?_ 0 _ rfl; (with_reducible repeat (first | refine blk_drewN ?_ _ | refine blk_drew ?_ | refine blk_alloc ?_ _)); exact BK186.out) hb); have n8_ := Aside0.mk (below_step (by repeat (first | (with_reducible first | exact HB.out | apply below_alloc | apply pw_below_drewN | apply below_drew1 | refine below_set ?_ GE156.out | refine below_set ?_ GE171.out | refine below_set ?_ GE178.out | refine below_set ?_ GE186.out) | exact HB.out)) hb); clear HO163; clear HO169; clear HO177; clear HO184; clear BK156; clear BK171; clear BK178; clear BK186; clear HB; have HO163 := n0_; have HO169 := n1_; have HO177 := n2_; have HO184 := n3_; have BK156 := n4_; have BK171 := n5_; have BK178 := n6_; have BK186 := n7_; have HB := n8_; clear n0_ n1_ n2_ n3_ n4_ n5_ n6_ n7_ n8_; (try clear hb); (try clear hb2); (try clear hk); (try clear hi)))
     go_meet
     case rel => exact ⟨_, ((t185 != t170)), (by first | rfl | (simp; done) | (simp [*]; done)), H', ⟨by first | omega | exact Nat.le_refl _⟩, ⟨by (with_reducible repeat (first | apply Kd.R_alloc | apply Kd.R_drewN | apply Kd.R_drew)); exact Kd.R_mono HO169.out (fun _ hk => ⟨hk.1.2, hk.2⟩)⟩, ⟨by (with_reducible repeat (first | apply Kd.R_alloc | apply Kd.R_drewN | apply Kd.R_drew)); exact Kd.R_mono HO177.out (fun _ hk => ⟨hk.1.2, hk.2⟩)⟩, ⟨by (with_reducible repeat (first | apply Kd.R_alloc | apply Kd.R_drewN | apply Kd.R_drew)); exact Kd.R_mono HO184.out (fun _ hk => ⟨hk.1.2, hk.2⟩)⟩, ⟨by (with_reducible repeat (first | refine blk_drewN ?_ _ | refine blk_drew ?_ | refine blk_alloc ?_ _)); exact BK156.out⟩, ⟨by (with_reducible repeat (first | refine blk_drewN ?_ _ | refine blk_drew ?_ | refine blk_alloc ?_ _)); exact BK171.out⟩, ⟨by (with_reducible repeat (first | refine blk_drewN ?_ _ | refine blk_drew ?_ | refine blk_alloc ?_ _)); exact BK178.out⟩, ⟨by (with_reducible repeat (first | refine blk_drewN ?_ _ | refine blk_drew ?_ | refine blk_alloc ?_ _)); exact BK186.out⟩, ⟨by repeat (first | (with_reducible first | exact HB.out | apply below_alloc | apply pw_below_drewN | apply below_drew1 | refine below_set ?_ GE156.out | refine below_set ?_ GE171.out | refine below_set ?_ GE178.out | refine below_set ?_ GE186.out) | exact HB.out)⟩⟩
    ·replace c42 := Bool.eq_false_iff.mpr c42
     subst c42
     have H1 : (laws_FnExactReplacePhrase.j0 k a1 a2 t170 t185 true a0_0 a0_1 a0_2 l0_3 t164 t165 t166 t167 t172 t173 t174 t175 t179 t180 t181 t182) = some r := by rw [if_neg (show ¬ (false = true) by decide)] at H; exact H
     clear H
     have H := H1
     clear H1
     have H' := Aside0.mk H
     clear H
     have hnb51 := NB186_156.out
     have hnc51 := NB156_186.out
     have hnb52 := NB186_171.out
     have hnc52 := NB171_186.out
     have hnb53 := NB186_178.out
     have hnc53 := NB178_186.out
     have hcz54_0 : w35.cell? ⟨gb186, 0, none⟩ = some (.int .i8 0) := (blk_cell BK186.out 0).trans rfl
     have hcz54_1 : w35.cell? ⟨gb186, 1, none⟩ = some (.int .i8 0) := (blk_cell BK186.out 1).trans rfl
     have hcz54_2 : w35.cell? ⟨gb186, 2, none⟩ = some (.int .i8 0) := (blk_cell BK186.out 2).trans rfl
     have hcz54_3 : w35.cell? ⟨gb186, 3, none⟩ = some (.slice none 0 0) := (blk_cell BK186.out 3).trans rfl
     have hfz54_0 := blk_frozen BK186.out 0
     have hfz54_1 := blk_frozen BK186.out 1
     have hfz54_2 := blk_frozen BK186.out 2
     have hfz54_3 := blk_frozen BK186.out 3
     have hnb55 := NB171_156.out
     have hnc55 := NB156_171.out
     have hnb56 := NB171_178.out
     have hnc56 := NB178_171.out
     have hcz57_0 : w35.cell? ⟨gb171, 0, none⟩ = some (.int .i8 t164) := (blk_cell BK171.out 0).trans rfl
     have hcz57_1 : w35.cell? ⟨gb171, 1, none⟩ = some (.int .i8 t165) := (blk_cell BK171.out 1).trans rfl
     have hcz57_2 : w35.cell? ⟨gb171, 2, none⟩ = some (.int .i8 t166) := (blk_cell BK171.out 2).trans rfl
     have hcz57_3 : w35.cell? ⟨gb171, 3, none⟩ = some (.slice Ao26 t167.length co26) := (blk_cell BK171.out 3).trans rfl
     have hfz57_0 := blk_frozen BK171.out 0
     have hfz57_1 := blk_frozen BK171.out 1
     have hfz57_2 := blk_frozen BK171.out 2
     have hfz57_3 := blk_frozen BK171.out 3
     go_wp2_with (first | ((with_reducible refine gate_callee (f := 16) rfl ?_); refine goesL_ (some 45) rfl rfl Try.func16 (by kernel_rfl) rfl #[.agg #[.int .i8 t179, .int .i8 t180, .int .i8 t181, .slice Ao40 t182.length co40], .agg #[.int .i8 t164, .int .i8 t165, .int .i8 t166, .slice Ao26 t167.length co26]] rfl (by (try simp only [List.map_toArray, List.map_cons, List.map_nil]); first | done | rfl | (simp only [List.length_drop, List.length_take]; rfl)) ?_; (with_reducible refine (laws_eqBook.calls k t179 t180 t181 _ _ t182 t164 t165 t166 _ _ t167 false _ ?side1 ?side2 ?side3 ?side4 A41.out).mono ?_); (case side1 => refine (Kd.R_reads' (e := 9) (base := w.heap.size) (ok := fun k_ => (((True ∧ some k_ ≠ (.slice Ao21 t161.length co21 : Value).ownBlock) ∧ some k_ ≠ (.slice Ao26 t167.length co26 : Value).ownBlock) ∧ some k_ ≠ (.slice Ao33 t175.length co33 : Value).ownBlock)) (n := t182.length) (c := co40) ?_).2.2; exact (by (with_reducible repeat (first | apply Kd.R_alloc | apply Kd.R_drewN | apply Kd.R_drew)); exact (Kd.R_mono (Kd.R_far (p := ⟨gb186, 3, none⟩) (Kd.R_far (p := ⟨gb186, 2, none⟩) (Kd.R_far (p := ⟨gb186, 1, none⟩) (Kd.R_far (p := ⟨gb186, 0, none⟩) (Kd.R_types HO184.out BK186.out (by decide)) (fun _ hk => hk.2) (.int .i8 t179)) (fun _ hk => hk.2) (.int .i8 t180)) (fun _ hk => hk.2) (.int .i8 t181)) (fun _ hk => hk.2) (.slice Ao40 t182.length co40)) (fun _ h_ => h_.1)))); (case side2 => exact (Kd.R_reads' HO184.out).2.1); (case side3 => refine (Kd.R_reads' (e := 9) (base := w.heap.size) (ok := fun k_ => (((True ∧ some k_ ≠ (.slice Ao21 t161.length co21 : Value).ownBlock) ∧ some k_ ≠ (.slice Ao33 t175.length co33 : Value).ownBlock) ∧ some k_ ≠ (.slice Ao40 t182.length co40 : Value).ownBlock)) (n := t167.length) (c := co26) ?_).2.2; exact (by (with_reducible repeat (first | apply Kd.R_alloc | apply Kd.R_drewN | apply Kd.R_drew)); exact (Kd.R_mono (Kd.R_far (p := ⟨gb186, 3, none⟩) (Kd.R_far (p := ⟨gb186, 2, none⟩) (Kd.R_far (p := ⟨gb186, 1, none⟩) (Kd.R_far (p := ⟨gb186, 0, none⟩) (Kd.R_types HO169.out BK186.out (by decide)) (fun _ hk => hk.2) (.int .i8 t179)) (fun _ hk => hk.2) (.int .i8 t180)) (fun _ hk => hk.2) (.int .i8 t181)) (fun _ hk => hk.2) (.slice Ao40 t182.length co40)) (fun _ h_ => h_.1)))); (case side4 => exact (Kd.R_reads' HO169.out).2.1); rintro e w58 ⟨rfl, hb⟩; refine ⟨_, rfl, ?_⟩; have n0_ := Aside0.mk (Kd.R_below (by (with_reducible repeat (first | apply Kd.R_alloc | apply Kd.R_drewN | apply Kd.R_drew)); exact (Kd.R_mono (Kd.R_far (p := ⟨gb186, 3, none⟩) (Kd.R_far (p := ⟨gb186, 2, none⟩) (Kd.R_far (p := ⟨gb186, 1, none⟩) (Kd.R_far (p := ⟨gb186, 0, none⟩) (Kd.R_types HO163.out BK186.out (by decide)) (fun _ hk => hk.2) (.int .i8 t179)) (fun _ hk => hk.2) (.int .i8 t180)) (fun _ hk => hk.2) (.int .i8 t181)) (fun _ hk => hk.2) (.slice Ao40 t182.length co40)) (fun _ h_ => h_.1))) hb); have n1_ := Aside0.mk (Kd.R_below (by (with_reducible repeat (first | apply Kd.R_alloc | apply Kd.R_drewN | apply Kd.R_drew)); exact (Kd.R_mono (Kd.R_far (p := ⟨gb186, 3, none⟩) (Kd.R_far (p := ⟨gb186, 2, none⟩) (Kd.R_far (p := ⟨gb186, 1, none⟩) (Kd.R_far (p := ⟨gb186, 0, none⟩) (Kd.R_types HO169.out BK186.out (by decide)) (fun _ hk => hk.2) (.int .i8 t179)) (fun _ hk => hk.2) (.int .i8 t180)) (fun _ hk => hk.2) (.int .i8 t181)) (fun _ hk => hk.2) (.slice Ao40 t182.length co40)) (fun _ h_ => h_.1))) hb); have n2_ := Aside0.mk (Kd.R_below (by (with_reducible repeat (first | apply Kd.R_alloc | apply Kd.R_drewN | apply Kd.R_drew)); exact (Kd.R_mono (Kd.R_far (p := ⟨gb186, 3, none⟩) (Kd.R_far (p := ⟨gb186, 2, none⟩) (Kd.R_far (p := ⟨gb186, 1, none⟩) (Kd.R_far (p := ⟨gb186, 0, none⟩) (Kd.R_types HO177.out BK186.out (by decide)) (fun _ hk => hk.2) (.int .i8 t179)) (fun _ hk => hk.2) (.int .i8 t180)) (fun _ hk => hk.2) (.int .i8 t181)) (fun _ hk => hk.2) (.slice Ao40 t182.length co40)) (fun _ h_ => h_.1))) hb); have n3_ := Aside0.mk (Kd.R_below (by (with_reducible repeat (first | apply Kd.R_alloc | apply Kd.R_drewN | apply Kd.R_drew)); exact (Kd.R_mono (Kd.R_far (p := ⟨gb186, 3, none⟩) (Kd.R_far (p := ⟨gb186, 2, none⟩) (Kd.R_far (p := ⟨gb186, 1, none⟩) (Kd.R_far (p := ⟨gb186, 0, none⟩) (Kd.R_types HO184.out BK186.out (by decide)) (fun _ hk => hk.2) (.int .i8 t179)) (fun _ hk => hk.2) (.int .i8 t180)) (fun _ hk => hk.2) (.int .i8 t181)) (fun _ hk => hk.2) (.slice Ao40 t182.length co40)) (fun _ h_ => h_.1))) hb); have n4_ := Aside0.mk (blk_below (g := gb156) (o := .cells #[.int .i8 a0_0, .int .i8 a0_1, .int .i8 a0_2, .slice A0_3 l0_3.length c0_3] 25 (0, 0)) (by (with_reducible repeat (first | refine blk_drewN ?_ _ | refine blk_drew ?_ | refine blk_alloc ?_ _)); refine blk_far ?_ NB156_186.out _; (with_reducible repeat (first | refine blk_drewN ?_ _ | refine blk_drew ?_ | refine blk_alloc ?_ _)); refine blk_far ?_ NB156_186.out _; (with_reducible repeat (first | refine blk_drewN ?_ _ | refine blk_drew ?_ | refine blk_alloc ?_ _)); refine blk_far ?_ NB156_186.out _; (with_reducible repeat (first | refine blk_drewN ?_ _ | refine blk_drew ?_ | refine blk_alloc ?_ _)); refine blk_far ?_ NB156_186.out _; (with_reducible repeat (first | refine blk_drewN ?_ _ | refine blk_drew ?_ | refine blk_alloc ?_ _)); exact BK156.out) hb); have n5_ := Aside0.mk (blk_below (g := gb171) (o := .cells #[.int .i8 t164, .int .i8 t165, .int .i8 t166, .slice Ao26 t167.length co26] 27 (0, 0)) (by (with_reducible repeat (first | refine blk_drewN ?_ _ | refine blk_drew ?_ | refine blk_alloc ?_ _)); refine blk_far ?_ NB171_186.out _; (with_reducible repeat (first | refine blk_drewN ?_ _ | refine blk_drew ?_ | refine blk_alloc ?_ _)); refine blk_far ?_ NB171_186.out _; (with_reducible repeat (first | refine blk_drewN ?_ _ | refine blk_drew ?_ | refine blk_alloc ?_ _)); refine blk_far ?_ NB171_186.out _; (with_reducible repeat (first | refine blk_drewN ?_ _ | refine blk_drew ?_ | refine blk_alloc ?_ _)); refine blk_far ?_ NB171_186.out _; (with_reducible repeat (first | refine blk_drewN ?_ _ | refine blk_drew ?_ | refine blk_alloc ?_ _)); exact BK171.out) hb); have n6_ := Aside0.mk (blk_below (g := gb178) (o := .cells #[.int .i8 t172, .int .i8 t173, .int .i8 t174, .slice Ao33 t175.length co33] 27 (0, 0)) (by (with_reducible repeat (first | refine blk_drewN ?_ _ | refine blk_drew ?_ | refine blk_alloc ?_ _)); refine blk_far ?_ NB178_186.out _; (with_reducible repeat (first | refine blk_drewN ?_ _ | refine blk_drew ?_ | refine blk_alloc ?_ _)); refine blk_far ?_ NB178_186.out _; (with_reducible repeat (first | refine blk_drewN ?_ _ | refine blk_drew ?_ | refine blk_alloc ?_ _)); refine blk_far ?_ NB178_186.out _; (with_reducible repeat (first | refine blk_drewN ?_ _ | refine blk_drew ?_ | refine blk_alloc ?_ _)); refine blk_far ?_ NB178_186.out _; (with_reducible repeat (first | refine blk_drewN ?_ _ | refine blk_drew ?_ | refine blk_alloc ?_ _)); exact BK178.out) hb); have n7_ := Aside0.mk (blk_below (g := gb186) (o := .cells #[.int .i8 t179, .int .i8 t180, .int .i8 t181, .slice Ao40 t182.length co40] 27 (0, 0)) (by (with_reducible repeat (first | refine blk_drewN ?_ _ | refine blk_drew ?_ | refine blk_alloc ?_ _)); refine blk_put (cs := #[.int .i8 t179, .int .i8 t180, .int .i8 t181, .slice none 0 0]) ?_ 3 _ rfl; (with_reducible repeat (first | refine blk_drewN ?_ _ | refine blk_drew ?_ | refine blk_alloc ?_ _)); refine blk_put (cs := #[.int .i8 t179, .int .i8 t180, .int .i8 0, .slice none 0 0]) ?_ 2 _ rfl; (with_reducible repeat (first | refine blk_drewN ?_ _ | refine blk_drew ?_ | refine blk_alloc ?_ _)); refine blk_put (cs := #[.int .i8 t179, .int .i8 0, .int .i8 0, .slice none 0 0]) ?_ 1 _ rfl; (with_reducible repeat (first | refine blk_drewN ?_ _ | refine blk_drew ?_ | refine blk_alloc ?_ _)); refine blk_put (cs := #[.int .i8 0, .int .i8 0, .int .i8 0, .slice none 0 0]) ?_ 0 _ rfl; (with_reducible repeat (first | refine blk_drewN ?_ _ | refine blk_drew ?_ | refine blk_alloc ?_ _)); exact BK186.out) hb); have n8_ := Aside0.mk (below_step (by repeat (first | (with_reducible first | exact HB.out | apply below_alloc | apply pw_below_drewN | apply below_drew1 | refine below_set ?_ GE156.out | refine below_set ?_ GE171.out | refine below_set ?_ GE178.out | refine below_set ?_ GE186.out) | exact HB.out)) hb); clear HO163; clear HO169; clear HO177; clear HO184; clear BK156; clear BK171; clear BK178; clear BK186; clear HB; have HO163 := n0_; have HO169 := n1_; have HO177 := n2_; have HO184 := n3_; have BK156 := n4_; have BK171 := n5_; have BK178 := n6_; have BK186 := n7_; have HB := n8_; clear n0_ n1_ n2_ n3_ n4_ n5_ n6_ n7_ n8_; (try clear hb); (try clear hb2); (try clear hk); (try clear hi)))
     go_meet
     case rel => exact ⟨_, (true), (by first | rfl | (simp; done) | (simp [*]; done)), H', ⟨by first | omega | exact Nat.le_refl _⟩, ⟨by (with_reducible repeat (first | apply Kd.R_alloc | apply Kd.R_drewN | apply Kd.R_drew)); exact Kd.R_mono HO169.out (fun _ hk => ⟨hk.1.2, hk.2⟩)⟩, ⟨by (with_reducible repeat (first | apply Kd.R_alloc | apply Kd.R_drewN | apply Kd.R_drew)); exact Kd.R_mono HO177.out (fun _ hk => ⟨hk.1.2, hk.2⟩)⟩, ⟨by (with_reducible repeat (first | apply Kd.R_alloc | apply Kd.R_drewN | apply Kd.R_drew)); exact Kd.R_mono HO184.out (fun _ hk => ⟨hk.1.2, hk.2⟩)⟩, ⟨by (with_reducible repeat (first | refine blk_drewN ?_ _ | refine blk_drew ?_ | refine blk_alloc ?_ _)); exact BK156.out⟩, ⟨by (with_reducible repeat (first | refine blk_drewN ?_ _ | refine blk_drew ?_ | refine blk_alloc ?_ _)); exact BK171.out⟩, ⟨by (with_reducible repeat (first | refine blk_drewN ?_ _ | refine blk_drew ?_ | refine blk_alloc ?_ _)); exact BK178.out⟩, ⟨by (with_reducible repeat (first | refine blk_drewN ?_ _ | refine blk_drew ?_ | refine blk_alloc ?_ _)); exact BK186.out⟩, ⟨by repeat (first | (with_reducible first | exact HB.out | apply below_alloc | apply pw_below_drewN | apply below_drew1 | refine below_set ?_ GE156.out | refine below_set ?_ GE171.out | refine below_set ?_ GE178.out | refine below_set ?_ GE186.out) | exact HB.out)⟩⟩
   case rest =>
    clear HC15
    try clear c1
    try clear c2
    try clear p2
    try clear c3
    try clear c4
    try clear c4b0
    try clear c4b1
    try clear c5
    try clear c7
    try clear c7b0
    try clear c12
    try clear c14
    try clear c16
    try clear c21
    try clear c22
    try clear c24
    try clear c30
    try clear c31
    try clear c36
    try clear c37
    try clear c38
    try clear c42
    try clear c43
    try clear c44
    try clear c45
    try clear c47
    try clear c48
    try clear c51
    try clear c52
    try clear c53
    try clear c55
    try clear c56
    try clear hcz17_0
    try clear hcz17_1
    try clear hcz17_2
    try clear hcz17_3
    try clear hcz19_0
    try clear hcz19_1
    try clear hcz19_2
    try clear hcz19_3
    try clear hcz25_0
    try clear hcz25_1
    try clear hcz25_2
    try clear hcz25_3
    try clear hcz27_0
    try clear hcz27_1
    try clear hcz27_2
    try clear hcz27_3
    try clear hcz32_0
    try clear hcz32_1
    try clear hcz32_2
    try clear hcz32_3
    try clear hcz39_0
    try clear hcz39_1
    try clear hcz39_2
    try clear hcz39_3
    try clear hcz46_0
    try clear hcz46_1
    try clear hcz46_2
    try clear hcz46_3
    try clear hcz49_0
    try clear hcz49_1
    try clear hcz49_2
    try clear hcz49_3
    try clear hcz54_0
    try clear hcz54_1
    try clear hcz54_2
    try clear hcz54_3
    try clear hcz57_0
    try clear hcz57_1
    try clear hcz57_2
    try clear hcz57_3
    try clear hcz9_0
    try clear hcz9_1
    try clear hcz9_2
    try clear hcz9_3
    try clear hfz17_0
    try clear hfz17_1
    try clear hfz17_2
    try clear hfz17_3
    try clear hfz19_0
    try clear hfz19_1
    try clear hfz19_2
    try clear hfz19_3
    try clear hfz25_0
    try clear hfz25_1
    try clear hfz25_2
    try clear hfz25_3
    try clear hfz27_0
    try clear hfz27_1
    try clear hfz27_2
    try clear hfz27_3
    try clear hfz32_0
    try clear hfz32_1
    try clear hfz32_2
    try clear hfz32_3
    try clear hfz39_0
    try clear hfz39_1
    try clear hfz39_2
    try clear hfz39_3
    try clear hfz46_0
    try clear hfz46_1
    try clear hfz46_2
    try clear hfz46_3
    try clear hfz49_0
    try clear hfz49_1
    try clear hfz49_2
    try clear hfz49_3
    try clear hfz54_0
    try clear hfz54_1
    try clear hfz54_2
    try clear hfz54_3
    try clear hfz57_0
    try clear hfz57_1
    try clear hfz57_2
    try clear hfz57_3
    try clear hfz9_0
    try clear hfz9_1
    try clear hfz9_2
    try clear hfz9_3
    obtain ⟨kq, x51_14, rfl, HA, HJ14, HO_172003, HO_179003, HO_187003, BK156, BK171, BK178, BK186, HB⟩ := hcut
    cases kq with
    | zero => exact absurd HA.out (by simp [laws_FnExactReplacePhrase.j0])
    | succ kj14 =>
     have H := HA.out
     clear HA
     simp only [laws_FnExactReplacePhrase.j0] at H
     by_cases c59 : x51_14 = true
     ·subst c59
      have H1 : (some false) = some r := by rw [if_pos rfl] at H; exact H
      clear H
      have H := H1
      clear H1
      obtain rfl := Option.some.inj H
      go_wp2
      go_ret
      exact ⟨by first | rfl | (simp [errW_none, errW_some] <;> rfl) | (simp [*, errW_none, errW_some] <;> rfl), by repeat (first | (with_reducible first | exact HB.out | apply below_alloc | apply pw_below_drewN | apply below_drew1 | refine below_set ?_ GE156.out | refine below_set ?_ GE171.out | refine below_set ?_ GE178.out | refine below_set ?_ GE186.out) | exact HB.out)⟩
     ·replace c59 := Bool.eq_false_iff.mpr c59
      subst c59
      have H1 : ((laws_toBook.f kj14 a0_0 a0_1 a0_2 l0_3).bind fun bt188 => ((laws_eqBook.f kj14 t172 t173 t174 t175 bt188.1 bt188.2.1 bt188.2.2.1 bt188.2.2.2).bind fun t194 => (if t194 = true then ((laws_markBook.f kj14 t172 t173 t174 t175 1).bind fun bt195 => (if bt195.1 < 0 then (laws_FnExactReplacePhrase.j1 kj14 a1 a2 t170 true a0_0 a0_1 a0_2 l0_3 t164 t165 t166 t167 t179 t180 t181 t182) else ((laws_eqBook.f kj14 t179 t180 t181 t182 t164 t165 t166 t167).bind fun t197 => (if t197 = true then (laws_FnExactReplacePhrase.j1 kj14 a1 a2 t170 (t185 != t170) a0_0 a0_1 a0_2 l0_3 t164 t165 t166 t167 t179 t180 t181 t182) else (laws_FnExactReplacePhrase.j1 kj14 a1 a2 t170 true a0_0 a0_1 a0_2 l0_3 t164 t165 t166 t167 t179 t180 t181 t182))))) else (some false)))) = some r := by rw [if_neg (show ¬ (false = true) by decide)] at H; exact H
      clear H
      have H := H1
      clear H1
      replace H := Option.bind_eq_some_iff.mp H
      obtain ⟨⟨t188, t189, t190, t191⟩, A600, H⟩ := H
      replace H : ((laws_eqBook.f kj14 t172 t173 t174 t175 t188 t189 t190 t191).bind fun t194 => (if t194 = true then ((laws_markBook.f kj14 t172 t173 t174 t175 1).bind fun bt195 => (if bt195.1 < 0 then (laws_FnExactReplacePhrase.j1 kj14 a1 a2 t170 true a0_0 a0_1 a0_2 l0_3 t164 t165 t166 t167 t179 t180 t181 t182) else ((laws_eqBook.f kj14 t179 t180 t181 t182 t164 t165 t166 t167).bind fun t197 => (if t197 = true then (laws_FnExactReplacePhrase.j1 kj14 a1 a2 t170 (t185 != t170) a0_0 a0_1 a0_2 l0_3 t164 t165 t166 t167 t179 t180 t181 t182) else (laws_FnExactReplacePhrase.j1 kj14 a1 a2 t170 true a0_0 a0_1 a0_2 l0_3 t164 t165 t166 t167 t179 t180 t181 t182))))) else (some false))) = some r := H
      have A60 := Aside0.mk A600
      clear A600
      replace H := Option.bind_eq_some_iff.mp H
      obtain ⟨t194, A610, H⟩ := H
      replace H : (if t194 = true then ((laws_markBook.f kj14 t172 t173 t174 t175 1).bind fun bt195 => (if bt195.1 < 0 then (laws_FnExactReplacePhrase.j1 kj14 a1 a2 t170 true a0_0 a0_1 a0_2 l0_3 t164 t165 t166 t167 t179 t180 t181 t182) else ((laws_eqBook.f kj14 t179 t180 t181 t182 t164 t165 t166 t167).bind fun t197 => (if t197 = true then (laws_FnExactReplacePhrase.j1 kj14 a1 a2 t170 (t185 != t170) a0_0 a0_1 a0_2 l0_3 t164 t165 t166 t167 t179 t180 t181 t182) else (laws_FnExactReplacePhrase.j1 kj14 a1 a2 t170 true a0_0 a0_1 a0_2 l0_3 t164 t165 t166 t167 t179 t180 t181 t182))))) else (some false)) = some r := H
      have A61 := Aside0.mk A610
      clear A610
      by_cases c62 : t194 = true
      ·subst c62
       have H1 : ((laws_markBook.f kj14 t172 t173 t174 t175 1).bind fun bt195 => (if bt195.1 < 0 then (laws_FnExactReplacePhrase.j1 kj14 a1 a2 t170 true a0_0 a0_1 a0_2 l0_3 t164 t165 t166 t167 t179 t180 t181 t182) else ((laws_eqBook.f kj14 t179 t180 t181 t182 t164 t165 t166 t167).bind fun t197 => (if t197 = true then (laws_FnExactReplacePhrase.j1 kj14 a1 a2 t170 (t185 != t170) a0_0 a0_1 a0_2 l0_3 t164 t165 t166 t167 t179 t180 t181 t182) else (laws_FnExactReplacePhrase.j1 kj14 a1 a2 t170 true a0_0 a0_1 a0_2 l0_3 t164 t165 t166 t167 t179 t180 t181 t182))))) = some r := by rw [if_pos rfl] at H; exact H
       clear H
       have H := H1
       clear H1
       replace H := Option.bind_eq_some_iff.mp H
       obtain ⟨⟨t195, t196⟩, A630, H⟩ := H
       replace H : (if t195 < 0 then (laws_FnExactReplacePhrase.j1 kj14 a1 a2 t170 true a0_0 a0_1 a0_2 l0_3 t164 t165 t166 t167 t179 t180 t181 t182) else ((laws_eqBook.f kj14 t179 t180 t181 t182 t164 t165 t166 t167).bind fun t197 => (if t197 = true then (laws_FnExactReplacePhrase.j1 kj14 a1 a2 t170 (t185 != t170) a0_0 a0_1 a0_2 l0_3 t164 t165 t166 t167 t179 t180 t181 t182) else (laws_FnExactReplacePhrase.j1 kj14 a1 a2 t170 true a0_0 a0_1 a0_2 l0_3 t164 t165 t166 t167 t179 t180 t181 t182)))) = some r := H
       have A63 := Aside0.mk A630
       clear A630
       have HC64 := Aside0.mk H
       clear H
       try go_wp2
       have n0_ := Aside0.mk (Kd.R_drew HO_172003.out)
       have n1_ := Aside0.mk (Kd.R_drew HO_179003.out)
       have n2_ := Aside0.mk (Kd.R_drew HO_187003.out)
       have n3_ := Aside0.mk (blk_drew BK156.out)
       have n4_ := Aside0.mk (blk_drew BK171.out)
       have n5_ := Aside0.mk (blk_drew BK178.out)
       have n6_ := Aside0.mk (blk_drew BK186.out)
       have n7_ := Aside0.mk (below_drew1 HB.out)
       clear HO_172003
       clear HO_179003
       clear HO_187003
       clear BK156
       clear BK171
       clear BK178
       clear BK186
       clear HB
       have HO_172003 := n0_
       have HO_179003 := n1_
       have HO_187003 := n2_
       have BK156 := n3_
       have BK171 := n4_
       have BK178 := n5_
       have BK186 := n6_
       have HB := n7_
       clear n0_ n1_ n2_ n3_ n4_ n5_ n6_ n7_
       refine start_ (n := 5) (S := fun w' => w'.cell? ⟨gb178, 0, none⟩ = some (.int .i8 t172) ∧ w'.cell? ⟨gb178, 1, none⟩ = some (.int .i8 t173) ∧ w'.cell? ⟨gb178, 2, none⟩ = some (.int .i8 t174) ∧ w'.cell? ⟨gb178, 3, none⟩ = some (.slice Ao33 t175.length co33) ∧ w'.cell? ⟨gb156, 0, none⟩ = some (.int .i8 a0_0) ∧ w'.cell? ⟨gb156, 1, none⟩ = some (.int .i8 a0_1) ∧ w'.cell? ⟨gb156, 2, none⟩ = some (.int .i8 a0_2) ∧ w'.cell? ⟨gb156, 3, none⟩ = some (.slice A0_3 l0_3.length c0_3)) (ds := []) #[false, false, false, false, false] (by kernel_rfl) rfl rfl ⟨(blk_cell BK178.out 0).trans rfl, (blk_cell BK178.out 1).trans rfl, (blk_cell BK178.out 2).trans rfl, (blk_cell BK178.out 3).trans rfl, (blk_cell BK156.out 0).trans rfl, (blk_cell BK156.out 1).trans rfl, (blk_cell BK156.out 2).trans rfl, (blk_cell BK156.out 3).trans rfl⟩ (fun hHeld => ?_)
       generalize wc.drew = w65 at HO_172003 HO_179003 HO_187003 BK156 BK171 BK178 BK186 HB hHeld ⊢
       refine take_ (i := 0) (N := some 52) (v := ?_) (a' := ?_) #[true, false, false, false, false] rfl rfl (by kernel_rfl) (fun _ _ _ h => h) (Or.inl ⟨by rfl, ?_⟩) hHeld ?_ ?_
       rotate_left
       ·rintro w' ⟨s0, s1, s2, s3, s4, s5, s6, s7⟩
        go_simp
        with_reducible rfl
       rotate_left
       ·simp only [Act.put, List.setIfInBounds_toArray, List.set_cons_zero, List.set_cons_succ, i64_w, i32_w]
        rfl
       refine take_ (i := 1) (N := some 53) (v := ?_) (a' := ?_) #[true, true, false, false, false] rfl rfl (by kernel_rfl) (fun _ _ _ h => h) (Or.inl ⟨by rfl, ?_⟩) hHeld ?_ ?_
       rotate_left
       ·rintro w' ⟨s0, s1, s2, s3, s4, s5, s6, s7⟩
        go_simp
        with_reducible rfl
       rotate_left
       ·simp only [Act.put, List.setIfInBounds_toArray, List.set_cons_zero, List.set_cons_succ, i64_w, i32_w]
        rfl
       refine one_ (i := 2) (N := some 54) #[true, true, true, false, false] rfl rfl (by kernel_rfl) (by decide) (fun K hK => ?_)
       refine goes_ Try.func14 (by kernel_rfl) rfl #[.agg #[.int .i8 a0_0, .int .i8 a0_1, .int .i8 a0_2, .slice A0_3 l0_3.length c0_3]] (by rfl) rfl rfl (by (try simp only [List.map_toArray, List.map_cons, List.map_nil]); first | done | rfl | (simp only [List.length_drop, List.length_take]; rfl)) ?_
       with_reducible refine (laws_toBook.calls kj14 a0_0 a0_1 a0_2 _ _ l0_3 t188 t189 t190 t191 _ ?side1 ?side2 A60.out).mono ?_
       (case side1 => repeat (first | exact (Kd.C_below HR0_3.out HB.out) | (with_reducible refine Kd.C_alloc ?_ _) | (with_reducible refine Kd.C_drewN ?_ _) | (with_reducible refine Kd.C_drew ?_)))
       (case side2 => exact HC0_3.out)
       rintro e w66 ⟨v192, rfl, ho0, hb⟩
       refine ⟨_, rfl, ?_⟩
       have n0_ := Aside0.mk (Kd.R_elder' (by (with_reducible repeat (first | apply Kd.R_alloc | apply Kd.R_drewN | apply Kd.R_drew)); exact HO_172003.out) (Kd.R_base ho0) hb)
       have n1_ := Aside0.mk (Kd.R_elder' (by (with_reducible repeat (first | apply Kd.R_alloc | apply Kd.R_drewN | apply Kd.R_drew)); exact HO_179003.out) (Kd.R_base ho0) hb)
       have n2_ := Aside0.mk (Kd.R_elder' (by (with_reducible repeat (first | apply Kd.R_alloc | apply Kd.R_drewN | apply Kd.R_drew)); exact HO_187003.out) (Kd.R_base ho0) hb)
       have n3_ := Aside0.mk (Kd.R_lower (Kd.R_new' (Kd.R_new' (Kd.R_new' ho0 (Kd.R_lt (by (with_reducible repeat (first | apply Kd.R_alloc | apply Kd.R_drewN | apply Kd.R_drew)); exact HO_172003.out))) (Kd.R_lt (by (with_reducible repeat (first | apply Kd.R_alloc | apply Kd.R_drewN | apply Kd.R_drew)); exact HO_179003.out))) (Kd.R_lt (by (with_reducible repeat (first | apply Kd.R_alloc | apply Kd.R_drewN | apply Kd.R_drew)); exact HO_187003.out))) (below_size (by repeat (first | (with_reducible first | exact HB.out | apply below_alloc | apply pw_below_drewN | apply below_drew1 | refine below_set ?_ GE156.out | refine below_set ?_ GE171.out | refine below_set ?_ GE178.out | refine below_set ?_ GE186.out) | exact HB.out))))
       have n4_ := Aside0.mk (blk_below (g := gb156) (o := .cells #[.int .i8 a0_0, .int .i8 a0_1, .int .i8 a0_2, .slice A0_3 l0_3.length c0_3] 25 (0, 0)) (by (with_reducible repeat (first | refine blk_drewN ?_ _ | refine blk_drew ?_ | refine blk_alloc ?_ _)); exact BK156.out) hb)
       have n5_ := Aside0.mk (blk_below (g := gb171) (o := .cells #[.int .i8 t164, .int .i8 t165, .int .i8 t166, .slice Ao26 t167.length co26] 27 (0, 0)) (by (with_reducible repeat (first | refine blk_drewN ?_ _ | refine blk_drew ?_ | refine blk_alloc ?_ _)); exact BK171.out) hb)
       have n6_ := Aside0.mk (blk_below (g := gb178) (o := .cells #[.int .i8 t172, .int .i8 t173, .int .i8 t174, .slice Ao33 t175.length co33] 27 (0, 0)) (by (with_reducible repeat (first | refine blk_drewN ?_ _ | refine blk_drew ?_ | refine blk_alloc ?_ _)); exact BK178.out) hb)
       have n7_ := Aside0.mk (blk_below (g := gb186) (o := .cells #[.int .i8 t179, .int .i8 t180, .int .i8 t181, .slice Ao40 t182.length co40] 27 (0, 0)) (by (with_reducible repeat (first | refine blk_drewN ?_ _ | refine blk_drew ?_ | refine blk_alloc ?_ _)); exact BK186.out) hb)
       have n8_ := Aside0.mk (below_step (by repeat (first | (with_reducible first | exact HB.out | apply below_alloc | apply pw_below_drewN | apply below_drew1 | refine below_set ?_ GE156.out | refine below_set ?_ GE171.out | refine below_set ?_ GE178.out | refine below_set ?_ GE186.out) | exact HB.out)) hb)
       clear HO_172003
       clear HO_179003
       clear HO_187003
       clear BK156
       clear BK171
       clear BK178
       clear BK186
       clear HB
       have HO_172003 := n0_
       have HO_179003 := n1_
       have HO_187003 := n2_
       have HO193 := n3_
       have BK156 := n4_
       have BK171 := n5_
       have BK178 := n6_
       have BK186 := n7_
       have HB := n8_
       clear n0_ n1_ n2_ n3_ n4_ n5_ n6_ n7_ n8_
       (try clear hb)
       (try clear hb2)
       (try clear hk)
       (try clear hi)
       (try clear ho0)
       obtain ⟨Ao67, co67, eo67⟩ := Kd.R_slice HO193.out
       (first | subst eo67 | (injection eo67 with f1_ f2_ f3_; have f4_ := f1_.symm; have f5_ := f3_.symm; clear f1_ f2_ f3_; subst f4_; subst f5_))
       refine hK.out _ _ ⟨(blk_cell BK178.out 0).trans rfl, (blk_cell BK178.out 1).trans rfl, (blk_cell BK178.out 2).trans rfl, (blk_cell BK178.out 3).trans rfl, (blk_cell BK156.out 0).trans rfl, (blk_cell BK156.out 1).trans rfl, (blk_cell BK156.out 2).trans rfl, (blk_cell BK156.out 3).trans rfl⟩ (fun hHeld => ?_)
       clear hK K
       refine norm_ (a' := ?_) ?_ ?_
       rotate_left
       ·show Act.put _ (some 54) _ = _
        simp only [Act.put, List.setIfInBounds_toArray, List.set_cons_zero, List.set_cons_succ, i64_w, i32_w]
        rfl
       refine one_ (i := 3) (N := some 55) #[true, true, true, true, false] rfl rfl (by kernel_rfl) (by decide) (fun K hK => ?_)
       refine goes_ Try.func16 (by kernel_rfl) rfl #[.agg #[.int .i8 t172, .int .i8 t173, .int .i8 t174, .slice Ao33 t175.length co33], .agg #[.int .i8 t188, .int .i8 t189, .int .i8 t190, .slice Ao67 t191.length co67]] (by rfl) rfl rfl (by (try simp only [List.map_toArray, List.map_cons, List.map_nil]); first | done | rfl | (simp only [List.length_drop, List.length_take]; rfl)) ?_
       with_reducible refine (laws_eqBook.calls kj14 t172 t173 t174 _ _ t175 t188 t189 t190 _ _ t191 true _ ?side1 ?side2 ?side3 ?side4 A61.out).mono ?_
       (case side1 => repeat (first | exact (Kd.R_reads' HO_179003.out).2.2 | (with_reducible refine Kd.C_alloc ?_ _) | (with_reducible refine Kd.C_drewN ?_ _) | (with_reducible refine Kd.C_drew ?_)))
       (case side2 => exact (Kd.R_reads' HO_179003.out).2.1)
       (case side3 => repeat (first | exact (Kd.R_reads' HO193.out).2.2 | (with_reducible refine Kd.C_alloc ?_ _) | (with_reducible refine Kd.C_drewN ?_ _) | (with_reducible refine Kd.C_drew ?_)))
       (case side4 => exact (Kd.R_reads' HO193.out).2.1)
       rintro e w68 ⟨rfl, hb⟩
       refine ⟨_, rfl, ?_⟩
       have n0_ := Aside0.mk (Kd.R_below (by (with_reducible repeat (first | apply Kd.R_alloc | apply Kd.R_drewN | apply Kd.R_drew)); exact HO_172003.out) hb)
       have n1_ := Aside0.mk (Kd.R_below (by (with_reducible repeat (first | apply Kd.R_alloc | apply Kd.R_drewN | apply Kd.R_drew)); exact HO_179003.out) hb)
       have n2_ := Aside0.mk (Kd.R_below (by (with_reducible repeat (first | apply Kd.R_alloc | apply Kd.R_drewN | apply Kd.R_drew)); exact HO_187003.out) hb)
       have n3_ := Aside0.mk (Kd.R_below (by (with_reducible repeat (first | apply Kd.R_alloc | apply Kd.R_drewN | apply Kd.R_drew)); exact HO193.out) hb)
       have n4_ := Aside0.mk (blk_below (g := gb156) (o := .cells #[.int .i8 a0_0, .int .i8 a0_1, .int .i8 a0_2, .slice A0_3 l0_3.length c0_3] 25 (0, 0)) (by (with_reducible repeat (first | refine blk_drewN ?_ _ | refine blk_drew ?_ | refine blk_alloc ?_ _)); exact BK156.out) hb)
       have n5_ := Aside0.mk (blk_below (g := gb171) (o := .cells #[.int .i8 t164, .int .i8 t165, .int .i8 t166, .slice Ao26 t167.length co26] 27 (0, 0)) (by (with_reducible repeat (first | refine blk_drewN ?_ _ | refine blk_drew ?_ | refine blk_alloc ?_ _)); exact BK171.out) hb)
       have n6_ := Aside0.mk (blk_below (g := gb178) (o := .cells #[.int .i8 t172, .int .i8 t173, .int .i8 t174, .slice Ao33 t175.length co33] 27 (0, 0)) (by (with_reducible repeat (first | refine blk_drewN ?_ _ | refine blk_drew ?_ | refine blk_alloc ?_ _)); exact BK178.out) hb)
       have n7_ := Aside0.mk (blk_below (g := gb186) (o := .cells #[.int .i8 t179, .int .i8 t180, .int .i8 t181, .slice Ao40 t182.length co40] 27 (0, 0)) (by (with_reducible repeat (first | refine blk_drewN ?_ _ | refine blk_drew ?_ | refine blk_alloc ?_ _)); exact BK186.out) hb)
       have n8_ := Aside0.mk (below_step (by repeat (first | (with_reducible first | exact HB.out | apply below_alloc | apply pw_below_drewN | apply below_drew1 | refine below_set ?_ GE156.out | refine below_set ?_ GE171.out | refine below_set ?_ GE178.out | refine below_set ?_ GE186.out) | exact HB.out)) hb)
       clear HO_172003
       clear HO_179003
       clear HO_187003
       clear HO193
       clear BK156
       clear BK171
       clear BK178
       clear BK186
       clear HB
       have HO_172003 := n0_
       have HO_179003 := n1_
       have HO_187003 := n2_
       have HO193 := n3_
       have BK156 := n4_
       have BK171 := n5_
       have BK178 := n6_
       have BK186 := n7_
       have HB := n8_
       clear n0_ n1_ n2_ n3_ n4_ n5_ n6_ n7_ n8_
       (try clear hb)
       (try clear hb2)
       (try clear hk)
       (try clear hi)
       refine hK.out _ _ ⟨(blk_cell BK178.out 0).trans rfl, (blk_cell BK178.out 1).trans rfl, (blk_cell BK178.out 2).trans rfl, (blk_cell BK178.out 3).trans rfl, (blk_cell BK156.out 0).trans rfl, (blk_cell BK156.out 1).trans rfl, (blk_cell BK156.out 2).trans rfl, (blk_cell BK156.out 3).trans rfl⟩ (fun hHeld => ?_)
       clear hK K
       refine norm_ (a' := ?_) ?_ ?_
       rotate_left
       ·show Act.put _ (some 55) _ = _
        simp only [Act.put, List.setIfInBounds_toArray, List.set_cons_zero, List.set_cons_succ, i64_w, i32_w]
        rfl
       refine pure_ (i := 4) (N := some 56) (v := ?_) (a' := ?_) #[true, true, true, true, true] rfl rfl (by kernel_rfl) (fun _ _ _ h => h) (Or.inl ⟨by rfl, ?_⟩) ?_ ?_
       rotate_left
       ·intro w'
        go_simp
        with_reducible rfl
       rotate_left
       ·simp only [Act.put, List.setIfInBounds_toArray, List.set_cons_zero, List.set_cons_succ, i64_w, i32_w]
        rfl
       refine done_ (by kernel_rfl) ?_
       have hnb69 := NB178_156.out
       have hnc69 := NB156_178.out
       have hnb70 := NB178_171.out
       have hnc70 := NB171_178.out
       have hnb71 := NB178_186.out
       have hnc71 := NB186_178.out
       have hcz72_0 : w68.cell? ⟨gb178, 0, none⟩ = some (.int .i8 t172) := (blk_cell BK178.out 0).trans rfl
       have hcz72_1 : w68.cell? ⟨gb178, 1, none⟩ = some (.int .i8 t173) := (blk_cell BK178.out 1).trans rfl
       have hcz72_2 : w68.cell? ⟨gb178, 2, none⟩ = some (.int .i8 t174) := (blk_cell BK178.out 2).trans rfl
       have hcz72_3 : w68.cell? ⟨gb178, 3, none⟩ = some (.slice Ao33 t175.length co33) := (blk_cell BK178.out 3).trans rfl
       have hfz72_0 := blk_frozen BK178.out 0
       have hfz72_1 := blk_frozen BK178.out 1
       have hfz72_2 := blk_frozen BK178.out 2
       have hfz72_3 := blk_frozen BK178.out 3
       go_upto_region 16 with (first | ((with_reducible refine gate_callee (f := 17) rfl ?_); refine goesL_ (some 59) rfl rfl Try.func17 (by kernel_rfl) rfl #[.agg #[.int .i8 t172, .int .i8 t173, .int .i8 t174, .slice Ao33 t175.length co33], .int .i64 1] rfl (by (try simp only [List.map_toArray, List.map_cons, List.map_nil]); first | done | rfl | (simp only [List.length_drop, List.length_take]; rfl)) ?_; (with_reducible refine (laws_markBook.calls kj14 t172 t173 t174 (fun k_ => some k_ = (.slice Ao33 t175.length co33 : Value).ownBlock) (.slice Ao33 t175.length co33) t175 1 t195 t196 w _ ?side1 ?side2 A63.out).mono ?_); (case side1 => repeat (first | (with_reducible first | exact HB.out | apply below_alloc | apply pw_below_drewN | apply below_drew1 | refine below_set ?_ GE156.out | refine below_set ?_ GE171.out | refine below_set ?_ GE178.out | refine below_set ?_ GE186.out) | exact HB.out)); (case side2 => exact Kd.R_tight rfl HO_179003.out); rintro e w73 ⟨rfl, hy0, hb, hkp⟩; refine ⟨_, rfl, ?_⟩; have n0_ := Aside0.mk (Kd.R_mono (ok' := fun k_ => some k_ ≠ (.slice Ao33 t175.length co33 : Value).ownBlock ∧ some k_ ≠ (.slice Ao40 t182.length co40 : Value).ownBlock ∧ some k_ ≠ (.slice Ao67 t191.length co67 : Value).ownBlock) (Kd.R_keptB (HO_172003.out) hkp (fun k_ hk_ hs_ => (hk_.1.1) hs_)) (fun k_ hk_ => ⟨hk_.1.1.1, hk_.1.1.2, hk_.1.2⟩)); have n1_ := Aside0.mk (Kd.R_reok rfl hy0 (fun k_ e_ => HO_179003.out.1 k_ e_)); have n2_ := Aside0.mk (Kd.R_mono (ok' := fun k_ => some k_ ≠ (.slice Ao26 t167.length co26 : Value).ownBlock ∧ some k_ ≠ (.slice Ao33 t175.length co33 : Value).ownBlock ∧ some k_ ≠ (.slice Ao67 t191.length co67 : Value).ownBlock) (Kd.R_keptB (HO_187003.out) hkp (fun k_ hk_ hs_ => (hk_.1.2) hs_)) (fun k_ hk_ => ⟨hk_.1.1.1, hk_.1.1.2, hk_.1.2⟩)); have n3_ := Aside0.mk (blk_kept (by (with_reducible repeat (first | refine blk_drewN ?_ _ | refine blk_drew ?_ | refine blk_alloc ?_ _)); exact BK156.out) hkp (fun hs_ => (fun e_ => (Kd.R_ne HO_179003.out BK156.out (by decide)) e_) hs_)); have n4_ := Aside0.mk (blk_kept (by (with_reducible repeat (first | refine blk_drewN ?_ _ | refine blk_drew ?_ | refine blk_alloc ?_ _)); exact BK171.out) hkp (fun hs_ => (fun e_ => (Kd.R_ne HO_179003.out BK171.out (by decide)) e_) hs_)); have n5_ := Aside0.mk (blk_kept (by (with_reducible repeat (first | refine blk_drewN ?_ _ | refine blk_drew ?_ | refine blk_alloc ?_ _)); exact BK178.out) hkp (fun hs_ => (fun e_ => (Kd.R_ne HO_179003.out BK178.out (by decide)) e_) hs_)); have n6_ := Aside0.mk (blk_kept (by (with_reducible repeat (first | refine blk_drewN ?_ _ | refine blk_drew ?_ | refine blk_alloc ?_ _)); exact BK186.out) hkp (fun hs_ => (fun e_ => (Kd.R_ne HO_179003.out BK186.out (by decide)) e_) hs_)); have n7_ := Aside0.mk (Kd.R_mono (ok' := fun k_ => some k_ ≠ (.slice Ao26 t167.length co26 : Value).ownBlock ∧ some k_ ≠ (.slice Ao33 t175.length co33 : Value).ownBlock ∧ some k_ ≠ (.slice Ao40 t182.length co40 : Value).ownBlock) (Kd.R_keptB (HO193.out) hkp (fun k_ hk_ hs_ => (hk_.1.2) hs_)) (fun k_ hk_ => ⟨hk_.1.1.1.2, hk_.1.1.2, hk_.1.2⟩)); have n8_ := Aside0.mk (hb); clear HO_172003; clear HO_179003; clear HO_187003; clear BK156; clear BK171; clear BK178; clear BK186; clear HO193; clear HB; have HO_172003 := n0_; have HO_179003 := n1_; have HO_187003 := n2_; have BK156 := n3_; have BK171 := n4_; have BK178 := n5_; have BK186 := n6_; have HO193 := n7_; have HB := n8_; clear n0_ n1_ n2_ n3_ n4_ n5_ n6_ n7_ n8_; (try clear hb); (try clear hkp); (try clear hy0)))
       (try simp only [Act.put, List.setIfInBounds_toArray, List.set_cons_zero, List.set_cons_succ])
       go_cut [72] (fun v72 wc => ∃ (kq : Nat) (x72_63 : Bool), v72 = .bool x72_63 ∧ Aside0 (laws_FnExactReplacePhrase.j1 kq a1 a2 t170 x72_63 a0_0 a0_1 a0_2 l0_3 t164 t165 t166 t167 t179 t180 t181 t182 = some r) ∧ Aside0 (kq ≤ kj14) ∧ Aside0 (Kd.R Kd.string 9 wc w.heap.size (fun k_ => some k_ ≠ ((.slice Ao33 t175.length co33) : Value).ownBlock ∧ some k_ ≠ ((.slice Ao40 t182.length co40) : Value).ownBlock) (.slice Ao26 t167.length co26) t167) ∧ Aside0 (Kd.R Kd.string 9 wc w.heap.size (fun k_ => some k_ ≠ ((.slice Ao26 t167.length co26) : Value).ownBlock ∧ some k_ ≠ ((.slice Ao40 t182.length co40) : Value).ownBlock) (.slice Ao33 t175.length co33) t196) ∧ Aside0 (Kd.R Kd.string 9 wc w.heap.size (fun k_ => some k_ ≠ ((.slice Ao26 t167.length co26) : Value).ownBlock ∧ some k_ ≠ ((.slice Ao33 t175.length co33) : Value).ownBlock) (.slice Ao40 t182.length co40) t182) ∧ Aside0 (wc.heap[gb156]? = some (.cells #[.int .i8 a0_0, .int .i8 a0_1, .int .i8 a0_2, (.slice A0_3 l0_3.length c0_3)] 25 (0, 0))) ∧ Aside0 (wc.heap[gb171]? = some (.cells #[.int .i8 t164, .int .i8 t165, .int .i8 t166, (.slice Ao26 t167.length co26)] 27 (0, 0))) ∧ Aside0 (wc.heap[gb178]? = some (.cells #[.int .i8 t172, .int .i8 t173, .int .i8 t174, (.slice Ao33 t175.length co33)] 27 (0, 0))) ∧ Aside0 (wc.heap[gb186]? = some (.cells #[.int .i8 t179, .int .i8 t180, .int .i8 t181, (.slice Ao40 t182.length co40)] 27 (0, 0))) ∧ Aside0 (Below w.heap.size w wc))
       case first =>
        have H := HC64.out
        clear HC64
        by_cases c74 : t195 < 0
        ·rw [if_pos c74] at H
         have c74b0 : decide (t195 < 0) = true := decide_eq_true c74
         clear c74
         (first | rw [c74b0] | (simp only [i64_w, i32_w]; rw [c74b0]) | skip)
         have H' := Aside0.mk H
         clear H
         go_wp2
         go_meet
         case rel => exact ⟨_, (true), (by first | rfl | (simp; done) | (simp [*]; done)), H', ⟨by have := HJ14.out; first | omega | exact Nat.le_refl _⟩, ⟨by (with_reducible repeat (first | apply Kd.R_alloc | apply Kd.R_drewN | apply Kd.R_drew)); exact Kd.R_mono HO_172003.out (fun _ hk => ⟨hk.1, hk.2.1⟩)⟩, ⟨by (with_reducible repeat (first | apply Kd.R_alloc | apply Kd.R_drewN | apply Kd.R_drew)); exact Kd.R_mono HO_179003.out (fun _ hk => ⟨hk.1.1, hk.1.2⟩)⟩, ⟨by (with_reducible repeat (first | apply Kd.R_alloc | apply Kd.R_drewN | apply Kd.R_drew)); exact Kd.R_mono HO_187003.out (fun _ hk => ⟨hk.1, hk.2.1⟩)⟩, ⟨by (with_reducible repeat (first | refine blk_drewN ?_ _ | refine blk_drew ?_ | refine blk_alloc ?_ _)); exact BK156.out⟩, ⟨by (with_reducible repeat (first | refine blk_drewN ?_ _ | refine blk_drew ?_ | refine blk_alloc ?_ _)); exact BK171.out⟩, ⟨by (with_reducible repeat (first | refine blk_drewN ?_ _ | refine blk_drew ?_ | refine blk_alloc ?_ _)); exact BK178.out⟩, ⟨by (with_reducible repeat (first | refine blk_drewN ?_ _ | refine blk_drew ?_ | refine blk_alloc ?_ _)); exact BK186.out⟩, ⟨by repeat (first | (with_reducible first | exact HB.out | apply below_alloc | apply pw_below_drewN | apply below_drew1 | refine below_set ?_ GE156.out | refine below_set ?_ GE171.out | refine below_set ?_ GE178.out | refine below_set ?_ GE186.out) | exact HB.out)⟩⟩
        ·rw [if_neg c74] at H
         have c74b0 : decide (t195 < 0) = false := decide_eq_false c74
         clear c74
         (first | rw [c74b0] | (simp only [i64_w, i32_w]; rw [c74b0]) | skip)
         replace H := Option.bind_eq_some_iff.mp H
         obtain ⟨t197, A750, H⟩ := H
         replace H : (if t197 = true then (laws_FnExactReplacePhrase.j1 kj14 a1 a2 t170 (t185 != t170) a0_0 a0_1 a0_2 l0_3 t164 t165 t166 t167 t179 t180 t181 t182) else (laws_FnExactReplacePhrase.j1 kj14 a1 a2 t170 true a0_0 a0_1 a0_2 l0_3 t164 t165 t166 t167 t179 t180 t181 t182)) = some r := H
         have A75 := Aside0.mk A750
         clear A750
         by_cases c76 : t197 = true
         ·subst c76
          have H1 : (laws_FnExactReplacePhrase.j1 kj14 a1 a2 t170 (t185 != t170) a0_0 a0_1 a0_2 l0_3 t164 t165 t166 t167 t179 t180 t181 t182) = some r := by rw [if_pos rfl] at H; exact H
          clear H
          have H := H1
          clear H1
          have H' := Aside0.mk H
          clear H
          have hnb77 := NB186_156.out
          have hnc77 := NB156_186.out
          have hnb78 := NB186_171.out
          have hnc78 := NB171_186.out
          have hnb79 := NB186_178.out
          have hnc79 := NB178_186.out
          have hcz80_0 : w73.cell? ⟨gb186, 0, none⟩ = some (.int .i8 t179) := (blk_cell BK186.out 0).trans rfl
          have hcz80_1 : w73.cell? ⟨gb186, 1, none⟩ = some (.int .i8 t180) := (blk_cell BK186.out 1).trans rfl
          have hcz80_2 : w73.cell? ⟨gb186, 2, none⟩ = some (.int .i8 t181) := (blk_cell BK186.out 2).trans rfl
          have hcz80_3 : w73.cell? ⟨gb186, 3, none⟩ = some (.slice Ao40 t182.length co40) := (blk_cell BK186.out 3).trans rfl
          have hfz80_0 := blk_frozen BK186.out 0
          have hfz80_1 := blk_frozen BK186.out 1
          have hfz80_2 := blk_frozen BK186.out 2
          have hfz80_3 := blk_frozen BK186.out 3
          have hnb81 := NB171_156.out
          have hnc81 := NB156_171.out
          have hnb82 := NB171_178.out
          have hnc82 := NB178_171.out
          have hcz83_0 : w73.cell? ⟨gb171, 0, none⟩ = some (.int .i8 t164) := (blk_cell BK171.out 0).trans rfl
          have hcz83_1 : w73.cell? ⟨gb171, 1, none⟩ = some (.int .i8 t165) := (blk_cell BK171.out 1).trans rfl
          have hcz83_2 : w73.cell? ⟨gb171, 2, none⟩ = some (.int .i8 t166) := (blk_cell BK171.out 2).trans rfl
          have hcz83_3 : w73.cell? ⟨gb171, 3, none⟩ = some (.slice Ao26 t167.length co26) := (blk_cell BK171.out 3).trans rfl
          have hfz83_0 := blk_frozen BK171.out 0
          have hfz83_1 := blk_frozen BK171.out 1
          have hfz83_2 := blk_frozen BK171.out 2
          have hfz83_3 := blk_frozen BK171.out 3
          go_wp2_with (first | (go_at_call 16; (with_reducible refine (laws_eqBook.calls kj14 t179 t180 t181 _ _ t182 t164 t165 t166 _ _ t167 true _ ?side1 ?side2 ?side3 ?side4 A75.out).mono ?_); (case side1 => repeat (first | exact (Kd.R_reads' HO_187003.out).2.2 | (with_reducible refine Kd.C_alloc ?_ _) | (with_reducible refine Kd.C_drewN ?_ _) | (with_reducible refine Kd.C_drew ?_))); (case side2 => exact (Kd.R_reads' HO_187003.out).2.1); (case side3 => repeat (first | exact (Kd.R_reads' HO_172003.out).2.2 | (with_reducible refine Kd.C_alloc ?_ _) | (with_reducible refine Kd.C_drewN ?_ _) | (with_reducible refine Kd.C_drew ?_))); (case side4 => exact (Kd.R_reads' HO_172003.out).2.1); rintro e w84 ⟨rfl, hb⟩; have n0_ := Aside0.mk (Kd.R_below (by (with_reducible repeat (first | apply Kd.R_alloc | apply Kd.R_drewN | apply Kd.R_drew)); exact HO_172003.out) hb); have n1_ := Aside0.mk (Kd.R_below (by (with_reducible repeat (first | apply Kd.R_alloc | apply Kd.R_drewN | apply Kd.R_drew)); exact HO_179003.out) hb); have n2_ := Aside0.mk (Kd.R_below (by (with_reducible repeat (first | apply Kd.R_alloc | apply Kd.R_drewN | apply Kd.R_drew)); exact HO_187003.out) hb); have n3_ := Aside0.mk (Kd.R_below (by (with_reducible repeat (first | apply Kd.R_alloc | apply Kd.R_drewN | apply Kd.R_drew)); exact HO193.out) hb); have n4_ := Aside0.mk (blk_below (g := gb156) (o := .cells #[.int .i8 a0_0, .int .i8 a0_1, .int .i8 a0_2, .slice A0_3 l0_3.length c0_3] 25 (0, 0)) (by (with_reducible repeat (first | refine blk_drewN ?_ _ | refine blk_drew ?_ | refine blk_alloc ?_ _)); exact BK156.out) hb); have n5_ := Aside0.mk (blk_below (g := gb171) (o := .cells #[.int .i8 t164, .int .i8 t165, .int .i8 t166, .slice Ao26 t167.length co26] 27 (0, 0)) (by (with_reducible repeat (first | refine blk_drewN ?_ _ | refine blk_drew ?_ | refine blk_alloc ?_ _)); exact BK171.out) hb); have n6_ := Aside0.mk (blk_below (g := gb178) (o := .cells #[.int .i8 t172, .int .i8 t173, .int .i8 t174, .slice Ao33 t175.length co33] 27 (0, 0)) (by (with_reducible repeat (first | refine blk_drewN ?_ _ | refine blk_drew ?_ | refine blk_alloc ?_ _)); exact BK178.out) hb); have n7_ := Aside0.mk (blk_below (g := gb186) (o := .cells #[.int .i8 t179, .int .i8 t180, .int .i8 t181, .slice Ao40 t182.length co40] 27 (0, 0)) (by (with_reducible repeat (first | refine blk_drewN ?_ _ | refine blk_drew ?_ | refine blk_alloc ?_ _)); exact BK186.out) hb); have n8_ := Aside0.mk (below_step (by repeat (first | (with_reducible first | exact HB.out | apply below_alloc | apply pw_below_drewN | apply below_drew1 | refine below_set ?_ GE156.out | refine below_set ?_ GE171.out | refine below_set ?_ GE178.out | refine below_set ?_ GE186.out) | exact HB.out)) hb); clear HO_172003; clear HO_179003; clear HO_187003; clear HO193; clear BK156; clear BK171; clear BK178; clear BK186; clear HB; have HO_172003 := n0_; have HO_179003 := n1_; have HO_187003 := n2_; have HO193 := n3_; have BK156 := n4_; have BK171 := n5_; have BK178 := n6_; have BK186 := n7_; have HB := n8_; clear n0_ n1_ n2_ n3_ n4_ n5_ n6_ n7_ n8_; (try clear hb); (try clear hb2); (try clear hk); (try clear hi)))
          go_meet
          case rel => exact ⟨_, ((t185 != t170)), (by first | rfl | (simp; done) | (simp [*]; done)), H', ⟨by have := HJ14.out; first | omega | exact Nat.le_refl _⟩, ⟨by (with_reducible repeat (first | apply Kd.R_alloc | apply Kd.R_drewN | apply Kd.R_drew)); exact Kd.R_mono HO_172003.out (fun _ hk => ⟨hk.1, hk.2.1⟩)⟩, ⟨by (with_reducible repeat (first | apply Kd.R_alloc | apply Kd.R_drewN | apply Kd.R_drew)); exact Kd.R_mono HO_179003.out (fun _ hk => ⟨hk.1.1, hk.1.2⟩)⟩, ⟨by (with_reducible repeat (first | apply Kd.R_alloc | apply Kd.R_drewN | apply Kd.R_drew)); exact Kd.R_mono HO_187003.out (fun _ hk => ⟨hk.1, hk.2.1⟩)⟩, ⟨by (with_reducible repeat (first | refine blk_drewN ?_ _ | refine blk_drew ?_ | refine blk_alloc ?_ _)); exact BK156.out⟩, ⟨by (with_reducible repeat (first | refine blk_drewN ?_ _ | refine blk_drew ?_ | refine blk_alloc ?_ _)); exact BK171.out⟩, ⟨by (with_reducible repeat (first | refine blk_drewN ?_ _ | refine blk_drew ?_ | refine blk_alloc ?_ _)); exact BK178.out⟩, ⟨by (with_reducible repeat (first | refine blk_drewN ?_ _ | refine blk_drew ?_ | refine blk_alloc ?_ _)); exact BK186.out⟩, ⟨by repeat (first | (with_reducible first | exact HB.out | apply below_alloc | apply pw_below_drewN | apply below_drew1 | refine below_set ?_ GE156.out | refine below_set ?_ GE171.out | refine below_set ?_ GE178.out | refine below_set ?_ GE186.out) | exact HB.out)⟩⟩
         ·replace c76 := Bool.eq_false_iff.mpr c76
          subst c76
          have H1 : (laws_FnExactReplacePhrase.j1 kj14 a1 a2 t170 true a0_0 a0_1 a0_2 l0_3 t164 t165 t166 t167 t179 t180 t181 t182) = some r := by rw [if_neg (show ¬ (false = true) by decide)] at H; exact H
          clear H
          have H := H1
          clear H1
          have H' := Aside0.mk H
          clear H
          have hnb85 := NB186_156.out
          have hnc85 := NB156_186.out
          have hnb86 := NB186_171.out
          have hnc86 := NB171_186.out
          have hnb87 := NB186_178.out
          have hnc87 := NB178_186.out
          have hcz88_0 : w73.cell? ⟨gb186, 0, none⟩ = some (.int .i8 t179) := (blk_cell BK186.out 0).trans rfl
          have hcz88_1 : w73.cell? ⟨gb186, 1, none⟩ = some (.int .i8 t180) := (blk_cell BK186.out 1).trans rfl
          have hcz88_2 : w73.cell? ⟨gb186, 2, none⟩ = some (.int .i8 t181) := (blk_cell BK186.out 2).trans rfl
          have hcz88_3 : w73.cell? ⟨gb186, 3, none⟩ = some (.slice Ao40 t182.length co40) := (blk_cell BK186.out 3).trans rfl
          have hfz88_0 := blk_frozen BK186.out 0
          have hfz88_1 := blk_frozen BK186.out 1
          have hfz88_2 := blk_frozen BK186.out 2
          have hfz88_3 := blk_frozen BK186.out 3
          have hnb89 := NB171_156.out
          have hnc89 := NB156_171.out
          have hnb90 := NB171_178.out
          have hnc90 := NB178_171.out
          have hcz91_0 : w73.cell? ⟨gb171, 0, none⟩ = some (.int .i8 t164) := (blk_cell BK171.out 0).trans rfl
          have hcz91_1 : w73.cell? ⟨gb171, 1, none⟩ = some (.int .i8 t165) := (blk_cell BK171.out 1).trans rfl
          have hcz91_2 : w73.cell? ⟨gb171, 2, none⟩ = some (.int .i8 t166) := (blk_cell BK171.out 2).trans rfl
          have hcz91_3 : w73.cell? ⟨gb171, 3, none⟩ = some (.slice Ao26 t167.length co26) := (blk_cell BK171.out 3).trans rfl
          have hfz91_0 := blk_frozen BK171.out 0
          have hfz91_1 := blk_frozen BK171.out 1
          have hfz91_2 := blk_frozen BK171.out 2
          have hfz91_3 := blk_frozen BK171.out 3
          go_wp2_with (first | (go_at_call 16; (with_reducible refine (laws_eqBook.calls kj14 t179 t180 t181 _ _ t182 t164 t165 t166 _ _ t167 false _ ?side1 ?side2 ?side3 ?side4 A75.out).mono ?_); (case side1 => repeat (first | exact (Kd.R_reads' HO_187003.out).2.2 | (with_reducible refine Kd.C_alloc ?_ _) | (with_reducible refine Kd.C_drewN ?_ _) | (with_reducible refine Kd.C_drew ?_))); (case side2 => exact (Kd.R_reads' HO_187003.out).2.1); (case side3 => repeat (first | exact (Kd.R_reads' HO_172003.out).2.2 | (with_reducible refine Kd.C_alloc ?_ _) | (with_reducible refine Kd.C_drewN ?_ _) | (with_reducible refine Kd.C_drew ?_))); (case side4 => exact (Kd.R_reads' HO_172003.out).2.1); rintro e w92 ⟨rfl, hb⟩; have n0_ := Aside0.mk (Kd.R_below (by (with_reducible repeat (first | apply Kd.R_alloc | apply Kd.R_drewN | apply Kd.R_drew)); exact HO_172003.out) hb); have n1_ := Aside0.mk (Kd.R_below (by (with_reducible repeat (first | apply Kd.R_alloc | apply Kd.R_drewN | apply Kd.R_drew)); exact HO_179003.out) hb); have n2_ := Aside0.mk (Kd.R_below (by (with_reducible repeat (first | apply Kd.R_alloc | apply Kd.R_drewN | apply Kd.R_drew)); exact HO_187003.out) hb); have n3_ := Aside0.mk (Kd.R_below (by (with_reducible repeat (first | apply Kd.R_alloc | apply Kd.R_drewN | apply Kd.R_drew)); exact HO193.out) hb); have n4_ := Aside0.mk (blk_below (g := gb156) (o := .cells #[.int .i8 a0_0, .int .i8 a0_1, .int .i8 a0_2, .slice A0_3 l0_3.length c0_3] 25 (0, 0)) (by (with_reducible repeat (first | refine blk_drewN ?_ _ | refine blk_drew ?_ | refine blk_alloc ?_ _)); exact BK156.out) hb); have n5_ := Aside0.mk (blk_below (g := gb171) (o := .cells #[.int .i8 t164, .int .i8 t165, .int .i8 t166, .slice Ao26 t167.length co26] 27 (0, 0)) (by (with_reducible repeat (first | refine blk_drewN ?_ _ | refine blk_drew ?_ | refine blk_alloc ?_ _)); exact BK171.out) hb); have n6_ := Aside0.mk (blk_below (g := gb178) (o := .cells #[.int .i8 t172, .int .i8 t173, .int .i8 t174, .slice Ao33 t175.length co33] 27 (0, 0)) (by (with_reducible repeat (first | refine blk_drewN ?_ _ | refine blk_drew ?_ | refine blk_alloc ?_ _)); exact BK178.out) hb); have n7_ := Aside0.mk (blk_below (g := gb186) (o := .cells #[.int .i8 t179, .int .i8 t180, .int .i8 t181, .slice Ao40 t182.length co40] 27 (0, 0)) (by (with_reducible repeat (first | refine blk_drewN ?_ _ | refine blk_drew ?_ | refine blk_alloc ?_ _)); exact BK186.out) hb); have n8_ := Aside0.mk (below_step (by repeat (first | (with_reducible first | exact HB.out | apply below_alloc | apply pw_below_drewN | apply below_drew1 | refine below_set ?_ GE156.out | refine below_set ?_ GE171.out | refine below_set ?_ GE178.out | refine below_set ?_ GE186.out) | exact HB.out)) hb); clear HO_172003; clear HO_179003; clear HO_187003; clear HO193; clear BK156; clear BK171; clear BK178; clear BK186; clear HB; have HO_172003 := n0_; have HO_179003 := n1_; have HO_187003 := n2_; have HO193 := n3_; have BK156 := n4_; have BK171 := n5_; have BK178 := n6_; have BK186 := n7_; have HB := n8_; clear n0_ n1_ n2_ n3_ n4_ n5_ n6_ n7_ n8_; (try clear hb); (try clear hb2); (try clear hk); (try clear hi)))
          go_meet
          case rel => exact ⟨_, (true), (by first | rfl | (simp; done) | (simp [*]; done)), H', ⟨by have := HJ14.out; first | omega | exact Nat.le_refl _⟩, ⟨by (with_reducible repeat (first | apply Kd.R_alloc | apply Kd.R_drewN | apply Kd.R_drew)); exact Kd.R_mono HO_172003.out (fun _ hk => ⟨hk.1, hk.2.1⟩)⟩, ⟨by (with_reducible repeat (first | apply Kd.R_alloc | apply Kd.R_drewN | apply Kd.R_drew)); exact Kd.R_mono HO_179003.out (fun _ hk => ⟨hk.1.1, hk.1.2⟩)⟩, ⟨by (with_reducible repeat (first | apply Kd.R_alloc | apply Kd.R_drewN | apply Kd.R_drew)); exact Kd.R_mono HO_187003.out (fun _ hk => ⟨hk.1, hk.2.1⟩)⟩, ⟨by (with_reducible repeat (first | refine blk_drewN ?_ _ | refine blk_drew ?_ | refine blk_alloc ?_ _)); exact BK156.out⟩, ⟨by (with_reducible repeat (first | refine blk_drewN ?_ _ | refine blk_drew ?_ | refine blk_alloc ?_ _)); exact BK171.out⟩, ⟨by (with_reducible repeat (first | refine blk_drewN ?_ _ | refine blk_drew ?_ | refine blk_alloc ?_ _)); exact BK178.out⟩, ⟨by (with_reducible repeat (first | refine blk_drewN ?_ _ | refine blk_drew ?_ | refine blk_alloc ?_ _)); exact BK186.out⟩, ⟨by repeat (first | (with_reducible first | exact HB.out | apply below_alloc | apply pw_below_drewN | apply below_drew1 | refine below_set ?_ GE156.out | refine below_set ?_ GE171.out | refine below_set ?_ GE178.out | refine below_set ?_ GE186.out) | exact HB.out)⟩⟩
       case rest =>
        clear HC64
        try clear c1
        try clear c2
        try clear p2
        try clear c3
        try clear c4
        try clear c4b0
        try clear c4b1
        try clear c5
        try clear c6
        try clear c7
        try clear c7b0
        try clear c8
        try clear c9
        try clear c12
        try clear c14
        try clear c16
        try clear c17
        try clear c21
        try clear c22
        try clear c24
        try clear c30
        try clear c31
        try clear c36
        try clear c37
        try clear c38
        try clear c42
        try clear c43
        try clear c44
        try clear c45
        try clear c47
        try clear c48
        try clear c51
        try clear c52
        try clear c53
        try clear c55
        try clear c56
        try clear c59
        try clear c62
        try clear c69
        try clear c70
        try clear c71
        try clear c74
        try clear c74b0
        try clear c76
        try clear c77
        try clear c78
        try clear c79
        try clear c81
        try clear c82
        try clear c85
        try clear c86
        try clear c87
        try clear c89
        try clear c90
        try clear hcz17_0
        try clear hcz17_1
        try clear hcz17_2
        try clear hcz17_3
        try clear hcz19_0
        try clear hcz19_1
        try clear hcz19_2
        try clear hcz19_3
        try clear hcz25_0
        try clear hcz25_1
        try clear hcz25_2
        try clear hcz25_3
        try clear hcz27_0
        try clear hcz27_1
        try clear hcz27_2
        try clear hcz27_3
        try clear hcz32_0
        try clear hcz32_1
        try clear hcz32_2
        try clear hcz32_3
        try clear hcz39_0
        try clear hcz39_1
        try clear hcz39_2
        try clear hcz39_3
        try clear hcz46_0
        try clear hcz46_1
        try clear hcz46_2
        try clear hcz46_3
        try clear hcz49_0
        try clear hcz49_1
        try clear hcz49_2
        try clear hcz49_3
        try clear hcz54_0
        try clear hcz54_1
        try clear hcz54_2
        try clear hcz54_3
        try clear hcz57_0
        try clear hcz57_1
        try clear hcz57_2
        try clear hcz57_3
        try clear hcz72_0
        try clear hcz72_1
        try clear hcz72_2
        try clear hcz72_3
        try clear hcz80_0
        try clear hcz80_1
        try clear hcz80_2
        try clear hcz80_3
        try clear hcz83_0
        try clear hcz83_1
        try clear hcz83_2
        try clear hcz83_3
        try clear hcz88_0
        try clear hcz88_1
        try clear hcz88_2
        try clear hcz88_3
        try clear hcz91_0
        try clear hcz91_1
        try clear hcz91_2
        try clear hcz91_3
        try clear hcz9_0
        try clear hcz9_1
        try clear hcz9_2
        try clear hcz9_3
        try clear hfz17_0
        try clear hfz17_1
        try clear hfz17_2
        try clear hfz17_3
        try clear hfz19_0
        try clear hfz19_1
        try clear hfz19_2
        try clear hfz19_3
        try clear hfz25_0
        try clear hfz25_1
        try clear hfz25_2
        try clear hfz25_3
        try clear hfz27_0
        try clear hfz27_1
        try clear hfz27_2
        try clear hfz27_3
        try clear hfz32_0
        try clear hfz32_1
        try clear hfz32_2
        try clear hfz32_3
        try clear hfz39_0
        try clear hfz39_1
        try clear hfz39_2
        try clear hfz39_3
        try clear hfz46_0
        try clear hfz46_1
        try clear hfz46_2
        try clear hfz46_3
        try clear hfz49_0
        try clear hfz49_1
        try clear hfz49_2
        try clear hfz49_3
        try clear hfz54_0
        try clear hfz54_1
        try clear hfz54_2
        try clear hfz54_3
        try clear hfz57_0
        try clear hfz57_1
        try clear hfz57_2
        try clear hfz57_3
        try clear hfz72_0
        try clear hfz72_1
        try clear hfz72_2
        try clear hfz72_3
        try clear hfz80_0
        try clear hfz80_1
        try clear hfz80_2
        try clear hfz80_3
        try clear hfz83_0
        try clear hfz83_1
        try clear hfz83_2
        try clear hfz83_3
        try clear hfz88_0
        try clear hfz88_1
        try clear hfz88_2
        try clear hfz88_3
        try clear hfz91_0
        try clear hfz91_1
        try clear hfz91_2
        try clear hfz91_3
        try clear hfz9_0
        try clear hfz9_1
        try clear hfz9_2
        try clear hfz9_3
        try clear p2
        obtain ⟨kq, x72_63, rfl, HA, HJ63, HO_172003, HO_179003, HO_187003, BK156, BK171, BK178, BK186, HB⟩ := hcut
        have hl179003_63 := (Kd.R_reads' HO_179003.out).1
        rw [hl179003_63] at HO_179003
        (try simp only [hl179003_63])
        (try simp only [hl179003_63] at BK156)
        (try simp only [hl179003_63] at BK171)
        (try simp only [hl179003_63] at BK178)
        (try simp only [hl179003_63] at BK186)
        (try simp only [hl179003_63] at HO_172003)
        (try simp only [hl179003_63] at HO_187003)
        cases kq with
        | zero => exact absurd HA.out (by simp [laws_FnExactReplacePhrase.j1])
        | succ kj63 =>
         have H := HA.out
         clear HA
         simp only [laws_FnExactReplacePhrase.j1] at H
         by_cases c93 : x72_63 = true
         ·subst c93
          have H1 : (some false) = some r := by rw [if_pos rfl] at H; exact H
          clear H
          have H := H1
          clear H1
          obtain rfl := Option.some.inj H
          go_wp2
          go_ret
          exact ⟨by first | rfl | (simp [errW_none, errW_some] <;> rfl) | (simp [*, errW_none, errW_some] <;> rfl), by repeat (first | (with_reducible first | exact HB.out | apply below_alloc | apply pw_below_drewN | apply below_drew1 | refine below_set ?_ GE156.out | refine below_set ?_ GE171.out | refine below_set ?_ GE178.out | refine below_set ?_ GE186.out) | exact HB.out)⟩
         ·replace c93 := Bool.eq_false_iff.mpr c93
          subst c93
          have H1 : ((laws_markBook.f kj63 t179 t180 t181 t182 1).bind fun bt198 => ((laws_heldBook.f kj63 t179 t180 t181 bt198.2 1).bind fun t200 => (if t200 < 0 then (some false) else (if t200 = bt198.1 then ((laws_toBook.f kj63 a0_0 a0_1 a0_2 l0_3).bind fun bt201 => ((impl_ReplacePhrase.f kj63 bt201.1 bt201.2.1 bt201.2.2.1 bt201.2.2.2 a1 a2).bind fun bt207 => ((laws_eqBook.f kj63 bt207.1 bt207.2.1 bt207.2.2.1 bt207.2.2.2.1 t164 t165 t166 t167).bind fun t215 => (if t215 = true then (laws_FnExactReplacePhrase.j2 kj63 bt198.1 (bt207.2.2.2.2 != t170) t179 t180 t181 bt198.2) else (laws_FnExactReplacePhrase.j2 kj63 bt198.1 true t179 t180 t181 bt198.2))))) else (some false))))) = some r := by rw [if_neg (show ¬ (false = true) by decide)] at H; exact H
          clear H
          have H := H1
          clear H1
          replace H := Option.bind_eq_some_iff.mp H
          obtain ⟨⟨t198, t199⟩, A940, H⟩ := H
          replace H : ((laws_heldBook.f kj63 t179 t180 t181 t199 1).bind fun t200 => (if t200 < 0 then (some false) else (if t200 = t198 then ((laws_toBook.f kj63 a0_0 a0_1 a0_2 l0_3).bind fun bt201 => ((impl_ReplacePhrase.f kj63 bt201.1 bt201.2.1 bt201.2.2.1 bt201.2.2.2 a1 a2).bind fun bt207 => ((laws_eqBook.f kj63 bt207.1 bt207.2.1 bt207.2.2.1 bt207.2.2.2.1 t164 t165 t166 t167).bind fun t215 => (if t215 = true then (laws_FnExactReplacePhrase.j2 kj63 t198 (bt207.2.2.2.2 != t170) t179 t180 t181 t199) else (laws_FnExactReplacePhrase.j2 kj63 t198 true t179 t180 t181 t199))))) else (some false)))) = some r := H
          have A94 := Aside0.mk A940
          clear A940
          replace H := Option.bind_eq_some_iff.mp H
          obtain ⟨t200, A950, H⟩ := H
          replace H : (if t200 < 0 then (some false) else (if t200 = t198 then ((laws_toBook.f kj63 a0_0 a0_1 a0_2 l0_3).bind fun bt201 => ((impl_ReplacePhrase.f kj63 bt201.1 bt201.2.1 bt201.2.2.1 bt201.2.2.2 a1 a2).bind fun bt207 => ((laws_eqBook.f kj63 bt207.1 bt207.2.1 bt207.2.2.1 bt207.2.2.2.1 t164 t165 t166 t167).bind fun t215 => (if t215 = true then (laws_FnExactReplacePhrase.j2 kj63 t198 (bt207.2.2.2.2 != t170) t179 t180 t181 t199) else (laws_FnExactReplacePhrase.j2 kj63 t198 true t179 t180 t181 t199))))) else (some false))) = some r := H
          have A95 := Aside0.mk A950
          clear A950
          by_cases c96 : t200 < 0
          ·rw [if_pos c96] at H
           have c96b0 : decide (t200 < 0) = true := decide_eq_true c96
           clear c96
           obtain rfl := Option.some.inj H
           have hnb97 := NB186_156.out
           have hnc97 := NB156_186.out
           have hnb98 := NB186_171.out
           have hnc98 := NB171_186.out
           have hnb99 := NB186_178.out
           have hnc99 := NB178_186.out
           have hcz100_0 : wc.cell? ⟨gb186, 0, none⟩ = some (.int .i8 t179) := (blk_cell BK186.out 0).trans rfl
           have hcz100_1 : wc.cell? ⟨gb186, 1, none⟩ = some (.int .i8 t180) := (blk_cell BK186.out 1).trans rfl
           have hcz100_2 : wc.cell? ⟨gb186, 2, none⟩ = some (.int .i8 t181) := (blk_cell BK186.out 2).trans rfl
           have hcz100_3 : wc.cell? ⟨gb186, 3, none⟩ = some (.slice Ao40 t182.length co40) := (blk_cell BK186.out 3).trans rfl
           have hfz100_0 := blk_frozen BK186.out 0
           have hfz100_1 := blk_frozen BK186.out 1
           have hfz100_2 := blk_frozen BK186.out 2
           have hfz100_3 := blk_frozen BK186.out 3
           go_wp2_with (first | ((with_reducible refine gate_callee (f := 17) rfl ?_); refine goesL_ (some 75) rfl rfl Try.func17 (by kernel_rfl) rfl #[.agg #[.int .i8 t179, .int .i8 t180, .int .i8 t181, .slice Ao40 t182.length co40], .int .i64 1] rfl (by (try simp only [List.map_toArray, List.map_cons, List.map_nil]); first | done | rfl | (simp only [List.length_drop, List.length_take]; rfl)) ?_; (with_reducible refine (laws_markBook.calls kj63 t179 t180 t181 (fun k_ => some k_ = (.slice Ao40 t182.length co40 : Value).ownBlock) (.slice Ao40 t182.length co40) t182 1 t198 t199 w _ ?side1 ?side2 A94.out).mono ?_); (case side1 => repeat (first | (with_reducible first | exact HB.out | apply below_alloc | apply pw_below_drewN | apply below_drew1 | refine below_set ?_ GE156.out | refine below_set ?_ GE171.out | refine below_set ?_ GE178.out | refine below_set ?_ GE186.out) | exact HB.out)); (case side2 => exact Kd.R_tight rfl HO_187003.out); rintro e w101 ⟨rfl, hy0, hb, hkp⟩; refine ⟨_, rfl, ?_⟩; have n0_ := Aside0.mk (Kd.R_mono (ok' := fun k_ => some k_ ≠ (.slice Ao33 t196.length co33 : Value).ownBlock ∧ some k_ ≠ (.slice Ao40 t182.length co40 : Value).ownBlock) (Kd.R_keptB (HO_172003.out) hkp (fun k_ hk_ hs_ => (hk_.2) hs_)) (fun k_ hk_ => ⟨hk_.1.1, hk_.1.2⟩)); have n1_ := Aside0.mk (Kd.R_mono (ok' := fun k_ => some k_ ≠ (.slice Ao26 t167.length co26 : Value).ownBlock ∧ some k_ ≠ (.slice Ao40 t182.length co40 : Value).ownBlock) (Kd.R_keptB (HO_179003.out) hkp (fun k_ hk_ hs_ => (hk_.2) hs_)) (fun k_ hk_ => ⟨hk_.1.1, hk_.1.2⟩)); have n2_ := Aside0.mk (Kd.R_reok rfl hy0 (fun k_ e_ => HO_187003.out.1 k_ e_)); have n3_ := Aside0.mk (blk_kept (by (with_reducible repeat (first | refine blk_drewN ?_ _ | refine blk_drew ?_ | refine blk_alloc ?_ _)); exact BK156.out) hkp (fun hs_ => (fun e_ => (Kd.R_ne HO_187003.out BK156.out (by decide)) e_) hs_)); have n4_ := Aside0.mk (blk_kept (by (with_reducible repeat (first | refine blk_drewN ?_ _ | refine blk_drew ?_ | refine blk_alloc ?_ _)); exact BK171.out) hkp (fun hs_ => (fun e_ => (Kd.R_ne HO_187003.out BK171.out (by decide)) e_) hs_)); have n5_ := Aside0.mk (blk_kept (by (with_reducible repeat (first | refine blk_drewN ?_ _ | refine blk_drew ?_ | refine blk_alloc ?_ _)); exact BK178.out) hkp (fun hs_ => (fun e_ => (Kd.R_ne HO_187003.out BK178.out (by decide)) e_) hs_)); have n6_ := Aside0.mk (blk_kept (by (with_reducible repeat (first | refine blk_drewN ?_ _ | refine blk_drew ?_ | refine blk_alloc ?_ _)); exact BK186.out) hkp (fun hs_ => (fun e_ => (Kd.R_ne HO_187003.out BK186.out (by decide)) e_) hs_)); have n7_ := Aside0.mk (hb); clear HO_172003; clear HO_179003; clear HO_187003; clear BK156; clear BK171; clear BK178; clear BK186; clear HB; have HO_172003 := n0_; have HO_179003 := n1_; have HO_187003 := n2_; have BK156 := n3_; have BK171 := n4_; have BK178 := n5_; have BK186 := n6_; have HB := n7_; clear n0_ n1_ n2_ n3_ n4_ n5_ n6_ n7_; (try clear hb); (try clear hkp); (try clear hy0); have hcz102_0 : w101.cell? ⟨gb186, 0, none⟩ = some (.int .i8 t179) := (blk_cell BK186.out 0).trans rfl; have hcz102_1 : w101.cell? ⟨gb186, 1, none⟩ = some (.int .i8 t180) := (blk_cell BK186.out 1).trans rfl; have hcz102_2 : w101.cell? ⟨gb186, 2, none⟩ = some (.int .i8 t181) := (blk_cell BK186.out 2).trans rfl; have hcz102_3 : w101.cell? ⟨gb186, 3, none⟩ = some (.slice Ao40 t182.length co40) := (blk_cell BK186.out 3).trans rfl; have hfz102_0 := blk_frozen BK186.out 0; have hfz102_1 := blk_frozen BK186.out 1; have hfz102_2 := blk_frozen BK186.out 2; have hfz102_3 := blk_frozen BK186.out 3) | ((with_reducible refine gate_callee (f := 18) rfl ?_); refine goesL_ (some 78) rfl rfl Try.func18 (by kernel_rfl) rfl #[.agg #[.int .i8 t179, .int .i8 t180, .int .i8 t181, .slice Ao40 t199.length co40], .int .i64 1] rfl (by (try simp only [List.map_toArray, List.map_cons, List.map_nil]); first | done | (rw [show t199.length = t182.length from (Kd.R_reads' HO_187003.out).1.symm] <;> rfl) | rfl | (simp only [List.length_drop, List.length_take]; rfl)) ?_; (with_reducible refine (laws_heldBook.calls kj63 t179 t180 t181 _ _ t199 1 t200 _ ?side1 ?side2 A95.out).mono ?_); (case side1 => repeat (first | exact (Kd.R_reads' HO_187003.out).2.2 | (with_reducible refine Kd.C_alloc ?_ _) | (with_reducible refine Kd.C_drewN ?_ _) | (with_reducible refine Kd.C_drew ?_))); (case side2 => rw [show t199.length = t182.length from (Kd.R_reads' HO_187003.out).1.symm]; exact (Kd.R_reads' HO_187003.out).2.1); rintro e w103 ⟨rfl, hb⟩; refine ⟨_, rfl, ?_⟩; have n0_ := Aside0.mk (Kd.R_below (by (with_reducible repeat (first | apply Kd.R_alloc | apply Kd.R_drewN | apply Kd.R_drew)); exact HO_172003.out) hb); have n1_ := Aside0.mk (Kd.R_below (by (with_reducible repeat (first | apply Kd.R_alloc | apply Kd.R_drewN | apply Kd.R_drew)); exact HO_179003.out) hb); have n2_ := Aside0.mk (Kd.R_below (by (with_reducible repeat (first | apply Kd.R_alloc | apply Kd.R_drewN | apply Kd.R_drew)); exact HO_187003.out) hb); have n3_ := Aside0.mk (blk_below (g := gb156) (o := .cells #[.int .i8 a0_0, .int .i8 a0_1, .int .i8 a0_2, .slice A0_3 l0_3.length c0_3] 25 (0, 0)) (by (with_reducible repeat (first | refine blk_drewN ?_ _ | refine blk_drew ?_ | refine blk_alloc ?_ _)); exact BK156.out) hb); have n4_ := Aside0.mk (blk_below (g := gb171) (o := .cells #[.int .i8 t164, .int .i8 t165, .int .i8 t166, .slice Ao26 t167.length co26] 27 (0, 0)) (by (with_reducible repeat (first | refine blk_drewN ?_ _ | refine blk_drew ?_ | refine blk_alloc ?_ _)); exact BK171.out) hb); have n5_ := Aside0.mk (blk_below (g := gb178) (o := .cells #[.int .i8 t172, .int .i8 t173, .int .i8 t174, .slice Ao33 t196.length co33] 27 (0, 0)) (by (with_reducible repeat (first | refine blk_drewN ?_ _ | refine blk_drew ?_ | refine blk_alloc ?_ _)); exact BK178.out) hb); have n6_ := Aside0.mk (blk_below (g := gb186) (o := .cells #[.int .i8 t179, .int .i8 t180, .int .i8 t181, .slice Ao40 t182.length co40] 27 (0, 0)) (by (with_reducible repeat (first | refine blk_drewN ?_ _ | refine blk_drew ?_ | refine blk_alloc ?_ _)); exact BK186.out) hb); have n7_ := Aside0.mk (below_step (by repeat (first | (with_reducible first | exact HB.out | apply below_alloc | apply pw_below_drewN | apply below_drew1 | refine below_set ?_ GE156.out | refine below_set ?_ GE171.out | refine below_set ?_ GE178.out | refine below_set ?_ GE186.out) | exact HB.out)) hb); clear HO_172003; clear HO_179003; clear HO_187003; clear BK156; clear BK171; clear BK178; clear BK186; clear HB; have HO_172003 := n0_; have HO_179003 := n1_; have HO_187003 := n2_; have BK156 := n3_; have BK171 := n4_; have BK178 := n5_; have BK186 := n6_; have HB := n7_; clear n0_ n1_ n2_ n3_ n4_ n5_ n6_ n7_; (try clear hb); (try clear hb2); (try clear hk); (try clear hi)))
           go_ret
           exact ⟨by first | rfl | (simp [errW_none, errW_some] <;> rfl) | (simp [*, errW_none, errW_some] <;> rfl), by repeat (first | (with_reducible first | exact HB.out | apply below_alloc | apply pw_below_drewN | apply below_drew1 | refine below_set ?_ GE156.out | refine below_set ?_ GE171.out | refine below_set ?_ GE178.out | refine below_set ?_ GE186.out) | exact HB.out)⟩
          ·rw [if_neg c96] at H
           have c96b0 : decide (t200 < 0) = false := decide_eq_false c96
           clear c96
           by_cases c104 : t200 = t198
           ·rw [if_pos c104] at H
            have c104b0 : (t200 == t198) = true := beq_iff_eq.mpr c104
            have c104b1 : (t200 != t198) = false := bne_eq_false_iff_eq.mpr c104
            clear c104
            replace H := Option.bind_eq_some_iff.mp H
            obtain ⟨⟨t201, t202, t203, t204⟩, A1050, H⟩ := H
            replace H : ((impl_ReplacePhrase.f kj63 t201 t202 t203 t204 a1 a2).bind fun bt207 => ((laws_eqBook.f kj63 bt207.1 bt207.2.1 bt207.2.2.1 bt207.2.2.2.1 t164 t165 t166 t167).bind fun t215 => (if t215 = true then (laws_FnExactReplacePhrase.j2 kj63 t198 (bt207.2.2.2.2 != t170) t179 t180 t181 t199) else (laws_FnExactReplacePhrase.j2 kj63 t198 true t179 t180 t181 t199)))) = some r := H
            have A105 := Aside0.mk A1050
            clear A1050
            replace H := Option.bind_eq_some_iff.mp H
            obtain ⟨⟨t207, t208, t209, t210, t213⟩, A1060, H⟩ := H
            replace H : ((laws_eqBook.f kj63 t207 t208 t209 t210 t164 t165 t166 t167).bind fun t215 => (if t215 = true then (laws_FnExactReplacePhrase.j2 kj63 t198 (t213 != t170) t179 t180 t181 t199) else (laws_FnExactReplacePhrase.j2 kj63 t198 true t179 t180 t181 t199))) = some r := H
            have A106 := Aside0.mk A1060
            clear A1060
            have HC107 := Aside0.mk H
            clear H
            have hnb108 := NB186_156.out
            have hnc108 := NB156_186.out
            have hnb109 := NB186_171.out
            have hnc109 := NB171_186.out
            have hnb110 := NB186_178.out
            have hnc110 := NB178_186.out
            have hcz111_0 : wc.cell? ⟨gb186, 0, none⟩ = some (.int .i8 t179) := (blk_cell BK186.out 0).trans rfl
            have hcz111_1 : wc.cell? ⟨gb186, 1, none⟩ = some (.int .i8 t180) := (blk_cell BK186.out 1).trans rfl
            have hcz111_2 : wc.cell? ⟨gb186, 2, none⟩ = some (.int .i8 t181) := (blk_cell BK186.out 2).trans rfl
            have hcz111_3 : wc.cell? ⟨gb186, 3, none⟩ = some (.slice Ao40 t182.length co40) := (blk_cell BK186.out 3).trans rfl
            have hfz111_0 := blk_frozen BK186.out 0
            have hfz111_1 := blk_frozen BK186.out 1
            have hfz111_2 := blk_frozen BK186.out 2
            have hfz111_3 := blk_frozen BK186.out 3
            go_upto_region 27 with (first | ((with_reducible refine gate_callee (f := 17) rfl ?_); refine goesL_ (some 75) rfl rfl Try.func17 (by kernel_rfl) rfl #[.agg #[.int .i8 t179, .int .i8 t180, .int .i8 t181, .slice Ao40 t182.length co40], .int .i64 1] rfl (by (try simp only [List.map_toArray, List.map_cons, List.map_nil]); first | done | rfl | (simp only [List.length_drop, List.length_take]; rfl)) ?_; (with_reducible refine (laws_markBook.calls kj63 t179 t180 t181 (fun k_ => some k_ = (.slice Ao40 t182.length co40 : Value).ownBlock) (.slice Ao40 t182.length co40) t182 1 t198 t199 w _ ?side1 ?side2 A94.out).mono ?_); (case side1 => repeat (first | (with_reducible first | exact HB.out | apply below_alloc | apply pw_below_drewN | apply below_drew1 | refine below_set ?_ GE156.out | refine below_set ?_ GE171.out | refine below_set ?_ GE178.out | refine below_set ?_ GE186.out) | exact HB.out)); (case side2 => exact Kd.R_tight rfl HO_187003.out); rintro e w112 ⟨rfl, hy0, hb, hkp⟩; refine ⟨_, rfl, ?_⟩; have n0_ := Aside0.mk (Kd.R_mono (ok' := fun k_ => some k_ ≠ (.slice Ao33 t196.length co33 : Value).ownBlock ∧ some k_ ≠ (.slice Ao40 t182.length co40 : Value).ownBlock) (Kd.R_keptB (HO_172003.out) hkp (fun k_ hk_ hs_ => (hk_.2) hs_)) (fun k_ hk_ => ⟨hk_.1.1, hk_.1.2⟩)); have n1_ := Aside0.mk (Kd.R_mono (ok' := fun k_ => some k_ ≠ (.slice Ao26 t167.length co26 : Value).ownBlock ∧ some k_ ≠ (.slice Ao40 t182.length co40 : Value).ownBlock) (Kd.R_keptB (HO_179003.out) hkp (fun k_ hk_ hs_ => (hk_.2) hs_)) (fun k_ hk_ => ⟨hk_.1.1, hk_.1.2⟩)); have n2_ := Aside0.mk (Kd.R_reok rfl hy0 (fun k_ e_ => HO_187003.out.1 k_ e_)); have n3_ := Aside0.mk (blk_kept (by (with_reducible repeat (first | refine blk_drewN ?_ _ | refine blk_drew ?_ | refine blk_alloc ?_ _)); exact BK156.out) hkp (fun hs_ => (fun e_ => (Kd.R_ne HO_187003.out BK156.out (by decide)) e_) hs_)); have n4_ := Aside0.mk (blk_kept (by (with_reducible repeat (first | refine blk_drewN ?_ _ | refine blk_drew ?_ | refine blk_alloc ?_ _)); exact BK171.out) hkp (fun hs_ => (fun e_ => (Kd.R_ne HO_187003.out BK171.out (by decide)) e_) hs_)); have n5_ := Aside0.mk (blk_kept (by (with_reducible repeat (first | refine blk_drewN ?_ _ | refine blk_drew ?_ | refine blk_alloc ?_ _)); exact BK178.out) hkp (fun hs_ => (fun e_ => (Kd.R_ne HO_187003.out BK178.out (by decide)) e_) hs_)); have n6_ := Aside0.mk (blk_kept (by (with_reducible repeat (first | refine blk_drewN ?_ _ | refine blk_drew ?_ | refine blk_alloc ?_ _)); exact BK186.out) hkp (fun hs_ => (fun e_ => (Kd.R_ne HO_187003.out BK186.out (by decide)) e_) hs_)); have n7_ := Aside0.mk (hb); clear HO_172003; clear HO_179003; clear HO_187003; clear BK156; clear BK171; clear BK178; clear BK186; clear HB; have HO_172003 := n0_; have HO_179003 := n1_; have HO_187003 := n2_; have BK156 := n3_; have BK171 := n4_; have BK178 := n5_; have BK186 := n6_; have HB := n7_; clear n0_ n1_ n2_ n3_ n4_ n5_ n6_ n7_; (try clear hb); (try clear hkp); (try clear hy0); have hcz113_0 : w112.cell? ⟨gb186, 0, none⟩ = some (.int .i8 t179) := (blk_cell BK186.out 0).trans rfl; have hcz113_1 : w112.cell? ⟨gb186, 1, none⟩ = some (.int .i8 t180) := (blk_cell BK186.out 1).trans rfl; have hcz113_2 : w112.cell? ⟨gb186, 2, none⟩ = some (.int .i8 t181) := (blk_cell BK186.out 2).trans rfl; have hcz113_3 : w112.cell? ⟨gb186, 3, none⟩ = some (.slice Ao40 t182.length co40) := (blk_cell BK186.out 3).trans rfl; have hfz113_0 := blk_frozen BK186.out 0; have hfz113_1 := blk_frozen BK186.out 1; have hfz113_2 := blk_frozen BK186.out 2; have hfz113_3 := blk_frozen BK186.out 3) | ((with_reducible refine gate_callee (f := 18) rfl ?_); refine goesL_ (some 78) rfl rfl Try.func18 (by kernel_rfl) rfl #[.agg #[.int .i8 t179, .int .i8 t180, .int .i8 t181, .slice Ao40 t199.length co40], .int .i64 1] rfl (by (try simp only [List.map_toArray, List.map_cons, List.map_nil]); first | done | (rw [show t199.length = t182.length from (Kd.R_reads' HO_187003.out).1.symm] <;> rfl) | rfl | (simp only [List.length_drop, List.length_take]; rfl)) ?_; (with_reducible refine (laws_heldBook.calls kj63 t179 t180 t181 _ _ t199 1 t200 _ ?side1 ?side2 A95.out).mono ?_); (case side1 => repeat (first | exact (Kd.R_reads' HO_187003.out).2.2 | (with_reducible refine Kd.C_alloc ?_ _) | (with_reducible refine Kd.C_drewN ?_ _) | (with_reducible refine Kd.C_drew ?_))); (case side2 => rw [show t199.length = t182.length from (Kd.R_reads' HO_187003.out).1.symm]; exact (Kd.R_reads' HO_187003.out).2.1); rintro e w114 ⟨rfl, hb⟩; refine ⟨_, rfl, ?_⟩; have n0_ := Aside0.mk (Kd.R_below (by (with_reducible repeat (first | apply Kd.R_alloc | apply Kd.R_drewN | apply Kd.R_drew)); exact HO_172003.out) hb); have n1_ := Aside0.mk (Kd.R_below (by (with_reducible repeat (first | apply Kd.R_alloc | apply Kd.R_drewN | apply Kd.R_drew)); exact HO_179003.out) hb); have n2_ := Aside0.mk (Kd.R_below (by (with_reducible repeat (first | apply Kd.R_alloc | apply Kd.R_drewN | apply Kd.R_drew)); exact HO_187003.out) hb); have n3_ := Aside0.mk (blk_below (g := gb156) (o := .cells #[.int .i8 a0_0, .int .i8 a0_1, .int .i8 a0_2, .slice A0_3 l0_3.length c0_3] 25 (0, 0)) (by (with_reducible repeat (first | refine blk_drewN ?_ _ | refine blk_drew ?_ | refine blk_alloc ?_ _)); exact BK156.out) hb); have n4_ := Aside0.mk (blk_below (g := gb171) (o := .cells #[.int .i8 t164, .int .i8 t165, .int .i8 t166, .slice Ao26 t167.length co26] 27 (0, 0)) (by (with_reducible repeat (first | refine blk_drewN ?_ _ | refine blk_drew ?_ | refine blk_alloc ?_ _)); exact BK171.out) hb); have n5_ := Aside0.mk (blk_below (g := gb178) (o := .cells #[.int .i8 t172, .int .i8 t173, .int .i8 t174, .slice Ao33 t196.length co33] 27 (0, 0)) (by (with_reducible repeat (first | refine blk_drewN ?_ _ | refine blk_drew ?_ | refine blk_alloc ?_ _)); exact BK178.out) hb); have n6_ := Aside0.mk (blk_below (g := gb186) (o := .cells #[.int .i8 t179, .int .i8 t180, .int .i8 t181, .slice Ao40 t182.length co40] 27 (0, 0)) (by (with_reducible repeat (first | refine blk_drewN ?_ _ | refine blk_drew ?_ | refine blk_alloc ?_ _)); exact BK186.out) hb); have n7_ := Aside0.mk (below_step (by repeat (first | (with_reducible first | exact HB.out | apply below_alloc | apply pw_below_drewN | apply below_drew1 | refine below_set ?_ GE156.out | refine below_set ?_ GE171.out | refine below_set ?_ GE178.out | refine below_set ?_ GE186.out) | exact HB.out)) hb); clear HO_172003; clear HO_179003; clear HO_187003; clear BK156; clear BK171; clear BK178; clear BK186; clear HB; have HO_172003 := n0_; have HO_179003 := n1_; have HO_187003 := n2_; have BK156 := n3_; have BK171 := n4_; have BK178 := n5_; have BK186 := n6_; have HB := n7_; clear n0_ n1_ n2_ n3_ n4_ n5_ n6_ n7_; (try clear hb); (try clear hb2); (try clear hk); (try clear hi); have hnb115 := NB156_171.out; have hnc115 := NB171_156.out; have hnb116 := NB156_178.out; have hnc116 := NB178_156.out; have hcz117_0 : w114.cell? ⟨gb156, 0, none⟩ = some (.int .i8 a0_0) := (blk_cell BK156.out 0).trans rfl; have hcz117_1 : w114.cell? ⟨gb156, 1, none⟩ = some (.int .i8 a0_1) := (blk_cell BK156.out 1).trans rfl; have hcz117_2 : w114.cell? ⟨gb156, 2, none⟩ = some (.int .i8 a0_2) := (blk_cell BK156.out 2).trans rfl; have hcz117_3 : w114.cell? ⟨gb156, 3, none⟩ = some (.slice A0_3 l0_3.length c0_3) := (blk_cell BK156.out 3).trans rfl; have hfz117_0 := blk_frozen BK156.out 0; have hfz117_1 := blk_frozen BK156.out 1; have hfz117_2 := blk_frozen BK156.out 2; have hfz117_3 := blk_frozen BK156.out 3) | ((with_reducible refine gate_callee (f := 14) rfl ?_); refine goesL_ (some 86) rfl rfl Try.func14 (by kernel_rfl) rfl #[.agg #[.int .i8 a0_0, .int .i8 a0_1, .int .i8 a0_2, .slice A0_3 l0_3.length c0_3]] rfl (by (try simp only [List.map_toArray, List.map_cons, List.map_nil]); first | done | rfl | (simp only [List.length_drop, List.length_take]; rfl)) ?_; (with_reducible refine (laws_toBook.calls kj63 a0_0 a0_1 a0_2 _ _ l0_3 t201 t202 t203 t204 _ ?side1 ?side2 A105.out).mono ?_); (case side1 => repeat (first | exact (Kd.C_below HR0_3.out HB.out) | (with_reducible refine Kd.C_alloc ?_ _) | (with_reducible refine Kd.C_drewN ?_ _) | (with_reducible refine Kd.C_drew ?_))); (case side2 => exact HC0_3.out); rintro e w118 ⟨v205, rfl, ho0, hb⟩; refine ⟨_, rfl, ?_⟩; have n0_ := Aside0.mk (Kd.R_elder' (by (with_reducible repeat (first | apply Kd.R_alloc | apply Kd.R_drewN | apply Kd.R_drew)); exact HO_172003.out) (Kd.R_base ho0) hb); have n1_ := Aside0.mk (Kd.R_elder' (by (with_reducible repeat (first | apply Kd.R_alloc | apply Kd.R_drewN | apply Kd.R_drew)); exact HO_179003.out) (Kd.R_base ho0) hb); have n2_ := Aside0.mk (Kd.R_elder' (by (with_reducible repeat (first | apply Kd.R_alloc | apply Kd.R_drewN | apply Kd.R_drew)); exact HO_187003.out) (Kd.R_base ho0) hb); have n3_ := Aside0.mk (Kd.R_lower (Kd.R_new' (Kd.R_new' (Kd.R_new' ho0 (Kd.R_lt (by (with_reducible repeat (first | apply Kd.R_alloc | apply Kd.R_drewN | apply Kd.R_drew)); exact HO_172003.out))) (Kd.R_lt (by (with_reducible repeat (first | apply Kd.R_alloc | apply Kd.R_drewN | apply Kd.R_drew)); exact HO_179003.out))) (Kd.R_lt (by (with_reducible repeat (first | apply Kd.R_alloc | apply Kd.R_drewN | apply Kd.R_drew)); exact HO_187003.out))) (below_size (by repeat (first | (with_reducible first | exact HB.out | apply below_alloc | apply pw_below_drewN | apply below_drew1 | refine below_set ?_ GE156.out | refine below_set ?_ GE171.out | refine below_set ?_ GE178.out | refine below_set ?_ GE186.out) | exact HB.out)))); have n4_ := Aside0.mk (blk_below (g := gb156) (o := .cells #[.int .i8 a0_0, .int .i8 a0_1, .int .i8 a0_2, .slice A0_3 l0_3.length c0_3] 25 (0, 0)) (by (with_reducible repeat (first | refine blk_drewN ?_ _ | refine blk_drew ?_ | refine blk_alloc ?_ _)); exact BK156.out) hb); have n5_ := Aside0.mk (blk_below (g := gb171) (o := .cells #[.int .i8 t164, .int .i8 t165, .int .i8 t166, .slice Ao26 t167.length co26] 27 (0, 0)) (by (with_reducible repeat (first | refine blk_drewN ?_ _ | refine blk_drew ?_ | refine blk_alloc ?_ _)); exact BK171.out) hb); have n6_ := Aside0.mk (blk_below (g := gb178) (o := .cells #[.int .i8 t172, .int .i8 t173, .int .i8 t174, .slice Ao33 t196.length co33] 27 (0, 0)) (by (with_reducible repeat (first | refine blk_drewN ?_ _ | refine blk_drew ?_ | refine blk_alloc ?_ _)); exact BK178.out) hb); have n7_ := Aside0.mk (blk_below (g := gb186) (o := .cells #[.int .i8 t179, .int .i8 t180, .int .i8 t181, .slice Ao40 t182.length co40] 27 (0, 0)) (by (with_reducible repeat (first | refine blk_drewN ?_ _ | refine blk_drew ?_ | refine blk_alloc ?_ _)); exact BK186.out) hb); have n8_ := Aside0.mk (below_step (by repeat (first | (with_reducible first | exact HB.out | apply below_alloc | apply pw_below_drewN | apply below_drew1 | refine below_set ?_ GE156.out | refine below_set ?_ GE171.out | refine below_set ?_ GE178.out | refine below_set ?_ GE186.out) | exact HB.out)) hb); clear HO_172003; clear HO_179003; clear HO_187003; clear BK156; clear BK171; clear BK178; clear BK186; clear HB; have HO_172003 := n0_; have HO_179003 := n1_; have HO_187003 := n2_; have HO206 := n3_; have BK156 := n4_; have BK171 := n5_; have BK178 := n6_; have BK186 := n7_; have HB := n8_; clear n0_ n1_ n2_ n3_ n4_ n5_ n6_ n7_ n8_; (try clear hb); (try clear hb2); (try clear hk); (try clear hi); (try clear ho0); obtain ⟨Ao119, co119, eo119⟩ := Kd.R_slice HO206.out; subst eo119) | ((with_reducible refine gate_callee (f := 22) rfl ?_); refine goesL_ (some 89) rfl rfl Try.func22 (by kernel_rfl) rfl #[.agg #[.int .i8 t201, .int .i8 t202, .int .i8 t203, .slice Ao119 t204.length co119], .int .i64 a1, .string a2] rfl (by (try simp only [List.map_toArray, List.map_cons, List.map_nil]); first | done | rfl | (simp only [List.length_drop, List.length_take]; rfl)) ?_; (with_reducible refine (impl_ReplacePhrase.calls kj63 t201 t202 t203 _ _ t204 a1 a2 t207 t208 t209 t210 t213 _ ?side1 ?side2 A106.out).mono ?_); (case side1 => repeat (first | exact (Kd.R_reads' HO206.out).2.2 | (with_reducible refine Kd.C_alloc ?_ _) | (with_reducible refine Kd.C_drewN ?_ _) | (with_reducible refine Kd.C_drew ?_))); (case side2 => exact (Kd.R_reads' HO206.out).2.1); rintro e w120 ⟨v211, rfl, ho0, hb⟩; refine ⟨_, rfl, ?_⟩; have n0_ := Aside0.mk (Kd.R_elder' (by (with_reducible repeat (first | apply Kd.R_alloc | apply Kd.R_drewN | apply Kd.R_drew)); exact HO_172003.out) (Kd.R_base ho0) hb); have n1_ := Aside0.mk (Kd.R_elder' (by (with_reducible repeat (first | apply Kd.R_alloc | apply Kd.R_drewN | apply Kd.R_drew)); exact HO_179003.out) (Kd.R_base ho0) hb); have n2_ := Aside0.mk (Kd.R_elder' (by (with_reducible repeat (first | apply Kd.R_alloc | apply Kd.R_drewN | apply Kd.R_drew)); exact HO_187003.out) (Kd.R_base ho0) hb); have n3_ := Aside0.mk (Kd.R_elder' (by (with_reducible repeat (first | apply Kd.R_alloc | apply Kd.R_drewN | apply Kd.R_drew)); exact HO206.out) (Kd.R_base ho0) hb); have n4_ := Aside0.mk (Kd.R_lower (Kd.R_new' (Kd.R_new' (Kd.R_new' (Kd.R_new' ho0 (Kd.R_lt (by (with_reducible repeat (first | apply Kd.R_alloc | apply Kd.R_drewN | apply Kd.R_drew)); exact HO_172003.out))) (Kd.R_lt (by (with_reducible repeat (first | apply Kd.R_alloc | apply Kd.R_drewN | apply Kd.R_drew)); exact HO_179003.out))) (Kd.R_lt (by (with_reducible repeat (first | apply Kd.R_alloc | apply Kd.R_drewN | apply Kd.R_drew)); exact HO_187003.out))) (Kd.R_lt (by (with_reducible repeat (first | apply Kd.R_alloc | apply Kd.R_drewN | apply Kd.R_drew)); exact HO206.out))) (below_size (by repeat (first | (with_reducible first | exact HB.out | apply below_alloc | apply pw_below_drewN | apply below_drew1 | refine below_set ?_ GE156.out | refine below_set ?_ GE171.out | refine below_set ?_ GE178.out | refine below_set ?_ GE186.out) | exact HB.out)))); have n5_ := Aside0.mk (blk_below (g := gb156) (o := .cells #[.int .i8 a0_0, .int .i8 a0_1, .int .i8 a0_2, .slice A0_3 l0_3.length c0_3] 25 (0, 0)) (by (with_reducible repeat (first | refine blk_drewN ?_ _ | refine blk_drew ?_ | refine blk_alloc ?_ _)); exact BK156.out) hb); have n6_ := Aside0.mk (blk_below (g := gb171) (o := .cells #[.int .i8 t164, .int .i8 t165, .int .i8 t166, .slice Ao26 t167.length co26] 27 (0, 0)) (by (with_reducible repeat (first | refine blk_drewN ?_ _ | refine blk_drew ?_ | refine blk_alloc ?_ _)); exact BK171.out) hb); have n7_ := Aside0.mk (blk_below (g := gb178) (o := .cells #[.int .i8 t172, .int .i8 t173, .int .i8 t174, .slice Ao33 t196.length co33] 27 (0, 0)) (by (with_reducible repeat (first | refine blk_drewN ?_ _ | refine blk_drew ?_ | refine blk_alloc ?_ _)); exact BK178.out) hb); have n8_ := Aside0.mk (blk_below (g := gb186) (o := .cells #[.int .i8 t179, .int .i8 t180, .int .i8 t181, .slice Ao40 t182.length co40] 27 (0, 0)) (by (with_reducible repeat (first | refine blk_drewN ?_ _ | refine blk_drew ?_ | refine blk_alloc ?_ _)); exact BK186.out) hb); have n9_ := Aside0.mk (below_step (by repeat (first | (with_reducible first | exact HB.out | apply below_alloc | apply pw_below_drewN | apply below_drew1 | refine below_set ?_ GE156.out | refine below_set ?_ GE171.out | refine below_set ?_ GE178.out | refine below_set ?_ GE186.out) | exact HB.out)) hb); clear HO_172003; clear HO_179003; clear HO_187003; clear HO206; clear BK156; clear BK171; clear BK178; clear BK186; clear HB; have HO_172003 := n0_; have HO_179003 := n1_; have HO_187003 := n2_; have HO206 := n3_; have HO212 := n4_; have BK156 := n5_; have BK171 := n6_; have BK178 := n7_; have BK186 := n8_; have HB := n9_; clear n0_ n1_ n2_ n3_ n4_ n5_ n6_ n7_ n8_ n9_; (try clear hb); (try clear hb2); (try clear hk); (try clear hi); (try clear ho0)) | ((with_reducible refine gate_dst (N := 16) rfl ?_); refine box_event ?hg (N := 16) ?hd (cs := #[.int .i8 0, .int .i8 0, .int .i8 0, .slice none 0 0]) (t := 27) ?hr ?_; (case hd => rfl); (case hg => rfl); (case hr => first | (go_simp; done) | (go_simp; rfl)); intro gb214 hg w121 hbox hb; have n0_ := Aside0.mk (Kd.R_below (by (with_reducible repeat (first | apply Kd.R_alloc | apply Kd.R_drewN | apply Kd.R_drew)); exact HO_172003.out) hb); have n1_ := Aside0.mk (Kd.R_below (by (with_reducible repeat (first | apply Kd.R_alloc | apply Kd.R_drewN | apply Kd.R_drew)); exact HO_179003.out) hb); have n2_ := Aside0.mk (Kd.R_below (by (with_reducible repeat (first | apply Kd.R_alloc | apply Kd.R_drewN | apply Kd.R_drew)); exact HO_187003.out) hb); have n3_ := Aside0.mk (Kd.R_below (by (with_reducible repeat (first | apply Kd.R_alloc | apply Kd.R_drewN | apply Kd.R_drew)); exact HO206.out) hb); have n4_ := Aside0.mk (Kd.R_below (by (with_reducible repeat (first | apply Kd.R_alloc | apply Kd.R_drewN | apply Kd.R_drew)); exact HO212.out) hb); have n5_ := Aside0.mk (blk_below (g := gb156) (o := .cells #[.int .i8 a0_0, .int .i8 a0_1, .int .i8 a0_2, .slice A0_3 l0_3.length c0_3] 25 (0, 0)) (by (with_reducible repeat (first | refine blk_drewN ?_ _ | refine blk_drew ?_ | refine blk_alloc ?_ _)); exact BK156.out) hb); have n6_ := Aside0.mk (blk_below (g := gb171) (o := .cells #[.int .i8 t164, .int .i8 t165, .int .i8 t166, .slice Ao26 t167.length co26] 27 (0, 0)) (by (with_reducible repeat (first | refine blk_drewN ?_ _ | refine blk_drew ?_ | refine blk_alloc ?_ _)); exact BK171.out) hb); have n7_ := Aside0.mk (blk_below (g := gb178) (o := .cells #[.int .i8 t172, .int .i8 t173, .int .i8 t174, .slice Ao33 t196.length co33] 27 (0, 0)) (by (with_reducible repeat (first | refine blk_drewN ?_ _ | refine blk_drew ?_ | refine blk_alloc ?_ _)); exact BK178.out) hb); have n8_ := Aside0.mk (blk_below (g := gb186) (o := .cells #[.int .i8 t179, .int .i8 t180, .int .i8 t181, .slice Ao40 t182.length co40] 27 (0, 0)) (by (with_reducible repeat (first | refine blk_drewN ?_ _ | refine blk_drew ?_ | refine blk_alloc ?_ _)); exact BK186.out) hb); have n9_ := Aside0.mk (below_step (by repeat (first | (with_reducible first | exact HB.out | apply below_alloc | apply pw_below_drewN | apply below_drew1 | refine below_set ?_ GE156.out | refine below_set ?_ GE171.out | refine below_set ?_ GE178.out | refine below_set ?_ GE186.out) | exact HB.out)) hb); have n10_ := Aside0.mk (hbox); have n11_ := Aside0.mk ((by rw [hg]; exact (below_size (by repeat (first | (with_reducible first | exact HB.out | apply below_alloc | apply pw_below_drewN | apply below_drew1 | refine below_set ?_ GE156.out | refine below_set ?_ GE171.out | refine below_set ?_ GE178.out | refine below_set ?_ GE186.out) | exact HB.out))) : w.heap.size ≤ gb214)); have n12_ := Aside0.mk ((by rw [hg]; exact (below_size (by repeat (first | (with_reducible first | exact HB.out | apply below_alloc | apply pw_below_drewN | apply below_drew1 | refine below_set ?_ GE156.out | refine below_set ?_ GE171.out | refine below_set ?_ GE178.out | refine below_set ?_ GE186.out) | exact HB.out))) : w.heap.size ≤ gb214)); have n13_ := Aside0.mk ((by rw [hg]; exact Nat.ne_of_lt (blk_lt (g := gb156) (o := .cells #[.int .i8 a0_0, .int .i8 a0_1, .int .i8 a0_2, .slice A0_3 l0_3.length c0_3] 25 (0, 0)) (by (with_reducible repeat (first | refine blk_drewN ?_ _ | refine blk_drew ?_ | refine blk_alloc ?_ _)); exact BK156.out)) : gb156 ≠ gb214)); have n14_ := Aside0.mk ((by rw [hg]; exact Nat.ne_of_gt (blk_lt (g := gb156) (o := .cells #[.int .i8 a0_0, .int .i8 a0_1, .int .i8 a0_2, .slice A0_3 l0_3.length c0_3] 25 (0, 0)) (by (with_reducible repeat (first | refine blk_drewN ?_ _ | refine blk_drew ?_ | refine blk_alloc ?_ _)); exact BK156.out)) : gb214 ≠ gb156)); have n15_ := Aside0.mk ((by rw [hg]; exact Nat.ne_of_lt (blk_lt (g := gb171) (o := .cells #[.int .i8 t164, .int .i8 t165, .int .i8 t166, .slice Ao26 t167.length co26] 27 (0, 0)) (by (with_reducible repeat (first | refine blk_drewN ?_ _ | refine blk_drew ?_ | refine blk_alloc ?_ _)); exact BK171.out)) : gb171 ≠ gb214)); have n16_ := Aside0.mk ((by rw [hg]; exact Nat.ne_of_gt (blk_lt (g := gb171) (o := .cells #[.int .i8 t164, .int .i8 t165, .int .i8 t166, .slice Ao26 t167.length co26] 27 (0, 0)) (by (with_reducible repeat (first | refine blk_drewN ?_ _ | refine blk_drew ?_ | refine blk_alloc ?_ _)); exact BK171.out)) : gb214 ≠ gb171)); have n17_ := Aside0.mk ((by rw [hg]; exact Nat.ne_of_lt (blk_lt (g := gb178) (o := .cells #[.int .i8 t172, .int .i8 t173, .int .i8 t174, .slice Ao33 t196.length co33] 27 (0, 0)) (by (with_reducible repeat (first | refine blk_drewN ?_ _ | refine blk_drew ?_ | refine blk_alloc ?_ _)); exact BK178.out)) : gb178 ≠ gb214)); have n18_ := Aside0.mk ((by rw [hg]; exact Nat.ne_of_gt (blk_lt (g := gb178) (o := .cells #[.int .i8 t172, .int .i8 t173, .int .i8 t174, .slice Ao33 t196.length co33] 27 (0, 0)) (by (with_reducible repeat (first | refine blk_drewN ?_ _ | refine blk_drew ?_ | refine blk_alloc ?_ _)); exact BK178.out)) : gb214 ≠ gb178)); have n19_ := Aside0.mk ((by rw [hg]; exact Nat.ne_of_lt (blk_lt (g := gb186) (o := .cells #[.int .i8 t179, .int .i8 t180, .int .i8 t181, .slice Ao40 t182.length co40] 27 (0, 0)) (by (with_reducible repeat (first | refine blk_drewN ?_ _ | refine blk_drew ?_ | refine blk_alloc ?_ _)); exact BK186.out)) : gb186 ≠ gb214)); have n20_ := Aside0.mk ((by rw [hg]; exact Nat.ne_of_gt (blk_lt (g := gb186) (o := .cells #[.int .i8 t179, .int .i8 t180, .int .i8 t181, .slice Ao40 t182.length co40] 27 (0, 0)) (by (with_reducible repeat (first | refine blk_drewN ?_ _ | refine blk_drew ?_ | refine blk_alloc ?_ _)); exact BK186.out)) : gb214 ≠ gb186)); clear HO_172003; clear HO_179003; clear HO_187003; clear HO206; clear HO212; clear BK156; clear BK171; clear BK178; clear BK186; clear HB; have HO_172003 := n0_; have HO_179003 := n1_; have HO_187003 := n2_; have HO206 := n3_; have HO212 := n4_; have BK156 := n5_; have BK171 := n6_; have BK178 := n7_; have BK186 := n8_; have HB := n9_; have BK214 := n10_; have GW214 := n11_; have GE214 := n12_; have NB156_214 := n13_; have NB214_156 := n14_; have NB171_214 := n15_; have NB214_171 := n16_; have NB178_214 := n17_; have NB214_178 := n18_; have NB186_214 := n19_; have NB214_186 := n20_; clear n0_ n1_ n2_ n3_ n4_ n5_ n6_ n7_ n8_ n9_ n10_ n11_ n12_ n13_ n14_ n15_ n16_ n17_ n18_ n19_ n20_; clear hb hbox hg; have hnb122 := NB214_156.out; have hnc122 := NB156_214.out; have hnb123 := NB214_171.out; have hnc123 := NB171_214.out; have hnb124 := NB214_178.out; have hnc124 := NB178_214.out; have hnb125 := NB214_186.out; have hnc125 := NB186_214.out; have hcz126_0 : w121.cell? ⟨gb214, 0, none⟩ = some (.int .i8 0) := (blk_cell BK214.out 0).trans rfl; have hcz126_1 : w121.cell? ⟨gb214, 1, none⟩ = some (.int .i8 0) := (blk_cell BK214.out 1).trans rfl; have hcz126_2 : w121.cell? ⟨gb214, 2, none⟩ = some (.int .i8 0) := (blk_cell BK214.out 2).trans rfl; have hcz126_3 : w121.cell? ⟨gb214, 3, none⟩ = some (.slice none 0 0) := (blk_cell BK214.out 3).trans rfl; have hfz126_0 := blk_frozen BK214.out 0; have hfz126_1 := blk_frozen BK214.out 1; have hfz126_2 := blk_frozen BK214.out 2; have hfz126_3 := blk_frozen BK214.out 3; obtain ⟨Ao127, co127, eo127⟩ := Kd.R_slice HO212.out; subst eo127))
            (try simp only [Act.put, List.setIfInBounds_toArray, List.set_cons_zero, List.set_cons_succ])
            go_cut [100] (fun v100 wc => ∃ (kq : Nat) (x100_106 : Bool), v100 = .bool x100_106 ∧ Aside0 (laws_FnExactReplacePhrase.j2 kq t198 x100_106 t179 t180 t181 t199 = some r) ∧ Aside0 (kq ≤ kj63) ∧ Aside0 (Kd.R Kd.string 9 wc w.heap.size (fun k_ => some k_ ≠ ((.slice Ao33 t196.length co33) : Value).ownBlock ∧ some k_ ≠ ((.slice Ao40 t182.length co40) : Value).ownBlock ∧ some k_ ≠ ((.slice Ao127 t210.length co127) : Value).ownBlock) (.slice Ao26 t167.length co26) t167) ∧ Aside0 (Kd.R Kd.string 9 wc w.heap.size (fun k_ => some k_ ≠ ((.slice Ao26 t167.length co26) : Value).ownBlock ∧ some k_ ≠ ((.slice Ao40 t182.length co40) : Value).ownBlock ∧ some k_ ≠ ((.slice Ao127 t210.length co127) : Value).ownBlock) (.slice Ao33 t196.length co33) t196) ∧ Aside0 (Kd.R Kd.string 9 wc w.heap.size (fun k_ => some k_ ≠ ((.slice Ao26 t167.length co26) : Value).ownBlock ∧ some k_ ≠ ((.slice Ao33 t196.length co33) : Value).ownBlock ∧ some k_ ≠ ((.slice Ao127 t210.length co127) : Value).ownBlock) (.slice Ao40 t182.length co40) t199) ∧ Aside0 (Kd.R Kd.string 9 wc w.heap.size (fun k_ => some k_ ≠ ((.slice Ao26 t167.length co26) : Value).ownBlock ∧ some k_ ≠ ((.slice Ao33 t196.length co33) : Value).ownBlock ∧ some k_ ≠ ((.slice Ao40 t182.length co40) : Value).ownBlock) (.slice Ao127 t210.length co127) t210) ∧ Aside0 (wc.heap[gb156]? = some (.cells #[.int .i8 a0_0, .int .i8 a0_1, .int .i8 a0_2, (.slice A0_3 l0_3.length c0_3)] 25 (0, 0))) ∧ Aside0 (wc.heap[gb171]? = some (.cells #[.int .i8 t164, .int .i8 t165, .int .i8 t166, (.slice Ao26 t167.length co26)] 27 (0, 0))) ∧ Aside0 (wc.heap[gb178]? = some (.cells #[.int .i8 t172, .int .i8 t173, .int .i8 t174, (.slice Ao33 t196.length co33)] 27 (0, 0))) ∧ Aside0 (wc.heap[gb186]? = some (.cells #[.int .i8 t179, .int .i8 t180, .int .i8 t181, (.slice Ao40 t182.length co40)] 27 (0, 0))) ∧ Aside0 (wc.heap[gb214]? = some (.cells #[.int .i8 t207, .int .i8 t208, .int .i8 t209, (.slice Ao127 t210.length co127)] 27 (0, 0))) ∧ Aside0 (Below w.heap.size w wc))
            case first =>
             have H := HC107.out
             clear HC107
             replace H := Option.bind_eq_some_iff.mp H
             obtain ⟨t215, A1280, H⟩ := H
             replace H : (if t215 = true then (laws_FnExactReplacePhrase.j2 kj63 t198 (t213 != t170) t179 t180 t181 t199) else (laws_FnExactReplacePhrase.j2 kj63 t198 true t179 t180 t181 t199)) = some r := H
             have A128 := Aside0.mk A1280
             clear A1280
             by_cases c129 : t215 = true
             ·subst c129
              have H1 : (laws_FnExactReplacePhrase.j2 kj63 t198 (t213 != t170) t179 t180 t181 t199) = some r := by rw [if_pos rfl] at H; exact H
              clear H
              have H := H1
              clear H1
              have H' := Aside0.mk H
              clear H
              have hnb130 := NB214_156.out
              have hnc130 := NB156_214.out
              have hnb131 := NB214_171.out
              have hnc131 := NB171_214.out
              have hnb132 := NB214_178.out
              have hnc132 := NB178_214.out
              have hnb133 := NB214_186.out
              have hnc133 := NB186_214.out
              have hcz134_0 : w121.cell? ⟨gb214, 0, none⟩ = some (.int .i8 0) := (blk_cell BK214.out 0).trans rfl
              have hcz134_1 : w121.cell? ⟨gb214, 1, none⟩ = some (.int .i8 0) := (blk_cell BK214.out 1).trans rfl
              have hcz134_2 : w121.cell? ⟨gb214, 2, none⟩ = some (.int .i8 0) := (blk_cell BK214.out 2).trans rfl
              have hcz134_3 : w121.cell? ⟨gb214, 3, none⟩ = some (.slice none 0 0) := (blk_cell BK214.out 3).trans rfl
              have hfz134_0 := blk_frozen BK214.out 0
              have hfz134_1 := blk_frozen BK214.out 1
              have hfz134_2 := blk_frozen BK214.out 2
              have hfz134_3 := blk_frozen BK214.out 3
              have hnb135 := NB171_156.out
              have hnc135 := NB156_171.out
              have hnb136 := NB171_178.out
              have hnc136 := NB178_171.out
              have hnb137 := NB171_186.out
              have hnc137 := NB186_171.out
              have hcz138_0 : w121.cell? ⟨gb171, 0, none⟩ = some (.int .i8 t164) := (blk_cell BK171.out 0).trans rfl
              have hcz138_1 : w121.cell? ⟨gb171, 1, none⟩ = some (.int .i8 t165) := (blk_cell BK171.out 1).trans rfl
              have hcz138_2 : w121.cell? ⟨gb171, 2, none⟩ = some (.int .i8 t166) := (blk_cell BK171.out 2).trans rfl
              have hcz138_3 : w121.cell? ⟨gb171, 3, none⟩ = some (.slice Ao26 t167.length co26) := (blk_cell BK171.out 3).trans rfl
              have hfz138_0 := blk_frozen BK171.out 0
              have hfz138_1 := blk_frozen BK171.out 1
              have hfz138_2 := blk_frozen BK171.out 2
              have hfz138_3 := blk_frozen BK171.out 3
              go_wp2_with (first | ((with_reducible refine gate_callee (f := 16) rfl ?_); refine goesL_ (some 94) rfl rfl Try.func16 (by kernel_rfl) rfl #[.agg #[.int .i8 t207, .int .i8 t208, .int .i8 t209, .slice Ao127 t210.length co127], .agg #[.int .i8 t164, .int .i8 t165, .int .i8 t166, .slice Ao26 t167.length co26]] rfl (by (try simp only [List.map_toArray, List.map_cons, List.map_nil]); first | done | rfl | (simp only [List.length_drop, List.length_take]; rfl)) ?_; (with_reducible refine (laws_eqBook.calls kj63 t207 t208 t209 _ _ t210 t164 t165 t166 _ _ t167 true _ ?side1 ?side2 ?side3 ?side4 A128.out).mono ?_); (case side1 => refine (Kd.R_reads' (e := 9) (base := w.heap.size) (ok := fun k_ => ((((True ∧ some k_ ≠ (.slice Ao26 t167.length co26 : Value).ownBlock) ∧ some k_ ≠ (.slice Ao33 t196.length co33 : Value).ownBlock) ∧ some k_ ≠ (.slice Ao40 t182.length co40 : Value).ownBlock) ∧ some k_ ≠ (.slice Ao119 t204.length co119 : Value).ownBlock)) (n := t210.length) (c := co127) ?_).2.2; exact (by (with_reducible repeat (first | apply Kd.R_alloc | apply Kd.R_drewN | apply Kd.R_drew)); exact (Kd.R_mono (Kd.R_far (p := ⟨gb214, 3, none⟩) (Kd.R_far (p := ⟨gb214, 2, none⟩) (Kd.R_far (p := ⟨gb214, 1, none⟩) (Kd.R_far (p := ⟨gb214, 0, none⟩) (Kd.R_types HO212.out BK214.out (by decide)) (fun _ hk => hk.2) (.int .i8 t207)) (fun _ hk => hk.2) (.int .i8 t208)) (fun _ hk => hk.2) (.int .i8 t209)) (fun _ hk => hk.2) (.slice Ao127 t210.length co127)) (fun _ h_ => h_.1)))); (case side2 => exact (Kd.R_reads' HO212.out).2.1); (case side3 => refine (Kd.R_reads' (e := 9) (base := w.heap.size) (ok := fun k_ => (((some k_ ≠ (.slice Ao33 t196.length co33 : Value).ownBlock ∧ some k_ ≠ (.slice Ao40 t182.length co40 : Value).ownBlock) ∧ some k_ ≠ (.slice Ao119 t204.length co119 : Value).ownBlock) ∧ some k_ ≠ (.slice Ao127 t210.length co127 : Value).ownBlock)) (n := t167.length) (c := co26) ?_).2.2; exact (by (with_reducible repeat (first | apply Kd.R_alloc | apply Kd.R_drewN | apply Kd.R_drew)); exact (Kd.R_mono (Kd.R_far (p := ⟨gb214, 3, none⟩) (Kd.R_far (p := ⟨gb214, 2, none⟩) (Kd.R_far (p := ⟨gb214, 1, none⟩) (Kd.R_far (p := ⟨gb214, 0, none⟩) (Kd.R_types HO_172003.out BK214.out (by decide)) (fun _ hk => hk.2) (.int .i8 t207)) (fun _ hk => hk.2) (.int .i8 t208)) (fun _ hk => hk.2) (.int .i8 t209)) (fun _ hk => hk.2) (.slice Ao127 t210.length co127)) (fun _ h_ => h_.1)))); (case side4 => exact (Kd.R_reads' HO_172003.out).2.1); rintro e w139 ⟨rfl, hb⟩; refine ⟨_, rfl, ?_⟩; have n0_ := Aside0.mk (Kd.R_below (by (with_reducible repeat (first | apply Kd.R_alloc | apply Kd.R_drewN | apply Kd.R_drew)); exact (Kd.R_mono (Kd.R_far (p := ⟨gb214, 3, none⟩) (Kd.R_far (p := ⟨gb214, 2, none⟩) (Kd.R_far (p := ⟨gb214, 1, none⟩) (Kd.R_far (p := ⟨gb214, 0, none⟩) (Kd.R_types HO_172003.out BK214.out (by decide)) (fun _ hk => hk.2) (.int .i8 t207)) (fun _ hk => hk.2) (.int .i8 t208)) (fun _ hk => hk.2) (.int .i8 t209)) (fun _ hk => hk.2) (.slice Ao127 t210.length co127)) (fun _ h_ => h_.1))) hb); have n1_ := Aside0.mk (Kd.R_below (by (with_reducible repeat (first | apply Kd.R_alloc | apply Kd.R_drewN | apply Kd.R_drew)); exact (Kd.R_mono (Kd.R_far (p := ⟨gb214, 3, none⟩) (Kd.R_far (p := ⟨gb214, 2, none⟩) (Kd.R_far (p := ⟨gb214, 1, none⟩) (Kd.R_far (p := ⟨gb214, 0, none⟩) (Kd.R_types HO_179003.out BK214.out (by decide)) (fun _ hk => hk.2) (.int .i8 t207)) (fun _ hk => hk.2) (.int .i8 t208)) (fun _ hk => hk.2) (.int .i8 t209)) (fun _ hk => hk.2) (.slice Ao127 t210.length co127)) (fun _ h_ => h_.1))) hb); have n2_ := Aside0.mk (Kd.R_below (by (with_reducible repeat (first | apply Kd.R_alloc | apply Kd.R_drewN | apply Kd.R_drew)); exact (Kd.R_mono (Kd.R_far (p := ⟨gb214, 3, none⟩) (Kd.R_far (p := ⟨gb214, 2, none⟩) (Kd.R_far (p := ⟨gb214, 1, none⟩) (Kd.R_far (p := ⟨gb214, 0, none⟩) (Kd.R_types HO_187003.out BK214.out (by decide)) (fun _ hk => hk.2) (.int .i8 t207)) (fun _ hk => hk.2) (.int .i8 t208)) (fun _ hk => hk.2) (.int .i8 t209)) (fun _ hk => hk.2) (.slice Ao127 t210.length co127)) (fun _ h_ => h_.1))) hb); have n3_ := Aside0.mk (Kd.R_below (by (with_reducible repeat (first | apply Kd.R_alloc | apply Kd.R_drewN | apply Kd.R_drew)); exact (Kd.R_mono (Kd.R_far (p := ⟨gb214, 3, none⟩) (Kd.R_far (p := ⟨gb214, 2, none⟩) (Kd.R_far (p := ⟨gb214, 1, none⟩) (Kd.R_far (p := ⟨gb214, 0, none⟩) (Kd.R_types HO206.out BK214.out (by decide)) (fun _ hk => hk.2) (.int .i8 t207)) (fun _ hk => hk.2) (.int .i8 t208)) (fun _ hk => hk.2) (.int .i8 t209)) (fun _ hk => hk.2) (.slice Ao127 t210.length co127)) (fun _ h_ => h_.1))) hb); have n4_ := Aside0.mk (Kd.R_below (by (with_reducible repeat (first | apply Kd.R_alloc | apply Kd.R_drewN | apply Kd.R_drew)); exact (Kd.R_mono (Kd.R_far (p := ⟨gb214, 3, none⟩) (Kd.R_far (p := ⟨gb214, 2, none⟩) (Kd.R_far (p := ⟨gb214, 1, none⟩) (Kd.R_far (p := ⟨gb214, 0, none⟩) (Kd.R_types HO212.out BK214.out (by decide)) (fun _ hk => hk.2) (.int .i8 t207)) (fun _ hk => hk.2) (.int .i8 t208)) (fun _ hk => hk.2) (.int .i8 t209)) (fun _ hk => hk.2) (.slice Ao127 t210.length co127)) (fun _ h_ => h_.1))) hb); have n5_ := Aside0.mk (blk_below (g := gb156) (o := .cells #[.int .i8 a0_0, .int .i8 a0_1, .int .i8 a0_2, .slice A0_3 l0_3.length c0_3] 25 (0, 0)) (by (with_reducible repeat (first | refine blk_drewN ?_ _ | refine blk_drew ?_ | refine blk_alloc ?_ _)); refine blk_far ?_ NB156_214.out _; (with_reducible repeat (first | refine blk_drewN ?_ _ | refine blk_drew ?_ | refine blk_alloc ?_ _)); refine blk_far ?_ NB156_214.out _; (with_reducible repeat (first | refine blk_drewN ?_ _ | refine blk_drew ?_ | refine blk_alloc ?_ _)); refine blk_far ?_ NB156_214.out _; (with_reducible repeat (first | refine blk_drewN ?_ _ | refine blk_drew ?_ | refine blk_alloc ?_ _)); refine blk_far ?_ NB156_214.out _; (with_reducible repeat (first | refine blk_drewN ?_ _ | refine blk_drew ?_ | refine blk_alloc ?_ _)); exact BK156.out) hb); have n6_ := Aside0.mk (blk_below (g := gb171) (o := .cells #[.int .i8 t164, .int .i8 t165, .int .i8 t166, .slice Ao26 t167.length co26] 27 (0, 0)) (by (with_reducible repeat (first | refine blk_drewN ?_ _ | refine blk_drew ?_ | refine blk_alloc ?_ _)); refine blk_far ?_ NB171_214.out _; (with_reducible repeat (first | refine blk_drewN ?_ _ | refine blk_drew ?_ | refine blk_alloc ?_ _)); refine blk_far ?_ NB171_214.out _; (with_reducible repeat (first | refine blk_drewN ?_ _ | refine blk_drew ?_ | refine blk_alloc ?_ _)); refine blk_far ?_ NB171_214.out _; (with_reducible repeat (first | refine blk_drewN ?_ _ | refine blk_drew ?_ | refine blk_alloc ?_ _)); refine blk_far ?_ NB171_214.out _; (with_reducible repeat (first | refine blk_drewN ?_ _ | refine blk_drew ?_ | refine blk_alloc ?_ _)); exact BK171.out) hb); have n7_ := Aside0.mk (blk_below (g := gb178) (o := .cells #[.int .i8 t172, .int .i8 t173, .int .i8 t174, .slice Ao33 t196.length co33] 27 (0, 0)) (by (with_reducible repeat (first | refine blk_drewN ?_ _ | refine blk_drew ?_ | refine blk_alloc ?_ _)); refine blk_far ?_ NB178_214.out _; (with_reducible repeat (first | refine blk_drewN ?_ _ | refine blk_drew ?_ | refine blk_alloc ?_ _)); refine blk_far ?_ NB178_214.out _; (with_reducible repeat (first | refine blk_drewN ?_ _ | refine blk_drew ?_ | refine blk_alloc ?_ _)); refine blk_far ?_ NB178_214.out _; (with_reducible repeat (first | refine blk_drewN ?_ _ | refine blk_drew ?_ | refine blk_alloc ?_ _)); refine blk_far ?_ NB178_214.out _; (with_reducible repeat (first | refine blk_drewN ?_ _ | refine blk_drew ?_ | refine blk_alloc ?_ _)); exact BK178.out) hb); have n8_ := Aside0.mk (blk_below (g := gb186) (o := .cells #[.int .i8 t179, .int .i8 t180, .int .i8 t181, .slice Ao40 t182.length co40] 27 (0, 0)) (by (with_reducible repeat (first | refine blk_drewN ?_ _ | refine blk_drew ?_ | refine blk_alloc ?_ _)); refine blk_far ?_ NB186_214.out _; (with_reducible repeat (first | refine blk_drewN ?_ _ | refine blk_drew ?_ | refine blk_alloc ?_ _)); refine blk_far ?_ NB186_214.out _; (with_reducible repeat (first | refine blk_drewN ?_ _ | refine blk_drew ?_ | refine blk_alloc ?_ _)); refine blk_far ?_ NB186_214.out _; (with_reducible repeat (first | refine blk_drewN ?_ _ | refine blk_drew ?_ | refine blk_alloc ?_ _)); refine blk_far ?_ NB186_214.out _; (with_reducible repeat (first | refine blk_drewN ?_ _ | refine blk_drew ?_ | refine blk_alloc ?_ _)); exact BK186.out) hb); have n9_ := Aside0.mk (blk_below (g := gb214) (o := .cells #[.int .i8 t207, .int .i8 t208, .int .i8 t209, .slice Ao127 t210.length co127] 27 (0, 0)) (by (with_reducible repeat (first | refine blk_drewN ?_ _ | refine blk_drew ?_ | refine blk_alloc ?_ _)); refine blk_put (cs := #[.int .i8 t207, .int .i8 t208, .int .i8 t209, .slice none 0 0]) ?_ 3 _ rfl; (with_reducible repeat (first | refine blk_drewN ?_ _ | refine blk_drew ?_ | refine blk_alloc ?_ _)); refine blk_put (cs := #[.int .i8 t207, .int .i8 t208, .int .i8 0, .slice none 0 0]) ?_ 2 _ rfl; (with_reducible repeat (first | refine blk_drewN ?_ _ | refine blk_drew ?_ | refine blk_alloc ?_ _)); refine blk_put (cs := #[.int .i8 t207, .int .i8 0, .int .i8 0, .slice none 0 0]) ?_ 1 _ rfl; (with_reducible repeat (first | refine blk_drewN ?_ _ | refine blk_drew ?_ | refine blk_alloc ?_ _)); refine blk_put (cs := #[.int .i8 0, .int .i8 0, .int .i8 0, .slice none 0 0]) ?_ 0 _ rfl; (with_reducible repeat (first | refine blk_drewN ?_ _ | refine blk_drew ?_ | refine blk_alloc ?_ _)); exact BK214.out) hb); have n10_ := Aside0.mk (below_step (by repeat (first | (with_reducible first | exact HB.out | apply below_alloc | apply pw_below_drewN | apply below_drew1 | refine below_set ?_ GE156.out | refine below_set ?_ GE171.out | refine below_set ?_ GE178.out | refine below_set ?_ GE186.out | refine below_set ?_ GE214.out) | exact HB.out)) hb); clear HO_172003; clear HO_179003; clear HO_187003; clear HO206; clear HO212; clear BK156; clear BK171; clear BK178; clear BK186; clear BK214; clear HB; have HO_172003 := n0_; have HO_179003 := n1_; have HO_187003 := n2_; have HO206 := n3_; have HO212 := n4_; have BK156 := n5_; have BK171 := n6_; have BK178 := n7_; have BK186 := n8_; have BK214 := n9_; have HB := n10_; clear n0_ n1_ n2_ n3_ n4_ n5_ n6_ n7_ n8_ n9_ n10_; (try clear hb); (try clear hb2); (try clear hk); (try clear hi)))
              go_meet
              case rel => exact ⟨_, ((t213 != t170)), (by first | rfl | (simp; done) | (simp [*]; done)), H', ⟨by have := HJ14.out; have := HJ63.out; first | omega | exact Nat.le_refl _⟩, ⟨by (try simp only [hl179003_63]); (with_reducible repeat (first | apply Kd.R_alloc | apply Kd.R_drewN | apply Kd.R_drew)); exact Kd.R_mono HO_172003.out (fun _ hk => ⟨hk.1.1.1, ⟨hk.1.1.2, hk.2⟩⟩)⟩, ⟨by (try simp only [hl179003_63]); (with_reducible repeat (first | apply Kd.R_alloc | apply Kd.R_drewN | apply Kd.R_drew)); exact Kd.R_mono HO_179003.out (fun _ hk => ⟨hk.1.1.1, ⟨hk.1.1.2, hk.2⟩⟩)⟩, ⟨by (try simp only [hl179003_63]); (with_reducible repeat (first | apply Kd.R_alloc | apply Kd.R_drewN | apply Kd.R_drew)); exact Kd.R_mono HO_187003.out (fun _ hk => ⟨hk.1.1.1, ⟨hk.1.1.2, hk.2⟩⟩)⟩, ⟨by (try simp only [hl179003_63]); (with_reducible repeat (first | apply Kd.R_alloc | apply Kd.R_drewN | apply Kd.R_drew)); exact Kd.R_mono HO212.out (fun _ hk => ⟨hk.1.1.1.2, ⟨hk.1.1.2, hk.1.2⟩⟩)⟩, ⟨by (try simp only [hl179003_63]); (with_reducible repeat (first | refine blk_drewN ?_ _ | refine blk_drew ?_ | refine blk_alloc ?_ _)); exact BK156.out⟩, ⟨by (try simp only [hl179003_63]); (with_reducible repeat (first | refine blk_drewN ?_ _ | refine blk_drew ?_ | refine blk_alloc ?_ _)); exact BK171.out⟩, ⟨by (try simp only [hl179003_63]); (with_reducible repeat (first | refine blk_drewN ?_ _ | refine blk_drew ?_ | refine blk_alloc ?_ _)); exact BK178.out⟩, ⟨by (try simp only [hl179003_63]); (with_reducible repeat (first | refine blk_drewN ?_ _ | refine blk_drew ?_ | refine blk_alloc ?_ _)); exact BK186.out⟩, ⟨by (try simp only [hl179003_63]); (with_reducible repeat (first | refine blk_drewN ?_ _ | refine blk_drew ?_ | refine blk_alloc ?_ _)); exact BK214.out⟩, ⟨by repeat (first | (with_reducible first | exact HB.out | apply below_alloc | apply pw_below_drewN | apply below_drew1 | refine below_set ?_ GE156.out | refine below_set ?_ GE171.out | refine below_set ?_ GE178.out | refine below_set ?_ GE186.out | refine below_set ?_ GE214.out) | exact HB.out)⟩⟩
             ·replace c129 := Bool.eq_false_iff.mpr c129
              subst c129
              have H1 : (laws_FnExactReplacePhrase.j2 kj63 t198 true t179 t180 t181 t199) = some r := by rw [if_neg (show ¬ (false = true) by decide)] at H; exact H
              clear H
              have H := H1
              clear H1
              have H' := Aside0.mk H
              clear H
              have hnb140 := NB214_156.out
              have hnc140 := NB156_214.out
              have hnb141 := NB214_171.out
              have hnc141 := NB171_214.out
              have hnb142 := NB214_178.out
              have hnc142 := NB178_214.out
              have hnb143 := NB214_186.out
              have hnc143 := NB186_214.out
              have hcz144_0 : w121.cell? ⟨gb214, 0, none⟩ = some (.int .i8 0) := (blk_cell BK214.out 0).trans rfl
              have hcz144_1 : w121.cell? ⟨gb214, 1, none⟩ = some (.int .i8 0) := (blk_cell BK214.out 1).trans rfl
              have hcz144_2 : w121.cell? ⟨gb214, 2, none⟩ = some (.int .i8 0) := (blk_cell BK214.out 2).trans rfl
              have hcz144_3 : w121.cell? ⟨gb214, 3, none⟩ = some (.slice none 0 0) := (blk_cell BK214.out 3).trans rfl
              have hfz144_0 := blk_frozen BK214.out 0
              have hfz144_1 := blk_frozen BK214.out 1
              have hfz144_2 := blk_frozen BK214.out 2
              have hfz144_3 := blk_frozen BK214.out 3
              have hnb145 := NB171_156.out
              have hnc145 := NB156_171.out
              have hnb146 := NB171_178.out
              have hnc146 := NB178_171.out
              have hnb147 := NB171_186.out
              have hnc147 := NB186_171.out
              have hcz148_0 : w121.cell? ⟨gb171, 0, none⟩ = some (.int .i8 t164) := (blk_cell BK171.out 0).trans rfl
              have hcz148_1 : w121.cell? ⟨gb171, 1, none⟩ = some (.int .i8 t165) := (blk_cell BK171.out 1).trans rfl
              have hcz148_2 : w121.cell? ⟨gb171, 2, none⟩ = some (.int .i8 t166) := (blk_cell BK171.out 2).trans rfl
              have hcz148_3 : w121.cell? ⟨gb171, 3, none⟩ = some (.slice Ao26 t167.length co26) := (blk_cell BK171.out 3).trans rfl
              have hfz148_0 := blk_frozen BK171.out 0
              have hfz148_1 := blk_frozen BK171.out 1
              have hfz148_2 := blk_frozen BK171.out 2
              have hfz148_3 := blk_frozen BK171.out 3
              go_wp2_with (first | ((with_reducible refine gate_callee (f := 16) rfl ?_); refine goesL_ (some 94) rfl rfl Try.func16 (by kernel_rfl) rfl #[.agg #[.int .i8 t207, .int .i8 t208, .int .i8 t209, .slice Ao127 t210.length co127], .agg #[.int .i8 t164, .int .i8 t165, .int .i8 t166, .slice Ao26 t167.length co26]] rfl (by (try simp only [List.map_toArray, List.map_cons, List.map_nil]); first | done | rfl | (simp only [List.length_drop, List.length_take]; rfl)) ?_; (with_reducible refine (laws_eqBook.calls kj63 t207 t208 t209 _ _ t210 t164 t165 t166 _ _ t167 false _ ?side1 ?side2 ?side3 ?side4 A128.out).mono ?_); (case side1 => refine (Kd.R_reads' (e := 9) (base := w.heap.size) (ok := fun k_ => ((((True ∧ some k_ ≠ (.slice Ao26 t167.length co26 : Value).ownBlock) ∧ some k_ ≠ (.slice Ao33 t196.length co33 : Value).ownBlock) ∧ some k_ ≠ (.slice Ao40 t182.length co40 : Value).ownBlock) ∧ some k_ ≠ (.slice Ao119 t204.length co119 : Value).ownBlock)) (n := t210.length) (c := co127) ?_).2.2; exact (by (with_reducible repeat (first | apply Kd.R_alloc | apply Kd.R_drewN | apply Kd.R_drew)); exact (Kd.R_mono (Kd.R_far (p := ⟨gb214, 3, none⟩) (Kd.R_far (p := ⟨gb214, 2, none⟩) (Kd.R_far (p := ⟨gb214, 1, none⟩) (Kd.R_far (p := ⟨gb214, 0, none⟩) (Kd.R_types HO212.out BK214.out (by decide)) (fun _ hk => hk.2) (.int .i8 t207)) (fun _ hk => hk.2) (.int .i8 t208)) (fun _ hk => hk.2) (.int .i8 t209)) (fun _ hk => hk.2) (.slice Ao127 t210.length co127)) (fun _ h_ => h_.1)))); (case side2 => exact (Kd.R_reads' HO212.out).2.1); (case side3 => refine (Kd.R_reads' (e := 9) (base := w.heap.size) (ok := fun k_ => (((some k_ ≠ (.slice Ao33 t196.length co33 : Value).ownBlock ∧ some k_ ≠ (.slice Ao40 t182.length co40 : Value).ownBlock) ∧ some k_ ≠ (.slice Ao119 t204.length co119 : Value).ownBlock) ∧ some k_ ≠ (.slice Ao127 t210.length co127 : Value).ownBlock)) (n := t167.length) (c := co26) ?_).2.2; exact (by (with_reducible repeat (first | apply Kd.R_alloc | apply Kd.R_drewN | apply Kd.R_drew)); exact (Kd.R_mono (Kd.R_far (p := ⟨gb214, 3, none⟩) (Kd.R_far (p := ⟨gb214, 2, none⟩) (Kd.R_far (p := ⟨gb214, 1, none⟩) (Kd.R_far (p := ⟨gb214, 0, none⟩) (Kd.R_types HO_172003.out BK214.out (by decide)) (fun _ hk => hk.2) (.int .i8 t207)) (fun _ hk => hk.2) (.int .i8 t208)) (fun _ hk => hk.2) (.int .i8 t209)) (fun _ hk => hk.2) (.slice Ao127 t210.length co127)) (fun _ h_ => h_.1)))); (case side4 => exact (Kd.R_reads' HO_172003.out).2.1); rintro e w149 ⟨rfl, hb⟩; refine ⟨_, rfl, ?_⟩; have n0_ := Aside0.mk (Kd.R_below (by (with_reducible repeat (first | apply Kd.R_alloc | apply Kd.R_drewN | apply Kd.R_drew)); exact (Kd.R_mono (Kd.R_far (p := ⟨gb214, 3, none⟩) (Kd.R_far (p := ⟨gb214, 2, none⟩) (Kd.R_far (p := ⟨gb214, 1, none⟩) (Kd.R_far (p := ⟨gb214, 0, none⟩) (Kd.R_types HO_172003.out BK214.out (by decide)) (fun _ hk => hk.2) (.int .i8 t207)) (fun _ hk => hk.2) (.int .i8 t208)) (fun _ hk => hk.2) (.int .i8 t209)) (fun _ hk => hk.2) (.slice Ao127 t210.length co127)) (fun _ h_ => h_.1))) hb); have n1_ := Aside0.mk (Kd.R_below (by (with_reducible repeat (first | apply Kd.R_alloc | apply Kd.R_drewN | apply Kd.R_drew)); exact (Kd.R_mono (Kd.R_far (p := ⟨gb214, 3, none⟩) (Kd.R_far (p := ⟨gb214, 2, none⟩) (Kd.R_far (p := ⟨gb214, 1, none⟩) (Kd.R_far (p := ⟨gb214, 0, none⟩) (Kd.R_types HO_179003.out BK214.out (by decide)) (fun _ hk => hk.2) (.int .i8 t207)) (fun _ hk => hk.2) (.int .i8 t208)) (fun _ hk => hk.2) (.int .i8 t209)) (fun _ hk => hk.2) (.slice Ao127 t210.length co127)) (fun _ h_ => h_.1))) hb); have n2_ := Aside0.mk (Kd.R_below (by (with_reducible repeat (first | apply Kd.R_alloc | apply Kd.R_drewN | apply Kd.R_drew)); exact (Kd.R_mono (Kd.R_far (p := ⟨gb214, 3, none⟩) (Kd.R_far (p := ⟨gb214, 2, none⟩) (Kd.R_far (p := ⟨gb214, 1, none⟩) (Kd.R_far (p := ⟨gb214, 0, none⟩) (Kd.R_types HO_187003.out BK214.out (by decide)) (fun _ hk => hk.2) (.int .i8 t207)) (fun _ hk => hk.2) (.int .i8 t208)) (fun _ hk => hk.2) (.int .i8 t209)) (fun _ hk => hk.2) (.slice Ao127 t210.length co127)) (fun _ h_ => h_.1))) hb); have n3_ := Aside0.mk (Kd.R_below (by (with_reducible repeat (first | apply Kd.R_alloc | apply Kd.R_drewN | apply Kd.R_drew)); exact (Kd.R_mono (Kd.R_far (p := ⟨gb214, 3, none⟩) (Kd.R_far (p := ⟨gb214, 2, none⟩) (Kd.R_far (p := ⟨gb214, 1, none⟩) (Kd.R_far (p := ⟨gb214, 0, none⟩) (Kd.R_types HO206.out BK214.out (by decide)) (fun _ hk => hk.2) (.int .i8 t207)) (fun _ hk => hk.2) (.int .i8 t208)) (fun _ hk => hk.2) (.int .i8 t209)) (fun _ hk => hk.2) (.slice Ao127 t210.length co127)) (fun _ h_ => h_.1))) hb); have n4_ := Aside0.mk (Kd.R_below (by (with_reducible repeat (first | apply Kd.R_alloc | apply Kd.R_drewN | apply Kd.R_drew)); exact (Kd.R_mono (Kd.R_far (p := ⟨gb214, 3, none⟩) (Kd.R_far (p := ⟨gb214, 2, none⟩) (Kd.R_far (p := ⟨gb214, 1, none⟩) (Kd.R_far (p := ⟨gb214, 0, none⟩) (Kd.R_types HO212.out BK214.out (by decide)) (fun _ hk => hk.2) (.int .i8 t207)) (fun _ hk => hk.2) (.int .i8 t208)) (fun _ hk => hk.2) (.int .i8 t209)) (fun _ hk => hk.2) (.slice Ao127 t210.length co127)) (fun _ h_ => h_.1))) hb); have n5_ := Aside0.mk (blk_below (g := gb156) (o := .cells #[.int .i8 a0_0, .int .i8 a0_1, .int .i8 a0_2, .slice A0_3 l0_3.length c0_3] 25 (0, 0)) (by (with_reducible repeat (first | refine blk_drewN ?_ _ | refine blk_drew ?_ | refine blk_alloc ?_ _)); refine blk_far ?_ NB156_214.out _; (with_reducible repeat (first | refine blk_drewN ?_ _ | refine blk_drew ?_ | refine blk_alloc ?_ _)); refine blk_far ?_ NB156_214.out _; (with_reducible repeat (first | refine blk_drewN ?_ _ | refine blk_drew ?_ | refine blk_alloc ?_ _)); refine blk_far ?_ NB156_214.out _; (with_reducible repeat (first | refine blk_drewN ?_ _ | refine blk_drew ?_ | refine blk_alloc ?_ _)); refine blk_far ?_ NB156_214.out _; (with_reducible repeat (first | refine blk_drewN ?_ _ | refine blk_drew ?_ | refine blk_alloc ?_ _)); exact BK156.out) hb); have n6_ := Aside0.mk (blk_below (g := gb171) (o := .cells #[.int .i8 t164, .int .i8 t165, .int .i8 t166, .slice Ao26 t167.length co26] 27 (0, 0)) (by (with_reducible repeat (first | refine blk_drewN ?_ _ | refine blk_drew ?_ | refine blk_alloc ?_ _)); refine blk_far ?_ NB171_214.out _; (with_reducible repeat (first | refine blk_drewN ?_ _ | refine blk_drew ?_ | refine blk_alloc ?_ _)); refine blk_far ?_ NB171_214.out _; (with_reducible repeat (first | refine blk_drewN ?_ _ | refine blk_drew ?_ | refine blk_alloc ?_ _)); refine blk_far ?_ NB171_214.out _; (with_reducible repeat (first | refine blk_drewN ?_ _ | refine blk_drew ?_ | refine blk_alloc ?_ _)); refine blk_far ?_ NB171_214.out _; (with_reducible repeat (first | refine blk_drewN ?_ _ | refine blk_drew ?_ | refine blk_alloc ?_ _)); exact BK171.out) hb); have n7_ := Aside0.mk (blk_below (g := gb178) (o := .cells #[.int .i8 t172, .int .i8 t173, .int .i8 t174, .slice Ao33 t196.length co33] 27 (0, 0)) (by (with_reducible repeat (first | refine blk_drewN ?_ _ | refine blk_drew ?_ | refine blk_alloc ?_ _)); refine blk_far ?_ NB178_214.out _; (with_reducible repeat (first | refine blk_drewN ?_ _ | refine blk_drew ?_ | refine blk_alloc ?_ _)); refine blk_far ?_ NB178_214.out _; (with_reducible repeat (first | refine blk_drewN ?_ _ | refine blk_drew ?_ | refine blk_alloc ?_ _)); refine blk_far ?_ NB178_214.out _; (with_reducible repeat (first | refine blk_drewN ?_ _ | refine blk_drew ?_ | refine blk_alloc ?_ _)); refine blk_far ?_ NB178_214.out _; (with_reducible repeat (first | refine blk_drewN ?_ _ | refine blk_drew ?_ | refine blk_alloc ?_ _)); exact BK178.out) hb); have n8_ := Aside0.mk (blk_below (g := gb186) (o := .cells #[.int .i8 t179, .int .i8 t180, .int .i8 t181, .slice Ao40 t182.length co40] 27 (0, 0)) (by (with_reducible repeat (first | refine blk_drewN ?_ _ | refine blk_drew ?_ | refine blk_alloc ?_ _)); refine blk_far ?_ NB186_214.out _; (with_reducible repeat (first | refine blk_drewN ?_ _ | refine blk_drew ?_ | refine blk_alloc ?_ _)); refine blk_far ?_ NB186_214.out _; (with_reducible repeat (first | refine blk_drewN ?_ _ | refine blk_drew ?_ | refine blk_alloc ?_ _)); refine blk_far ?_ NB186_214.out _; (with_reducible repeat (first | refine blk_drewN ?_ _ | refine blk_drew ?_ | refine blk_alloc ?_ _)); refine blk_far ?_ NB186_214.out _; (with_reducible repeat (first | refine blk_drewN ?_ _ | refine blk_drew ?_ | refine blk_alloc ?_ _)); exact BK186.out) hb); have n9_ := Aside0.mk (blk_below (g := gb214) (o := .cells #[.int .i8 t207, .int .i8 t208, .int .i8 t209, .slice Ao127 t210.length co127] 27 (0, 0)) (by (with_reducible repeat (first | refine blk_drewN ?_ _ | refine blk_drew ?_ | refine blk_alloc ?_ _)); refine blk_put (cs := #[.int .i8 t207, .int .i8 t208, .int .i8 t209, .slice none 0 0]) ?_ 3 _ rfl; (with_reducible repeat (first | refine blk_drewN ?_ _ | refine blk_drew ?_ | refine blk_alloc ?_ _)); refine blk_put (cs := #[.int .i8 t207, .int .i8 t208, .int .i8 0, .slice none 0 0]) ?_ 2 _ rfl; (with_reducible repeat (first | refine blk_drewN ?_ _ | refine blk_drew ?_ | refine blk_alloc ?_ _)); refine blk_put (cs := #[.int .i8 t207, .int .i8 0, .int .i8 0, .slice none 0 0]) ?_ 1 _ rfl; (with_reducible repeat (first | refine blk_drewN ?_ _ | refine blk_drew ?_ | refine blk_alloc ?_ _)); refine blk_put (cs := #[.int .i8 0, .int .i8 0, .int .i8 0, .slice none 0 0]) ?_ 0 _ rfl; (with_reducible repeat (first | refine blk_drewN ?_ _ | refine blk_drew ?_ | refine blk_alloc ?_ _)); exact BK214.out) hb); have n10_ := Aside0.mk (below_step (by repeat (first | (with_reducible first | exact HB.out | apply below_alloc | apply pw_below_drewN | apply below_drew1 | refine below_set ?_ GE156.out | refine below_set ?_ GE171.out | refine below_set ?_ GE178.out | refine below_set ?_ GE186.out | refine below_set ?_ GE214.out) | exact HB.out)) hb); clear HO_172003; clear HO_179003; clear HO_187003; clear HO206; clear HO212; clear BK156; clear BK171; clear BK178; clear BK186; clear BK214; clear HB; have HO_172003 := n0_; have HO_179003 := n1_; have HO_187003 := n2_; have HO206 := n3_; have HO212 := n4_; have BK156 := n5_; have BK171 := n6_; have BK178 := n7_; have BK186 := n8_; have BK214 := n9_; have HB := n10_; clear n0_ n1_ n2_ n3_ n4_ n5_ n6_ n7_ n8_ n9_ n10_; (try clear hb); (try clear hb2); (try clear hk); (try clear hi)))
              go_meet
              case rel => exact ⟨_, (true), (by first | rfl | (simp; done) | (simp [*]; done)), H', ⟨by have := HJ14.out; have := HJ63.out; first | omega | exact Nat.le_refl _⟩, ⟨by (try simp only [hl179003_63]); (with_reducible repeat (first | apply Kd.R_alloc | apply Kd.R_drewN | apply Kd.R_drew)); exact Kd.R_mono HO_172003.out (fun _ hk => ⟨hk.1.1.1, ⟨hk.1.1.2, hk.2⟩⟩)⟩, ⟨by (try simp only [hl179003_63]); (with_reducible repeat (first | apply Kd.R_alloc | apply Kd.R_drewN | apply Kd.R_drew)); exact Kd.R_mono HO_179003.out (fun _ hk => ⟨hk.1.1.1, ⟨hk.1.1.2, hk.2⟩⟩)⟩, ⟨by (try simp only [hl179003_63]); (with_reducible repeat (first | apply Kd.R_alloc | apply Kd.R_drewN | apply Kd.R_drew)); exact Kd.R_mono HO_187003.out (fun _ hk => ⟨hk.1.1.1, ⟨hk.1.1.2, hk.2⟩⟩)⟩, ⟨by (try simp only [hl179003_63]); (with_reducible repeat (first | apply Kd.R_alloc | apply Kd.R_drewN | apply Kd.R_drew)); exact Kd.R_mono HO212.out (fun _ hk => ⟨hk.1.1.1.2, ⟨hk.1.1.2, hk.1.2⟩⟩)⟩, ⟨by (try simp only [hl179003_63]); (with_reducible repeat (first | refine blk_drewN ?_ _ | refine blk_drew ?_ | refine blk_alloc ?_ _)); exact BK156.out⟩, ⟨by (try simp only [hl179003_63]); (with_reducible repeat (first | refine blk_drewN ?_ _ | refine blk_drew ?_ | refine blk_alloc ?_ _)); exact BK171.out⟩, ⟨by (try simp only [hl179003_63]); (with_reducible repeat (first | refine blk_drewN ?_ _ | refine blk_drew ?_ | refine blk_alloc ?_ _)); exact BK178.out⟩, ⟨by (try simp only [hl179003_63]); (with_reducible repeat (first | refine blk_drewN ?_ _ | refine blk_drew ?_ | refine blk_alloc ?_ _)); exact BK186.out⟩, ⟨by (try simp only [hl179003_63]); (with_reducible repeat (first | refine blk_drewN ?_ _ | refine blk_drew ?_ | refine blk_alloc ?_ _)); exact BK214.out⟩, ⟨by repeat (first | (with_reducible first | exact HB.out | apply below_alloc | apply pw_below_drewN | apply below_drew1 | refine below_set ?_ GE156.out | refine below_set ?_ GE171.out | refine below_set ?_ GE178.out | refine below_set ?_ GE186.out | refine below_set ?_ GE214.out) | exact HB.out)⟩⟩
            case rest =>
             clear HC107
             try clear c1
             try clear c2
             try clear p2
             try clear c3
             try clear c4
             try clear c4b0
             try clear c4b1
             try clear c5
             try clear c6
             try clear c7
             try clear c7b0
             try clear c8
             try clear c9
             try clear c10
             try clear c11
             try clear c12
             try clear c13
             try clear c14
             try clear c16
             try clear c17
             try clear c18
             try clear c21
             try clear c22
             try clear c24
             try clear c30
             try clear c31
             try clear c36
             try clear c37
             try clear c38
             try clear c42
             try clear c43
             try clear c44
             try clear c45
             try clear c47
             try clear c48
             try clear c51
             try clear c52
             try clear c53
             try clear c55
             try clear c56
             try clear c59
             try clear c62
             try clear c69
             try clear c70
             try clear c71
             try clear c74
             try clear c74b0
             try clear c76
             try clear c77
             try clear c78
             try clear c79
             try clear c81
             try clear c82
             try clear c85
             try clear c86
             try clear c87
             try clear c89
             try clear c90
             try clear c93
             try clear c96
             try clear c96b0
             try clear c97
             try clear c98
             try clear c99
             try clear c104
             try clear c104b0
             try clear c104b1
             try clear c108
             try clear c109
             try clear c110
             try clear c115
             try clear c116
             try clear c122
             try clear c123
             try clear c124
             try clear c125
             try clear c129
             try clear c130
             try clear c131
             try clear c132
             try clear c133
             try clear c135
             try clear c136
             try clear c137
             try clear c140
             try clear c141
             try clear c142
             try clear c143
             try clear c145
             try clear c146
             try clear c147
             try clear hcz100_0
             try clear hcz100_1
             try clear hcz100_2
             try clear hcz100_3
             try clear hcz102_0
             try clear hcz102_1
             try clear hcz102_2
             try clear hcz102_3
             try clear hcz111_0
             try clear hcz111_1
             try clear hcz111_2
             try clear hcz111_3
             try clear hcz113_0
             try clear hcz113_1
             try clear hcz113_2
             try clear hcz113_3
             try clear hcz117_0
             try clear hcz117_1
             try clear hcz117_2
             try clear hcz117_3
             try clear hcz126_0
             try clear hcz126_1
             try clear hcz126_2
             try clear hcz126_3
             try clear hcz134_0
             try clear hcz134_1
             try clear hcz134_2
             try clear hcz134_3
             try clear hcz138_0
             try clear hcz138_1
             try clear hcz138_2
             try clear hcz138_3
             try clear hcz144_0
             try clear hcz144_1
             try clear hcz144_2
             try clear hcz144_3
             try clear hcz148_0
             try clear hcz148_1
             try clear hcz148_2
             try clear hcz148_3
             try clear hcz17_0
             try clear hcz17_1
             try clear hcz17_2
             try clear hcz17_3
             try clear hcz19_0
             try clear hcz19_1
             try clear hcz19_2
             try clear hcz19_3
             try clear hcz25_0
             try clear hcz25_1
             try clear hcz25_2
             try clear hcz25_3
             try clear hcz27_0
             try clear hcz27_1
             try clear hcz27_2
             try clear hcz27_3
             try clear hcz32_0
             try clear hcz32_1
             try clear hcz32_2
             try clear hcz32_3
             try clear hcz39_0
             try clear hcz39_1
             try clear hcz39_2
             try clear hcz39_3
             try clear hcz46_0
             try clear hcz46_1
             try clear hcz46_2
             try clear hcz46_3
             try clear hcz49_0
             try clear hcz49_1
             try clear hcz49_2
             try clear hcz49_3
             try clear hcz54_0
             try clear hcz54_1
             try clear hcz54_2
             try clear hcz54_3
             try clear hcz57_0
             try clear hcz57_1
             try clear hcz57_2
             try clear hcz57_3
             try clear hcz72_0
             try clear hcz72_1
             try clear hcz72_2
             try clear hcz72_3
             try clear hcz80_0
             try clear hcz80_1
             try clear hcz80_2
             try clear hcz80_3
             try clear hcz83_0
             try clear hcz83_1
             try clear hcz83_2
             try clear hcz83_3
             try clear hcz88_0
             try clear hcz88_1
             try clear hcz88_2
             try clear hcz88_3
             try clear hcz91_0
             try clear hcz91_1
             try clear hcz91_2
             try clear hcz91_3
             try clear hcz9_0
             try clear hcz9_1
             try clear hcz9_2
             try clear hcz9_3
             try clear hfz100_0
             try clear hfz100_1
             try clear hfz100_2
             try clear hfz100_3
             try clear hfz102_0
             try clear hfz102_1
             try clear hfz102_2
             try clear hfz102_3
             try clear hfz111_0
             try clear hfz111_1
             try clear hfz111_2
             try clear hfz111_3
             try clear hfz113_0
             try clear hfz113_1
             try clear hfz113_2
             try clear hfz113_3
             try clear hfz117_0
             try clear hfz117_1
             try clear hfz117_2
             try clear hfz117_3
             try clear hfz126_0
             try clear hfz126_1
             try clear hfz126_2
             try clear hfz126_3
             try clear hfz134_0
             try clear hfz134_1
             try clear hfz134_2
             try clear hfz134_3
             try clear hfz138_0
             try clear hfz138_1
             try clear hfz138_2
             try clear hfz138_3
             try clear hfz144_0
             try clear hfz144_1
             try clear hfz144_2
             try clear hfz144_3
             try clear hfz148_0
             try clear hfz148_1
             try clear hfz148_2
             try clear hfz148_3
             try clear hfz17_0
             try clear hfz17_1
             try clear hfz17_2
             try clear hfz17_3
             try clear hfz19_0
             try clear hfz19_1
             try clear hfz19_2
             try clear hfz19_3
             try clear hfz25_0
             try clear hfz25_1
             try clear hfz25_2
             try clear hfz25_3
             try clear hfz27_0
             try clear hfz27_1
             try clear hfz27_2
             try clear hfz27_3
             try clear hfz32_0
             try clear hfz32_1
             try clear hfz32_2
             try clear hfz32_3
             try clear hfz39_0
             try clear hfz39_1
             try clear hfz39_2
             try clear hfz39_3
             try clear hfz46_0
             try clear hfz46_1
             try clear hfz46_2
             try clear hfz46_3
             try clear hfz49_0
             try clear hfz49_1
             try clear hfz49_2
             try clear hfz49_3
             try clear hfz54_0
             try clear hfz54_1
             try clear hfz54_2
             try clear hfz54_3
             try clear hfz57_0
             try clear hfz57_1
             try clear hfz57_2
             try clear hfz57_3
             try clear hfz72_0
             try clear hfz72_1
             try clear hfz72_2
             try clear hfz72_3
             try clear hfz80_0
             try clear hfz80_1
             try clear hfz80_2
             try clear hfz80_3
             try clear hfz83_0
             try clear hfz83_1
             try clear hfz83_2
             try clear hfz83_3
             try clear hfz88_0
             try clear hfz88_1
             try clear hfz88_2
             try clear hfz88_3
             try clear hfz91_0
             try clear hfz91_1
             try clear hfz91_2
             try clear hfz91_3
             try clear hfz9_0
             try clear hfz9_1
             try clear hfz9_2
             try clear hfz9_3
             try clear p2
             obtain ⟨kq, x100_106, rfl, HA, HJ106, HO_172003, HO_179003, HO_187003, HO_215003, BK156, BK171, BK178, BK186, BK214, HB⟩ := hcut
             have hl187003_106 := (Kd.R_reads' HO_187003.out).1
             rw [hl187003_106] at HO_187003
             (try simp only [hl187003_106])
             (try simp only [hl187003_106] at BK156)
             (try simp only [hl187003_106] at BK171)
             (try simp only [hl187003_106] at BK178)
             (try simp only [hl187003_106] at BK186)
             (try simp only [hl187003_106] at BK214)
             (try simp only [hl187003_106] at HO_172003)
             (try simp only [hl187003_106] at HO_179003)
             (try simp only [hl187003_106] at HO_215003)
             cases kq with
             | zero => exact absurd HA.out (by simp [laws_FnExactReplacePhrase.j2])
             | succ kj106 =>
              have H := HA.out
              clear HA
              simp only [laws_FnExactReplacePhrase.j2] at H
              by_cases c150 : x100_106 = true
              ·subst c150
               have H1 : (some false) = some r := by rw [if_pos rfl] at H; exact H
               clear H
               have H := H1
               clear H1
               obtain rfl := Option.some.inj H
               go_wp2
               go_ret
               exact ⟨by first | rfl | (simp [errW_none, errW_some] <;> rfl) | (simp [*, errW_none, errW_some] <;> rfl), by repeat (first | (with_reducible first | exact HB.out | apply below_alloc | apply pw_below_drewN | apply below_drew1 | refine below_set ?_ GE156.out | refine below_set ?_ GE171.out | refine below_set ?_ GE178.out | refine below_set ?_ GE186.out | refine below_set ?_ GE214.out) | exact HB.out)⟩
              ·replace c150 := Bool.eq_false_iff.mpr c150
               subst c150
               have H1 : ((laws_heldBook.f kj106 t179 t180 t181 t199 1).bind fun t216 => (if t216 < 0 then (some false) else (if t216 = t198 then (some true) else (some false)))) = some r := by rw [if_neg (show ¬ (false = true) by decide)] at H; exact H
               clear H
               have H := H1
               clear H1
               replace H := Option.bind_eq_some_iff.mp H
               obtain ⟨t216, A1510, H⟩ := H
               replace H : (if t216 < 0 then (some false) else (if t216 = t198 then (some true) else (some false))) = some r := H
               have A151 := Aside0.mk A1510
               clear A1510
               by_cases c152 : t216 < 0
               ·rw [if_pos c152] at H
                have c152b0 : decide (t216 < 0) = true := decide_eq_true c152
                clear c152
                obtain rfl := Option.some.inj H
                have hnb153 := NB186_156.out
                have hnc153 := NB156_186.out
                have hnb154 := NB186_171.out
                have hnc154 := NB171_186.out
                have hnb155 := NB186_178.out
                have hnc155 := NB178_186.out
                have hnb156 := NB186_214.out
                have hnc156 := NB214_186.out
                have hcz157_0 : wc.cell? ⟨gb186, 0, none⟩ = some (.int .i8 t179) := (blk_cell BK186.out 0).trans rfl
                have hcz157_1 : wc.cell? ⟨gb186, 1, none⟩ = some (.int .i8 t180) := (blk_cell BK186.out 1).trans rfl
                have hcz157_2 : wc.cell? ⟨gb186, 2, none⟩ = some (.int .i8 t181) := (blk_cell BK186.out 2).trans rfl
                have hcz157_3 : wc.cell? ⟨gb186, 3, none⟩ = some (.slice Ao40 t199.length co40) := (blk_cell BK186.out 3).trans rfl
                have hfz157_0 := blk_frozen BK186.out 0
                have hfz157_1 := blk_frozen BK186.out 1
                have hfz157_2 := blk_frozen BK186.out 2
                have hfz157_3 := blk_frozen BK186.out 3
                go_wp2_with (first | ((with_reducible refine gate_callee (f := 18) rfl ?_); refine goesL_ (some 103) rfl rfl Try.func18 (by kernel_rfl) rfl #[.agg #[.int .i8 t179, .int .i8 t180, .int .i8 t181, .slice Ao40 t199.length co40], .int .i64 1] rfl (by (try simp only [List.map_toArray, List.map_cons, List.map_nil]); first | done | rfl | (simp only [List.length_drop, List.length_take]; rfl)) ?_; (with_reducible refine (laws_heldBook.calls kj106 t179 t180 t181 _ _ t199 1 t216 _ ?side1 ?side2 A151.out).mono ?_); (case side1 => repeat (first | exact (Kd.R_reads' HO_187003.out).2.2 | (with_reducible refine Kd.C_alloc ?_ _) | (with_reducible refine Kd.C_drewN ?_ _) | (with_reducible refine Kd.C_drew ?_))); (case side2 => exact (Kd.R_reads' HO_187003.out).2.1); rintro e w158 ⟨rfl, hb⟩; refine ⟨_, rfl, ?_⟩; have n0_ := Aside0.mk (Kd.R_below (by (with_reducible repeat (first | apply Kd.R_alloc | apply Kd.R_drewN | apply Kd.R_drew)); exact HO_172003.out) hb); have n1_ := Aside0.mk (Kd.R_below (by (with_reducible repeat (first | apply Kd.R_alloc | apply Kd.R_drewN | apply Kd.R_drew)); exact HO_179003.out) hb); have n2_ := Aside0.mk (Kd.R_below (by (with_reducible repeat (first | apply Kd.R_alloc | apply Kd.R_drewN | apply Kd.R_drew)); exact HO_187003.out) hb); have n3_ := Aside0.mk (Kd.R_below (by (with_reducible repeat (first | apply Kd.R_alloc | apply Kd.R_drewN | apply Kd.R_drew)); exact HO_215003.out) hb); have n4_ := Aside0.mk (blk_below (g := gb156) (o := .cells #[.int .i8 a0_0, .int .i8 a0_1, .int .i8 a0_2, .slice A0_3 l0_3.length c0_3] 25 (0, 0)) (by (with_reducible repeat (first | refine blk_drewN ?_ _ | refine blk_drew ?_ | refine blk_alloc ?_ _)); exact BK156.out) hb); have n5_ := Aside0.mk (blk_below (g := gb171) (o := .cells #[.int .i8 t164, .int .i8 t165, .int .i8 t166, .slice Ao26 t167.length co26] 27 (0, 0)) (by (with_reducible repeat (first | refine blk_drewN ?_ _ | refine blk_drew ?_ | refine blk_alloc ?_ _)); exact BK171.out) hb); have n6_ := Aside0.mk (blk_below (g := gb178) (o := .cells #[.int .i8 t172, .int .i8 t173, .int .i8 t174, .slice Ao33 t196.length co33] 27 (0, 0)) (by (with_reducible repeat (first | refine blk_drewN ?_ _ | refine blk_drew ?_ | refine blk_alloc ?_ _)); exact BK178.out) hb); have n7_ := Aside0.mk (blk_below (g := gb186) (o := .cells #[.int .i8 t179, .int .i8 t180, .int .i8 t181, .slice Ao40 t199.length co40] 27 (0, 0)) (by (with_reducible repeat (first | refine blk_drewN ?_ _ | refine blk_drew ?_ | refine blk_alloc ?_ _)); exact BK186.out) hb); have n8_ := Aside0.mk (blk_below (g := gb214) (o := .cells #[.int .i8 t207, .int .i8 t208, .int .i8 t209, .slice Ao127 t210.length co127] 27 (0, 0)) (by (with_reducible repeat (first | refine blk_drewN ?_ _ | refine blk_drew ?_ | refine blk_alloc ?_ _)); exact BK214.out) hb); have n9_ := Aside0.mk (below_step (by repeat (first | (with_reducible first | exact HB.out | apply below_alloc | apply pw_below_drewN | apply below_drew1 | refine below_set ?_ GE156.out | refine below_set ?_ GE171.out | refine below_set ?_ GE178.out | refine below_set ?_ GE186.out | refine below_set ?_ GE214.out) | exact HB.out)) hb); clear HO_172003; clear HO_179003; clear HO_187003; clear HO_215003; clear BK156; clear BK171; clear BK178; clear BK186; clear BK214; clear HB; have HO_172003 := n0_; have HO_179003 := n1_; have HO_187003 := n2_; have HO_215003 := n3_; have BK156 := n4_; have BK171 := n5_; have BK178 := n6_; have BK186 := n7_; have BK214 := n8_; have HB := n9_; clear n0_ n1_ n2_ n3_ n4_ n5_ n6_ n7_ n8_ n9_; (try clear hb); (try clear hb2); (try clear hk); (try clear hi)))
                go_ret
                exact ⟨by first | rfl | (simp [errW_none, errW_some] <;> rfl) | (simp [*, errW_none, errW_some] <;> rfl), by repeat (first | (with_reducible first | exact HB.out | apply below_alloc | apply pw_below_drewN | apply below_drew1 | refine below_set ?_ GE156.out | refine below_set ?_ GE171.out | refine below_set ?_ GE178.out | refine below_set ?_ GE186.out | refine below_set ?_ GE214.out) | exact HB.out)⟩
               ·rw [if_neg c152] at H
                have c152b0 : decide (t216 < 0) = false := decide_eq_false c152
                clear c152
                by_cases c159 : t216 = t198
                ·rw [if_pos c159] at H
                 have c159b0 : (t216 == t198) = true := beq_iff_eq.mpr c159
                 have c159b1 : (t216 != t198) = false := bne_eq_false_iff_eq.mpr c159
                 clear c159
                 obtain rfl := Option.some.inj H
                 have hnb160 := NB186_156.out
                 have hnc160 := NB156_186.out
                 have hnb161 := NB186_171.out
                 have hnc161 := NB171_186.out
                 have hnb162 := NB186_178.out
                 have hnc162 := NB178_186.out
                 have hnb163 := NB186_214.out
                 have hnc163 := NB214_186.out
                 have hcz164_0 : wc.cell? ⟨gb186, 0, none⟩ = some (.int .i8 t179) := (blk_cell BK186.out 0).trans rfl
                 have hcz164_1 : wc.cell? ⟨gb186, 1, none⟩ = some (.int .i8 t180) := (blk_cell BK186.out 1).trans rfl
                 have hcz164_2 : wc.cell? ⟨gb186, 2, none⟩ = some (.int .i8 t181) := (blk_cell BK186.out 2).trans rfl
                 have hcz164_3 : wc.cell? ⟨gb186, 3, none⟩ = some (.slice Ao40 t199.length co40) := (blk_cell BK186.out 3).trans rfl
                 have hfz164_0 := blk_frozen BK186.out 0
                 have hfz164_1 := blk_frozen BK186.out 1
                 have hfz164_2 := blk_frozen BK186.out 2
                 have hfz164_3 := blk_frozen BK186.out 3
                 go_wp2_with (first | ((with_reducible refine gate_callee (f := 18) rfl ?_); refine goesL_ (some 103) rfl rfl Try.func18 (by kernel_rfl) rfl #[.agg #[.int .i8 t179, .int .i8 t180, .int .i8 t181, .slice Ao40 t199.length co40], .int .i64 1] rfl (by (try simp only [List.map_toArray, List.map_cons, List.map_nil]); first | done | rfl | (simp only [List.length_drop, List.length_take]; rfl)) ?_; (with_reducible refine (laws_heldBook.calls kj106 t179 t180 t181 _ _ t199 1 t216 _ ?side1 ?side2 A151.out).mono ?_); (case side1 => repeat (first | exact (Kd.R_reads' HO_187003.out).2.2 | (with_reducible refine Kd.C_alloc ?_ _) | (with_reducible refine Kd.C_drewN ?_ _) | (with_reducible refine Kd.C_drew ?_))); (case side2 => exact (Kd.R_reads' HO_187003.out).2.1); rintro e w165 ⟨rfl, hb⟩; refine ⟨_, rfl, ?_⟩; have n0_ := Aside0.mk (Kd.R_below (by (with_reducible repeat (first | apply Kd.R_alloc | apply Kd.R_drewN | apply Kd.R_drew)); exact HO_172003.out) hb); have n1_ := Aside0.mk (Kd.R_below (by (with_reducible repeat (first | apply Kd.R_alloc | apply Kd.R_drewN | apply Kd.R_drew)); exact HO_179003.out) hb); have n2_ := Aside0.mk (Kd.R_below (by (with_reducible repeat (first | apply Kd.R_alloc | apply Kd.R_drewN | apply Kd.R_drew)); exact HO_187003.out) hb); have n3_ := Aside0.mk (Kd.R_below (by (with_reducible repeat (first | apply Kd.R_alloc | apply Kd.R_drewN | apply Kd.R_drew)); exact HO_215003.out) hb); have n4_ := Aside0.mk (blk_below (g := gb156) (o := .cells #[.int .i8 a0_0, .int .i8 a0_1, .int .i8 a0_2, .slice A0_3 l0_3.length c0_3] 25 (0, 0)) (by (with_reducible repeat (first | refine blk_drewN ?_ _ | refine blk_drew ?_ | refine blk_alloc ?_ _)); exact BK156.out) hb); have n5_ := Aside0.mk (blk_below (g := gb171) (o := .cells #[.int .i8 t164, .int .i8 t165, .int .i8 t166, .slice Ao26 t167.length co26] 27 (0, 0)) (by (with_reducible repeat (first | refine blk_drewN ?_ _ | refine blk_drew ?_ | refine blk_alloc ?_ _)); exact BK171.out) hb); have n6_ := Aside0.mk (blk_below (g := gb178) (o := .cells #[.int .i8 t172, .int .i8 t173, .int .i8 t174, .slice Ao33 t196.length co33] 27 (0, 0)) (by (with_reducible repeat (first | refine blk_drewN ?_ _ | refine blk_drew ?_ | refine blk_alloc ?_ _)); exact BK178.out) hb); have n7_ := Aside0.mk (blk_below (g := gb186) (o := .cells #[.int .i8 t179, .int .i8 t180, .int .i8 t181, .slice Ao40 t199.length co40] 27 (0, 0)) (by (with_reducible repeat (first | refine blk_drewN ?_ _ | refine blk_drew ?_ | refine blk_alloc ?_ _)); exact BK186.out) hb); have n8_ := Aside0.mk (blk_below (g := gb214) (o := .cells #[.int .i8 t207, .int .i8 t208, .int .i8 t209, .slice Ao127 t210.length co127] 27 (0, 0)) (by (with_reducible repeat (first | refine blk_drewN ?_ _ | refine blk_drew ?_ | refine blk_alloc ?_ _)); exact BK214.out) hb); have n9_ := Aside0.mk (below_step (by repeat (first | (with_reducible first | exact HB.out | apply below_alloc | apply pw_below_drewN | apply below_drew1 | refine below_set ?_ GE156.out | refine below_set ?_ GE171.out | refine below_set ?_ GE178.out | refine below_set ?_ GE186.out | refine below_set ?_ GE214.out) | exact HB.out)) hb); clear HO_172003; clear HO_179003; clear HO_187003; clear HO_215003; clear BK156; clear BK171; clear BK178; clear BK186; clear BK214; clear HB; have HO_172003 := n0_; have HO_179003 := n1_; have HO_187003 := n2_; have HO_215003 := n3_; have BK156 := n4_; have BK171 := n5_; have BK178 := n6_; have BK186 := n7_; have BK214 := n8_; have HB := n9_; clear n0_ n1_ n2_ n3_ n4_ n5_ n6_ n7_ n8_ n9_; (try clear hb); (try clear hb2); (try clear hk); (try clear hi)))
                 go_ret
                 exact ⟨by first | rfl | (simp [errW_none, errW_some] <;> rfl) | (simp [*, errW_none, errW_some] <;> rfl), by repeat (first | (with_reducible first | exact HB.out | apply below_alloc | apply pw_below_drewN | apply below_drew1 | refine below_set ?_ GE156.out | refine below_set ?_ GE171.out | refine below_set ?_ GE178.out | refine below_set ?_ GE186.out | refine below_set ?_ GE214.out) | exact HB.out)⟩
                ·rw [if_neg c159] at H
                 have c159b0 : (t216 == t198) = false := beq_eq_false_iff_ne.mpr c159
                 have c159b1 : (t216 != t198) = true := bne_iff_ne.mpr c159
                 obtain rfl := Option.some.inj H
                 have hnb166 := NB186_156.out
                 have hnc166 := NB156_186.out
                 have hnb167 := NB186_171.out
                 have hnc167 := NB171_186.out
                 have hnb168 := NB186_178.out
                 have hnc168 := NB178_186.out
                 have hnb169 := NB186_214.out
                 have hnc169 := NB214_186.out
                 have hcz170_0 : wc.cell? ⟨gb186, 0, none⟩ = some (.int .i8 t179) := (blk_cell BK186.out 0).trans rfl
                 have hcz170_1 : wc.cell? ⟨gb186, 1, none⟩ = some (.int .i8 t180) := (blk_cell BK186.out 1).trans rfl
                 have hcz170_2 : wc.cell? ⟨gb186, 2, none⟩ = some (.int .i8 t181) := (blk_cell BK186.out 2).trans rfl
                 have hcz170_3 : wc.cell? ⟨gb186, 3, none⟩ = some (.slice Ao40 t199.length co40) := (blk_cell BK186.out 3).trans rfl
                 have hfz170_0 := blk_frozen BK186.out 0
                 have hfz170_1 := blk_frozen BK186.out 1
                 have hfz170_2 := blk_frozen BK186.out 2
                 have hfz170_3 := blk_frozen BK186.out 3
                 go_wp2_with (first | ((with_reducible refine gate_callee (f := 18) rfl ?_); refine goesL_ (some 103) rfl rfl Try.func18 (by kernel_rfl) rfl #[.agg #[.int .i8 t179, .int .i8 t180, .int .i8 t181, .slice Ao40 t199.length co40], .int .i64 1] rfl (by (try simp only [List.map_toArray, List.map_cons, List.map_nil]); first | done | rfl | (simp only [List.length_drop, List.length_take]; rfl)) ?_; (with_reducible refine (laws_heldBook.calls kj106 t179 t180 t181 _ _ t199 1 t216 _ ?side1 ?side2 A151.out).mono ?_); (case side1 => repeat (first | exact (Kd.R_reads' HO_187003.out).2.2 | (with_reducible refine Kd.C_alloc ?_ _) | (with_reducible refine Kd.C_drewN ?_ _) | (with_reducible refine Kd.C_drew ?_))); (case side2 => exact (Kd.R_reads' HO_187003.out).2.1); rintro e w171 ⟨rfl, hb⟩; refine ⟨_, rfl, ?_⟩; have n0_ := Aside0.mk (Kd.R_below (by (with_reducible repeat (first | apply Kd.R_alloc | apply Kd.R_drewN | apply Kd.R_drew)); exact HO_172003.out) hb); have n1_ := Aside0.mk (Kd.R_below (by (with_reducible repeat (first | apply Kd.R_alloc | apply Kd.R_drewN | apply Kd.R_drew)); exact HO_179003.out) hb); have n2_ := Aside0.mk (Kd.R_below (by (with_reducible repeat (first | apply Kd.R_alloc | apply Kd.R_drewN | apply Kd.R_drew)); exact HO_187003.out) hb); have n3_ := Aside0.mk (Kd.R_below (by (with_reducible repeat (first | apply Kd.R_alloc | apply Kd.R_drewN | apply Kd.R_drew)); exact HO_215003.out) hb); have n4_ := Aside0.mk (blk_below (g := gb156) (o := .cells #[.int .i8 a0_0, .int .i8 a0_1, .int .i8 a0_2, .slice A0_3 l0_3.length c0_3] 25 (0, 0)) (by (with_reducible repeat (first | refine blk_drewN ?_ _ | refine blk_drew ?_ | refine blk_alloc ?_ _)); exact BK156.out) hb); have n5_ := Aside0.mk (blk_below (g := gb171) (o := .cells #[.int .i8 t164, .int .i8 t165, .int .i8 t166, .slice Ao26 t167.length co26] 27 (0, 0)) (by (with_reducible repeat (first | refine blk_drewN ?_ _ | refine blk_drew ?_ | refine blk_alloc ?_ _)); exact BK171.out) hb); have n6_ := Aside0.mk (blk_below (g := gb178) (o := .cells #[.int .i8 t172, .int .i8 t173, .int .i8 t174, .slice Ao33 t196.length co33] 27 (0, 0)) (by (with_reducible repeat (first | refine blk_drewN ?_ _ | refine blk_drew ?_ | refine blk_alloc ?_ _)); exact BK178.out) hb); have n7_ := Aside0.mk (blk_below (g := gb186) (o := .cells #[.int .i8 t179, .int .i8 t180, .int .i8 t181, .slice Ao40 t199.length co40] 27 (0, 0)) (by (with_reducible repeat (first | refine blk_drewN ?_ _ | refine blk_drew ?_ | refine blk_alloc ?_ _)); exact BK186.out) hb); have n8_ := Aside0.mk (blk_below (g := gb214) (o := .cells #[.int .i8 t207, .int .i8 t208, .int .i8 t209, .slice Ao127 t210.length co127] 27 (0, 0)) (by (with_reducible repeat (first | refine blk_drewN ?_ _ | refine blk_drew ?_ | refine blk_alloc ?_ _)); exact BK214.out) hb); have n9_ := Aside0.mk (below_step (by repeat (first | (with_reducible first | exact HB.out | apply below_alloc | apply pw_below_drewN | apply below_drew1 | refine below_set ?_ GE156.out | refine below_set ?_ GE171.out | refine below_set ?_ GE178.out | refine below_set ?_ GE186.out | refine below_set ?_ GE214.out) | exact HB.out)) hb); clear HO_172003; clear HO_179003; clear HO_187003; clear HO_215003; clear BK156; clear BK171; clear BK178; clear BK186; clear BK214; clear HB; have HO_172003 := n0_; have HO_179003 := n1_; have HO_187003 := n2_; have HO_215003 := n3_; have BK156 := n4_; have BK171 := n5_; have BK178 := n6_; have BK186 := n7_; have BK214 := n8_; have HB := n9_; clear n0_ n1_ n2_ n3_ n4_ n5_ n6_ n7_ n8_ n9_; (try clear hb); (try clear hb2); (try clear hk); (try clear hi)))
                 go_ret
                 exact ⟨by first | rfl | (simp [errW_none, errW_some] <;> rfl) | (simp [*, errW_none, errW_some] <;> rfl), by repeat (first | (with_reducible first | exact HB.out | apply below_alloc | apply pw_below_drewN | apply below_drew1 | refine below_set ?_ GE156.out | refine below_set ?_ GE171.out | refine below_set ?_ GE178.out | refine below_set ?_ GE186.out | refine below_set ?_ GE214.out) | exact HB.out)⟩
           ·rw [if_neg c104] at H
            have c104b0 : (t200 == t198) = false := beq_eq_false_iff_ne.mpr c104
            have c104b1 : (t200 != t198) = true := bne_iff_ne.mpr c104
            obtain rfl := Option.some.inj H
            have hnb172 := NB186_156.out
            have hnc172 := NB156_186.out
            have hnb173 := NB186_171.out
            have hnc173 := NB171_186.out
            have hnb174 := NB186_178.out
            have hnc174 := NB178_186.out
            have hcz175_0 : wc.cell? ⟨gb186, 0, none⟩ = some (.int .i8 t179) := (blk_cell BK186.out 0).trans rfl
            have hcz175_1 : wc.cell? ⟨gb186, 1, none⟩ = some (.int .i8 t180) := (blk_cell BK186.out 1).trans rfl
            have hcz175_2 : wc.cell? ⟨gb186, 2, none⟩ = some (.int .i8 t181) := (blk_cell BK186.out 2).trans rfl
            have hcz175_3 : wc.cell? ⟨gb186, 3, none⟩ = some (.slice Ao40 t182.length co40) := (blk_cell BK186.out 3).trans rfl
            have hfz175_0 := blk_frozen BK186.out 0
            have hfz175_1 := blk_frozen BK186.out 1
            have hfz175_2 := blk_frozen BK186.out 2
            have hfz175_3 := blk_frozen BK186.out 3
            go_wp2_with (first | ((with_reducible refine gate_callee (f := 17) rfl ?_); refine goesL_ (some 75) rfl rfl Try.func17 (by kernel_rfl) rfl #[.agg #[.int .i8 t179, .int .i8 t180, .int .i8 t181, .slice Ao40 t182.length co40], .int .i64 1] rfl (by (try simp only [List.map_toArray, List.map_cons, List.map_nil]); first | done | rfl | (simp only [List.length_drop, List.length_take]; rfl)) ?_; (with_reducible refine (laws_markBook.calls kj63 t179 t180 t181 (fun k_ => some k_ = (.slice Ao40 t182.length co40 : Value).ownBlock) (.slice Ao40 t182.length co40) t182 1 t198 t199 w _ ?side1 ?side2 A94.out).mono ?_); (case side1 => repeat (first | (with_reducible first | exact HB.out | apply below_alloc | apply pw_below_drewN | apply below_drew1 | refine below_set ?_ GE156.out | refine below_set ?_ GE171.out | refine below_set ?_ GE178.out | refine below_set ?_ GE186.out) | exact HB.out)); (case side2 => exact Kd.R_tight rfl HO_187003.out); rintro e w176 ⟨rfl, hy0, hb, hkp⟩; refine ⟨_, rfl, ?_⟩; have n0_ := Aside0.mk (Kd.R_mono (ok' := fun k_ => some k_ ≠ (.slice Ao33 t196.length co33 : Value).ownBlock ∧ some k_ ≠ (.slice Ao40 t182.length co40 : Value).ownBlock) (Kd.R_keptB (HO_172003.out) hkp (fun k_ hk_ hs_ => (hk_.2) hs_)) (fun k_ hk_ => ⟨hk_.1.1, hk_.1.2⟩)); have n1_ := Aside0.mk (Kd.R_mono (ok' := fun k_ => some k_ ≠ (.slice Ao26 t167.length co26 : Value).ownBlock ∧ some k_ ≠ (.slice Ao40 t182.length co40 : Value).ownBlock) (Kd.R_keptB (HO_179003.out) hkp (fun k_ hk_ hs_ => (hk_.2) hs_)) (fun k_ hk_ => ⟨hk_.1.1, hk_.1.2⟩)); have n2_ := Aside0.mk (Kd.R_reok rfl hy0 (fun k_ e_ => HO_187003.out.1 k_ e_)); have n3_ := Aside0.mk (blk_kept (by (with_reducible repeat (first | refine blk_drewN ?_ _ | refine blk_drew ?_ | refine blk_alloc ?_ _)); exact BK156.out) hkp (fun hs_ => (fun e_ => (Kd.R_ne HO_187003.out BK156.out (by decide)) e_) hs_)); have n4_ := Aside0.mk (blk_kept (by (with_reducible repeat (first | refine blk_drewN ?_ _ | refine blk_drew ?_ | refine blk_alloc ?_ _)); exact BK171.out) hkp (fun hs_ => (fun e_ => (Kd.R_ne HO_187003.out BK171.out (by decide)) e_) hs_)); have n5_ := Aside0.mk (blk_kept (by (with_reducible repeat (first | refine blk_drewN ?_ _ | refine blk_drew ?_ | refine blk_alloc ?_ _)); exact BK178.out) hkp (fun hs_ => (fun e_ => (Kd.R_ne HO_187003.out BK178.out (by decide)) e_) hs_)); have n6_ := Aside0.mk (blk_kept (by (with_reducible repeat (first | refine blk_drewN ?_ _ | refine blk_drew ?_ | refine blk_alloc ?_ _)); exact BK186.out) hkp (fun hs_ => (fun e_ => (Kd.R_ne HO_187003.out BK186.out (by decide)) e_) hs_)); have n7_ := Aside0.mk (hb); clear HO_172003; clear HO_179003; clear HO_187003; clear BK156; clear BK171; clear BK178; clear BK186; clear HB; have HO_172003 := n0_; have HO_179003 := n1_; have HO_187003 := n2_; have BK156 := n3_; have BK171 := n4_; have BK178 := n5_; have BK186 := n6_; have HB := n7_; clear n0_ n1_ n2_ n3_ n4_ n5_ n6_ n7_; (try clear hb); (try clear hkp); (try clear hy0); have hcz177_0 : w176.cell? ⟨gb186, 0, none⟩ = some (.int .i8 t179) := (blk_cell BK186.out 0).trans rfl; have hcz177_1 : w176.cell? ⟨gb186, 1, none⟩ = some (.int .i8 t180) := (blk_cell BK186.out 1).trans rfl; have hcz177_2 : w176.cell? ⟨gb186, 2, none⟩ = some (.int .i8 t181) := (blk_cell BK186.out 2).trans rfl; have hcz177_3 : w176.cell? ⟨gb186, 3, none⟩ = some (.slice Ao40 t182.length co40) := (blk_cell BK186.out 3).trans rfl; have hfz177_0 := blk_frozen BK186.out 0; have hfz177_1 := blk_frozen BK186.out 1; have hfz177_2 := blk_frozen BK186.out 2; have hfz177_3 := blk_frozen BK186.out 3) | ((with_reducible refine gate_callee (f := 18) rfl ?_); refine goesL_ (some 78) rfl rfl Try.func18 (by kernel_rfl) rfl #[.agg #[.int .i8 t179, .int .i8 t180, .int .i8 t181, .slice Ao40 t199.length co40], .int .i64 1] rfl (by (try simp only [List.map_toArray, List.map_cons, List.map_nil]); first | done | (rw [show t199.length = t182.length from (Kd.R_reads' HO_187003.out).1.symm] <;> rfl) | rfl | (simp only [List.length_drop, List.length_take]; rfl)) ?_; (with_reducible refine (laws_heldBook.calls kj63 t179 t180 t181 _ _ t199 1 t200 _ ?side1 ?side2 A95.out).mono ?_); (case side1 => repeat (first | exact (Kd.R_reads' HO_187003.out).2.2 | (with_reducible refine Kd.C_alloc ?_ _) | (with_reducible refine Kd.C_drewN ?_ _) | (with_reducible refine Kd.C_drew ?_))); (case side2 => rw [show t199.length = t182.length from (Kd.R_reads' HO_187003.out).1.symm]; exact (Kd.R_reads' HO_187003.out).2.1); rintro e w178 ⟨rfl, hb⟩; refine ⟨_, rfl, ?_⟩; have n0_ := Aside0.mk (Kd.R_below (by (with_reducible repeat (first | apply Kd.R_alloc | apply Kd.R_drewN | apply Kd.R_drew)); exact HO_172003.out) hb); have n1_ := Aside0.mk (Kd.R_below (by (with_reducible repeat (first | apply Kd.R_alloc | apply Kd.R_drewN | apply Kd.R_drew)); exact HO_179003.out) hb); have n2_ := Aside0.mk (Kd.R_below (by (with_reducible repeat (first | apply Kd.R_alloc | apply Kd.R_drewN | apply Kd.R_drew)); exact HO_187003.out) hb); have n3_ := Aside0.mk (blk_below (g := gb156) (o := .cells #[.int .i8 a0_0, .int .i8 a0_1, .int .i8 a0_2, .slice A0_3 l0_3.length c0_3] 25 (0, 0)) (by (with_reducible repeat (first | refine blk_drewN ?_ _ | refine blk_drew ?_ | refine blk_alloc ?_ _)); exact BK156.out) hb); have n4_ := Aside0.mk (blk_below (g := gb171) (o := .cells #[.int .i8 t164, .int .i8 t165, .int .i8 t166, .slice Ao26 t167.length co26] 27 (0, 0)) (by (with_reducible repeat (first | refine blk_drewN ?_ _ | refine blk_drew ?_ | refine blk_alloc ?_ _)); exact BK171.out) hb); have n5_ := Aside0.mk (blk_below (g := gb178) (o := .cells #[.int .i8 t172, .int .i8 t173, .int .i8 t174, .slice Ao33 t196.length co33] 27 (0, 0)) (by (with_reducible repeat (first | refine blk_drewN ?_ _ | refine blk_drew ?_ | refine blk_alloc ?_ _)); exact BK178.out) hb); have n6_ := Aside0.mk (blk_below (g := gb186) (o := .cells #[.int .i8 t179, .int .i8 t180, .int .i8 t181, .slice Ao40 t182.length co40] 27 (0, 0)) (by (with_reducible repeat (first | refine blk_drewN ?_ _ | refine blk_drew ?_ | refine blk_alloc ?_ _)); exact BK186.out) hb); have n7_ := Aside0.mk (below_step (by repeat (first | (with_reducible first | exact HB.out | apply below_alloc | apply pw_below_drewN | apply below_drew1 | refine below_set ?_ GE156.out | refine below_set ?_ GE171.out | refine below_set ?_ GE178.out | refine below_set ?_ GE186.out) | exact HB.out)) hb); clear HO_172003; clear HO_179003; clear HO_187003; clear BK156; clear BK171; clear BK178; clear BK186; clear HB; have HO_172003 := n0_; have HO_179003 := n1_; have HO_187003 := n2_; have BK156 := n3_; have BK171 := n4_; have BK178 := n5_; have BK186 := n6_; have HB := n7_; clear n0_ n1_ n2_ n3_ n4_ n5_ n6_ n7_; (try clear hb); (try clear hb2); (try clear hk); (try clear hi)))
            go_ret
            exact ⟨by first | rfl | (simp [errW_none, errW_some] <;> rfl) | (simp [*, errW_none, errW_some] <;> rfl), by repeat (first | (with_reducible first | exact HB.out | apply below_alloc | apply pw_below_drewN | apply below_drew1 | refine below_set ?_ GE156.out | refine below_set ?_ GE171.out | refine below_set ?_ GE178.out | refine below_set ?_ GE186.out) | exact HB.out)⟩
      ·replace c62 := Bool.eq_false_iff.mpr c62
       subst c62
       have H1 : (some false) = some r := by rw [if_neg (show ¬ (false = true) by decide)] at H; exact H
       clear H
       have H := H1
       clear H1
       obtain rfl := Option.some.inj H
       try go_wp2
       have n0_ := Aside0.mk (Kd.R_drew HO_172003.out)
       have n1_ := Aside0.mk (Kd.R_drew HO_179003.out)
       have n2_ := Aside0.mk (Kd.R_drew HO_187003.out)
       have n3_ := Aside0.mk (blk_drew BK156.out)
       have n4_ := Aside0.mk (blk_drew BK171.out)
       have n5_ := Aside0.mk (blk_drew BK178.out)
       have n6_ := Aside0.mk (blk_drew BK186.out)
       have n7_ := Aside0.mk (below_drew1 HB.out)
       clear HO_172003
       clear HO_179003
       clear HO_187003
       clear BK156
       clear BK171
       clear BK178
       clear BK186
       clear HB
       have HO_172003 := n0_
       have HO_179003 := n1_
       have HO_187003 := n2_
       have BK156 := n3_
       have BK171 := n4_
       have BK178 := n5_
       have BK186 := n6_
       have HB := n7_
       clear n0_ n1_ n2_ n3_ n4_ n5_ n6_ n7_
       refine start_ (n := 5) (S := fun w' => w'.cell? ⟨gb178, 0, none⟩ = some (.int .i8 t172) ∧ w'.cell? ⟨gb178, 1, none⟩ = some (.int .i8 t173) ∧ w'.cell? ⟨gb178, 2, none⟩ = some (.int .i8 t174) ∧ w'.cell? ⟨gb178, 3, none⟩ = some (.slice Ao33 t175.length co33) ∧ w'.cell? ⟨gb156, 0, none⟩ = some (.int .i8 a0_0) ∧ w'.cell? ⟨gb156, 1, none⟩ = some (.int .i8 a0_1) ∧ w'.cell? ⟨gb156, 2, none⟩ = some (.int .i8 a0_2) ∧ w'.cell? ⟨gb156, 3, none⟩ = some (.slice A0_3 l0_3.length c0_3)) (ds := []) #[false, false, false, false, false] (by kernel_rfl) rfl rfl ⟨(blk_cell BK178.out 0).trans rfl, (blk_cell BK178.out 1).trans rfl, (blk_cell BK178.out 2).trans rfl, (blk_cell BK178.out 3).trans rfl, (blk_cell BK156.out 0).trans rfl, (blk_cell BK156.out 1).trans rfl, (blk_cell BK156.out 2).trans rfl, (blk_cell BK156.out 3).trans rfl⟩ (fun hHeld => ?_)
       generalize wc.drew = w179 at HO_172003 HO_179003 HO_187003 BK156 BK171 BK178 BK186 HB hHeld ⊢
       refine take_ (i := 0) (N := some 52) (v := ?_) (a' := ?_) #[true, false, false, false, false] rfl rfl (by kernel_rfl) (fun _ _ _ h => h) (Or.inl ⟨by rfl, ?_⟩) hHeld ?_ ?_
       rotate_left
       ·rintro w' ⟨s0, s1, s2, s3, s4, s5, s6, s7⟩
        go_simp
        with_reducible rfl
       rotate_left
       ·simp only [Act.put, List.setIfInBounds_toArray, List.set_cons_zero, List.set_cons_succ, i64_w, i32_w]
        rfl
       refine take_ (i := 1) (N := some 53) (v := ?_) (a' := ?_) #[true, true, false, false, false] rfl rfl (by kernel_rfl) (fun _ _ _ h => h) (Or.inl ⟨by rfl, ?_⟩) hHeld ?_ ?_
       rotate_left
       ·rintro w' ⟨s0, s1, s2, s3, s4, s5, s6, s7⟩
        go_simp
        with_reducible rfl
       rotate_left
       ·simp only [Act.put, List.setIfInBounds_toArray, List.set_cons_zero, List.set_cons_succ, i64_w, i32_w]
        rfl
       refine one_ (i := 2) (N := some 54) #[true, true, true, false, false] rfl rfl (by kernel_rfl) (by decide) (fun K hK => ?_)
       refine goes_ Try.func14 (by kernel_rfl) rfl #[.agg #[.int .i8 a0_0, .int .i8 a0_1, .int .i8 a0_2, .slice A0_3 l0_3.length c0_3]] (by rfl) rfl rfl (by (try simp only [List.map_toArray, List.map_cons, List.map_nil]); first | done | rfl | (simp only [List.length_drop, List.length_take]; rfl)) ?_
       with_reducible refine (laws_toBook.calls kj14 a0_0 a0_1 a0_2 _ _ l0_3 t188 t189 t190 t191 _ ?side1 ?side2 A60.out).mono ?_
       (case side1 => repeat (first | exact (Kd.C_below HR0_3.out HB.out) | (with_reducible refine Kd.C_alloc ?_ _) | (with_reducible refine Kd.C_drewN ?_ _) | (with_reducible refine Kd.C_drew ?_)))
       (case side2 => exact HC0_3.out)
       rintro e w180 ⟨v192, rfl, ho0, hb⟩
       refine ⟨_, rfl, ?_⟩
       have n0_ := Aside0.mk (Kd.R_elder' (by (with_reducible repeat (first | apply Kd.R_alloc | apply Kd.R_drewN | apply Kd.R_drew)); exact HO_172003.out) (Kd.R_base ho0) hb)
       have n1_ := Aside0.mk (Kd.R_elder' (by (with_reducible repeat (first | apply Kd.R_alloc | apply Kd.R_drewN | apply Kd.R_drew)); exact HO_179003.out) (Kd.R_base ho0) hb)
       have n2_ := Aside0.mk (Kd.R_elder' (by (with_reducible repeat (first | apply Kd.R_alloc | apply Kd.R_drewN | apply Kd.R_drew)); exact HO_187003.out) (Kd.R_base ho0) hb)
       have n3_ := Aside0.mk (Kd.R_lower (Kd.R_new' (Kd.R_new' (Kd.R_new' ho0 (Kd.R_lt (by (with_reducible repeat (first | apply Kd.R_alloc | apply Kd.R_drewN | apply Kd.R_drew)); exact HO_172003.out))) (Kd.R_lt (by (with_reducible repeat (first | apply Kd.R_alloc | apply Kd.R_drewN | apply Kd.R_drew)); exact HO_179003.out))) (Kd.R_lt (by (with_reducible repeat (first | apply Kd.R_alloc | apply Kd.R_drewN | apply Kd.R_drew)); exact HO_187003.out))) (below_size (by repeat (first | (with_reducible first | exact HB.out | apply below_alloc | apply pw_below_drewN | apply below_drew1 | refine below_set ?_ GE156.out | refine below_set ?_ GE171.out | refine below_set ?_ GE178.out | refine below_set ?_ GE186.out) | exact HB.out))))
       have n4_ := Aside0.mk (blk_below (g := gb156) (o := .cells #[.int .i8 a0_0, .int .i8 a0_1, .int .i8 a0_2, .slice A0_3 l0_3.length c0_3] 25 (0, 0)) (by (with_reducible repeat (first | refine blk_drewN ?_ _ | refine blk_drew ?_ | refine blk_alloc ?_ _)); exact BK156.out) hb)
       have n5_ := Aside0.mk (blk_below (g := gb171) (o := .cells #[.int .i8 t164, .int .i8 t165, .int .i8 t166, .slice Ao26 t167.length co26] 27 (0, 0)) (by (with_reducible repeat (first | refine blk_drewN ?_ _ | refine blk_drew ?_ | refine blk_alloc ?_ _)); exact BK171.out) hb)
       have n6_ := Aside0.mk (blk_below (g := gb178) (o := .cells #[.int .i8 t172, .int .i8 t173, .int .i8 t174, .slice Ao33 t175.length co33] 27 (0, 0)) (by (with_reducible repeat (first | refine blk_drewN ?_ _ | refine blk_drew ?_ | refine blk_alloc ?_ _)); exact BK178.out) hb)
       have n7_ := Aside0.mk (blk_below (g := gb186) (o := .cells #[.int .i8 t179, .int .i8 t180, .int .i8 t181, .slice Ao40 t182.length co40] 27 (0, 0)) (by (with_reducible repeat (first | refine blk_drewN ?_ _ | refine blk_drew ?_ | refine blk_alloc ?_ _)); exact BK186.out) hb)
       have n8_ := Aside0.mk (below_step (by repeat (first | (with_reducible first | exact HB.out | apply below_alloc | apply pw_below_drewN | apply below_drew1 | refine below_set ?_ GE156.out | refine below_set ?_ GE171.out | refine below_set ?_ GE178.out | refine below_set ?_ GE186.out) | exact HB.out)) hb)
       clear HO_172003
       clear HO_179003
       clear HO_187003
       clear BK156
       clear BK171
       clear BK178
       clear BK186
       clear HB
       have HO_172003 := n0_
       have HO_179003 := n1_
       have HO_187003 := n2_
       have HO193 := n3_
       have BK156 := n4_
       have BK171 := n5_
       have BK178 := n6_
       have BK186 := n7_
       have HB := n8_
       clear n0_ n1_ n2_ n3_ n4_ n5_ n6_ n7_ n8_
       (try clear hb)
       (try clear hb2)
       (try clear hk)
       (try clear hi)
       (try clear ho0)
       obtain ⟨Ao181, co181, eo181⟩ := Kd.R_slice HO193.out
       (first | subst eo181 | (injection eo181 with f1_ f2_ f3_; have f4_ := f1_.symm; have f5_ := f3_.symm; clear f1_ f2_ f3_; subst f4_; subst f5_))
       refine hK.out _ _ ⟨(blk_cell BK178.out 0).trans rfl, (blk_cell BK178.out 1).trans rfl, (blk_cell BK178.out 2).trans rfl, (blk_cell BK178.out 3).trans rfl, (blk_cell BK156.out 0).trans rfl, (blk_cell BK156.out 1).trans rfl, (blk_cell BK156.out 2).trans rfl, (blk_cell BK156.out 3).trans rfl⟩ (fun hHeld => ?_)
       clear hK K
       refine norm_ (a' := ?_) ?_ ?_
       rotate_left
       ·show Act.put _ (some 54) _ = _
        simp only [Act.put, List.setIfInBounds_toArray, List.set_cons_zero, List.set_cons_succ, i64_w, i32_w]
        rfl
       refine one_ (i := 3) (N := some 55) #[true, true, true, true, false] rfl rfl (by kernel_rfl) (by decide) (fun K hK => ?_)
       refine goes_ Try.func16 (by kernel_rfl) rfl #[.agg #[.int .i8 t172, .int .i8 t173, .int .i8 t174, .slice Ao33 t175.length co33], .agg #[.int .i8 t188, .int .i8 t189, .int .i8 t190, .slice Ao181 t191.length co181]] (by rfl) rfl rfl (by (try simp only [List.map_toArray, List.map_cons, List.map_nil]); first | done | rfl | (simp only [List.length_drop, List.length_take]; rfl)) ?_
       with_reducible refine (laws_eqBook.calls kj14 t172 t173 t174 _ _ t175 t188 t189 t190 _ _ t191 false _ ?side1 ?side2 ?side3 ?side4 A61.out).mono ?_
       (case side1 => repeat (first | exact (Kd.R_reads' HO_179003.out).2.2 | (with_reducible refine Kd.C_alloc ?_ _) | (with_reducible refine Kd.C_drewN ?_ _) | (with_reducible refine Kd.C_drew ?_)))
       (case side2 => exact (Kd.R_reads' HO_179003.out).2.1)
       (case side3 => repeat (first | exact (Kd.R_reads' HO193.out).2.2 | (with_reducible refine Kd.C_alloc ?_ _) | (with_reducible refine Kd.C_drewN ?_ _) | (with_reducible refine Kd.C_drew ?_)))
       (case side4 => exact (Kd.R_reads' HO193.out).2.1)
       rintro e w182 ⟨rfl, hb⟩
       refine ⟨_, rfl, ?_⟩
       have n0_ := Aside0.mk (Kd.R_below (by (with_reducible repeat (first | apply Kd.R_alloc | apply Kd.R_drewN | apply Kd.R_drew)); exact HO_172003.out) hb)
       have n1_ := Aside0.mk (Kd.R_below (by (with_reducible repeat (first | apply Kd.R_alloc | apply Kd.R_drewN | apply Kd.R_drew)); exact HO_179003.out) hb)
       have n2_ := Aside0.mk (Kd.R_below (by (with_reducible repeat (first | apply Kd.R_alloc | apply Kd.R_drewN | apply Kd.R_drew)); exact HO_187003.out) hb)
       have n3_ := Aside0.mk (Kd.R_below (by (with_reducible repeat (first | apply Kd.R_alloc | apply Kd.R_drewN | apply Kd.R_drew)); exact HO193.out) hb)
       have n4_ := Aside0.mk (blk_below (g := gb156) (o := .cells #[.int .i8 a0_0, .int .i8 a0_1, .int .i8 a0_2, .slice A0_3 l0_3.length c0_3] 25 (0, 0)) (by (with_reducible repeat (first | refine blk_drewN ?_ _ | refine blk_drew ?_ | refine blk_alloc ?_ _)); exact BK156.out) hb)
       have n5_ := Aside0.mk (blk_below (g := gb171) (o := .cells #[.int .i8 t164, .int .i8 t165, .int .i8 t166, .slice Ao26 t167.length co26] 27 (0, 0)) (by (with_reducible repeat (first | refine blk_drewN ?_ _ | refine blk_drew ?_ | refine blk_alloc ?_ _)); exact BK171.out) hb)
       have n6_ := Aside0.mk (blk_below (g := gb178) (o := .cells #[.int .i8 t172, .int .i8 t173, .int .i8 t174, .slice Ao33 t175.length co33] 27 (0, 0)) (by (with_reducible repeat (first | refine blk_drewN ?_ _ | refine blk_drew ?_ | refine blk_alloc ?_ _)); exact BK178.out) hb)
       have n7_ := Aside0.mk (blk_below (g := gb186) (o := .cells #[.int .i8 t179, .int .i8 t180, .int .i8 t181, .slice Ao40 t182.length co40] 27 (0, 0)) (by (with_reducible repeat (first | refine blk_drewN ?_ _ | refine blk_drew ?_ | refine blk_alloc ?_ _)); exact BK186.out) hb)
       have n8_ := Aside0.mk (below_step (by repeat (first | (with_reducible first | exact HB.out | apply below_alloc | apply pw_below_drewN | apply below_drew1 | refine below_set ?_ GE156.out | refine below_set ?_ GE171.out | refine below_set ?_ GE178.out | refine below_set ?_ GE186.out) | exact HB.out)) hb)
       clear HO_172003
       clear HO_179003
       clear HO_187003
       clear HO193
       clear BK156
       clear BK171
       clear BK178
       clear BK186
       clear HB
       have HO_172003 := n0_
       have HO_179003 := n1_
       have HO_187003 := n2_
       have HO193 := n3_
       have BK156 := n4_
       have BK171 := n5_
       have BK178 := n6_
       have BK186 := n7_
       have HB := n8_
       clear n0_ n1_ n2_ n3_ n4_ n5_ n6_ n7_ n8_
       (try clear hb)
       (try clear hb2)
       (try clear hk)
       (try clear hi)
       refine hK.out _ _ ⟨(blk_cell BK178.out 0).trans rfl, (blk_cell BK178.out 1).trans rfl, (blk_cell BK178.out 2).trans rfl, (blk_cell BK178.out 3).trans rfl, (blk_cell BK156.out 0).trans rfl, (blk_cell BK156.out 1).trans rfl, (blk_cell BK156.out 2).trans rfl, (blk_cell BK156.out 3).trans rfl⟩ (fun hHeld => ?_)
       clear hK K
       refine norm_ (a' := ?_) ?_ ?_
       rotate_left
       ·show Act.put _ (some 55) _ = _
        simp only [Act.put, List.setIfInBounds_toArray, List.set_cons_zero, List.set_cons_succ, i64_w, i32_w]
        rfl
       refine pure_ (i := 4) (N := some 56) (v := ?_) (a' := ?_) #[true, true, true, true, true] rfl rfl (by kernel_rfl) (fun _ _ _ h => h) (Or.inl ⟨by rfl, ?_⟩) ?_ ?_
       rotate_left
       ·intro w'
        go_simp
        with_reducible rfl
       rotate_left
       ·simp only [Act.put, List.setIfInBounds_toArray, List.set_cons_zero, List.set_cons_succ, i64_w, i32_w]
        rfl
       refine done_ (by kernel_rfl) ?_
       try go_wp2
       go_ret
       exact ⟨by first | rfl | (simp [errW_none, errW_some] <;> rfl) | (simp [*, errW_none, errW_some] <;> rfl), by repeat (first | (with_reducible first | exact HB.out | apply below_alloc | apply pw_below_drewN | apply below_drew1 | refine below_set ?_ GE156.out | refine below_set ?_ GE171.out | refine below_set ?_ GE178.out | refine below_set ?_ GE186.out) | exact HB.out)⟩
end Go.Proofs.Ytckpfodpfplaeaa.E
namespace Go.Proofs.Ytckpfodpfplaeaa.E
open Go.RowKit Go.Proofs.YtckpfodpfplaeaaW.PrintWords Go.Proofs.YtckpfodpfplaeaaW.PrintLast Go.Proofs.Ytckpfodpfplaeaa.U
set_option linter.unusedVariables false
set_option linter.unusedSimpArgs false
theorem rdB_get (ph : List ByteArray) (i : Nat) (hi : i < ph.length) : rdOf ByteArray.empty ph (i : Int) = ph[i] := by
 unfold rdOf; simp [List.getElem?_eq_getElem hi]
theorem szStringS_ev (l : List ByteArray) (a : Int) (ha : 0 ≤ a ∧ a ≤ 1048576) (hl : l.length ≤ maxLen) (hls : ∀ x ∈ l, x.size ≤ maxLen) :
  ∃ r, Ev (fun k => laws_szStringS.f k l a) r ∧ r ≤ a ∧ (0 ≤ r → (l.length : Int) ≤ a ∧ ∀ x ∈ l, (x.size : Int) ≤ a) := by
 unfold laws_szStringS.f
 have hl2 := hl
 unfold maxLen at hl2
 rw [w64 (x := a - (l.length : Int)) (by omega) (by omega)]
 by_cases h : a - (l.length : Int) < 0
 ·exact ⟨-1, pos h (cons rfl), by omega, fun h => by omega⟩
 have key : ∀ (d i : Nat) (b : Int), i + d = l.length → 0 ≤ b → b ≤ a → (∀ j : Nat, j < i → ((rdOf ByteArray.empty l (j : Int)).size : Int) ≤ a) →
   ∃ r, Ev (fun k => laws_szStringS.l0 k l b (i : Int)) r ∧ r ≤ a ∧ (0 ≤ r → ∀ j : Nat, j < l.length → ((rdOf ByteArray.empty l (j : Int)).size : Int) ≤ a) := by
  intro d
  induction d with
  | zero =>
   intro i b hi hb0 hb1 hp
   refine ⟨b, ?_, hb1, fun _ j hj => hp j (by omega)⟩
   refine Ev.step (fun k => by rw [laws_szStringS.l0]) ?_
   exact neg (by omega) (Ev.now _)
  | succ d ih =>
   intro i b hi hb0 hb1 hp
   have hm : (rdOf ByteArray.empty l (i : Int)).size ≤ maxLen := by rw [rdB_get l i (by omega)]; exact hls _ (List.getElem_mem _)
   unfold maxLen at hm
   have hw : wrap64 (b - ((rdOf ByteArray.empty l (i : Int)).size : Int)) = b - ((rdOf ByteArray.empty l (i : Int)).size : Int) := w64 (by omega) (by omega)
   by_cases hc : b < ((rdOf ByteArray.empty l (i : Int)).size : Int)
   ·refine ⟨-1, ?_, by omega, fun h => by omega⟩
    refine Ev.step (fun k => by rw [laws_szStringS.l0]) ?_
    rw [hw]
    exact pos (by omega) (pos (by omega) (pos (by omega) (cons rfl)))
   ·obtain ⟨r, hr, h1, h2⟩ := ih (i + 1) (b - ((rdOf ByteArray.empty l (i : Int)).size : Int)) (by omega) (by omega) (by omega) (fun j hj => by
     rcases Nat.lt_or_ge j i with h | h
     ·exact hp j h
     ·obtain rfl : j = i := by omega
      omega)
    refine ⟨r, ?_, h1, h2⟩
    refine Ev.step (fun k => by rw [laws_szStringS.l0]) ?_
    rw [hw, w64 (x := (i : Int) + 1) (by omega) (by omega)]
    exact pos (by omega) (pos (by omega) (neg (by omega) hr))
 obtain ⟨r, hr, h1, h2⟩ := key l.length 0 (a - (l.length : Int)) (by omega) (by omega) (by omega) (fun j hj => by omega)
 refine ⟨r, neg h hr, h1, fun h0 => ⟨by omega, fun x hx => ?_⟩⟩
 obtain ⟨j, hj, rfl⟩ := List.getElem_of_mem hx
 have := h2 h0 j hj
 rwa [rdB_get l j hj] at this
theorem szBook_ev (K L S : Int) (l : List ByteArray) (a : Int) (ha : 0 ≤ a ∧ a ≤ 1048576) (hl : l.length ≤ maxLen) (hls : ∀ x ∈ l, x.size ≤ maxLen) :
  ∃ r, Ev (fun k => laws_szBook.f k K L S l a) r ∧ r ≤ a ∧ (0 ≤ r → (l.length : Int) ≤ a ∧ ∀ x ∈ l, (x.size : Int) ≤ a) := by
 obtain ⟨r, h1, h2, h3⟩ := szStringS_ev l a ha hl hls
 unfold laws_szBook.f
 by_cases h : r < 0
 ·exact ⟨-1, Ev.bind h1 (pos h (cons rfl)), by omega, fun h => by omega⟩
 ·exact ⟨r, Ev.bind h1 (neg h (cons rfl)), h2, h3⟩
theorem toListB {l l' : List ByteArray} {n : Nat} (h1 : l.length = n) (h2 : l'.length = n) (h : ∀ j, j < n → l[j]? = l'[j]?) : l = l' := by
 apply List.ext_getElem?
 intro j
 rcases Nat.lt_or_ge j n with hj | hj
 ·exact h j hj
 ·rw [List.getElem?_eq_none (by omega), List.getElem?_eq_none (by omega)]
theorem toStringS_ev (l : List ByteArray) (hn : l.length ≤ 1048576) : Ev (fun k => laws_toStringS.f k l) l := by
 unfold laws_toStringS.f
 refine pos (by omega) (pos (by omega) ?_)
 rw [Int.toNat_natCast]
 refine iter (F := fun k (s : List ByteArray × Int) => laws_toStringS.l0 k l s.1 s.2) (fun i s => s.2 = (i : Int) ∧ s.1.length = l.length ∧ ∀ j, j < i → s.1[j]? = l[j]?) l l.length ?_ ?_ 0 (List.replicate l.length _, 0) (by omega) ⟨rfl, by simp, fun j hj => by omega⟩
 ·rintro i ⟨s, x⟩ hi ⟨rfl, hl, hp⟩
  dsimp only at hl hp
  refine .inl ⟨(s.set i (rdOf ByteArray.empty l (i : Int)), ((i + 1 : Nat) : Int)), ⟨rfl, by simpa using hl, fun j hj => ?_⟩, Ev.step fun k => ?_⟩
  ·dsimp only
   by_cases e : j = i
   ·subst e; rw [List.getElem?_set_self (by omega), rdB_get l j hi, List.getElem?_eq_getElem hi]
   ·rw [List.getElem?_set_ne (by omega)]; exact hp j (by omega)
  ·simp only [laws_toStringS.l0]
   rw [if_pos (by omega), if_pos (by omega), if_pos (by omega), w64 (by omega) (by omega), Int.toNat_natCast]; rfl
 ·rintro ⟨s, x⟩ ⟨rfl, hl, hp⟩
  dsimp only at hl hp
  refine Ev.step (f := fun _ => some s) (fun k => ?_) (cons (toListB hl rfl hp))
  simp only [laws_toStringS.l0]; rw [if_neg (by omega)]
theorem toBook_ev (K L S : Int) (l : List ByteArray) (hn : l.length ≤ 1048576) : Ev (fun k => laws_toBook.f k K L S l) (K, L, S, l) := by
 unfold laws_toBook.f
 exact Ev.bind (toStringS_ev l hn) (cons rfl)
theorem eqStringS_l0 (l : List ByteArray) (hn : l.length ≤ 9223372036854775806) : ∀ (d i : Nat), i + d = l.length → Ev (fun k => laws_eqStringS.l0 k l l (i : Int)) true := by
 intro d
 induction d with
 | zero =>
  intro i hi
  refine Ev.step (f := fun _ => some true) (fun k => ?_) (cons rfl)
  simp only [laws_eqStringS.l0]; rw [if_neg (by omega)]
 | succ d ih =>
  intro i hi
  refine Ev.step (f := fun k => laws_eqStringS.l0 k l l ((i + 1 : Nat) : Int)) (fun k => ?_) (ih (i + 1) (by omega))
  simp only [laws_eqStringS.l0]; rw [if_pos (by omega), if_pos (by omega), if_pos (by omega), if_pos trivial, w64 (by omega) (by omega)]; rfl
theorem eqStringS_refl (l : List ByteArray) (hn : l.length ≤ 9223372036854775806) : Ev (fun k => laws_eqStringS.f k l l) true := by
 unfold laws_eqStringS.f
 exact pos rfl (eqStringS_l0 l hn l.length 0 (by omega))
theorem eqBook_refl (K L S : Int) (l : List ByteArray) (hn : l.length ≤ 9223372036854775806) : Ev (fun k => laws_eqBook.f k K L S l K L S l) true := by
 unfold laws_eqBook.f
 exact pos rfl (pos rfl (pos rfl (Ev.bind (eqStringS_refl l hn) (pos rfl (cons rfl)))))
theorem bits_book {K L S : Int} {ph : List ByteArray} (hK : WfI .i8 K) (hL : WfI .i8 L) (hS : WfI .i8 S) (hn : ph.length ≤ 1048576) (hs : ∀ x ∈ ph, x.size ≤ 1048576) : (Arr.smallPh ph && (Arr.in8 K && (Arr.in8 L && Arr.in8 S))) = true := by
 have e : ∀ a : Int, WfI .i8 a → Arr.in8 a = true := fun a ha => decide_eq_true (Arr.wfi8 ha)
 rw [e K hK, e L hL, e S hS]
 unfold Arr.smallPh
 rw [decide_eq_true (show ph.length ≤ 100000000 by omega)]
 have : (ph.all fun s => decide (s.size ≤ 140737488351232)) = true := List.all_eq_true.2 fun s hm => decide_eq_true (by have := hs s hm; omega)
 rw [this]; rfl
end Go.Proofs.Ytckpfodpfplaeaa.E
namespace Go.Proofs.Ytckpfodpfplaeaa.E
open Go.RowKit Go.Proofs.YtckpfodpfplaeaaW.PrintWords Go.Proofs.YtckpfodpfplaeaaW.PrintLast Go.Proofs.Ytckpfodpfplaeaa.U
set_option linter.unusedVariables false
set_option linter.unusedSimpArgs false
theorem markText_l0 : ∀ (d : Nat) (x0 : Int) (x3 : ByteArray), 0 ≤ x0 → x0 < 10 ^ d → x0 ≤ 9223372036854775807 → x3.size + d ≤ 1000 → ∃ s, Ev (fun k => laws_markText.l0 k x0 x3) s := by
 intro d
 induction d with
 | zero =>
  intro x0 x3 h0 h1 hm h2
  have : x0 = 0 := by simp at h1; omega
  subst this
  exact ⟨_, Ev.step (fun k => by rw [laws_markText.l0]) (neg (by omega) (pos (by omega) (Ev.now _)))⟩
 | succ d ih =>
  intro x0 x3 h0 h1 hm h2
  by_cases hp : x0 > 0
  ·have hd : Int.tdiv x0 10 = x0 / 10 := Int.tdiv_eq_ediv_of_nonneg h0
   have hlt : x0 / 10 < 10 ^ d := by
    have : (10 : Int) ^ (d + 1) = 10 ^ d * 10 := Int.pow_succ ..
    rw [this] at h1
    exact Int.ediv_lt_of_lt_mul (by decide) h1
   have hw : wrap64 (Int.tdiv x0 10) = x0 / 10 := by rw [hd]; exact w64 (by omega) (by omega)
   have hsz : ∀ y : Int, (strOfNums ([y] : List Int)).size = 1 := fun y => by rw [strOfNums_size]; rfl
   obtain ⟨s, hs⟩ := ih (x0 / 10) (strOfNums [(wrap64 (48 + (Int.tmod x0 10))) % 256] ++ x3) (by omega) hlt (by omega) (by rw [ByteArray.size_append, hsz]; omega)
   refine ⟨s, ?_⟩
   rw [← hw] at hs
   refine Ev.step (fun k => by rw [laws_markText.l0]) ?_
   exact pos hp (bindc rfl (pos (by rw [hsz]; omega) hs))
  ·have : x0 = 0 := by omega
   subst this
   exact ⟨_, Ev.step (fun k => by rw [laws_markText.l0]) (neg (by omega) (pos (by omega) (Ev.now _)))⟩
theorem markText_ex (a : Int) (h : a ≤ 9223372036854775807) : ∃ s, Ev (fun k => laws_markText.f k a) s := by
 unfold laws_markText.f
 by_cases h0 : a ≤ 0
 ·exact ⟨_, pos h0 (Ev.now _)⟩
 ·have h20 : (10 : Int) ^ 20 = 100000000000000000000 := by decide
  obtain ⟨s, hs⟩ := markText_l0 20 a ⟨#[]⟩ (by omega) (by rw [h20]; omega) h (by decide)
  exact ⟨s, neg h0 hs⟩
noncomputable def mT (a : Int) : ByteArray := Classical.epsilon fun s => Ev (fun k => laws_markText.f k a) s
theorem mT_ev (a : Int) (h : a ≤ 9223372036854775807) : Ev (fun k => laws_markText.f k a) (mT a) := Classical.epsilon_spec (markText_ex a h)
noncomputable def marksT (n : Nat) (a : Int) : List ByteArray := (List.range n).map fun (j : Nat) => mT (a + (j : Int))
theorem marksT_length (n : Nat) (a : Int) : (marksT n a).length = n := by simp [marksT]
theorem markStringS_l0 (n : Nat) (a : Int) (ha : 0 ≤ a) (hb : a + n ≤ 9223372036854775806) : ∀ (d i : Nat) (x0 : List ByteArray), i + d = n → x0.length = n → (∀ j, j < i → x0[j]? = (marksT n a)[j]?) →
  Ev (fun k => laws_markStringS.l0 k x0 (a + i) (i : Int)) (a + n, marksT n a) := by
 intro d
 induction d with
 | zero =>
  intro i x0 hi hl hp
  obtain rfl : i = n := by omega
  refine Ev.step (f := fun _ => some (a + i, x0)) (fun k => by simp only [laws_markStringS.l0]; rw [if_neg (by omega)]) (cons ?_)
  rw [show x0 = marksT i a from List.ext_getElem? fun j => by
   rcases Nat.lt_or_ge j i with h | h
   ·exact hp j h
   ·rw [List.getElem?_eq_none (by omega), List.getElem?_eq_none (by rw [marksT_length]; omega)]]
 | succ d ih =>
  intro i x0 hi hl hp
  have hgo := ih (i + 1) (x0.set i (mT (a + i))) (by omega) (by simpa using hl) (fun j hj => by
   by_cases e : j = i
   ·subst e
    rw [List.getElem?_set_self (by omega)]
    simp [marksT, List.getElem?_map, List.getElem?_range (show j < n by omega)]
   ·rw [List.getElem?_set_ne (by omega)]; exact hp j (by omega))
  refine Ev.step (fun k => by rw [laws_markStringS.l0]) ?_
  refine pos (by omega) (Ev.bind (mT_ev (a + i) (by omega)) (pos (by omega) ?_))
  rw [w64 (by omega) (by omega), w64 (by omega) (by omega), show a + (i : Int) + 1 = a + ((i + 1 : Nat) : Int) by omega, show (i : Int) + 1 = ((i + 1 : Nat) : Int) by omega, Int.toNat_natCast]
  exact hgo
theorem markBook_ev (K L S : Int) (l : List ByteArray) (a : Int) (ha : 0 ≤ a) (hb : a + l.length ≤ 9223372036854775806) : Ev (fun k => laws_markBook.f k K L S l a) (a + l.length, marksT l.length a) := by
 unfold laws_markBook.f laws_markStringS.f
 exact Ev.bind (by simpa using markStringS_l0 l.length a ha hb l.length 0 l (by omega) rfl (fun j hj => by omega)) (cons rfl)
end Go.Proofs.Ytckpfodpfplaeaa.E
namespace Go.Proofs.Ytckpfodpfplaeaa.E
open Go.RowKit Go.Proofs.YtckpfodpfplaeaaW.PrintWords Go.Proofs.YtckpfodpfplaeaaW.PrintLast Go.Proofs.Ytckpfodpfplaeaa.U
set_option linter.unusedVariables false
set_option linter.unusedSimpArgs false
theorem heldStringS_l0 (n : Nat) (a : Int) (ha : 0 ≤ a) (hb : a + n ≤ 9223372036854775806) : ∀ (d i : Nat), i + d = n → Ev (fun k => laws_heldStringS.l0 k (marksT n a) (a + i) (i : Int)) (a + n) := by
 intro d
 induction d with
 | zero =>
  intro i hi
  obtain rfl : i = n := by omega
  exact Ev.step (f := fun _ => some (a + i)) (fun k => by simp only [laws_heldStringS.l0]; rw [marksT_length, if_neg (by omega)]) (cons rfl)
 | succ d ih =>
  intro i hi
  have hgo := ih (i + 1) (by omega)
  have hr : rdOf ByteArray.empty (marksT n a) (i : Int) = mT (a + i) := by
   unfold rdOf
   simp [marksT, List.getElem?_map, List.getElem?_range (show i < n by omega)]
  refine Ev.step (fun k => by rw [laws_heldStringS.l0]) ?_
  refine pos (by rw [marksT_length]; omega) (pos (by omega) (Ev.bind (mT_ev (a + i) (by omega)) (pos (by rw [hr]) ?_)))
  rw [w64 (by omega) (by omega), w64 (by omega) (by omega), show a + (i : Int) + 1 = a + ((i + 1 : Nat) : Int) by omega, show (i : Int) + 1 = ((i + 1 : Nat) : Int) by omega]
  exact hgo
theorem heldBook_ev (K L S : Int) (n : Nat) (a : Int) (ha : 0 ≤ a) (hb : a + n ≤ 9223372036854775806) : Ev (fun k => laws_heldBook.f k K L S (marksT n a) a) (a + n) := by
 unfold laws_heldBook.f laws_heldStringS.f
 exact Ev.bind (by simpa using heldStringS_l0 n a ha hb n 0 (by omega)) (neg (by omega) (cons rfl))
end Go.Proofs.Ytckpfodpfplaeaa.E
namespace Go.Proofs.Ytckpfodpfplaeaa.Pure
open Go.RowKit Go.Proofs.Ytckpfodpfplaeaa.E Go.Proofs.YtckpfodpfplaeaaW.PrintWords Go.Proofs.YtckpfodpfplaeaaW.PrintLast Go.Proofs.Ytckpfodpfplaeaa.U
set_option linter.unusedVariables false
set_option linter.unusedSimpArgs false
theorem replW_len (K L S : Int) (ph : List ByteArray) (i : Int) (s : ByteArray) : (Arr.replW K L S ph i s).1.2.2.2.length ≤ ph.length + 1 := by
 unfold Arr.replW
 repeat' split
 all_goals simp
theorem firstOf_ev (a b c : Int) : Ev (fun k => impl_firstOf.f k [a, b, c]) (if a ≠ 0 then a else if b ≠ 0 then b else c) := by
 unfold impl_firstOf.f
 have w1 : wrap64 ((0 : Int) + 1) = 1 := w64 (by omega) (by omega)
 have w2 : wrap64 ((1 : Int) + 1) = 2 := w64 (by omega) (by omega)
 have w3 : wrap64 ((2 : Int) + 1) = 3 := w64 (by omega) (by omega)
 have r0 : rd [a, b, c] 0 = a := rfl
 have r1 : rd [a, b, c] 1 = b := rfl
 have r2 : rd [a, b, c] 2 = c := rfl
 have hl : (([a, b, c] : List Int).length : Int) = 3 := rfl
 rw [hl]
 refine Ev.step (fun k => by rw [impl_firstOf.l0]) ?_
 refine pos (by omega) (pos (by omega) (pos (by rw [hl]; omega) ?_))
 rw [r0]
 by_cases ha : a = 0
 ·refine pos ha ?_
  rw [w1]
  refine Ev.step (fun k => by rw [impl_firstOf.l0]) ?_
  refine pos (by omega) (pos (by omega) (pos (by rw [hl]; omega) ?_))
  rw [r1]
  by_cases hb : b = 0
  ·refine pos hb ?_
   rw [w2]
   refine Ev.step (fun k => by rw [impl_firstOf.l0]) ?_
   refine pos (by omega) (pos (by omega) (pos (by rw [hl]; omega) ?_))
   rw [r2]
   by_cases hc : c = 0
   ·refine pos hc ?_
    rw [w3]
    refine Ev.step (fun k => by rw [impl_firstOf.l0]) ?_
    exact neg (by omega) (cons (by simp [ha, hb, hc]))
   ·exact neg hc (cons (by simp [ha, hb]))
  ·exact neg hb (cons (by simp [ha, hb]))
 ·exact neg ha (cons (by simp [ha]))
theorem implRepl_ev (K L S : Int) (ph : List ByteArray) (i : Int) (s : ByteArray) (hb : (Arr.smallPh ph && (Arr.in8 K && (Arr.in8 L && Arr.in8 S))) = true) (hs : s.size ≤ 1048576) (hn : ph.length ≤ 1048576) : Ev (fun k => impl_ReplacePhrase.f k K L S ph i s) ((Arr.replW K L S ph i s).1.1, (Arr.replW K L S ph i s).1.2.1, (Arr.replW K L S ph i s).1.2.2.1, (Arr.replW K L S ph i s).1.2.2.2, (Arr.replW K L S ph i s).2) := by
 unfold impl_ReplacePhrase.f
 refine bindc (show impl_phraseCode.f K L S ph i = some (Arr.thereW K L S ph i) from if_pos hb) ?_
 refine bindc (show impl_isPhrase.f s = some (Arr.phrB s) from if_pos hs) ?_
 refine bindc (show impl_unless.f (Arr.phrB s) 2 = some (if Arr.phrB s = true then 0 else 2) by cases Arr.phrB s <;> rfl) ?_
 refine bindc (show slices_Contains_string_string.f ph s = some (Arr.hasP ph s) from if_pos hn) ?_
 refine bindc (show impl_unless.f (!Arr.hasP ph s) 4 = some (if Arr.hasP ph s = true then 4 else 0) by cases Arr.hasP ph s <;> rfl) ?_
 refine Ev.bind (firstOf_ev _ _ _) ?_
 unfold Arr.replW Arr.hasP
 by_cases h0 : Arr.thereW K L S ph i = 0
 ·obtain ⟨hok, hi0, hi1⟩ := Arr.thereW_zero h0
  cases hq : Arr.phrB s with
  | false => exact neg (by simp [h0]) (cons (by simp [h0]))
  | true =>
   by_cases hf : 0 ≤ Arr.fnd ph s
   ·exact neg (by simp [h0, hf]) (cons (by simp [h0, hf]))
   ·refine pos (by simp [h0, hf]) ?_
    refine bindc (show slices_Clone_string_string.f ph = some ph from if_pos (by omega)) ?_
    refine pos hi0 (pos hi1 ?_)
    exact cons (by simp [h0, hf])
 ·exact neg (by simp [h0]) (cons (by simp [h0]))
def FnExactReplacePhrasePure : Prop := ∀ (K L S : Int) (ph : List ByteArray) (i : Int) (s : ByteArray), WfI .i8 K → WfI .i8 L → WfI .i8 S → WfL WfS ph → WfI .i64 i → WfS s → ∃ k, laws_FnExactReplacePhrase.f k K L S ph i s = some true
theorem FnExactReplacePhrase : FnExactReplacePhrasePure := by
 intro K L S ph i s hK hL hS hph hi hs
 apply Ev.rounds
 unfold laws_FnExactReplacePhrase.f
 by_cases c0 : (s.size : Int) > 1048576
 ·exact pos c0 (cons rfl)
 obtain ⟨r1, h1, hr1, hp1⟩ := szBook_ev K L S ph 1048576 (by omega) hph.1 hph.2
 by_cases c1 : r1 < 0
 ·exact neg c0 (Ev.bind h1 (pos c1 (cons rfl)))
 have q1 := hp1 (by omega)
 have n1 : ph.length ≤ 1048576 := by have := q1.1; omega
 have m1 : ∀ x ∈ ph, x.size ≤ 1048576 := fun x hx => by have := q1.2 x hx; omega
 have hb := bits_book hK hL hS n1 m1
 have hb2 : s.size ≤ 1048576 := by omega
 have t1 := toBook_ev K L S ph n1
 have hsp : spec_ReplacePhrase.f K L S ph i s = some ((Arr.replW K L S ph i s).1.1, (Arr.replW K L S ph i s).1.2.1, (Arr.replW K L S ph i s).1.2.2.1, (Arr.replW K L S ph i s).1.2.2.2, (Arr.replW K L S ph i s).2) := by unfold spec_ReplacePhrase.f; rw [if_pos hb, if_pos hb2]
 have him := implRepl_ev K L S ph i s hb hb2 n1
 have hl := replW_len K L S ph i s
 generalize Arr.replW K L S ph i s = R at *
 obtain ⟨⟨x1, x2, x3, q⟩, x4⟩ := R
 dsimp only at hsp him hl
 have he := eqBook_refl x1 x2 x3 q (by omega)
 refine neg c0 (Ev.bind h1 (neg c1 (Ev.bind t1 (bindc hsp (Ev.bind t1 (Ev.bind him (Ev.bind he (pos rfl ?_))))))))
 refine Ev.step (fun k => by rw [laws_FnExactReplacePhrase.j0]) ?_
 refine neg (by simp) (Ev.bind t1 (Ev.bind (eqBook_refl K L S ph (by omega)) (pos rfl ?_)))
 refine Ev.bind (markBook_ev K L S ph 1 (by omega) (by omega)) (neg (by show ¬ (1 + (ph.length : Int) < 0); omega) (Ev.bind he (pos rfl ?_)))
 refine Ev.step (fun k => by rw [laws_FnExactReplacePhrase.j1]) ?_
 have hk := heldBook_ev x1 x2 x3 q.length 1 (by omega) (by omega)
 refine neg (by simp) (Ev.bind (markBook_ev x1 x2 x3 q 1 (by omega) (by omega)) (Ev.bind hk (neg (by omega) (pos rfl ?_))))
 refine Ev.bind t1 (Ev.bind him (Ev.bind he (pos rfl ?_)))
 refine Ev.step (fun k => by rw [laws_FnExactReplacePhrase.j2]) ?_
 exact neg (by simp) (Ev.bind hk (neg (by omega) (pos rfl (cons rfl))))
end Go.Proofs.Ytckpfodpfplaeaa.Pure
namespace Go.Proofs.Ytckpfodpfplaeaa.Open
open Go.RowKit Go.Proofs.YtckpfodpfplaeaaW.PrintWords Go.Proofs.Ytckpfodpfplaeaa.U Go.Deep
set_option linter.unusedVariables false
set_option linter.unusedSimpArgs false
def Opens {α : Type} (P : Program) (t : TypeId) (d : Kd α) (wf : α → Prop) : Prop :=
 ∀ {H : Type} (enc : TypeId × Value → H) (w : World) (held : Bool) (fuel : Nat) (cs : List Value) (x : DataW H × List MemPlace),
  DataW.trod enc P w 0 (fun _ => true) held fuel t cs = some x → ∃ a, d.K w a cs ∧ wf a
section
variable {P : Program} {t : TypeId}
theorem opens_int {k : IntKind} (ht : P.underlying t = some (.int k)) : Opens P t (Kd.int k) (WfI k) := by
 intro H enc w held fuel cs x h
 obtain ⟨n, rfl, _, hw⟩ := DataW.trod_int ht h
 exact ⟨n, rfl, hw⟩
theorem opens_string (ht : P.underlying t = some .string) : Opens P t Kd.string WfS := by
 intro H enc w held fuel cs x h
 obtain ⟨s, rfl, _, hs⟩ := DataW.trod_string ht h
 exact ⟨s, rfl, hs⟩
theorem list_of {α : Type} (n : Nat) (p : Nat → α → Prop) (h : ∀ i, i < n → ∃ a, p i a) : ∃ l : List α, l.length = n ∧ ∀ (i : Nat) (a : α), l[i]? = some a → p i a := by
 induction n with
 | zero => exact ⟨[], rfl, fun i a hi => by simp at hi⟩
 | succ n ih =>
  obtain ⟨l, hl, hp⟩ := ih (fun i hi => h i (by omega))
  obtain ⟨a, ha⟩ := h n (by omega)
  refine ⟨l ++ [a], by simp [hl], fun i b hb => ?_⟩
  rcases Nat.lt_or_ge i l.length with hi | hi
  ·rw [List.getElem?_append_left hi] at hb; exact hp i b hb
  ·rw [List.getElem?_append_right hi] at hb
   have : i - l.length = 0 := by
    rcases Nat.eq_zero_or_pos (i - l.length) with h0 | h0
    ·exact h0
    ·rw [List.getElem?_eq_none (by simp; omega)] at hb; cases hb
   rw [this] at hb
   simp at hb
   subst hb
   obtain rfl : i = n := by omega
   exact ha
theorem add_mul (a : Addr) (i m j : Nat) : (a.add (i * m)).add j = a.add (i * m + j) := by
 unfold Addr.add
 by_cases h1 : i * m = 0 <;> by_cases h2 : j = 0 <;> simp [h1, h2] <;> omega
theorem opens_slice {α : Type} {e : TypeId} {d : Kd α} {wf : α → Prop} (ht : P.underlying t = some (.slice e)) (hc : P.cellsOf e = d.sz) (he : Opens P e d wf) : Opens P t (Kd.slice e d) (WfL wf) := by
 intro H enc w held fuel cs x h
 rcases open_slice ht h with ⟨rfl, _⟩ | ⟨a, len, cap, m, n, D, Pl, rfl, hb, hl, hm, hmm, rfl, hx⟩
 ·exact ⟨[], ⟨none, 0, rfl, Nat.le_refl _, Kd.C_nil d w⟩, by simp [WfL, maxLen]⟩
 ·simp only [if_true] at hmm
  subst hmm
  have each : ∀ i, i < len → ∃ y : α, (∃ cs', w.cells? 0 (a.add (i * P.cellsOf e)) (P.cellsOf e) = some cs' ∧ d.K w y cs') ∧ wf y := by
   intro i hi
   obtain ⟨cs', h1, h2⟩ := hx i (by omega)
   obtain ⟨y, hy, hwf⟩ := he enc w held n cs' _ h2
   exact ⟨y, ⟨cs', h1, hy⟩, hwf⟩
  obtain ⟨l, hll, hp⟩ := list_of len _ each
  refine ⟨l, ⟨some a, m, by rw [hll], by omega, ⟨rfl, by rw [hll]; unfold maxLen at hm; omega, fun _ => ⟨a, rfl, fun j y hj => ?_⟩⟩⟩, by rw [hll]; omega, fun y hy => ?_⟩
  ·obtain ⟨⟨cs', h1, h2⟩, _⟩ := hp j y hj
   refine ⟨cs', d.K_len h2, h2, fun i u hu => ?_⟩
   obtain ⟨_, hlen, hcell⟩ := World.cells?_some h1
   have hi : i < P.cellsOf e := by rw [← hlen]; exact (List.getElem?_eq_some_iff.1 hu).1
   have := hcell i hi
   rw [add_mul, hc, hu] at this
   exact this
  ·obtain ⟨j, hj, rfl⟩ := List.getElem_of_mem hy
   exact (hp j _ (List.getElem?_eq_getElem hj)).2
theorem opens_four {α : Type} {k0 k1 k2 : IntKind} {e : TypeId} {d : Kd α} {wf : α → Prop} {f0 f1 f2 f3 : Field} (ht : P.underlying t = some (.struct #[f0, f1, f2, f3])) (h0 : P.underlying f0.type = some (.int k0)) (h1 : P.underlying f1.type = some (.int k1)) (h2 : P.underlying f2.type = some (.int k2)) (h3 : P.underlying f3.type = some (.slice e))
  (c0 : P.cellsOf f0.type = 1) (c1 : P.cellsOf f1.type = 1) (c2 : P.cellsOf f2.type = 1) (c3 : P.cellsOf f3.type = 1) (ct : P.cellsOf t = 4) (o0 : f0.offset = 0) (o1 : f1.offset = 1) (o2 : f2.offset = 2) (o3 : f3.offset = 3) (hc : P.cellsOf e = d.sz) (he : Opens P e d wf)
  {H : Type} (enc : TypeId × Value → H) (w : World) (held : Bool) (fuel : Nat) (cs : List Value) (x : DataW H × List MemPlace) (h : DataW.trod enc P w 0 (fun _ => true) held fuel t cs = some x) :
  ∃ (a b c : Int) (A : Option Addr) (m : Nat) (l : List α), cs = [.int k0 a, .int k1 b, .int k2 c, .slice A l.length m] ∧ WfI k0 a ∧ WfI k1 b ∧ WfI k2 c ∧ l.length ≤ m ∧ Kd.C d w A l.length l ∧ WfL wf l := by
 obtain ⟨y0, y1, y2, y3, n, rfl, hl, g0, g1, g2, g3⟩ := Go.Joins.trod_struct4 ht h
 rw [ct] at hl
 match cs, hl with
 | [v0, v1, v2, v3], _ =>
  rw [o0, c0] at g0
  rw [o1, c1] at g1
  rw [o2, c2] at g2
  rw [o3, c3] at g3
  obtain ⟨a, e0, wa⟩ := opens_int h0 enc w held n _ _ g0
  obtain ⟨b, e1, wb⟩ := opens_int h1 enc w held n _ _ g1
  obtain ⟨c, e2, wc⟩ := opens_int h2 enc w held n _ _ g2
  obtain ⟨l, ⟨A, m, e3, hm, hC⟩, wl⟩ := opens_slice h3 hc he enc w held n _ _ g3
  have z0 : [v0] = [Value.int k0 a] := e0
  have z1 : [v1] = [Value.int k1 b] := e1
  have z2 : [v2] = [Value.int k2 c] := e2
  have z3 : [v3] = [Value.slice A l.length m] := e3
  clear e0 e1 e2 e3
  cases z0
  cases z1
  cases z2
  cases z3
  exact ⟨a, b, c, A, m, l, rfl, wa, wb, wc, hm, hC, wl⟩
theorem agg_four {v v0 v1 v2 v3 : Value} (h : v.cells.toList = [v0, v1, v2, v3]) : v = .agg #[v0, v1, v2, v3] := by
 have : ∃ cs, v = .agg cs := by
  cases v <;> first | exact ⟨_, rfl⟩ | (simp [Value.cells] at h)
 obtain ⟨cs, rfl⟩ := this
 have h2 : cs.toList = [v0, v1, v2, v3] := h
 rw [← h2]
end
end Go.Proofs.Ytckpfodpfplaeaa.Open
