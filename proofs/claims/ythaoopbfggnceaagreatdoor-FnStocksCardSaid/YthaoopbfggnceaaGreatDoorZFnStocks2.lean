/- The texts that the statement FnStocks needs, part 2: contracts of the program's functions and plain laws, without what it does not reach. No condition beyond what each theorem says. -/
import Derived.Below
import Derived.Deep.Draws
import Derived.Deep.AppendLies
import Derived.Maps.AppendAt
import Derived.OwnWalk
import Derived.Laws.BytesArg
import Derived.Laws.MakeOwn
import Derived.Laws.OwnMore
import Derived.Deep.OwnRows
import Derived.Tactics
import Derived.Lib.ConvBytes
import Derived.Laws.Slices
import Derived.WalkKit
import Derived.KernelRfl
import Derived.RowKit3
import Derived.Deep.LoopGhost
import Derived.Deep.QuietTactic
import Derived.BigQuiet
import Derived.WideLaws
import Derived.Deep.DeepCutAuto
import Derived.Deep.CutBlock
import Derived.Deep.RegionHeld3
import Derived.Laws.Rows
import Derived.Lib.AppendStr
import Derived.ArgAppend
import Derived.Laws.IdiomCopy
import Derived.RowKit
import Derived.Laws.Tables
import Derived.BigFrame
import Derived.Laws.CopyRow
import Derived.Laws.ResultCell
import Derived.OrdersHeld
import Derived.Laws.BitsLemmas
import Derived.Laws.StructEq
import Derived.Test.YthaoopbfggnceaaGreatDoorProg
import Derived.WalkSpells
import Derived.StillTailTactics
import Derived.Laws.BitsAllLaws
import Derived.ProofKit
import Derived.OpenShut
import Derived.ChangeSame
import Derived.Shelf.Strconv.Itoa4
import Derived.Shelf.Strings.OnBuilder
import Derived.Lib.SplitLaws
import Derived.Lib.ParseIntB
import Derived.Lib.CountLaws
import Derived.Shelf.Strings.SplitShaped
import Derived.Shelf.Strings.Shaped
import Derived.Shelf.Small.Wraps
import Derived.Shelf.Strconv.ErrVarParseInt
import Derived.Lib.SmallJoins
import Derived.Lib.AppendIntMem
import Derived.Lib.ParseIntBTie
import Derived.Deep.Slices
import Derived.Test.YthaoopbfggnceaaGreatDoorRows
import Derived.ShutString
import Derived.ChangeOld
import Derived.SizedLaws
import Derived.HandedShaped
import Derived.LaidMore
import Derived.Lay
import Derived.Stop.Joined
import Derived.Stop.LaidErr
import Derived.Lib.LaidTab
import Derived.Test.YthaoopbfggnceaaGreatDoorCards
import Derived.Test.YthaoopbfggnceaaGreatDoorTie
import Derived.SevenTiedAt
import Derived.Test.YthaoopbfggnceaaGreatDoorZFnStocks1
namespace Go.Proofs.YthaoopbfggnceaaGreatDoor.Arr
open Go.RowKit Go.Proofs.YthaoopbfggnceaaGreatDoorW.PrintWords Go.Proofs.YthaoopbfggnceaaGreatDoorW.PrintLast Go.Proofs.YthaoopbfggnceaaGreatDoorW.PrintMore Go.Proofs.YthaoopbfggnceaaGreatDoor.U Go.Proofs.YthaoopbfggnceaaGreatDoor.L
set_option linter.unusedVariables false
set_option linter.unusedSimpArgs false
def Lks (w : World) (g : Nat) (l : List (List Int)) : Prop := ∀ (i : Nat) (L : List Int), l[i]? = some L → L.length = 44 ∧ Fits .i16 L ∧ ∀ j, j < 44 → w.cell? ⟨g, i * 44 + j, none⟩ = some (.int .i16 (rd L (j : Int)))
theorem Lks.below {w w' : World} {g : Nat} {l : List (List Int)} (h : Lks w g l) (hb : Below w.heap.size w w') : Lks w' g l := fun i L hi => by
 obtain ⟨h1, h2, h3⟩ := h i L hi
 exact ⟨h1, h2, fun j hj => (hb.cell (World.block_lt_of_cell? w _ (h3 j hj))).trans (h3 j hj)⟩
set_option maxHeartbeats 4000000 in
set_option maxRecDepth 100000 in
theorem indexFunc_lk (f : FuncId) (hg : ∀ (a : Array Value) (W : World), (callFunc f a).run Tryz.prog W = .ok (.enter f a) W) (cap : Array Value) (g : Nat) (p : List Int → Bool) (l0 : List (List Int)) (w : World) (hr0 : Lks w g l0) (hmx : l0.length ≤ 1000)
  (hf : ∀ x ∈ l0, ∀ W, Below w.heap.size w W → Calls Tryz.prog f (#[.agg (vals .i16 x)] ++ cap) W fun e W' => e = .returned (.bool (p x)) ∧ Below W.heap.size W W') :
  Calls Tryz.prog 91 #[.slice (some ⟨g, 0, none⟩) l0.length l0.length, .func (.func f) #[] cap] w fun e w' => e = .returned (.int .i64 (ixa p l0)) ∧ Below w.heap.size w w' := by
 have HF := Aside0.mk hf
 have HR0 := Aside0.mk hr0
 clear hf hr0
 go_enter Tryz.func91, Tryz.ntmps91
 go_wp2_with fail
 go_loopw [8, 5] (fun v8 v5 wr => ∃ i : Nat, i ≤ l0.length ∧ v8 = .int .i64 i ∧ Aside0 (Below w.heap.size w wr) ∧ Aside0 (∀ j, j < i → ∀ y, l0[j]? = some y → p y = false)) (fun v8 _ _ => l0.length - (intOf v8).toNat)
 case atStart => exact ⟨0, Nat.zero_le _, rfl, ⟨Below.refl _ _⟩, ⟨fun j hj => absurd hj (by omega)⟩⟩
 case round =>
  obtain ⟨i, hi, rfl, HB, HP⟩ := hrel
  by_cases hlt : i < l0.length
  ·obtain ⟨x, hx⟩ : ∃ x, l0[i]? = some x := ⟨_, List.getElem?_eq_getElem hlt⟩
   obtain ⟨hl44, _, hcl⟩ := (HR0.out.below HB.out) i x hx
   have HM := Aside0.mk (HF.out x (List.mem_of_getElem? hx) _ HB.out)
   have HX := Aside0.mk hx
   have HCL := Aside0.mk hcl
   clear hx hcl
   cases hp : p x with
   | true =>
    have HPX := Aside0.mk hp
    rw [hp] at HM
    clear hp
    go_wp2_with (first
     | ((with_reducible refine gt_elem 111 ?_); refine st_selem rfl _ _ _ rfl rfl rfl Tryz.underlying111 agg28.2 hlt ?_)
     | ((with_reducible refine gt_load 28 ?_); refine st_loadc rfl _ _ rfl rfl hl44 HCL.out agg28 ?_)
     | (refine HM.out.mono ?_; rintro e w1 ⟨rfl, hb1⟩; have HB1 := Aside0.mk hb1; clear hb1))
    go_ret
    exact ⟨by rw [ixa_found p l0 i x HX.out HP.out HPX.out]; rfl, below_then HB.out HB1.out⟩
   | false =>
    have HPX := Aside0.mk hp
    rw [hp] at HM
    clear hp
    go_wp2_with (first
     | ((with_reducible refine gt_elem 111 ?_); refine st_selem rfl _ _ _ rfl rfl rfl Tryz.underlying111 agg28.2 hlt ?_)
     | ((with_reducible refine gt_load 28 ?_); refine st_loadc rfl _ _ rfl rfl hl44 HCL.out agg28 ?_)
     | (refine HM.out.mono ?_; rintro e w1 ⟨rfl, hb1⟩; have HB1 := Aside0.mk hb1; clear hb1))
    go_roundw
    case rel => exact ⟨i + 1, by omega, by go_num, ⟨below_then HB.out HB1.out⟩, ⟨fun j hj y hy => by
     rcases Nat.lt_or_ge j i with h | h
     ·exact HP.out j h y hy
     ·obtain rfl : j = i := by omega
      rw [HX.out] at hy
      rw [← Option.some.inj hy]; exact HPX.out⟩⟩
    case measure => simp [intOf]; omega
  ·have HI := Aside0.mk (show i = l0.length by omega)
   go_wp2_with fail
   go_ret
   exact ⟨by rw [ixa_none p l0 (fun j hj => HP.out j (by rw [HI.out]; exact hj))]; rfl, HB.out⟩
set_option maxHeartbeats 4000000 in
set_option maxRecDepth 100000 in
theorem containsFunc_lk (f : FuncId) (hg : ∀ (a : Array Value) (W : World), (callFunc f a).run Tryz.prog W = .ok (.enter f a) W) (cap : Array Value) (g : Nat) (p : List Int → Bool) (l0 : List (List Int)) (w : World) (hr0 : Lks w g l0) (hmx : l0.length ≤ 1000)
  (hf : ∀ x ∈ l0, ∀ W, Below w.heap.size w W → Calls Tryz.prog f (#[.agg (vals .i16 x)] ++ cap) W fun e W' => e = .returned (.bool (p x)) ∧ Below W.heap.size W W') :
  Calls Tryz.prog 68 #[.slice (some ⟨g, 0, none⟩) l0.length l0.length, .func (.func f) #[] cap] w fun e w' => e = .returned (.bool (l0.any p)) ∧ Below w.heap.size w w' := by
 have HM := Aside0.mk (indexFunc_lk f hg cap g p l0 w hr0 hmx hf)
 have HA := Aside0.mk (ixa_any p l0)
 clear hf hr0 hg
 generalize ixa p l0 = n at *
 generalize l0.any p = b at *
 go_enter Tryz.func68, Tryz.ntmps68
 go_wp2_with (go_at_call 91; refine HM.out.mono ?_; rintro e w1 ⟨rfl, hb1⟩; have HB1 := Aside0.mk hb1; clear hb1)
 go_ret
 exact ⟨by rw [← HA.out]; rfl, HB1.out⟩
set_option maxHeartbeats 4000000 in
set_option maxRecDepth 100000 in
theorem lockerCode1_calls (L : List Int) (w : World) (hl : L.length = 44) (hw : Fits .i16 L) : Calls Tryz.prog 69 (#[.agg (vals .i16 L)] ++ #[]) w fun e w' => e = .returned (.bool (!okL L)) ∧ Below w.heap.size w w' := by
 have hm := Mem.start w
 have HW := Aside0.mk hw
 clear hw
 go_enter Tryz.func69, Tryz.ntmps69
 go_wp2_with (first
  | (first | fail | ((with_reducible refine gt_box 1 28 ?_); refine st_box rfl 1 rfl 28 _ rfl hm (v := .agg (vals _ _)) rfl (cs := vals _ _) rfl ?_; clear hm; intro g1 w1 hm) | ((with_reducible refine gt_load 28 ?_); (first | (refine st_load rfl 28 _ rfl hm rfl 0 rfl agg28 (by first | omega | assumption | (simp only [lens]; first | omega | assumption) | (simp [lens]; done) | (simp [lens]; omega)) ?_) | (refine st_load rfl 28 _ rfl hm rfl 1 rfl agg28 (by first | omega | assumption | (simp only [lens]; first | omega | assumption) | (simp [lens]; done) | (simp [lens]; omega)) ?_) | (refine st_load rfl 28 _ rfl hm rfl 2 rfl agg28 (by first | omega | assumption | (simp only [lens]; first | omega | assumption) | (simp [lens]; done) | (simp [lens]; omega)) ?_))))
  | (go_at_call 11; refine (implValid_calls _ _ hl HW.out).mono ?_; rintro e wa ⟨rfl, hb⟩; replace hm := hm.after hb; clear hb))
 go_ret
 exact ⟨rfl, hm.done rfl⟩
theorem lockerCode1_enters (a : Array Value) (W : World) : (callFunc 69 a).run Tryz.prog W = .ok (.enter 69 a) W := by kernel_rfl
set_option maxHeartbeats 4000000 in
set_option maxRecDepth 100000 in
theorem lockerCode_calls (g : Nat) (l : List (List Int)) (w : World) (h : Lks w g l) (hmx : l.length ≤ 1000) : Calls Tryz.prog 40 #[.slice (some ⟨g, 0, none⟩) l.length l.length] w fun e w' =>
  e = .returned (.int .i64 (if l.all okL = true then 0 else 1)) ∧ Below w.heap.size w w' := by
 have HM := Aside0.mk (containsFunc_lk 69 lockerCode1_enters #[] g (fun L => !okL L) l w h hmx (fun x hx W _ => by
  obtain ⟨i, hi, rfl⟩ := List.getElem_of_mem hx
  obtain ⟨h1, h2, _⟩ := h i _ (List.getElem?_eq_getElem hi)
  exact lockerCode1_calls _ W h1 h2))
 have HA := Aside0.mk (show (!l.any fun L => !okL L) = l.all okL by simp [List.all_eq_not_any_not])
 clear h
 rw [← HA.out]
 clear HA
 generalize (l.any fun L => !okL L) = c at *
 cases c
 all_goals
  go_enter Tryz.func40, Tryz.ntmps40
  go_wp2_with (first
   | (go_at_call 68; refine HM.out.mono ?_; rintro e wa ⟨rfl, hb⟩; have HB := Aside0.mk hb; clear hb)
   | (go_at_call 53; refine (impl_unless.calls _ _ _ _ rfl).mono ?_; rintro e wa ⟨rfl, hb2⟩; have HB2 := Aside0.mk hb2.below; clear hb2))
  go_ret
  exact ⟨rfl, below_then HB.out HB2.out⟩
theorem lks1 {w0 w : World} {M : List Ent} {n g : Nat} {L : List Int} {t : TypeId} {o : Bool} (hm : Mem w0 w M) (hn : M[n]? = some ⟨g, vals .i16 L, t, o⟩) (hl : L.length = 44) (hw : Fits .i16 L) : Lks w g [L] := fun i L' hi => by
 rcases i with _ | i
 ·rw [List.getElem?_cons_zero] at hi
  cases hi
  exact ⟨hl, hw, fun j hj => by rw [Nat.zero_mul, Nat.zero_add]; exact hm.get hn j (by omega)⟩
 ·simp at hi
theorem lks2 {w0 w : World} {M : List Ent} {n g : Nat} {L L' : List Int} {t : TypeId} {o : Bool} (hm : Mem w0 w M) (hn : M[n]? = some ⟨g, vals .i16 (L ++ L'), t, o⟩) (hl : L.length = 44) (hw : Fits .i16 L) (hl' : L'.length = 44) (hw' : Fits .i16 L') : Lks w g [L, L'] := fun i K hi => by
 have hget := fun (a : Nat) (ha : a < 88) => hm.get hn a (by simp only [lens]; omega)
 rcases i with _ | _ | i
 ·rw [List.getElem?_cons_zero] at hi
  cases hi
  refine ⟨hl, hw, fun j hj => ?_⟩
  rw [Nat.zero_mul, Nat.zero_add, hget j (by omega), rd_get _ j (by simp only [lens]; omega), rd_get _ j (by omega), List.getElem_append_left (by omega)]
 ·rw [List.getElem?_cons_succ, List.getElem?_cons_zero] at hi
  cases hi
  refine ⟨hl', hw', fun j hj => ?_⟩
  rw [Nat.zero_add, Nat.one_mul, hget (44 + j) (by omega), rd_get _ (44 + j) (by simp only [lens]; omega), rd_get _ j (by omega), List.getElem_append_right (by omega)]
  congr 3
  omega
 ·simp at hi
def psum (L : List Int) : Nat → Int
 | 0 => 0
 | i + 1 => psum L i + rd L (i : Int)
theorem psum_le {L : List Int} {b : Int} (h : ∀ x ∈ L, 0 ≤ x ∧ x ≤ b) : ∀ i : Nat, i ≤ L.length → 0 ≤ psum L i ∧ psum L i ≤ b * i
 | 0, _ => by simp [psum]
 | i + 1, hi => by
  have h1 := psum_le h i (by omega)
  have h2 := h _ (rd_in L i (by omega))
  have e : b * ((i + 1 : Nat) : Int) = b * (i : Int) + b := by rw [show ((i + 1 : Nat) : Int) = (i : Int) + 1 by omega, Int.mul_add, Int.mul_one]
  simp only [psum]
  rw [e]
  omega
theorem okL_in {L : List Int} (h : okL L = true) : ∀ x ∈ L, 0 ≤ x ∧ x ≤ 20 := fun x hx => by
 have := List.all_eq_true.1 h x hx
 simpa [okx] using this
set_option maxHeartbeats 4000000 in
set_option maxRecDepth 100000 in
theorem count_calls (L : List Int) (w : World) (hl : L.length = 44) (hw : ∀ x ∈ L, 0 ≤ x ∧ x ≤ 20000) :
  Calls Tryz.prog 47 #[.agg (vals .i64 L)] w fun e w' => e = .returned (.int .i64 (psum L 44)) ∧ Below w.heap.size w w' := by
 have hm := Mem.start w
 have HW := Aside0.mk hw
 clear hw
 go_enter Tryz.func47, Tryz.ntmps47
 go_wp2_with (first
  | (first | fail | ((with_reducible refine gt_box 1 55 ?_); refine st_box rfl 1 rfl 55 _ rfl hm (v := .agg (vals _ _)) rfl (cs := vals _ _) rfl ?_; clear hm; intro g1 w1 hm) | ((with_reducible refine gt_load 3 ?_); (first | (refine st_get rfl 3 _ rfl hm rfl 0 rfl one3 (by first | omega | assumption | (simp only [lens]; first | omega | assumption) | (simp [lens]; done) | (simp [lens]; omega)) ?_) | (refine st_get rfl 3 _ rfl hm rfl 1 rfl one3 (by first | omega | assumption | (simp only [lens]; first | omega | assumption) | (simp [lens]; done) | (simp [lens]; omega)) ?_) | (refine st_get rfl 3 _ rfl hm rfl 2 rfl one3 (by first | omega | assumption | (simp only [lens]; first | omega | assumption) | (simp [lens]; done) | (simp [lens]; omega)) ?_))))
  | (go_at_call 38; refine (all_calls _ _).mono ?_; rintro e wa ⟨v, rfl, hR, hb⟩; replace hm := hm.after hb; clear hb; obtain ⟨A, c, rfl, hc, hC⟩ := Kd.R_reads hR; have HC := Aside0.mk hC; have Hc := Aside0.mk hc; clear hC hc hR; rw [List.length_range] at *))
 go_loopw [8, 3, 5] (fun v8 v3 v5 wr => ∃ i : Nat, i ≤ 44 ∧ v8 = .int .i64 i ∧ v3 = .int .i64 (psum L i) ∧ Aside0 (Below wa.heap.size wa wr) ∧ Mem w wr [⟨g1, vals .i64 L, 55, true⟩]) (fun v8 _ _ _ => 44 - (intOf v8).toNat)
 case atStart => exact ⟨0, by omega, rfl, rfl, ⟨Below.refl _ _⟩, hm⟩
 case round =>
  obtain ⟨i, hi, rfl, rfl, HB, hm⟩ := hrel
  have hs := psum_le HW.out i (by omega)
  generalize hS : psum L i = S at *
  have HS := Aside0.mk hS
  clear hS
  by_cases hlt : i < 44
  ·have hx16 := HW.out _ (rd_in L i (by omega))
   obtain ⟨ad, rfl, hcell⟩ := at_scalar HC.out i i (by rw [List.getElem?_range hlt]) hlt
   replace hcell := (HB.out.cell (World.block_lt_of_cell? wa _ hcell)).trans hcell
   go_wp2_with (first | fail | ((with_reducible refine gt_box 1 55 ?_); refine st_box rfl 1 rfl 55 _ rfl hm (v := .agg (vals _ _)) rfl (cs := vals _ _) rfl ?_; clear hm; intro g1 w1 hm) | ((with_reducible refine gt_load 3 ?_); (first | (refine st_get rfl 3 _ rfl hm rfl 0 rfl one3 (by first | omega | assumption | (simp only [lens]; first | omega | assumption) | (simp [lens]; done) | (simp [lens]; omega)) ?_) | (refine st_get rfl 3 _ rfl hm rfl 1 rfl one3 (by first | omega | assumption | (simp only [lens]; first | omega | assumption) | (simp [lens]; done) | (simp [lens]; omega)) ?_) | (refine st_get rfl 3 _ rfl hm rfl 2 rfl one3 (by first | omega | assumption | (simp only [lens]; first | omega | assumption) | (simp [lens]; done) | (simp [lens]; omega)) ?_))))
   go_roundw
   case rel =>
    refine ⟨i + 1, by omega, by go_num, ?_, HB, hm⟩
    rw [psum, HS.out]
    all_goals (first | rfl | (congr 1; unfold wrap64; omega))
   case measure => simp [intOf]; omega
  ·have HI := Aside0.mk (show i = 44 by omega)
   go_wp2_with (first | fail | ((with_reducible refine gt_box 1 55 ?_); refine st_box rfl 1 rfl 55 _ rfl hm (v := .agg (vals _ _)) rfl (cs := vals _ _) rfl ?_; clear hm; intro g1 w1 hm) | ((with_reducible refine gt_load 3 ?_); (first | (refine st_get rfl 3 _ rfl hm rfl 0 rfl one3 (by first | omega | assumption | (simp only [lens]; first | omega | assumption) | (simp [lens]; done) | (simp [lens]; omega)) ?_) | (refine st_get rfl 3 _ rfl hm rfl 1 rfl one3 (by first | omega | assumption | (simp only [lens]; first | omega | assumption) | (simp [lens]; done) | (simp [lens]; omega)) ?_) | (refine st_get rfl 3 _ rfl hm rfl 2 rfl one3 (by first | omega | assumption | (simp only [lens]; first | omega | assumption) | (simp [lens]; done) | (simp [lens]; omega)) ?_))))
   go_ret
   refine ⟨?_, hm.done rfl⟩
   rw [← HI.out, HS.out]; rfl
set_option maxHeartbeats 4000000 in
set_option maxRecDepth 100000 in
theorem implCount_calls (L : List Int) (w : World) (hl : L.length = 44) (hw : Fits .i16 L) : Calls Tryz.prog 18 #[.agg (vals .i16 L)] w fun e w' =>
  e = .returned (if okL L = true then .tuple #[.int .i64 (psum L 44), .int .i64 0] else .tuple #[.int .i64 0, .int .i64 1]) ∧ Below w.heap.size w w' := by
 have hm := Mem.start w
 have HW := Aside0.mk hw
 clear hw
 cases hok : okL L with
 | true =>
  have HK := Aside0.mk (show (if [L].all okL = true then (0 : Int) else 1) = 0 by simp [hok])
  have HB := Aside0.mk (fun (x : Int) (hx : x ∈ L) => (⟨(okL_in hok x hx).1, by have := (okL_in hok x hx).2; omega⟩ : 0 ≤ x ∧ x ≤ 20000))
  clear hok
  go_enter Tryz.func18, Tryz.ntmps18
  go_wp2_with (first
   | (first | fail | ((with_reducible refine gt_box 1 28 ?_); refine st_box rfl 1 rfl 28 _ rfl hm (v := .agg (vals _ _)) rfl (cs := vals _ _) rfl ?_; clear hm; intro g1 w1 hm) | ((with_reducible refine gt_load 28 ?_); (first | (refine st_load rfl 28 _ rfl hm rfl 0 rfl agg28 (by first | omega | assumption | (simp only [lens]; first | omega | assumption) | (simp [lens]; done) | (simp [lens]; omega)) ?_) | (refine st_load rfl 28 _ rfl hm rfl 1 rfl agg28 (by first | omega | assumption | (simp only [lens]; first | omega | assumption) | (simp [lens]; done) | (simp [lens]; omega)) ?_) | (refine st_load rfl 28 _ rfl hm rfl 2 rfl agg28 (by first | omega | assumption | (simp only [lens]; first | omega | assumption) | (simp [lens]; done) | (simp [lens]; omega)) ?_))) | (refine st_lit1 rfl 6 rfl 111 _ rfl hm rfl Tryz.underlying111 agg28 zero28 (by first | omega | assumption | (simp only [lens]; first | omega | assumption) | (simp [lens]; done) | (simp [lens]; omega))  (by decide) (by decide) ?_; clear hm; intro g6 w6 hm))
   | (go_at_call 40; refine (lockerCode_calls _ [L] _ (lks1 hm (n := 0) rfl hl HW.out) (by simp)).mono ?_; rintro e wa ⟨rfl, hb⟩; replace hm := hm.after hb; clear hb; rw [HK.out])
   | (go_at_call 36; refine (pieces_calls _ _ hl HW.out).mono ?_; rintro e wa ⟨rfl, hb⟩; replace hm := hm.after hb; clear hb)
   | (go_at_call 47; refine (count_calls _ _ hl HB.out).mono ?_; rintro e wa ⟨rfl, hb⟩; replace hm := hm.after hb; clear hb))
  go_ret2
  exact ⟨rfl, hm.done rfl⟩
 | false =>
  have HK := Aside0.mk (show (if [L].all okL = true then (0 : Int) else 1) = 1 by simp [hok])
  clear hok
  go_enter Tryz.func18, Tryz.ntmps18
  go_wp2_with (first
   | (first | fail | ((with_reducible refine gt_box 1 28 ?_); refine st_box rfl 1 rfl 28 _ rfl hm (v := .agg (vals _ _)) rfl (cs := vals _ _) rfl ?_; clear hm; intro g1 w1 hm) | ((with_reducible refine gt_load 28 ?_); (first | (refine st_load rfl 28 _ rfl hm rfl 0 rfl agg28 (by first | omega | assumption | (simp only [lens]; first | omega | assumption) | (simp [lens]; done) | (simp [lens]; omega)) ?_) | (refine st_load rfl 28 _ rfl hm rfl 1 rfl agg28 (by first | omega | assumption | (simp only [lens]; first | omega | assumption) | (simp [lens]; done) | (simp [lens]; omega)) ?_) | (refine st_load rfl 28 _ rfl hm rfl 2 rfl agg28 (by first | omega | assumption | (simp only [lens]; first | omega | assumption) | (simp [lens]; done) | (simp [lens]; omega)) ?_))) | (refine st_lit1 rfl 6 rfl 111 _ rfl hm rfl Tryz.underlying111 agg28 zero28 (by first | omega | assumption | (simp only [lens]; first | omega | assumption) | (simp [lens]; done) | (simp [lens]; omega))  (by decide) (by decide) ?_; clear hm; intro g6 w6 hm))
   | (go_at_call 40; refine (lockerCode_calls _ [L] _ (lks1 hm (n := 0) rfl hl HW.out) (by simp)).mono ?_; rintro e wa ⟨rfl, hb⟩; replace hm := hm.after hb; clear hb; rw [HK.out]))
  go_ret2
  exact ⟨rfl, hm.done rfl⟩
end Go.Proofs.YthaoopbfggnceaaGreatDoor.Arr
namespace Go.Proofs.YthaoopbfggnceaaGreatDoor.Arr
open Go.RowKit Go.Proofs.YthaoopbfggnceaaGreatDoorW.PrintWords Go.Proofs.YthaoopbfggnceaaGreatDoor.U
set_option linter.unusedVariables false
set_option linter.unusedSimpArgs false
section
variable {P : Program} (w : World)
theorem run_part1 {e : TypeId} {k : IntKind} {L : List Int} {i : Nat} (h1 : OneTy P e) (hi : i < L.length) : (part e (vals k L) i).run P w = .ok (.int k (rd L (i : Int))) w := by
 obtain ⟨hd, _⟩ := h1
 have hagg : (isAgg e).run P w = .ok false w := by
  unfold isAgg
  cases hu : P.underlying e with
  | none => simp [hu] at hd
  | some d =>
   rw [Sem.run_bind, run_underlying hu w]
   cases d <;> simp_all
 simp [part, Sem.run_bind, hagg, vals_get hi]
theorem run_partA {t : TypeId} {k : IntKind} {L : List Int} {i m : Nat} (h1 : AggTy P t m) : (part t (vals k L) i).run P w = .ok (.agg (vals k ((L.drop i).take m))) w := by
 obtain ⟨hd, hi⟩ := h1
 have hagg : (isAgg t).run P w = .ok true w := by
  unfold isAgg
  cases hu : P.underlying t with
  | none => simp [hu] at hd
  | some d =>
   rw [Sem.run_bind, run_underlying hu w]
   cases d <;> simp_all
 have hsz : (sizeOf t).run P w = .ok m w := by
  cases hq : P.info? t with
  | none => simp [hq] at hi
  | some i => simp [sizeOf, typeInfo, hq, Sem.run_bind]; simpa [hq] using hi
 simp [part, Sem.run_bind, hagg, hsz, vals_extract, List.drop_take]
theorem run_equalIn_arr {t e : TypeId} {k : IntKind} {m d : Nat} {L L' : List Int} (hu : P.underlying t = some (.array m e)) (h1 : OneTy P e) (hl : L.length = m) (hl' : L'.length = m)
  (hE : ∀ a b, (Op.equalIn d e (.int k a) (.int k b)).run P w = .ok (a == b) w) :
  (Op.equalIn (d + 1) t (.agg (vals k L)) (.agg (vals k L'))).run P w = .ok (decide (L = L')) w := by
 have hsz : (sizeOf e).run P w = .ok 1 w := by
  obtain ⟨_, hi⟩ := h1
  cases hq : P.info? e with
  | none => simp [hq] at hi
  | some i => simp [sizeOf, typeInfo, hq, Sem.run_bind]; simpa [hq] using hi
 simp only [Op.equalIn, Sem.run_bind, run_underlying hu w, hsz, Result.andThen_ok]
 rw [Std.Legacy.Range.forIn_eq_forIn_range']
 have key : ∀ (F : Option Bool × PUnit → World → Result Bool) (_ : ∀ w', F (none, ()) w' = .ok true w') (_ : ∀ r w', F (some r, ()) w' = .ok r w') (n j : Nat) (b : Bool), j + n = m → (∀ i : Nat, i < j → rd L (i : Int) = rd L' (i : Int)) → b = decide (L = L') →
   (Sem.run P (forIn (List.range' j n 1) ((none : Option Bool), ()) fun i __s => do
      let __do_lift ← part e (vals k L) (i * 1)
      let __do_lift_1 ← part e (vals k L') (i * 1)
      let __do_lift ← Op.equalIn d e __do_lift __do_lift_1
      if (!__do_lift) = true then pure (ForInStep.done (some false, ()))
       else pure (ForInStep.yield (none, ()))) w).andThen F = .ok b w := by
  intro F hF1 hF2 n
  induction n with
  | zero =>
   intro j b hj hs hb
   have e : L = L' := by
    apply toList hl hl'
    intro i hi
    exact rd_opt (by omega) (by omega) (hs i (by omega))
   rw [decide_eq_true e] at hb
   subst hb
   simp [hF1]
  | succ n ih =>
   intro j b hj hs hb
   rw [List.range'_succ]
   simp only [List.forIn_cons, Sem.run_bind, Nat.mul_one, run_part1 w h1 (show j < L.length by omega), run_part1 w h1 (show j < L'.length by omega), Result.andThen_ok, hE]
   by_cases hx : rd L (j : Int) = rd L' (j : Int)
   ·have h3 := ih (j + 1) b (by omega) (fun i hi => by
     rcases Nat.lt_or_ge i j with h | h
     ·exact hs i h
     ·obtain rfl : i = j := by omega
      exact hx) hb
    simp only [hx, beq_self_eq_true, Bool.not_true, Bool.false_eq_true, if_false, Sem.run_pure, Result.andThen_ok]
    simpa [Nat.mul_one] using h3
   ·have hf : (rd L (j : Int) == rd L' (j : Int)) = false := by simpa using hx
    have hb2 : b = false := by
     rw [hb]
     exact decide_eq_false fun e => hx (by rw [e])
    subst hb2
    simp [hf, hF2]
 have hsize : Std.Legacy.Range.size [:m] = m := by simp [Std.Legacy.Range.size]
 rw [hsize]
 refine key _ ?_ ?_ m 0 _ (by omega) (fun i hi => absurd hi (by omega)) rfl
 ·intro _; rfl
 ·intro _ _; rfl
theorem run_eqFields_two {k : IntKind} {d m0 m1 : Nat} {L L' : List Int} {f0 f1 : Field} (hn0 : (f0.name == "_") = false) (hn1 : (f1.name == "_") = false) (h0 : AggTy P f0.type m0) (h1 : AggTy P f1.type m1) (ho0 : f0.offset = 0) (ho1 : f1.offset = m0)
  (hl : L.length = m0 + m1) (hl' : L'.length = m0 + m1)
  (hE0 : ∀ A B : List Int, A.length = m0 → B.length = m0 → (Op.equalIn d f0.type (.agg (vals k A)) (.agg (vals k B))).run P w = .ok (decide (A = B)) w)
  (hE1 : ∀ A B : List Int, A.length = m1 → B.length = m1 → (Op.equalIn d f1.type (.agg (vals k A)) (.agg (vals k B))).run P w = .ok (decide (A = B)) w) :
  (Op.eqFields d (vals k L) (vals k L') [f0, f1]).run P w = .ok (decide (L = L')) w := by
 have e0 := hE0 ((L.drop 0).take m0) ((L'.drop 0).take m0) (by simp; omega) (by simp; omega)
 have e1 := hE1 ((L.drop m0).take m1) ((L'.drop m0).take m1) (by simp; omega) (by simp; omega)
 have hsp : ∀ K : List Int, K.length = m0 + m1 → K = (K.drop 0).take m0 ++ (K.drop m0).take m1 := fun K hK => by
  rw [List.drop_zero, List.take_of_length_le (l := K.drop m0) (by simp; omega), List.take_append_drop]
 have g := eqf_cons (P := P) (d := d) (xs := vals k L) (ys := vals k L') (f := f0) (fs := [f1]) hn0 (run_partA w h0) (run_partA w h0) (by rw [ho0]; exact e0)
  (eqf_last hn1 (run_partA w h1) (run_partA w h1) (by rw [ho1]; exact e1))
 rw [g]
 congr 1
 by_cases h2 : (L.drop 0).take m0 = (L'.drop 0).take m0
 ·by_cases h3 : (L.drop m0).take m1 = (L'.drop m0).take m1
  ·have : L = L' := (hsp L hl).trans ((by rw [h2, h3] : _ = _).trans (hsp L' hl').symm)
   simp [h2, h3, this]
  ·have hne : L ≠ L' := fun e => h3 (by rw [e])
   rw [decide_eq_false h3, decide_eq_false hne, Bool.and_false]
 ·have hne : L ≠ L' := fun e => h2 (by rw [e])
  rw [decide_eq_false h2, decide_eq_false hne, Bool.false_and]
def EqTy (P : Program) (t : TypeId) (k : IntKind) (m : Nat) : Prop := P.eqGuardType P.depth t = false ∧ ∀ (w : World) (L L' : List Int), L.length = m → L'.length = m → (Op.equalIn 10000 t (.agg (vals k L)) (.agg (vals k L'))).run P w = .ok (decide (L = L')) w
theorem st_eql {ops : Array Oper} {rest : List Oper} {o : Oper} {a : Act} {Q : Exit → Act → World → Prop} {w : World} (hgd : o.guard = none) (t t' : TypeId) (x y : Operand) (ho : o.op = .binOp .eql t x y t') {k : IntKind} {m : Nat} {L L' : List Int} (hx : a.eval x = .agg (vals k L)) (hy : a.eval y = .agg (vals k L'))
  (he : EqTy P t k m) (hl : L.length = m) (hl' : L'.length = m) (h : wpList P ops Q rest (a.put o.dst (.bool (decide (L = L')))) w) : wpList P ops Q (o :: rest) a w := by
 refine wpList_plain hgd fun K hK => ?_
 unfold Oper.wp execOp
 simp only [ho, hx, hy, Sem.run_bind, run_eqGuard_agg w .eql t x y _ _ he.1, Result.andThen_ok, run_eql_struct, he.2 w L L' hl hl', Sem.run_pure]
 exact hK _ _ h
end
theorem eqTy_two {P : Program} {t : TypeId} {k : IntKind} {m0 m1 : Nat} {e0 e1 : TypeId} {f0 f1 : Field} (hg : P.eqGuardType P.depth t = false) (ht : P.underlying t = some (.struct #[f0, f1])) (hst : P.stoodInHeld t = false)
  (hn0 : (f0.name == "_") = false) (hn1 : (f1.name == "_") = false) (h0 : AggTy P f0.type m0) (h1 : AggTy P f1.type m1) (ho0 : f0.offset = 0) (ho1 : f1.offset = m0)
  (hu0 : P.underlying f0.type = some (.array m0 e0)) (hu1 : P.underlying f1.type = some (.array m1 e1)) (he0 : P.underlying e0 = some (.int k)) (he1 : P.underlying e1 = some (.int k)) (h10 : OneTy P e0) (h11 : OneTy P e1) : EqTy P t k (m0 + m1) := by
 refine ⟨hg, fun w L L' hl hl' => ?_⟩
 have hf : P.fieldsOf t = #[f0, f1] := by unfold Program.fieldsOf; rw [ht]
 rw [run_equalIn_struct w 9999 t _ _ (by rw [hf]; exact ht) hst, hf]
 exact run_eqFields_two w hn0 hn1 h0 h1 ho0 ho1 hl hl' (fun A B hA hB => run_equalIn_arr w hu0 h10 hA hB (fun a b => run_equalIn_int w 9997 e0 k k a b he0)) (fun A B hA hB => run_equalIn_arr w hu1 h11 hA hB (fun a b => run_equalIn_int w 9997 e1 k k a b he1))
theorem eqPieces : EqTy Tryz.prog 55 .i64 44 :=
 eqTy_two (by kernel_rfl) Tryz.underlying55 (by kernel_rfl) rfl rfl agg52 agg53 rfl rfl Tryz.underlying52 Tryz.underlying53 Tryz.underlying3 Tryz.underlying3 one3 one3
end Go.Proofs.YthaoopbfggnceaaGreatDoor.Arr
namespace Go.Proofs.YthaoopbfggnceaaGreatDoor.Arr
open Go.RowKit Go.Proofs.YthaoopbfggnceaaGreatDoorW.PrintWords Go.Proofs.YthaoopbfggnceaaGreatDoorW.PrintLast Go.Proofs.YthaoopbfggnceaaGreatDoorW.PrintMore Go.Proofs.YthaoopbfggnceaaGreatDoor.U Go.Proofs.YthaoopbfggnceaaGreatDoor.L
set_option linter.unusedVariables false
set_option linter.unusedSimpArgs false
theorem Mem.add {w0 w : World} {M : List Ent} {g : Nat} {cs : Array Value} {t : TypeId} (h : Mem w0 w M) (hg : w.heap[g]? = some (.cells cs t (0, 0))) (hb : w0.heap.size ≤ g) (hne : ∀ e ∈ M, e.g ≠ g) : Mem w0 w (⟨g, cs, t, true⟩ :: M) := by
 refine ⟨h.os, h.tape, h.output, h.size, fun k hk hn => h.block k hk fun e he => hn e (List.mem_cons_of_mem _ he), fun e he => ?_, fun m n e f hm hn hef => ?_⟩
 ·rcases List.mem_cons.1 he with rfl | he
  ·exact ⟨hg, fun _ => hb⟩
  ·exact h.ent e he
 ·rcases m with _ | m <;> rcases n with _ | n
  ·rfl
  ·simp only [List.getElem?_cons_zero, Option.some.injEq, List.getElem?_cons_succ] at hm hn
   subst hm
   exact absurd hef.symm (hne f (List.mem_of_getElem? hn))
  ·simp only [List.getElem?_cons_zero, Option.some.injEq, List.getElem?_cons_succ] at hm hn
   subst hn
   exact absurd hef (hne e (List.mem_of_getElem? hm))
  ·simp only [List.getElem?_cons_succ] at hm hn
   rw [h.apart m n e f hm hn hef]
theorem Mem.lt {w0 w : World} {M : List Ent} (h : Mem w0 w M) : ∀ e ∈ M, e.g < w.heap.size := fun e he => lt_of_some (h.ent e he).1
theorem all_row (g : Nat) (w : World) : Calls Tryz.prog 38 #[.pointer (some ⟨g, 0, none⟩)] w fun e w' =>
  ∃ b cur c, e = .returned (.slice (some ⟨b, 0, none⟩) 44 c) ∧ w.heap.size ≤ b ∧ w'.heap[b]? = some (.cells cur 75 (0, 0)) ∧ (∀ j, j < 44 → cur[j]? = some (.pointer (some ⟨g, j, none⟩))) ∧ Below w.heap.size w w' := by
 refine (all_calls g w).mono ?_
 rintro e w' ⟨v, rfl, ⟨_, inner, ⟨hlen, ho⟩, hr⟩, hb⟩
 have hin : inner = encs (fun i : Nat => Value.pointer (some ⟨g, i, none⟩)) (List.range 44) := Kd.reps_encs hr
 rcases ho with ⟨_, h0⟩ | ⟨b, cap, cur, rfl, hbb, hheap, _, _, _, htake⟩
 ·rw [List.length_range] at h0; omega
 ·refine ⟨b, cur, cap, by rw [List.length_range], hbb, hheap, fun j hj => ?_, hb⟩
  rw [hin] at htake
  have h1 := congrArg (fun l => l[j]?) htake
  simp only [List.getElem?_take, List.length_range, encs] at h1
  rw [if_pos (by show j < 44 * 1; omega), Array.getElem?_toList] at h1
  rw [h1]
  simp [List.getElem?_range hj]
theorem zip_length (op : Int → Int → Int) (L L' : List Int) (hl : L.length = 44) (hl' : L'.length = 44) : (List.zipWith op L L').length = 44 := by simp [hl, hl']
theorem rd_zip (op : Int → Int → Int) (L L' : List Int) (i : Nat) (h : i < L.length) (h' : i < L'.length) : rd (List.zipWith op L L') (i : Int) = op (rd L (i : Int)) (rd L' (i : Int)) := by
 rw [rd_get L i h, rd_get L' i h', rd_get _ i (by simp; omega)]
 simp
theorem rd_mix (L S : List Int) (i : Nat) (h : i < L.length) (hs : i ≤ S.length) : rd (mixTo L S 0 i) (i : Int) = rd L (i : Int) := by
 have hl := mixTo_length L S 0 i (by omega) hs
 rw [rd_get L i h, rd_get _ i (by omega)]
 unfold mixTo
 simp only [Nat.zero_add, List.take_zero, List.nil_append]
 rw [List.getElem_append_right (by simp; omega)]
 simp [Nat.min_eq_left hs]
set_option maxHeartbeats 4000000 in
set_option maxRecDepth 100000 in
theorem with_calls (f : FuncId) (op : Int → Int → Int) (hf : ∀ (a b : Int) (W : World), Calls Tryz.prog f #[.int .i64 a, .int .i64 b] W fun e W' => e = .returned (.int .i64 (op a b)) ∧ W' = W) (L L' : List Int) (w : World) (hl : L.length = 44) (hl' : L'.length = 44)
  (hg : ∀ (a : Array Value) (W : World), (callFunc f a).run Tryz.prog W = .ok (.enter f a) W) :
  Calls Tryz.prog 70 #[.agg (vals .i64 L), .agg (vals .i64 L'), .func (.func f) #[] #[]] w fun e w' => e = .returned (.agg (vals .i64 (List.zipWith op L L'))) ∧ Below w.heap.size w w' := by
 have hm := Mem.start w
 have HF := Aside0.mk hf
 clear hf
 go_enter Tryz.func70, Tryz.ntmps70
 go_wp2_with (first
  | (first | fail | ((with_reducible refine gt_box 3 55 ?_); refine st_box rfl 3 rfl 55 _ rfl hm (v := .agg (vals _ _)) rfl (cs := vals _ _) rfl ?_; clear hm; intro g3 w3 hm) | ((with_reducible refine gt_box 4 55 ?_); refine st_box rfl 4 rfl 55 _ rfl hm (v := .agg (vals _ _)) rfl (cs := vals _ _) rfl ?_; clear hm; intro g4 w4 hm) | ((with_reducible refine gt_alloc 6 55 ?_); refine st_alloc rfl 6 rfl 55 rfl hm zero55 ?_; clear hm; intro g6 w6 hm) | ((with_reducible refine gt_load 3 ?_); (first | (refine st_get rfl 3 _ rfl hm rfl 0 rfl one3 (by first | omega | assumption | (simp only [lens]; first | omega | assumption) | (simp [lens]; done) | (simp [lens]; omega)) ?_) | (refine st_get rfl 3 _ rfl hm rfl 1 rfl one3 (by first | omega | assumption | (simp only [lens]; first | omega | assumption) | (simp [lens]; done) | (simp [lens]; omega)) ?_) | (refine st_get rfl 3 _ rfl hm rfl 2 rfl one3 (by first | omega | assumption | (simp only [lens]; first | omega | assumption) | (simp [lens]; done) | (simp [lens]; omega)) ?_) | (refine st_get rfl 3 _ rfl hm rfl 3 rfl one3 (by first | omega | assumption | (simp only [lens]; first | omega | assumption) | (simp [lens]; done) | (simp [lens]; omega)) ?_) | (refine st_get rfl 3 _ rfl hm rfl 4 rfl one3 (by first | omega | assumption | (simp only [lens]; first | omega | assumption) | (simp [lens]; done) | (simp [lens]; omega)) ?_))) | ((with_reducible refine gt_store 3 ?_); (first | (refine st_set rfl 3 _ _ rfl hm rfl rfl 0 rfl one3 (by first | omega | assumption | (simp only [lens]; first | omega | assumption) | (simp [lens]; done) | (simp [lens]; omega)) ?_) | (refine st_set rfl 3 _ _ rfl hm rfl rfl 1 rfl one3 (by first | omega | assumption | (simp only [lens]; first | omega | assumption) | (simp [lens]; done) | (simp [lens]; omega)) ?_) | (refine st_set rfl 3 _ _ rfl hm rfl rfl 2 rfl one3 (by first | omega | assumption | (simp only [lens]; first | omega | assumption) | (simp [lens]; done) | (simp [lens]; omega)) ?_) | (refine st_set rfl 3 _ _ rfl hm rfl rfl 3 rfl one3 (by first | omega | assumption | (simp only [lens]; first | omega | assumption) | (simp [lens]; done) | (simp [lens]; omega)) ?_) | (refine st_set rfl 3 _ _ rfl hm rfl rfl 4 rfl one3 (by first | omega | assumption | (simp only [lens]; first | omega | assumption) | (simp [lens]; done) | (simp [lens]; omega)) ?_)); clear hm; intro ws hm; simp only [List.set_cons_zero, List.set_cons_succ] at hm) | ((with_reducible refine gt_load 55 ?_); (first | (refine st_load rfl 55 _ rfl hm rfl 0 rfl agg55 (by first | omega | assumption | (simp only [lens]; first | omega | assumption) | (simp [lens]; done) | (simp [lens]; omega)) ?_) | (refine st_load rfl 55 _ rfl hm rfl 1 rfl agg55 (by first | omega | assumption | (simp only [lens]; first | omega | assumption) | (simp [lens]; done) | (simp [lens]; omega)) ?_) | (refine st_load rfl 55 _ rfl hm rfl 2 rfl agg55 (by first | omega | assumption | (simp only [lens]; first | omega | assumption) | (simp [lens]; done) | (simp [lens]; omega)) ?_) | (refine st_load rfl 55 _ rfl hm rfl 3 rfl agg55 (by first | omega | assumption | (simp only [lens]; first | omega | assumption) | (simp [lens]; done) | (simp [lens]; omega)) ?_) | (refine st_load rfl 55 _ rfl hm rfl 4 rfl agg55 (by first | omega | assumption | (simp only [lens]; first | omega | assumption) | (simp [lens]; done) | (simp [lens]; omega)) ?_))) | ((with_reducible refine gt_store 55 ?_); (first | (refine st_full rfl 55 _ _ rfl hm rfl rfl 0 rfl agg55 (by first | omega | assumption | (simp only [lens]; first | omega | assumption) | (simp [lens]; done) | (simp [lens]; omega)) (by first | omega | assumption | (simp only [lens]; first | omega | assumption) | (simp [lens]; done) | (simp [lens]; omega)) ?_) | (refine st_full rfl 55 _ _ rfl hm rfl rfl 1 rfl agg55 (by first | omega | assumption | (simp only [lens]; first | omega | assumption) | (simp [lens]; done) | (simp [lens]; omega)) (by first | omega | assumption | (simp only [lens]; first | omega | assumption) | (simp [lens]; done) | (simp [lens]; omega)) ?_) | (refine st_full rfl 55 _ _ rfl hm rfl rfl 2 rfl agg55 (by first | omega | assumption | (simp only [lens]; first | omega | assumption) | (simp [lens]; done) | (simp [lens]; omega)) (by first | omega | assumption | (simp only [lens]; first | omega | assumption) | (simp [lens]; done) | (simp [lens]; omega)) ?_) | (refine st_full rfl 55 _ _ rfl hm rfl rfl 3 rfl agg55 (by first | omega | assumption | (simp only [lens]; first | omega | assumption) | (simp [lens]; done) | (simp [lens]; omega)) (by first | omega | assumption | (simp only [lens]; first | omega | assumption) | (simp [lens]; done) | (simp [lens]; omega)) ?_) | (refine st_full rfl 55 _ _ rfl hm rfl rfl 4 rfl agg55 (by first | omega | assumption | (simp only [lens]; first | omega | assumption) | (simp [lens]; done) | (simp [lens]; omega)) (by first | omega | assumption | (simp only [lens]; first | omega | assumption) | (simp [lens]; done) | (simp [lens]; omega)) ?_)); clear hm; intro ws hm; simp only [List.set_cons_zero, List.set_cons_succ] at hm))
  | (go_at_call 38; with_reducible refine (all_row g4 _).mono ?_; rintro e wa ⟨b4, cur4, c4, rfl, hb1, hb2, hb3, hb⟩; have hlt := hm.lt; replace hm := (hm.after hb).add hb2 (Nat.le_trans hm.size hb1) (fun e he => by have := hlt e he; omega); have HC4 := Aside0.mk hb3; clear hb hb1 hb2 hb3 hlt)
  | (go_at_call 38; with_reducible refine (all_row g3 _).mono ?_; rintro e wa ⟨b3, cur3, c3, rfl, hb1, hb2, hb3, hb⟩; have hlt := hm.lt; replace hm := (hm.after hb).add hb2 (Nat.le_trans hm.size hb1) (fun e he => by have := hlt e he; omega); have HC3 := Aside0.mk hb3; clear hb hb1 hb2 hb3 hlt))
 go_loopw [13, 8, 9] (fun v13 v8 v9 wr => ∃ i : Nat, i ≤ 44 ∧ v13 = .int .i64 i ∧ Mem w wr [⟨b3, cur3, 75, true⟩, ⟨b4, cur4, 75, true⟩, ⟨g6, vals .i64 (zs 44), 55, true⟩, ⟨g4, vals .i64 L', 55, true⟩, ⟨g3, vals .i64 (mixTo L (List.zipWith op L L') 0 i), 55, true⟩]) (fun v13 _ _ _ => 44 - (intOf v13).toNat)
 case atStart => exact ⟨0, by omega, rfl, by rw [mixTo_zero]; exact hm⟩
 case round =>
  obtain ⟨i, hi, rfl, hm⟩ := hrel
  have hz := zip_length op L L' hl hl'
  have hl2 := (mixTo_length L (List.zipWith op L L') 0 i (by omega) (by omega)).trans hl
  by_cases hlt : i < 44
  ·have hp3 := (hm.cell (n := 0) rfl i).trans (HC3.out i hlt)
   have hp4 := (hm.cell (n := 1) rfl i).trans (HC4.out i hlt)
   have hv4 := hm.get (n := 3) rfl i (by omega)
   have hv3 := hm.get (n := 4) rfl i (by omega)
   rw [rd_mix L _ i (by omega) (by omega)] at hv3
   have HZ := Aside0.mk (rd_zip op L L' i (by omega) (by omega))
   generalize rd L (i : Int) = x at *
   generalize rd L' (i : Int) = y at *
   go_wp2_with (first | fail | ((with_reducible refine gt_box 3 55 ?_); refine st_box rfl 3 rfl 55 _ rfl hm (v := .agg (vals _ _)) rfl (cs := vals _ _) rfl ?_; clear hm; intro g3 w3 hm) | ((with_reducible refine gt_box 4 55 ?_); refine st_box rfl 4 rfl 55 _ rfl hm (v := .agg (vals _ _)) rfl (cs := vals _ _) rfl ?_; clear hm; intro g4 w4 hm) | ((with_reducible refine gt_alloc 6 55 ?_); refine st_alloc rfl 6 rfl 55 rfl hm zero55 ?_; clear hm; intro g6 w6 hm) | ((with_reducible refine gt_load 3 ?_); (first | (refine st_get rfl 3 _ rfl hm rfl 0 rfl one3 (by first | omega | assumption | (simp only [lens]; first | omega | assumption) | (simp [lens]; done) | (simp [lens]; omega)) ?_) | (refine st_get rfl 3 _ rfl hm rfl 1 rfl one3 (by first | omega | assumption | (simp only [lens]; first | omega | assumption) | (simp [lens]; done) | (simp [lens]; omega)) ?_) | (refine st_get rfl 3 _ rfl hm rfl 2 rfl one3 (by first | omega | assumption | (simp only [lens]; first | omega | assumption) | (simp [lens]; done) | (simp [lens]; omega)) ?_) | (refine st_get rfl 3 _ rfl hm rfl 3 rfl one3 (by first | omega | assumption | (simp only [lens]; first | omega | assumption) | (simp [lens]; done) | (simp [lens]; omega)) ?_) | (refine st_get rfl 3 _ rfl hm rfl 4 rfl one3 (by first | omega | assumption | (simp only [lens]; first | omega | assumption) | (simp [lens]; done) | (simp [lens]; omega)) ?_))) | ((with_reducible refine gt_store 3 ?_); (first | (refine st_set rfl 3 _ _ rfl hm rfl rfl 0 rfl one3 (by first | omega | assumption | (simp only [lens]; first | omega | assumption) | (simp [lens]; done) | (simp [lens]; omega)) ?_) | (refine st_set rfl 3 _ _ rfl hm rfl rfl 1 rfl one3 (by first | omega | assumption | (simp only [lens]; first | omega | assumption) | (simp [lens]; done) | (simp [lens]; omega)) ?_) | (refine st_set rfl 3 _ _ rfl hm rfl rfl 2 rfl one3 (by first | omega | assumption | (simp only [lens]; first | omega | assumption) | (simp [lens]; done) | (simp [lens]; omega)) ?_) | (refine st_set rfl 3 _ _ rfl hm rfl rfl 3 rfl one3 (by first | omega | assumption | (simp only [lens]; first | omega | assumption) | (simp [lens]; done) | (simp [lens]; omega)) ?_) | (refine st_set rfl 3 _ _ rfl hm rfl rfl 4 rfl one3 (by first | omega | assumption | (simp only [lens]; first | omega | assumption) | (simp [lens]; done) | (simp [lens]; omega)) ?_)); clear hm; intro ws hm; simp only [List.set_cons_zero, List.set_cons_succ] at hm) | ((with_reducible refine gt_load 55 ?_); (first | (refine st_load rfl 55 _ rfl hm rfl 0 rfl agg55 (by first | omega | assumption | (simp only [lens]; first | omega | assumption) | (simp [lens]; done) | (simp [lens]; omega)) ?_) | (refine st_load rfl 55 _ rfl hm rfl 1 rfl agg55 (by first | omega | assumption | (simp only [lens]; first | omega | assumption) | (simp [lens]; done) | (simp [lens]; omega)) ?_) | (refine st_load rfl 55 _ rfl hm rfl 2 rfl agg55 (by first | omega | assumption | (simp only [lens]; first | omega | assumption) | (simp [lens]; done) | (simp [lens]; omega)) ?_) | (refine st_load rfl 55 _ rfl hm rfl 3 rfl agg55 (by first | omega | assumption | (simp only [lens]; first | omega | assumption) | (simp [lens]; done) | (simp [lens]; omega)) ?_) | (refine st_load rfl 55 _ rfl hm rfl 4 rfl agg55 (by first | omega | assumption | (simp only [lens]; first | omega | assumption) | (simp [lens]; done) | (simp [lens]; omega)) ?_))) | ((with_reducible refine gt_store 55 ?_); (first | (refine st_full rfl 55 _ _ rfl hm rfl rfl 0 rfl agg55 (by first | omega | assumption | (simp only [lens]; first | omega | assumption) | (simp [lens]; done) | (simp [lens]; omega)) (by first | omega | assumption | (simp only [lens]; first | omega | assumption) | (simp [lens]; done) | (simp [lens]; omega)) ?_) | (refine st_full rfl 55 _ _ rfl hm rfl rfl 1 rfl agg55 (by first | omega | assumption | (simp only [lens]; first | omega | assumption) | (simp [lens]; done) | (simp [lens]; omega)) (by first | omega | assumption | (simp only [lens]; first | omega | assumption) | (simp [lens]; done) | (simp [lens]; omega)) ?_) | (refine st_full rfl 55 _ _ rfl hm rfl rfl 2 rfl agg55 (by first | omega | assumption | (simp only [lens]; first | omega | assumption) | (simp [lens]; done) | (simp [lens]; omega)) (by first | omega | assumption | (simp only [lens]; first | omega | assumption) | (simp [lens]; done) | (simp [lens]; omega)) ?_) | (refine st_full rfl 55 _ _ rfl hm rfl rfl 3 rfl agg55 (by first | omega | assumption | (simp only [lens]; first | omega | assumption) | (simp [lens]; done) | (simp [lens]; omega)) (by first | omega | assumption | (simp only [lens]; first | omega | assumption) | (simp [lens]; done) | (simp [lens]; omega)) ?_) | (refine st_full rfl 55 _ _ rfl hm rfl rfl 4 rfl agg55 (by first | omega | assumption | (simp only [lens]; first | omega | assumption) | (simp [lens]; done) | (simp [lens]; omega)) (by first | omega | assumption | (simp only [lens]; first | omega | assumption) | (simp [lens]; done) | (simp [lens]; omega)) ?_)); clear hm; intro ws hm; simp only [List.set_cons_zero, List.set_cons_succ] at hm))
   go_still_tail 13, (by kernel_rfl)
   still_call (HF.out _ _ _)
   repeat still_step
   refine wpStill_nil ?_
   replace hm := hm.drawn (wr.drawn + 1)
   go_wp2_with (first | fail | ((with_reducible refine gt_box 3 55 ?_); refine st_box rfl 3 rfl 55 _ rfl hm (v := .agg (vals _ _)) rfl (cs := vals _ _) rfl ?_; clear hm; intro g3 w3 hm) | ((with_reducible refine gt_box 4 55 ?_); refine st_box rfl 4 rfl 55 _ rfl hm (v := .agg (vals _ _)) rfl (cs := vals _ _) rfl ?_; clear hm; intro g4 w4 hm) | ((with_reducible refine gt_alloc 6 55 ?_); refine st_alloc rfl 6 rfl 55 rfl hm zero55 ?_; clear hm; intro g6 w6 hm) | ((with_reducible refine gt_load 3 ?_); (first | (refine st_get rfl 3 _ rfl hm rfl 0 rfl one3 (by first | omega | assumption | (simp only [lens]; first | omega | assumption) | (simp [lens]; done) | (simp [lens]; omega)) ?_) | (refine st_get rfl 3 _ rfl hm rfl 1 rfl one3 (by first | omega | assumption | (simp only [lens]; first | omega | assumption) | (simp [lens]; done) | (simp [lens]; omega)) ?_) | (refine st_get rfl 3 _ rfl hm rfl 2 rfl one3 (by first | omega | assumption | (simp only [lens]; first | omega | assumption) | (simp [lens]; done) | (simp [lens]; omega)) ?_) | (refine st_get rfl 3 _ rfl hm rfl 3 rfl one3 (by first | omega | assumption | (simp only [lens]; first | omega | assumption) | (simp [lens]; done) | (simp [lens]; omega)) ?_) | (refine st_get rfl 3 _ rfl hm rfl 4 rfl one3 (by first | omega | assumption | (simp only [lens]; first | omega | assumption) | (simp [lens]; done) | (simp [lens]; omega)) ?_))) | ((with_reducible refine gt_store 3 ?_); (first | (refine st_set rfl 3 _ _ rfl hm rfl rfl 0 rfl one3 (by first | omega | assumption | (simp only [lens]; first | omega | assumption) | (simp [lens]; done) | (simp [lens]; omega)) ?_) | (refine st_set rfl 3 _ _ rfl hm rfl rfl 1 rfl one3 (by first | omega | assumption | (simp only [lens]; first | omega | assumption) | (simp [lens]; done) | (simp [lens]; omega)) ?_) | (refine st_set rfl 3 _ _ rfl hm rfl rfl 2 rfl one3 (by first | omega | assumption | (simp only [lens]; first | omega | assumption) | (simp [lens]; done) | (simp [lens]; omega)) ?_) | (refine st_set rfl 3 _ _ rfl hm rfl rfl 3 rfl one3 (by first | omega | assumption | (simp only [lens]; first | omega | assumption) | (simp [lens]; done) | (simp [lens]; omega)) ?_) | (refine st_set rfl 3 _ _ rfl hm rfl rfl 4 rfl one3 (by first | omega | assumption | (simp only [lens]; first | omega | assumption) | (simp [lens]; done) | (simp [lens]; omega)) ?_)); clear hm; intro ws hm; simp only [List.set_cons_zero, List.set_cons_succ] at hm) | ((with_reducible refine gt_load 55 ?_); (first | (refine st_load rfl 55 _ rfl hm rfl 0 rfl agg55 (by first | omega | assumption | (simp only [lens]; first | omega | assumption) | (simp [lens]; done) | (simp [lens]; omega)) ?_) | (refine st_load rfl 55 _ rfl hm rfl 1 rfl agg55 (by first | omega | assumption | (simp only [lens]; first | omega | assumption) | (simp [lens]; done) | (simp [lens]; omega)) ?_) | (refine st_load rfl 55 _ rfl hm rfl 2 rfl agg55 (by first | omega | assumption | (simp only [lens]; first | omega | assumption) | (simp [lens]; done) | (simp [lens]; omega)) ?_) | (refine st_load rfl 55 _ rfl hm rfl 3 rfl agg55 (by first | omega | assumption | (simp only [lens]; first | omega | assumption) | (simp [lens]; done) | (simp [lens]; omega)) ?_) | (refine st_load rfl 55 _ rfl hm rfl 4 rfl agg55 (by first | omega | assumption | (simp only [lens]; first | omega | assumption) | (simp [lens]; done) | (simp [lens]; omega)) ?_))) | ((with_reducible refine gt_store 55 ?_); (first | (refine st_full rfl 55 _ _ rfl hm rfl rfl 0 rfl agg55 (by first | omega | assumption | (simp only [lens]; first | omega | assumption) | (simp [lens]; done) | (simp [lens]; omega)) (by first | omega | assumption | (simp only [lens]; first | omega | assumption) | (simp [lens]; done) | (simp [lens]; omega)) ?_) | (refine st_full rfl 55 _ _ rfl hm rfl rfl 1 rfl agg55 (by first | omega | assumption | (simp only [lens]; first | omega | assumption) | (simp [lens]; done) | (simp [lens]; omega)) (by first | omega | assumption | (simp only [lens]; first | omega | assumption) | (simp [lens]; done) | (simp [lens]; omega)) ?_) | (refine st_full rfl 55 _ _ rfl hm rfl rfl 2 rfl agg55 (by first | omega | assumption | (simp only [lens]; first | omega | assumption) | (simp [lens]; done) | (simp [lens]; omega)) (by first | omega | assumption | (simp only [lens]; first | omega | assumption) | (simp [lens]; done) | (simp [lens]; omega)) ?_) | (refine st_full rfl 55 _ _ rfl hm rfl rfl 3 rfl agg55 (by first | omega | assumption | (simp only [lens]; first | omega | assumption) | (simp [lens]; done) | (simp [lens]; omega)) (by first | omega | assumption | (simp only [lens]; first | omega | assumption) | (simp [lens]; done) | (simp [lens]; omega)) ?_) | (refine st_full rfl 55 _ _ rfl hm rfl rfl 4 rfl agg55 (by first | omega | assumption | (simp only [lens]; first | omega | assumption) | (simp [lens]; done) | (simp [lens]; omega)) (by first | omega | assumption | (simp only [lens]; first | omega | assumption) | (simp [lens]; done) | (simp [lens]; omega)) ?_)); clear hm; intro ws hm; simp only [List.set_cons_zero, List.set_cons_succ] at hm))
   go_roundw
   case rel =>
    refine ⟨i + 1, by omega, by go_num, ?_⟩
    rw [← mixTo_succ L (List.zipWith op L L') 0 i (by omega) (by omega), HZ.out]
    simpa using hm
   case measure => simp [intOf]; omega
  ·have HI := Aside0.mk (show mixTo L (List.zipWith op L L') 0 i = List.zipWith op L L' by
    have : i = 44 := by omega
    subst this
    unfold mixTo
    rw [List.take_zero, List.nil_append, List.take_of_length_le (by omega), List.drop_of_length_le (by omega), List.append_nil])
   go_wp2_with (first | fail | ((with_reducible refine gt_box 3 55 ?_); refine st_box rfl 3 rfl 55 _ rfl hm (v := .agg (vals _ _)) rfl (cs := vals _ _) rfl ?_; clear hm; intro g3 w3 hm) | ((with_reducible refine gt_box 4 55 ?_); refine st_box rfl 4 rfl 55 _ rfl hm (v := .agg (vals _ _)) rfl (cs := vals _ _) rfl ?_; clear hm; intro g4 w4 hm) | ((with_reducible refine gt_alloc 6 55 ?_); refine st_alloc rfl 6 rfl 55 rfl hm zero55 ?_; clear hm; intro g6 w6 hm) | ((with_reducible refine gt_load 3 ?_); (first | (refine st_get rfl 3 _ rfl hm rfl 0 rfl one3 (by first | omega | assumption | (simp only [lens]; first | omega | assumption) | (simp [lens]; done) | (simp [lens]; omega)) ?_) | (refine st_get rfl 3 _ rfl hm rfl 1 rfl one3 (by first | omega | assumption | (simp only [lens]; first | omega | assumption) | (simp [lens]; done) | (simp [lens]; omega)) ?_) | (refine st_get rfl 3 _ rfl hm rfl 2 rfl one3 (by first | omega | assumption | (simp only [lens]; first | omega | assumption) | (simp [lens]; done) | (simp [lens]; omega)) ?_) | (refine st_get rfl 3 _ rfl hm rfl 3 rfl one3 (by first | omega | assumption | (simp only [lens]; first | omega | assumption) | (simp [lens]; done) | (simp [lens]; omega)) ?_) | (refine st_get rfl 3 _ rfl hm rfl 4 rfl one3 (by first | omega | assumption | (simp only [lens]; first | omega | assumption) | (simp [lens]; done) | (simp [lens]; omega)) ?_))) | ((with_reducible refine gt_store 3 ?_); (first | (refine st_set rfl 3 _ _ rfl hm rfl rfl 0 rfl one3 (by first | omega | assumption | (simp only [lens]; first | omega | assumption) | (simp [lens]; done) | (simp [lens]; omega)) ?_) | (refine st_set rfl 3 _ _ rfl hm rfl rfl 1 rfl one3 (by first | omega | assumption | (simp only [lens]; first | omega | assumption) | (simp [lens]; done) | (simp [lens]; omega)) ?_) | (refine st_set rfl 3 _ _ rfl hm rfl rfl 2 rfl one3 (by first | omega | assumption | (simp only [lens]; first | omega | assumption) | (simp [lens]; done) | (simp [lens]; omega)) ?_) | (refine st_set rfl 3 _ _ rfl hm rfl rfl 3 rfl one3 (by first | omega | assumption | (simp only [lens]; first | omega | assumption) | (simp [lens]; done) | (simp [lens]; omega)) ?_) | (refine st_set rfl 3 _ _ rfl hm rfl rfl 4 rfl one3 (by first | omega | assumption | (simp only [lens]; first | omega | assumption) | (simp [lens]; done) | (simp [lens]; omega)) ?_)); clear hm; intro ws hm; simp only [List.set_cons_zero, List.set_cons_succ] at hm) | ((with_reducible refine gt_load 55 ?_); (first | (refine st_load rfl 55 _ rfl hm rfl 0 rfl agg55 (by first | omega | assumption | (simp only [lens]; first | omega | assumption) | (simp [lens]; done) | (simp [lens]; omega)) ?_) | (refine st_load rfl 55 _ rfl hm rfl 1 rfl agg55 (by first | omega | assumption | (simp only [lens]; first | omega | assumption) | (simp [lens]; done) | (simp [lens]; omega)) ?_) | (refine st_load rfl 55 _ rfl hm rfl 2 rfl agg55 (by first | omega | assumption | (simp only [lens]; first | omega | assumption) | (simp [lens]; done) | (simp [lens]; omega)) ?_) | (refine st_load rfl 55 _ rfl hm rfl 3 rfl agg55 (by first | omega | assumption | (simp only [lens]; first | omega | assumption) | (simp [lens]; done) | (simp [lens]; omega)) ?_) | (refine st_load rfl 55 _ rfl hm rfl 4 rfl agg55 (by first | omega | assumption | (simp only [lens]; first | omega | assumption) | (simp [lens]; done) | (simp [lens]; omega)) ?_))) | ((with_reducible refine gt_store 55 ?_); (first | (refine st_full rfl 55 _ _ rfl hm rfl rfl 0 rfl agg55 (by first | omega | assumption | (simp only [lens]; first | omega | assumption) | (simp [lens]; done) | (simp [lens]; omega)) (by first | omega | assumption | (simp only [lens]; first | omega | assumption) | (simp [lens]; done) | (simp [lens]; omega)) ?_) | (refine st_full rfl 55 _ _ rfl hm rfl rfl 1 rfl agg55 (by first | omega | assumption | (simp only [lens]; first | omega | assumption) | (simp [lens]; done) | (simp [lens]; omega)) (by first | omega | assumption | (simp only [lens]; first | omega | assumption) | (simp [lens]; done) | (simp [lens]; omega)) ?_) | (refine st_full rfl 55 _ _ rfl hm rfl rfl 2 rfl agg55 (by first | omega | assumption | (simp only [lens]; first | omega | assumption) | (simp [lens]; done) | (simp [lens]; omega)) (by first | omega | assumption | (simp only [lens]; first | omega | assumption) | (simp [lens]; done) | (simp [lens]; omega)) ?_) | (refine st_full rfl 55 _ _ rfl hm rfl rfl 3 rfl agg55 (by first | omega | assumption | (simp only [lens]; first | omega | assumption) | (simp [lens]; done) | (simp [lens]; omega)) (by first | omega | assumption | (simp only [lens]; first | omega | assumption) | (simp [lens]; done) | (simp [lens]; omega)) ?_) | (refine st_full rfl 55 _ _ rfl hm rfl rfl 4 rfl agg55 (by first | omega | assumption | (simp only [lens]; first | omega | assumption) | (simp [lens]; done) | (simp [lens]; omega)) (by first | omega | assumption | (simp only [lens]; first | omega | assumption) | (simp [lens]; done) | (simp [lens]; omega)) ?_)); clear hm; intro ws hm; simp only [List.set_cons_zero, List.set_cons_succ] at hm))
   ((try simp only [Exit.inBlock, Exit.then]); (first | (refine ret_cell hm rfl rfl 2 rfl agg55 (by first | omega | assumption | (simp only [lens]; first | omega | assumption) | (simp [lens]; done) | (simp [lens]; omega)) rfl ?_) | (refine ret_cell_tmp hm rfl rfl 2 rfl agg55 (by first | omega | assumption | (simp only [lens]; first | omega | assumption) | (simp [lens]; done) | (simp [lens]; omega)) rfl ?_)))
   exact ⟨by rw [HI.out], hm.done rfl⟩
set_option maxHeartbeats 4000000 in
set_option maxRecDepth 100000 in
theorem lacks1_calls (a b : Int) (W : World) : Calls Tryz.prog 72 #[.int .i64 a, .int .i64 b] W fun e W' => e = .returned (.int .i64 (mx (wrap64 (b - a)) 0)) ∧ W' = W := by
 go_enter Tryz.func72, Tryz.ntmps72
 go_wp2_with fail
 all_goals
  go_ret
  refine ⟨?_, rfl⟩
  first
   | rfl
   | (rw [show mx (wrap64 (b - a)) 0 = max (wrap64 (b - a)) 0 by unfold mx; split <;> omega]; rfl)
   | (unfold mx; rw [if_pos (by omega)]; rfl)
   | (unfold mx; rw [if_neg (by omega)]; rfl)
theorem lacks1_enters (a : Array Value) (W : World) : (callFunc 72 a).run Tryz.prog W = .ok (.enter 72 a) W := by kernel_rfl
set_option maxHeartbeats 4000000 in
set_option maxRecDepth 100000 in
theorem lacks_calls (L L' : List Int) (w : World) (hl : L.length = 44) (hl' : L'.length = 44) : Calls Tryz.prog 45 #[.agg (vals .i64 L), .agg (vals .i64 L')] w fun e w' =>
  e = .returned (.agg (vals .i64 (List.zipWith (fun a b => mx (wrap64 (b - a)) 0) L L'))) ∧ Below w.heap.size w w' := by
 have hm := Mem.start w
 have hz := zip_length (fun a b => mx (wrap64 (b - a)) 0) L L' hl hl'
 go_enter Tryz.func45, Tryz.ntmps45
 go_wp2_with (first
  | (first | fail | ((with_reducible refine gt_box 2 55 ?_); refine st_box rfl 2 rfl 55 _ rfl hm (v := .agg (vals _ _)) rfl (cs := vals _ _) rfl ?_; clear hm; intro g2 w2 hm) | ((with_reducible refine gt_box 3 55 ?_); refine st_box rfl 3 rfl 55 _ rfl hm (v := .agg (vals _ _)) rfl (cs := vals _ _) rfl ?_; clear hm; intro g3 w3 hm) | ((with_reducible refine gt_alloc 4 55 ?_); refine st_alloc rfl 4 rfl 55 rfl hm zero55 ?_; clear hm; intro g4 w4 hm) | ((with_reducible refine gt_load 55 ?_); (first | (refine st_load rfl 55 _ rfl hm rfl 0 rfl agg55 (by first | omega | assumption | (simp only [lens]; first | omega | assumption) | (simp [lens]; done) | (simp [lens]; omega)) ?_) | (refine st_load rfl 55 _ rfl hm rfl 1 rfl agg55 (by first | omega | assumption | (simp only [lens]; first | omega | assumption) | (simp [lens]; done) | (simp [lens]; omega)) ?_) | (refine st_load rfl 55 _ rfl hm rfl 2 rfl agg55 (by first | omega | assumption | (simp only [lens]; first | omega | assumption) | (simp [lens]; done) | (simp [lens]; omega)) ?_) | (refine st_load rfl 55 _ rfl hm rfl 3 rfl agg55 (by first | omega | assumption | (simp only [lens]; first | omega | assumption) | (simp [lens]; done) | (simp [lens]; omega)) ?_) | (refine st_load rfl 55 _ rfl hm rfl 4 rfl agg55 (by first | omega | assumption | (simp only [lens]; first | omega | assumption) | (simp [lens]; done) | (simp [lens]; omega)) ?_))) | ((with_reducible refine gt_store 55 ?_); (first | (refine st_full rfl 55 _ _ rfl hm rfl rfl 0 rfl agg55 (by first | omega | assumption | (simp only [lens]; first | omega | assumption) | (simp [lens]; done) | (simp [lens]; omega)) (by first | omega | assumption | (simp only [lens]; first | omega | assumption) | (simp [lens]; done) | (simp [lens]; omega)) ?_) | (refine st_full rfl 55 _ _ rfl hm rfl rfl 1 rfl agg55 (by first | omega | assumption | (simp only [lens]; first | omega | assumption) | (simp [lens]; done) | (simp [lens]; omega)) (by first | omega | assumption | (simp only [lens]; first | omega | assumption) | (simp [lens]; done) | (simp [lens]; omega)) ?_) | (refine st_full rfl 55 _ _ rfl hm rfl rfl 2 rfl agg55 (by first | omega | assumption | (simp only [lens]; first | omega | assumption) | (simp [lens]; done) | (simp [lens]; omega)) (by first | omega | assumption | (simp only [lens]; first | omega | assumption) | (simp [lens]; done) | (simp [lens]; omega)) ?_) | (refine st_full rfl 55 _ _ rfl hm rfl rfl 3 rfl agg55 (by first | omega | assumption | (simp only [lens]; first | omega | assumption) | (simp [lens]; done) | (simp [lens]; omega)) (by first | omega | assumption | (simp only [lens]; first | omega | assumption) | (simp [lens]; done) | (simp [lens]; omega)) ?_) | (refine st_full rfl 55 _ _ rfl hm rfl rfl 4 rfl agg55 (by first | omega | assumption | (simp only [lens]; first | omega | assumption) | (simp [lens]; done) | (simp [lens]; omega)) (by first | omega | assumption | (simp only [lens]; first | omega | assumption) | (simp [lens]; done) | (simp [lens]; omega)) ?_)); clear hm; intro ws hm; simp only [List.set_cons_zero, List.set_cons_succ] at hm))
  | (go_at_call 70; refine (with_calls 72 (fun a b => mx (wrap64 (b - a)) 0) lacks1_calls L L' _ hl hl' lacks1_enters).mono ?_; rintro e wa ⟨rfl, hb⟩; replace hm := hm.after hb; clear hb))
 ((try simp only [Exit.inBlock, Exit.then]); (first | (refine ret_cell hm rfl rfl 0 rfl agg55 (by first | omega | assumption | (simp only [lens]; first | omega | assumption) | (simp [lens]; done) | (simp [lens]; omega)) rfl ?_) | (refine ret_cell_tmp hm rfl rfl 0 rfl agg55 (by first | omega | assumption | (simp only [lens]; first | omega | assumption) | (simp [lens]; done) | (simp [lens]; omega)) rfl ?_)))
 exact ⟨rfl, hm.done rfl⟩
set_option maxHeartbeats 4000000 in
set_option maxRecDepth 100000 in
theorem less1_calls (a b : Int) (W : World) : Calls Tryz.prog 71 #[.int .i64 a, .int .i64 b] W fun e W' => e = .returned (.int .i64 (wrap64 (a - b))) ∧ W' = W := by
 go_enter Tryz.func71, Tryz.ntmps71
 go_wp2_with fail
 all_goals
  go_ret
  refine ⟨?_, rfl⟩
  first
   | rfl
   | (unfold mx; rw [if_pos (by omega)]; rfl)
   | (unfold mx; rw [if_neg (by omega)]; rfl)
theorem less1_enters (a : Array Value) (W : World) : (callFunc 71 a).run Tryz.prog W = .ok (.enter 71 a) W := by kernel_rfl
set_option maxHeartbeats 4000000 in
set_option maxRecDepth 100000 in
theorem less_calls (L L' : List Int) (w : World) (hl : L.length = 44) (hl' : L'.length = 44) : Calls Tryz.prog 43 #[.agg (vals .i64 L), .agg (vals .i64 L')] w fun e w' =>
  e = .returned (.agg (vals .i64 (List.zipWith (fun a b => wrap64 (a - b)) L L'))) ∧ Below w.heap.size w w' := by
 have hm := Mem.start w
 have hz := zip_length (fun a b => wrap64 (a - b)) L L' hl hl'
 go_enter Tryz.func43, Tryz.ntmps43
 go_wp2_with (first
  | (first | fail | ((with_reducible refine gt_box 2 55 ?_); refine st_box rfl 2 rfl 55 _ rfl hm (v := .agg (vals _ _)) rfl (cs := vals _ _) rfl ?_; clear hm; intro g2 w2 hm) | ((with_reducible refine gt_box 3 55 ?_); refine st_box rfl 3 rfl 55 _ rfl hm (v := .agg (vals _ _)) rfl (cs := vals _ _) rfl ?_; clear hm; intro g3 w3 hm) | ((with_reducible refine gt_alloc 4 55 ?_); refine st_alloc rfl 4 rfl 55 rfl hm zero55 ?_; clear hm; intro g4 w4 hm) | ((with_reducible refine gt_load 55 ?_); (first | (refine st_load rfl 55 _ rfl hm rfl 0 rfl agg55 (by first | omega | assumption | (simp only [lens]; first | omega | assumption) | (simp [lens]; done) | (simp [lens]; omega)) ?_) | (refine st_load rfl 55 _ rfl hm rfl 1 rfl agg55 (by first | omega | assumption | (simp only [lens]; first | omega | assumption) | (simp [lens]; done) | (simp [lens]; omega)) ?_) | (refine st_load rfl 55 _ rfl hm rfl 2 rfl agg55 (by first | omega | assumption | (simp only [lens]; first | omega | assumption) | (simp [lens]; done) | (simp [lens]; omega)) ?_) | (refine st_load rfl 55 _ rfl hm rfl 3 rfl agg55 (by first | omega | assumption | (simp only [lens]; first | omega | assumption) | (simp [lens]; done) | (simp [lens]; omega)) ?_) | (refine st_load rfl 55 _ rfl hm rfl 4 rfl agg55 (by first | omega | assumption | (simp only [lens]; first | omega | assumption) | (simp [lens]; done) | (simp [lens]; omega)) ?_))) | ((with_reducible refine gt_store 55 ?_); (first | (refine st_full rfl 55 _ _ rfl hm rfl rfl 0 rfl agg55 (by first | omega | assumption | (simp only [lens]; first | omega | assumption) | (simp [lens]; done) | (simp [lens]; omega)) (by first | omega | assumption | (simp only [lens]; first | omega | assumption) | (simp [lens]; done) | (simp [lens]; omega)) ?_) | (refine st_full rfl 55 _ _ rfl hm rfl rfl 1 rfl agg55 (by first | omega | assumption | (simp only [lens]; first | omega | assumption) | (simp [lens]; done) | (simp [lens]; omega)) (by first | omega | assumption | (simp only [lens]; first | omega | assumption) | (simp [lens]; done) | (simp [lens]; omega)) ?_) | (refine st_full rfl 55 _ _ rfl hm rfl rfl 2 rfl agg55 (by first | omega | assumption | (simp only [lens]; first | omega | assumption) | (simp [lens]; done) | (simp [lens]; omega)) (by first | omega | assumption | (simp only [lens]; first | omega | assumption) | (simp [lens]; done) | (simp [lens]; omega)) ?_) | (refine st_full rfl 55 _ _ rfl hm rfl rfl 3 rfl agg55 (by first | omega | assumption | (simp only [lens]; first | omega | assumption) | (simp [lens]; done) | (simp [lens]; omega)) (by first | omega | assumption | (simp only [lens]; first | omega | assumption) | (simp [lens]; done) | (simp [lens]; omega)) ?_) | (refine st_full rfl 55 _ _ rfl hm rfl rfl 4 rfl agg55 (by first | omega | assumption | (simp only [lens]; first | omega | assumption) | (simp [lens]; done) | (simp [lens]; omega)) (by first | omega | assumption | (simp only [lens]; first | omega | assumption) | (simp [lens]; done) | (simp [lens]; omega)) ?_)); clear hm; intro ws hm; simp only [List.set_cons_zero, List.set_cons_succ] at hm))
  | (go_at_call 70; refine (with_calls 71 (fun a b => wrap64 (a - b)) less1_calls L L' _ hl hl' less1_enters).mono ?_; rintro e wa ⟨rfl, hb⟩; replace hm := hm.after hb; clear hb))
 ((try simp only [Exit.inBlock, Exit.then]); (first | (refine ret_cell hm rfl rfl 0 rfl agg55 (by first | omega | assumption | (simp only [lens]; first | omega | assumption) | (simp [lens]; done) | (simp [lens]; omega)) rfl ?_) | (refine ret_cell_tmp hm rfl rfl 0 rfl agg55 (by first | omega | assumption | (simp only [lens]; first | omega | assumption) | (simp [lens]; done) | (simp [lens]; omega)) rfl ?_)))
 exact ⟨rfl, hm.done rfl⟩
set_option maxHeartbeats 4000000 in
set_option maxRecDepth 100000 in
theorem plus1_calls (a b : Int) (W : World) : Calls Tryz.prog 78 #[.int .i64 a, .int .i64 b] W fun e W' => e = .returned (.int .i64 (wrap64 (a + b))) ∧ W' = W := by
 go_enter Tryz.func78, Tryz.ntmps78
 go_wp2_with fail
 all_goals
  go_ret
  refine ⟨?_, rfl⟩
  first
   | rfl
   | (unfold mx; rw [if_pos (by omega)]; rfl)
   | (unfold mx; rw [if_neg (by omega)]; rfl)
theorem plus1_enters (a : Array Value) (W : World) : (callFunc 78 a).run Tryz.prog W = .ok (.enter 78 a) W := by kernel_rfl
set_option maxHeartbeats 4000000 in
set_option maxRecDepth 100000 in
theorem plus_calls (L L' : List Int) (w : World) (hl : L.length = 44) (hl' : L'.length = 44) : Calls Tryz.prog 54 #[.agg (vals .i64 L), .agg (vals .i64 L')] w fun e w' =>
  e = .returned (.agg (vals .i64 (List.zipWith (fun a b => wrap64 (a + b)) L L'))) ∧ Below w.heap.size w w' := by
 have hm := Mem.start w
 have hz := zip_length (fun a b => wrap64 (a + b)) L L' hl hl'
 go_enter Tryz.func54, Tryz.ntmps54
 go_wp2_with (first
  | (first | fail | ((with_reducible refine gt_box 2 55 ?_); refine st_box rfl 2 rfl 55 _ rfl hm (v := .agg (vals _ _)) rfl (cs := vals _ _) rfl ?_; clear hm; intro g2 w2 hm) | ((with_reducible refine gt_box 3 55 ?_); refine st_box rfl 3 rfl 55 _ rfl hm (v := .agg (vals _ _)) rfl (cs := vals _ _) rfl ?_; clear hm; intro g3 w3 hm) | ((with_reducible refine gt_alloc 4 55 ?_); refine st_alloc rfl 4 rfl 55 rfl hm zero55 ?_; clear hm; intro g4 w4 hm) | ((with_reducible refine gt_load 55 ?_); (first | (refine st_load rfl 55 _ rfl hm rfl 0 rfl agg55 (by first | omega | assumption | (simp only [lens]; first | omega | assumption) | (simp [lens]; done) | (simp [lens]; omega)) ?_) | (refine st_load rfl 55 _ rfl hm rfl 1 rfl agg55 (by first | omega | assumption | (simp only [lens]; first | omega | assumption) | (simp [lens]; done) | (simp [lens]; omega)) ?_) | (refine st_load rfl 55 _ rfl hm rfl 2 rfl agg55 (by first | omega | assumption | (simp only [lens]; first | omega | assumption) | (simp [lens]; done) | (simp [lens]; omega)) ?_) | (refine st_load rfl 55 _ rfl hm rfl 3 rfl agg55 (by first | omega | assumption | (simp only [lens]; first | omega | assumption) | (simp [lens]; done) | (simp [lens]; omega)) ?_) | (refine st_load rfl 55 _ rfl hm rfl 4 rfl agg55 (by first | omega | assumption | (simp only [lens]; first | omega | assumption) | (simp [lens]; done) | (simp [lens]; omega)) ?_))) | ((with_reducible refine gt_store 55 ?_); (first | (refine st_full rfl 55 _ _ rfl hm rfl rfl 0 rfl agg55 (by first | omega | assumption | (simp only [lens]; first | omega | assumption) | (simp [lens]; done) | (simp [lens]; omega)) (by first | omega | assumption | (simp only [lens]; first | omega | assumption) | (simp [lens]; done) | (simp [lens]; omega)) ?_) | (refine st_full rfl 55 _ _ rfl hm rfl rfl 1 rfl agg55 (by first | omega | assumption | (simp only [lens]; first | omega | assumption) | (simp [lens]; done) | (simp [lens]; omega)) (by first | omega | assumption | (simp only [lens]; first | omega | assumption) | (simp [lens]; done) | (simp [lens]; omega)) ?_) | (refine st_full rfl 55 _ _ rfl hm rfl rfl 2 rfl agg55 (by first | omega | assumption | (simp only [lens]; first | omega | assumption) | (simp [lens]; done) | (simp [lens]; omega)) (by first | omega | assumption | (simp only [lens]; first | omega | assumption) | (simp [lens]; done) | (simp [lens]; omega)) ?_) | (refine st_full rfl 55 _ _ rfl hm rfl rfl 3 rfl agg55 (by first | omega | assumption | (simp only [lens]; first | omega | assumption) | (simp [lens]; done) | (simp [lens]; omega)) (by first | omega | assumption | (simp only [lens]; first | omega | assumption) | (simp [lens]; done) | (simp [lens]; omega)) ?_) | (refine st_full rfl 55 _ _ rfl hm rfl rfl 4 rfl agg55 (by first | omega | assumption | (simp only [lens]; first | omega | assumption) | (simp [lens]; done) | (simp [lens]; omega)) (by first | omega | assumption | (simp only [lens]; first | omega | assumption) | (simp [lens]; done) | (simp [lens]; omega)) ?_)); clear hm; intro ws hm; simp only [List.set_cons_zero, List.set_cons_succ] at hm))
  | (go_at_call 70; refine (with_calls 78 (fun a b => wrap64 (a + b)) plus1_calls L L' _ hl hl' plus1_enters).mono ?_; rintro e wa ⟨rfl, hb⟩; replace hm := hm.after hb; clear hb))
 ((try simp only [Exit.inBlock, Exit.then]); (first | (refine ret_cell hm rfl rfl 0 rfl agg55 (by first | omega | assumption | (simp only [lens]; first | omega | assumption) | (simp [lens]; done) | (simp [lens]; omega)) rfl ?_) | (refine ret_cell_tmp hm rfl rfl 0 rfl agg55 (by first | omega | assumption | (simp only [lens]; first | omega | assumption) | (simp [lens]; done) | (simp [lens]; omega)) rfl ?_)))
 exact ⟨rfl, hm.done rfl⟩
def covB (L L' : List Int) : Bool := (List.range 44).all fun j => decide (rd L' (j : Int) ≤ rd L (j : Int))
theorem covB_true {L L' : List Int} (h : ∀ j : Nat, j < 44 → rd L' (j : Int) ≤ rd L (j : Int)) : covB L L' = true := by
 unfold covB
 rw [List.all_eq_true]
 intro j hj
 simpa using h j (List.mem_range.1 hj)
theorem covB_false {L L' : List Int} (j : Nat) (hj : j < 44) (h : rd L (j : Int) < rd L' (j : Int)) : covB L L' = false := by
 unfold covB
 rw [List.all_eq_false]
 exact ⟨j, List.mem_range.2 hj, by simp; omega⟩
theorem covB_get {L L' : List Int} (h : covB L L' = true) (j : Nat) (hj : j < 44) : rd L' (j : Int) ≤ rd L (j : Int) := by
 have := List.all_eq_true.1 h j (List.mem_range.2 hj)
 simpa using this
theorem covers_zip {L L' : List Int} (hl : L.length = 44) (hl' : L'.length = 44) (hb : ∀ x ∈ L, -1000000 ≤ x ∧ x ≤ 1000000) (hb' : ∀ x ∈ L', -1000000 ≤ x ∧ x ≤ 1000000) :
  decide (List.zipWith (fun a b => mx (wrap64 (b - a)) 0) L L' = zs 44) = covB L L' := by
 have hget : ∀ j : Nat, j < 44 → rd (List.zipWith (fun a b => mx (wrap64 (b - a)) 0) L L') (j : Int) = if rd L (j : Int) < rd L' (j : Int) then rd L' (j : Int) - rd L (j : Int) else 0 := by
  intro j hj
  have h1 := hb _ (rd_in L j (by omega))
  have h2 := hb' _ (rd_in L' j (by omega))
  rw [rd_zip _ L L' j (by omega) (by omega), w64 (by omega) (by omega)]
  unfold mx
  split <;> split <;> omega
 have hz : ∀ j : Nat, j < 44 → rd (zs 44) (j : Int) = 0 := by
  intro j hj
  rw [rd_get _ j (by rw [zs_length]; exact hj)]
  exact List.getElem_replicate _
 cases h : covB L L' with
 | true =>
  refine decide_eq_true (list_eq (zip_length _ _ _ hl hl') zs_length fun j hj => ?_)
  rw [hget j hj, hz j hj, if_neg (by have := covB_get h j hj; omega)]
 | false =>
  refine decide_eq_false fun e => ?_
  have : covB L L' = true := covB_true fun j hj => by
   have h1 := hget j hj
   rw [e, hz j hj] at h1
   split at h1 <;> omega
  rw [h] at this
  cases this
set_option maxHeartbeats 4000000 in
set_option maxRecDepth 100000 in
theorem covers_calls (L L' : List Int) (w : World) (hl : L.length = 44) (hl' : L'.length = 44) (hb : ∀ x ∈ L, -1000000 ≤ x ∧ x ≤ 1000000) (hb' : ∀ x ∈ L', -1000000 ≤ x ∧ x ≤ 1000000) :
  Calls Tryz.prog 41 #[.agg (vals .i64 L), .agg (vals .i64 L')] w fun e w' => e = .returned (.bool (covB L L')) ∧ Below w.heap.size w w' := by
 have hm := Mem.start w
 have HZ := Aside0.mk (covers_zip hl hl' hb hb')
 have hz := zip_length (fun a b => mx (wrap64 (b - a)) 0) L L' hl hl'
 clear hb hb'
 go_enter Tryz.func41, Tryz.ntmps41
 go_wp2_with (first
  | (first | fail | ((with_reducible refine gt_box 2 55 ?_); refine st_box rfl 2 rfl 55 _ rfl hm (v := .agg (vals _ _)) rfl (cs := vals _ _) rfl ?_; clear hm; intro g2 w2 hm) | ((with_reducible refine gt_box 3 55 ?_); refine st_box rfl 3 rfl 55 _ rfl hm (v := .agg (vals _ _)) rfl (cs := vals _ _) rfl ?_; clear hm; intro g3 w3 hm) | ((with_reducible refine gt_load 55 ?_); (first | (refine st_load rfl 55 _ rfl hm rfl 0 rfl agg55 (by first | omega | assumption | (simp only [lens]; first | omega | assumption) | (simp [lens]; done) | (simp [lens]; omega)) ?_) | (refine st_load rfl 55 _ rfl hm rfl 1 rfl agg55 (by first | omega | assumption | (simp only [lens]; first | omega | assumption) | (simp [lens]; done) | (simp [lens]; omega)) ?_) | (refine st_load rfl 55 _ rfl hm rfl 2 rfl agg55 (by first | omega | assumption | (simp only [lens]; first | omega | assumption) | (simp [lens]; done) | (simp [lens]; omega)) ?_) | (refine st_load rfl 55 _ rfl hm rfl 3 rfl agg55 (by first | omega | assumption | (simp only [lens]; first | omega | assumption) | (simp [lens]; done) | (simp [lens]; omega)) ?_))) | ((with_reducible refine gt_build 55 ?_); refine st_zero rfl 55 rfl built55 ?_))
  | (go_at_call 45; refine (lacks_calls L L' _ hl hl').mono ?_; rintro e wa ⟨rfl, hb⟩; replace hm := hm.after hb; clear hb)
  | (refine st_eql rfl 55 _ _ _ rfl rfl rfl eqPieces hz zs_length ?_; rw [HZ.out]))
 go_ret
 exact ⟨rfl, hm.done rfl⟩
set_option maxHeartbeats 4000000 in
set_option maxRecDepth 100000 in
theorem l04Covers_calls (g g' : Nat) (L L' : List Int) (w : World) (hl : L.length = 44) (hl' : L'.length = 44) (hg : w.heap[g]? = some (.cells (vals .i16 L) 28 (0, 0))) (hg' : w.heap[g']? = some (.cells (vals .i16 L') 28 (0, 0))) :
  Calls Tryz.prog 44 #[.pointer (some ⟨g, 0, none⟩), .pointer (some ⟨g', 0, none⟩)] w fun e w' => e = .returned (.bool (covB L L')) ∧ Below w.heap.size w w' := by
 have HB := Aside0.mk (Below.refl w.heap.size w)
 have hcell : ∀ W, Below w.heap.size w W → ∀ i : Nat, i < 44 → W.cell? ⟨g, i, none⟩ = some (.int .i16 (rd L (i : Int))) ∧ W.cell? ⟨g', i, none⟩ = some (.int .i16 (rd L' (i : Int))) := by
  intro W hW i hi
  refine ⟨?_, ?_⟩
  ·rw [cell_of_row W g i _ _ (0, 0) ((hW.block g (lt_of_some hg)).trans hg), vals_get (by omega)]
  ·rw [cell_of_row W g' i _ _ (0, 0) ((hW.block g' (lt_of_some hg')).trans hg'), vals_get (by omega)]
 have HC := Aside0.mk hcell
 clear hg hg' hcell
 go_enter Tryz.func44, Tryz.ntmps44
 go_wp2_with fail
 go_loopw [5] (fun v5 wr => ∃ i : Nat, i ≤ 40 ∧ v5 = .int .i64 i ∧ Aside0 (∀ j : Nat, j < i → rd L' (j : Int) ≤ rd L (j : Int)) ∧ Aside0 (Below w.heap.size w wr)) (fun v5 _ => 40 - (intOf v5).toNat)
 case atStart => exact ⟨0, by omega, rfl, ⟨fun j hj => absurd hj (by omega)⟩, HB⟩
 case round =>
  obtain ⟨i, hi, rfl, HJ, HB⟩ := hrel
  by_cases hlt : i < 40
  ·obtain ⟨hc1, hc2⟩ := HC.out _ HB.out i (by omega)
   generalize hx : rd L (i : Int) = x at *
   generalize hy : rd L' (i : Int) = y at *
   have HX := Aside0.mk hx
   have HY := Aside0.mk hy
   clear hx hy
   by_cases hxy : x < y
   ·have hd := decide_eq_true hxy
    go_wp2
    go_quiet (fail)
    go_wp2
    go_ret
    exact ⟨by rw [covB_false i (by omega) (by rw [HX.out, HY.out]; omega)]; rfl, HB.out.trans ⟨rfl, rfl, rfl, Nat.le_refl _, fun _ _ => rfl⟩⟩
   ·have hd := decide_eq_false hxy
    go_wp2
    go_quiet (fail)
    go_wp2
    go_roundw
    case rel => exact ⟨i + 1, by omega, by go_num, ⟨fun j hj => by
     rcases Nat.lt_or_ge j i with h | h
     ·exact HJ.out j h
     ·obtain rfl : j = i := by omega
      rw [HX.out, HY.out]; omega⟩, ⟨HB.out.trans ⟨rfl, rfl, rfl, Nat.le_refl _, fun _ _ => rfl⟩⟩⟩
    case measure => simp [intOf]; omega
  ·have HI := Aside0.mk (show i = 40 by omega)
   go_wp2_with fail
   go_loopw [6] (fun v6 wr => ∃ i : Nat, i ≤ 4 ∧ v6 = .int .i64 i ∧ Aside0 (∀ j : Nat, j < 40 + i → rd L' (j : Int) ≤ rd L (j : Int)) ∧ Aside0 (Below w.heap.size w wr)) (fun v6 _ => 4 - (intOf v6).toNat)
   case atStart => exact ⟨0, by omega, rfl, ⟨fun j hj => HJ.out j (by rw [HI.out]; omega)⟩, HB⟩
   case round =>
    obtain ⟨i2, hi2, rfl, HJ2, HB⟩ := hrel
    by_cases hlt : i2 < 4
    ·obtain ⟨hc1, hc2⟩ := HC.out _ HB.out (40 + i2) (by omega)
     generalize hx : rd L ((40 + i2 : Nat) : Int) = x at *
     generalize hy : rd L' ((40 + i2 : Nat) : Int) = y at *
     have HX := Aside0.mk hx
     have HY := Aside0.mk hy
     clear hx hy
     by_cases hxy : x < y
     ·have hd := decide_eq_true hxy
      go_wp2
      go_quiet (fail)
      go_wp2
      go_ret
      exact ⟨by rw [covB_false (40 + i2) (by omega) (by rw [HX.out, HY.out]; omega)]; rfl, HB.out.trans ⟨rfl, rfl, rfl, Nat.le_refl _, fun _ _ => rfl⟩⟩
     ·have hd := decide_eq_false hxy
      go_wp2
      go_quiet (fail)
      go_wp2
      go_roundw
      case rel => exact ⟨i2 + 1, by omega, by go_num, ⟨fun j hj => by
       rcases Nat.lt_or_ge j (40 + i2) with h | h
       ·exact HJ2.out j h
       ·obtain rfl : j = 40 + i2 := by omega
        rw [HX.out, HY.out]; omega⟩, ⟨HB.out.trans ⟨rfl, rfl, rfl, Nat.le_refl _, fun _ _ => rfl⟩⟩⟩
      case measure => simp [intOf]; omega
    ·have HI2 := Aside0.mk (covB_true (L := L) (L' := L') (fun j hj => HJ2.out j (by omega)))
     go_wp2_with fail
     go_ret
     exact ⟨by rw [HI2.out]; rfl, HB.out⟩
end Go.Proofs.YthaoopbfggnceaaGreatDoor.Arr
namespace Go.Proofs.YthaoopbfggnceaaGreatDoor.Arr
open Go.RowKit Go.Proofs.YthaoopbfggnceaaGreatDoorW.PrintWords Go.Proofs.YthaoopbfggnceaaGreatDoorW.PrintLast Go.Proofs.YthaoopbfggnceaaGreatDoor.U
set_option linter.unusedVariables false
set_option linter.unusedSimpArgs false
section
variable {P : Program} {o : Oper} {a : Act} {w0 w : World} {M : List Ent}
theorem y_load {ty : TypeId} {x : Operand} (ho : o.op = .load ty x) {g : Nat} (hx : a.eval x = .pointer (some ⟨g, 0, none⟩)) (n : Nat) {k : IntKind} {L : List Int} {m : Nat} {t : TypeId} {own : Bool} (hn : M[n]? = some ⟨g, vals k L, t, own⟩) (hi2 : AggTy P ty m) (hl : L.length = m)
  (w' : World) (hm : Mem w0 w' M) : (execOp a.eval o).run P w' = .ok (.value (.agg (vals k L))) w' := by
 obtain ⟨hd, hi0⟩ := hi2
 have hi : (P.info? ty).map (·.size) = some (vals k L).size := by rw [vals_size, hl]; exact hi0
 cases hu : P.underlying ty with
 | none => simp [hu] at hd
 | some d =>
  have h := run_loadVar_row (P := P) w' g t ty (vals k L) (0, 0) d (hm.mem hn) hu (by cases d <;> simp_all) hi
  unfold execOp
  simp only [ho, hx, Instr.loadAt, Instr.sureAddr, Sem.run_bind, Sem.run_pure, Result.andThen_ok, h]
theorem y_store {ty : TypeId} {x y : Operand} (ho : o.op = .store ty x y) {g m : Nat} {k k' : IntKind} {L : List Int} (hx : a.eval x = .pointer (some ⟨g, 0, none⟩)) (hy : a.eval y = .agg (vals k L)) (n : Nat) {old : List Int} {t : TypeId} {own : Bool} (hm : Mem w0 w M) (hn : M[n]? = some ⟨g, vals k' old, t, own⟩)
  (hi2 : AggTy P ty m) (hl : L.length = m) (hold : old.length = m) : (execOp a.eval o).run P w = .ok .skip (w.setRow g (vals k L)) := by
 have h := run_storeVar_row (P := P) w g t ty (vals k' old) (vals k L) (hm.mem hn) (by rw [vals_size, hl]; exact hi2.2) (by rw [vals_size, vals_size, hold, hl]) vals_one
 unfold execOp
 simp only [ho, hx, hy, Instr.storeAt, Instr.sureAddr, Sem.run_bind, Sem.run_pure, Result.andThen_ok, h]
theorem Mem.rest {e : Ent} (h : Mem w0 w (e :: M)) (ho : e.own = true) : Mem w0 w M :=
 ⟨h.os, h.tape, h.output, h.size, fun k hk hn => h.block k hk fun f hf => by
  rcases List.mem_cons.1 hf with rfl | hf
  ·have := (h.ent f (List.mem_cons_self ..)).2 ho; omega
  ·exact hn f hf, fun f hf => h.ent f (List.mem_cons_of_mem _ hf), fun m n e f hm hn hef => by
  have := h.apart (m + 1) (n + 1) e f (by simpa using hm) (by simpa using hn) hef
  omega⟩
end
end Go.Proofs.YthaoopbfggnceaaGreatDoor.Arr
namespace Go.Proofs.YthaoopbfggnceaaGreatDoor.Arr
open Go.RowKit Go.Proofs.YthaoopbfggnceaaGreatDoor.L Go.Proofs.YthaoopbfggnceaaGreatDoor.U Go.Proofs.YthaoopbfggnceaaGreatDoorW.PrintLast Go.Proofs.YthaoopbfggnceaaGreatDoorW.PrintMore Go.Proofs.YthaoopbfggnceaaGreatDoorW.PrintWords
set_option linter.unusedVariables false
set_option linter.unusedSimpArgs false
set_option maxHeartbeats 8000000 in
set_option maxRecDepth 100000 in
theorem l04Add_calls (g : Nat) (L : List Int) (A0 : Option Addr) (c0 : Nat) (h : List Int) (t : Int) (w : World) (h0 : w.heap[g]? = some (.cells (vals .i16 L) 28 (0, 0)))
  (hr : ∀ (W : World) (cs : Array Value), Fr1 g cs 28 w W → Kd.C (Kd.int .i8) W A0 h.length h) (hc : h.length ≤ c0) (hl : L.length = 44) (hh : ∀ x ∈ h, NumH x) (hn : h.length ≤ 1000)
  (hb : ∀ i : Nat, i ≤ h.length → ∀ j : Nat, j < 44 → -32768 ≤ rd (pile L h t i) (j : Int) ∧ rd (pile L h t i) (j : Int) ≤ 32767) :
  Calls Tryz.prog 57 #[.pointer (some ⟨g, 0, none⟩), .slice A0 h.length c0, .int .i16 t] w fun e w' => e = .returned (.tuple #[]) ∧ Fr1 g (vals .i16 (pile L h t h.length)) 28 w w' := by
 have hm := Mem.given h0
 have HR := Aside0.mk hr
 have HH := Aside0.mk hh
 have HB := Aside0.mk hb
 clear hr hh hb h0
 go_enter Tryz.func57, Tryz.ntmps57
 go_wp2_with (first | fail | ((with_reducible refine gt_load 45 ?_); (first | (refine st_get rfl 45 _ rfl hm rfl 0 rfl one45 (by first | omega | assumption | (simp only [lens]; first | omega | assumption) | (simp [lens]; done) | (simp [lens]; omega)) ?_) | (refine st_get rfl 45 _ rfl hm rfl 1 rfl one45 (by first | omega | assumption | (simp only [lens]; first | omega | assumption) | (simp [lens]; done) | (simp [lens]; omega)) ?_))) | ((with_reducible refine gt_field 28 1 ?_); refine st_field rfl 28 _ 1 rfl rfl field28_1 ?_) | ((with_reducible refine gt_elem 26 ?_); refine st_elem rfl 26 _ _ rfl rfl rfl arr26 (by first | omega | assumption | (simp only [lens]; first | omega | assumption) | (simp [lens]; done) | (simp [lens]; omega)) (by first | omega | assumption | (simp only [lens]; first | omega | assumption) | (simp [lens]; done) | (simp [lens]; omega)) ?_) | ((with_reducible refine gt_load 24 ?_); (first | (refine st_get rfl 24 _ rfl hm rfl 0 rfl one24 (by first | omega | assumption | (simp only [lens]; first | omega | assumption) | (simp [lens]; done) | (simp [lens]; omega)) ?_) | (refine st_get rfl 24 _ rfl hm rfl 1 rfl one24 (by first | omega | assumption | (simp only [lens]; first | omega | assumption) | (simp [lens]; done) | (simp [lens]; omega)) ?_))) | ((with_reducible refine gt_store 24 ?_); (first | (refine st_set rfl 24 _ _ rfl hm rfl rfl 0 rfl one24 (by first | omega | assumption | (simp only [lens]; first | omega | assumption) | (simp [lens]; done) | (simp [lens]; omega)) ?_) | (refine st_set rfl 24 _ _ rfl hm rfl rfl 1 rfl one24 (by first | omega | assumption | (simp only [lens]; first | omega | assumption) | (simp [lens]; done) | (simp [lens]; omega)) ?_)); clear hm; intro ws hm; simp only [List.set_cons_zero, List.set_cons_succ] at hm) | ((with_reducible refine gt_field 28 0 ?_); refine st_field rfl 28 _ 0 rfl rfl field28_0 ?_) | ((with_reducible refine gt_elem 25 ?_); refine st_elem rfl 25 _ _ rfl rfl rfl arr25 (by first | omega | assumption | (simp only [lens]; first | omega | assumption) | (simp [lens]; done) | (simp [lens]; omega)) (by first | omega | assumption | (simp only [lens]; first | omega | assumption) | (simp [lens]; done) | (simp [lens]; omega)) ?_))
 go_loopw [6] (fun v6 wr => ∃ i : Nat, i ≤ h.length ∧ v6 = .int .i64 i ∧ Mem w wr [⟨g, vals .i16 (pile L h t i), 28, false⟩]) (fun v6 _ => h.length - (intOf v6).toNat)
 case atStart => exact ⟨0, by omega, rfl, hm⟩
 case round =>
  obtain ⟨i, hi, rfl, hm⟩ := hrel
  have hl2 := (pile_length L h t i).trans hl
  by_cases hlt : i < h.length
  ·obtain ⟨ad, rfl, hc1⟩ := Kd.at_int (HR.out wr _ (hm.gives (M := []) rfl)) (i : Int) (by omega) (by omega)
   rw [Int.toNat_natCast] at hc1
   have hx := NumH.at HH.out i hlt
   have HS : Aside0 (pile L h t (i + 1) = bump (pile L h t i) (rd h (i : Int)) t) := ⟨rfl⟩
   have hb1 := HB.out (i + 1) (by omega)
   rw [HS.out] at hb1
   generalize rd h (i : Int) = x at *
   generalize pile L h t i = X at *
   by_cases hx1 : x = -10
   ·have HS2 := Aside0.mk (show pile L h t (i + 1) = X by rw [HS.out, bump, if_pos hx1])
    clear HS hb1 hx
    subst hx1
    go_wp2_with (first | fail | ((with_reducible refine gt_load 45 ?_); (first | (refine st_get rfl 45 _ rfl hm rfl 0 rfl one45 (by first | omega | assumption | (simp only [lens]; first | omega | assumption) | (simp [lens]; done) | (simp [lens]; omega)) ?_) | (refine st_get rfl 45 _ rfl hm rfl 1 rfl one45 (by first | omega | assumption | (simp only [lens]; first | omega | assumption) | (simp [lens]; done) | (simp [lens]; omega)) ?_))) | ((with_reducible refine gt_field 28 1 ?_); refine st_field rfl 28 _ 1 rfl rfl field28_1 ?_) | ((with_reducible refine gt_elem 26 ?_); refine st_elem rfl 26 _ _ rfl rfl rfl arr26 (by first | omega | assumption | (simp only [lens]; first | omega | assumption) | (simp [lens]; done) | (simp [lens]; omega)) (by first | omega | assumption | (simp only [lens]; first | omega | assumption) | (simp [lens]; done) | (simp [lens]; omega)) ?_) | ((with_reducible refine gt_load 24 ?_); (first | (refine st_get rfl 24 _ rfl hm rfl 0 rfl one24 (by first | omega | assumption | (simp only [lens]; first | omega | assumption) | (simp [lens]; done) | (simp [lens]; omega)) ?_) | (refine st_get rfl 24 _ rfl hm rfl 1 rfl one24 (by first | omega | assumption | (simp only [lens]; first | omega | assumption) | (simp [lens]; done) | (simp [lens]; omega)) ?_))) | ((with_reducible refine gt_store 24 ?_); (first | (refine st_set rfl 24 _ _ rfl hm rfl rfl 0 rfl one24 (by first | omega | assumption | (simp only [lens]; first | omega | assumption) | (simp [lens]; done) | (simp [lens]; omega)) ?_) | (refine st_set rfl 24 _ _ rfl hm rfl rfl 1 rfl one24 (by first | omega | assumption | (simp only [lens]; first | omega | assumption) | (simp [lens]; done) | (simp [lens]; omega)) ?_)); clear hm; intro ws hm; simp only [List.set_cons_zero, List.set_cons_succ] at hm) | ((with_reducible refine gt_field 28 0 ?_); refine st_field rfl 28 _ 0 rfl rfl field28_0 ?_) | ((with_reducible refine gt_elem 25 ?_); refine st_elem rfl 25 _ _ rfl rfl rfl arr25 (by first | omega | assumption | (simp only [lens]; first | omega | assumption) | (simp [lens]; done) | (simp [lens]; omega)) (by first | omega | assumption | (simp only [lens]; first | omega | assumption) | (simp [lens]; done) | (simp [lens]; omega)) ?_))
    go_roundw
    case rel => exact ⟨i + 1, by omega, by go_num, by rw [HS2.out]; exact hm⟩
    case measure => simp [intOf]; omega
   ·have hv := hm.get (n := 0) rfl (slot x) (by have := slot_lt hx hx1; omega)
    have hy := hb1 (slot x) (slot_lt hx hx1)
    rw [rd_bump X x t (slot x) (by have := slot_lt hx hx1; omega), if_pos ⟨hx1, rfl⟩] at hy
    have HS2 := Aside0.mk (show pile L h t (i + 1) = X.set (slot x) (rd X (slot x : Nat) + t) by rw [HS.out, bump, if_neg hx1])
    generalize rd X (slot x : Nat) = y at *
    have HW := Aside0.mk (i16w (x := y + t) (by omega) (by omega))
    clear HS hb1 hy
    by_cases hx0 : 0 ≤ x
    ·have hx9 : x < 40 := by rcases hx with h | h | h <;> omega
     have hn0 : ¬ x < 0 := by omega
     rw [slot_flag hx0] at hv HS2
     clear hx
     go_wp2_with (first | fail | ((with_reducible refine gt_load 45 ?_); (first | (refine st_get rfl 45 _ rfl hm rfl 0 rfl one45 (by first | omega | assumption | (simp only [lens]; first | omega | assumption) | (simp [lens]; done) | (simp [lens]; omega)) ?_) | (refine st_get rfl 45 _ rfl hm rfl 1 rfl one45 (by first | omega | assumption | (simp only [lens]; first | omega | assumption) | (simp [lens]; done) | (simp [lens]; omega)) ?_))) | ((with_reducible refine gt_field 28 1 ?_); refine st_field rfl 28 _ 1 rfl rfl field28_1 ?_) | ((with_reducible refine gt_elem 26 ?_); refine st_elem rfl 26 _ _ rfl rfl rfl arr26 (by first | omega | assumption | (simp only [lens]; first | omega | assumption) | (simp [lens]; done) | (simp [lens]; omega)) (by first | omega | assumption | (simp only [lens]; first | omega | assumption) | (simp [lens]; done) | (simp [lens]; omega)) ?_) | ((with_reducible refine gt_load 24 ?_); (first | (refine st_get rfl 24 _ rfl hm rfl 0 rfl one24 (by first | omega | assumption | (simp only [lens]; first | omega | assumption) | (simp [lens]; done) | (simp [lens]; omega)) ?_) | (refine st_get rfl 24 _ rfl hm rfl 1 rfl one24 (by first | omega | assumption | (simp only [lens]; first | omega | assumption) | (simp [lens]; done) | (simp [lens]; omega)) ?_))) | ((with_reducible refine gt_store 24 ?_); (first | (refine st_set rfl 24 _ _ rfl hm rfl rfl 0 rfl one24 (by first | omega | assumption | (simp only [lens]; first | omega | assumption) | (simp [lens]; done) | (simp [lens]; omega)) ?_) | (refine st_set rfl 24 _ _ rfl hm rfl rfl 1 rfl one24 (by first | omega | assumption | (simp only [lens]; first | omega | assumption) | (simp [lens]; done) | (simp [lens]; omega)) ?_)); clear hm; intro ws hm; simp only [List.set_cons_zero, List.set_cons_succ] at hm) | ((with_reducible refine gt_field 28 0 ?_); refine st_field rfl 28 _ 0 rfl rfl field28_0 ?_) | ((with_reducible refine gt_elem 25 ?_); refine st_elem rfl 25 _ _ rfl rfl rfl arr25 (by first | omega | assumption | (simp only [lens]; first | omega | assumption) | (simp [lens]; done) | (simp [lens]; omega)) (by first | omega | assumption | (simp only [lens]; first | omega | assumption) | (simp [lens]; done) | (simp [lens]; omega)) ?_))
     go_still_tail 14, (by kernel_rfl)
     replace hm := hm.drawn (wr.drawn + 1)
     go_wp2_with (first | fail | ((with_reducible refine gt_load 45 ?_); (first | (refine st_get rfl 45 _ rfl hm rfl 0 rfl one45 (by first | omega | assumption | (simp only [lens]; first | omega | assumption) | (simp [lens]; done) | (simp [lens]; omega)) ?_) | (refine st_get rfl 45 _ rfl hm rfl 1 rfl one45 (by first | omega | assumption | (simp only [lens]; first | omega | assumption) | (simp [lens]; done) | (simp [lens]; omega)) ?_))) | ((with_reducible refine gt_field 28 1 ?_); refine st_field rfl 28 _ 1 rfl rfl field28_1 ?_) | ((with_reducible refine gt_elem 26 ?_); refine st_elem rfl 26 _ _ rfl rfl rfl arr26 (by first | omega | assumption | (simp only [lens]; first | omega | assumption) | (simp [lens]; done) | (simp [lens]; omega)) (by first | omega | assumption | (simp only [lens]; first | omega | assumption) | (simp [lens]; done) | (simp [lens]; omega)) ?_) | ((with_reducible refine gt_load 24 ?_); (first | (refine st_get rfl 24 _ rfl hm rfl 0 rfl one24 (by first | omega | assumption | (simp only [lens]; first | omega | assumption) | (simp [lens]; done) | (simp [lens]; omega)) ?_) | (refine st_get rfl 24 _ rfl hm rfl 1 rfl one24 (by first | omega | assumption | (simp only [lens]; first | omega | assumption) | (simp [lens]; done) | (simp [lens]; omega)) ?_))) | ((with_reducible refine gt_store 24 ?_); (first | (refine st_set rfl 24 _ _ rfl hm rfl rfl 0 rfl one24 (by first | omega | assumption | (simp only [lens]; first | omega | assumption) | (simp [lens]; done) | (simp [lens]; omega)) ?_) | (refine st_set rfl 24 _ _ rfl hm rfl rfl 1 rfl one24 (by first | omega | assumption | (simp only [lens]; first | omega | assumption) | (simp [lens]; done) | (simp [lens]; omega)) ?_)); clear hm; intro ws hm; simp only [List.set_cons_zero, List.set_cons_succ] at hm) | ((with_reducible refine gt_field 28 0 ?_); refine st_field rfl 28 _ 0 rfl rfl field28_0 ?_) | ((with_reducible refine gt_elem 25 ?_); refine st_elem rfl 25 _ _ rfl rfl rfl arr25 (by first | omega | assumption | (simp only [lens]; first | omega | assumption) | (simp [lens]; done) | (simp [lens]; omega)) (by first | omega | assumption | (simp only [lens]; first | omega | assumption) | (simp [lens]; done) | (simp [lens]; omega)) ?_))
     go_roundw
     case rel => exact ⟨i + 1, by omega, by go_num, by rw [HW.out] at hm; rw [HS2.out]; exact hm⟩
     case measure => simp [intOf]; omega
    ·have hx9 : x = -4 ∨ x = -3 ∨ x = -2 ∨ x = -1 := by rcases hx with h | h | h <;> omega
     clear hx hx0 hx1
     have k0 : IntKind.i8.wrap 0 = 0 := rfl
     have k1 : IntKind.i8.wrap 1 = 1 := rfl
     have k2 : IntKind.i8.wrap 2 = 2 := rfl
     have k3 : IntKind.i8.wrap 3 = 3 := rfl
     have k4 : IntKind.i8.wrap 4 = 4 := rfl
     rcases hx9 with rfl | rfl | rfl | rfl
     all_goals
      simp [slot] at hv
      go_wp2_with (first | fail | ((with_reducible refine gt_load 45 ?_); (first | (refine st_get rfl 45 _ rfl hm rfl 0 rfl one45 (by first | omega | assumption | (simp only [lens]; first | omega | assumption) | (simp [lens]; done) | (simp [lens]; omega)) ?_) | (refine st_get rfl 45 _ rfl hm rfl 1 rfl one45 (by first | omega | assumption | (simp only [lens]; first | omega | assumption) | (simp [lens]; done) | (simp [lens]; omega)) ?_))) | ((with_reducible refine gt_field 28 1 ?_); refine st_field rfl 28 _ 1 rfl rfl field28_1 ?_) | ((with_reducible refine gt_elem 26 ?_); refine st_elem rfl 26 _ _ rfl rfl rfl arr26 (by first | omega | assumption | (simp only [lens]; first | omega | assumption) | (simp [lens]; done) | (simp [lens]; omega)) (by first | omega | assumption | (simp only [lens]; first | omega | assumption) | (simp [lens]; done) | (simp [lens]; omega)) ?_) | ((with_reducible refine gt_load 24 ?_); (first | (refine st_get rfl 24 _ rfl hm rfl 0 rfl one24 (by first | omega | assumption | (simp only [lens]; first | omega | assumption) | (simp [lens]; done) | (simp [lens]; omega)) ?_) | (refine st_get rfl 24 _ rfl hm rfl 1 rfl one24 (by first | omega | assumption | (simp only [lens]; first | omega | assumption) | (simp [lens]; done) | (simp [lens]; omega)) ?_))) | ((with_reducible refine gt_store 24 ?_); (first | (refine st_set rfl 24 _ _ rfl hm rfl rfl 0 rfl one24 (by first | omega | assumption | (simp only [lens]; first | omega | assumption) | (simp [lens]; done) | (simp [lens]; omega)) ?_) | (refine st_set rfl 24 _ _ rfl hm rfl rfl 1 rfl one24 (by first | omega | assumption | (simp only [lens]; first | omega | assumption) | (simp [lens]; done) | (simp [lens]; omega)) ?_)); clear hm; intro ws hm; simp only [List.set_cons_zero, List.set_cons_succ] at hm) | ((with_reducible refine gt_field 28 0 ?_); refine st_field rfl 28 _ 0 rfl rfl field28_0 ?_) | ((with_reducible refine gt_elem 25 ?_); refine st_elem rfl 25 _ _ rfl rfl rfl arr25 (by first | omega | assumption | (simp only [lens]; first | omega | assumption) | (simp [lens]; done) | (simp [lens]; omega)) (by first | omega | assumption | (simp only [lens]; first | omega | assumption) | (simp [lens]; done) | (simp [lens]; omega)) ?_))
      go_still_tail 16, (by kernel_rfl)
      replace hm := hm.drawn (wr.drawn + 1)
      go_wp2_with (first | fail | ((with_reducible refine gt_load 45 ?_); (first | (refine st_get rfl 45 _ rfl hm rfl 0 rfl one45 (by first | omega | assumption | (simp only [lens]; first | omega | assumption) | (simp [lens]; done) | (simp [lens]; omega)) ?_) | (refine st_get rfl 45 _ rfl hm rfl 1 rfl one45 (by first | omega | assumption | (simp only [lens]; first | omega | assumption) | (simp [lens]; done) | (simp [lens]; omega)) ?_))) | ((with_reducible refine gt_field 28 1 ?_); refine st_field rfl 28 _ 1 rfl rfl field28_1 ?_) | ((with_reducible refine gt_elem 26 ?_); refine st_elem rfl 26 _ _ rfl rfl rfl arr26 (by first | omega | assumption | (simp only [lens]; first | omega | assumption) | (simp [lens]; done) | (simp [lens]; omega)) (by first | omega | assumption | (simp only [lens]; first | omega | assumption) | (simp [lens]; done) | (simp [lens]; omega)) ?_) | ((with_reducible refine gt_load 24 ?_); (first | (refine st_get rfl 24 _ rfl hm rfl 0 rfl one24 (by first | omega | assumption | (simp only [lens]; first | omega | assumption) | (simp [lens]; done) | (simp [lens]; omega)) ?_) | (refine st_get rfl 24 _ rfl hm rfl 1 rfl one24 (by first | omega | assumption | (simp only [lens]; first | omega | assumption) | (simp [lens]; done) | (simp [lens]; omega)) ?_))) | ((with_reducible refine gt_store 24 ?_); (first | (refine st_set rfl 24 _ _ rfl hm rfl rfl 0 rfl one24 (by first | omega | assumption | (simp only [lens]; first | omega | assumption) | (simp [lens]; done) | (simp [lens]; omega)) ?_) | (refine st_set rfl 24 _ _ rfl hm rfl rfl 1 rfl one24 (by first | omega | assumption | (simp only [lens]; first | omega | assumption) | (simp [lens]; done) | (simp [lens]; omega)) ?_)); clear hm; intro ws hm; simp only [List.set_cons_zero, List.set_cons_succ] at hm) | ((with_reducible refine gt_field 28 0 ?_); refine st_field rfl 28 _ 0 rfl rfl field28_0 ?_) | ((with_reducible refine gt_elem 25 ?_); refine st_elem rfl 25 _ _ rfl rfl rfl arr25 (by first | omega | assumption | (simp only [lens]; first | omega | assumption) | (simp [lens]; done) | (simp [lens]; omega)) (by first | omega | assumption | (simp only [lens]; first | omega | assumption) | (simp [lens]; done) | (simp [lens]; omega)) ?_))
      go_roundw
      case rel => exact ⟨i + 1, by omega, by go_num, by rw [HW.out] at hm; rw [HS2.out]; simpa [slot] using hm⟩
      case measure => simp [intOf]; omega
  ·have HI := Aside0.mk (show i = h.length by omega)
   generalize hX : pile L h t i = X at *
   have HX := Aside0.mk hX
   clear hX
   go_wp2_with (first | fail | ((with_reducible refine gt_load 45 ?_); (first | (refine st_get rfl 45 _ rfl hm rfl 0 rfl one45 (by first | omega | assumption | (simp only [lens]; first | omega | assumption) | (simp [lens]; done) | (simp [lens]; omega)) ?_) | (refine st_get rfl 45 _ rfl hm rfl 1 rfl one45 (by first | omega | assumption | (simp only [lens]; first | omega | assumption) | (simp [lens]; done) | (simp [lens]; omega)) ?_))) | ((with_reducible refine gt_field 28 1 ?_); refine st_field rfl 28 _ 1 rfl rfl field28_1 ?_) | ((with_reducible refine gt_elem 26 ?_); refine st_elem rfl 26 _ _ rfl rfl rfl arr26 (by first | omega | assumption | (simp only [lens]; first | omega | assumption) | (simp [lens]; done) | (simp [lens]; omega)) (by first | omega | assumption | (simp only [lens]; first | omega | assumption) | (simp [lens]; done) | (simp [lens]; omega)) ?_) | ((with_reducible refine gt_load 24 ?_); (first | (refine st_get rfl 24 _ rfl hm rfl 0 rfl one24 (by first | omega | assumption | (simp only [lens]; first | omega | assumption) | (simp [lens]; done) | (simp [lens]; omega)) ?_) | (refine st_get rfl 24 _ rfl hm rfl 1 rfl one24 (by first | omega | assumption | (simp only [lens]; first | omega | assumption) | (simp [lens]; done) | (simp [lens]; omega)) ?_))) | ((with_reducible refine gt_store 24 ?_); (first | (refine st_set rfl 24 _ _ rfl hm rfl rfl 0 rfl one24 (by first | omega | assumption | (simp only [lens]; first | omega | assumption) | (simp [lens]; done) | (simp [lens]; omega)) ?_) | (refine st_set rfl 24 _ _ rfl hm rfl rfl 1 rfl one24 (by first | omega | assumption | (simp only [lens]; first | omega | assumption) | (simp [lens]; done) | (simp [lens]; omega)) ?_)); clear hm; intro ws hm; simp only [List.set_cons_zero, List.set_cons_succ] at hm) | ((with_reducible refine gt_field 28 0 ?_); refine st_field rfl 28 _ 0 rfl rfl field28_0 ?_) | ((with_reducible refine gt_elem 25 ?_); refine st_elem rfl 25 _ _ rfl rfl rfl arr25 (by first | omega | assumption | (simp only [lens]; first | omega | assumption) | (simp [lens]; done) | (simp [lens]; omega)) (by first | omega | assumption | (simp only [lens]; first | omega | assumption) | (simp [lens]; done) | (simp [lens]; omega)) ?_))
   refine bodyPost_end (results_none rfl _ _ _) rfl ?_
   refine ⟨rfl, ?_⟩
   rw [← HI.out, HX.out]
   exact hm.gives (M := []) rfl
end Go.Proofs.YthaoopbfggnceaaGreatDoor.Arr
namespace Go.Proofs.YthaoopbfggnceaaGreatDoor.Arr
open Go.RowKit Go.Proofs.YthaoopbfggnceaaGreatDoor.L Go.Proofs.YthaoopbfggnceaaGreatDoor.U Go.Proofs.YthaoopbfggnceaaGreatDoorW.PrintLast Go.Proofs.YthaoopbfggnceaaGreatDoorW.PrintMore Go.Proofs.YthaoopbfggnceaaGreatDoorW.PrintWords
set_option linter.unusedVariables false
set_option linter.unusedSimpArgs false
abbrev hk : Kd (List Int) := Kd.slice 45 (Kd.int .i8)
theorem rdL_get (xs : List (List Int)) (i : Nat) (h : i < xs.length) : rd_L2 xs (i : Int) = xs[i] := by
 unfold rd_L2
 simp [List.getD_eq_getElem?_getD, List.getElem?_eq_getElem h]
theorem needs_succ (L : List Int) (hs : List (List Int)) (i : Nat) (hi : i < hs.length) : needs L hs (i + 1) = pile (needs L hs i) (rd_L2 hs (i : Int)) 1 (rd_L2 hs (i : Int)).length := by
 rw [needs, rdL_get hs i hi, List.getD_eq_getElem?_getD, List.getElem?_eq_getElem hi]; rfl
theorem needs_part (hs : List (List Int)) (hh : ∀ h ∈ hs, h.length ≤ 8) (n : Nat) (hn : n < hs.length) (i : Nat) (hi : i ≤ (rd_L2 hs (n : Int)).length) (j : Nat) (hj : j < 44) :
  0 ≤ rd (pile (needs (zs 44) hs n) (rd_L2 hs (n : Int)) 1 i) (j : Int) ∧ rd (pile (needs (zs 44) hs n) (rd_L2 hs (n : Int)) 1 i) (j : Int) ≤ 8 * n + 8 := by
 have h1 := needs_small hs hh n (by omega)
 have h8 : (rd_L2 hs (n : Int)).length ≤ 8 := by rw [rdL_get hs n hn]; exact hh _ (List.getElem_mem hn)
 have := pile_one (needs (zs 44) hs n) (rd_L2 hs (n : Int)) 0 (8 * n) i (fun j hj => h1 j (by rwa [needs_length, zs_length] at hj)) j (by rw [needs_length, zs_length]; exact hj)
 omega
structure Hs (hs : List (List Int)) : Prop where
 few : hs.length ≤ 1000
 ok : ∀ h ∈ hs, okH h = true
theorem Hs.at {hs : List (List Int)} (h : Hs hs) (i : Nat) (hi : i < hs.length) : okH (rd_L2 hs (i : Int)) = true := by
 rw [rdL_get hs i hi]; exact h.ok _ (List.getElem_mem hi)
theorem Hs.short {hs : List (List Int)} (h : Hs hs) : ∀ x ∈ hs, x.length ≤ 8 := fun x hx => (okH_len (h.ok x hx)).2
set_option maxHeartbeats 8000000 in
set_option maxRecDepth 100000 in
theorem l04Need_calls (A0 : Option Addr) (c0 : Nat) (hs : List (List Int)) (w : World) (hr : Kd.C hk w A0 hs.length hs) (hc : hs.length ≤ c0) (hh : Hs hs) :
  Calls Tryz.prog 27 #[.slice A0 hs.length c0] w fun e w' => e = .returned (.agg (vals .i16 (needs (zs 44) hs hs.length))) ∧ Below w.heap.size w w' := by
 have hm := Mem.start w
 have HR := Aside0.mk hr
 have HH := Aside0.mk hh
 have hfew := hh.few
 clear hr hh
 go_enter Tryz.func27, Tryz.ntmps27
 go_wp2_with (first | fail | ((with_reducible refine gt_alloc 2 28 ?_); refine st_alloc rfl 2 rfl 28 rfl hm zero28 ?_; clear hm; intro g2 w2 hm) | ((with_reducible refine gt_build 28 ?_); refine st_zero rfl 28 rfl built28 ?_) | ((with_reducible refine gt_alloc 3 28 ?_); refine st_alloc rfl 3 rfl 28 rfl hm zero28 ?_; clear hm; intro g3 w3 hm) | ((with_reducible refine gt_store 28 ?_); (first | (refine st_full rfl 28 _ _ rfl hm rfl rfl 0 rfl agg28 (by first | omega | assumption | (simp only [lens]; first | omega | assumption) | (simp [lens]; done) | (simp [lens]; omega)) (by first | omega | assumption | (simp only [lens]; first | omega | assumption) | (simp [lens]; done) | (simp [lens]; omega)) ?_) | (refine st_full rfl 28 _ _ rfl hm rfl rfl 1 rfl agg28 (by first | omega | assumption | (simp only [lens]; first | omega | assumption) | (simp [lens]; done) | (simp [lens]; omega)) (by first | omega | assumption | (simp only [lens]; first | omega | assumption) | (simp [lens]; done) | (simp [lens]; omega)) ?_) | (refine st_full rfl 28 _ _ rfl hm rfl rfl 2 rfl agg28 (by first | omega | assumption | (simp only [lens]; first | omega | assumption) | (simp [lens]; done) | (simp [lens]; omega)) (by first | omega | assumption | (simp only [lens]; first | omega | assumption) | (simp [lens]; done) | (simp [lens]; omega)) ?_) | (refine st_full rfl 28 _ _ rfl hm rfl rfl 3 rfl agg28 (by first | omega | assumption | (simp only [lens]; first | omega | assumption) | (simp [lens]; done) | (simp [lens]; omega)) (by first | omega | assumption | (simp only [lens]; first | omega | assumption) | (simp [lens]; done) | (simp [lens]; omega)) ?_)); clear hm; intro ws hm; simp only [List.set_cons_zero, List.set_cons_succ] at hm) | ((with_reducible refine gt_load 28 ?_); (first | (refine st_load rfl 28 _ rfl hm rfl 0 rfl agg28 (by first | omega | assumption | (simp only [lens]; first | omega | assumption) | (simp [lens]; done) | (simp [lens]; omega)) ?_) | (refine st_load rfl 28 _ rfl hm rfl 1 rfl agg28 (by first | omega | assumption | (simp only [lens]; first | omega | assumption) | (simp [lens]; done) | (simp [lens]; omega)) ?_) | (refine st_load rfl 28 _ rfl hm rfl 2 rfl agg28 (by first | omega | assumption | (simp only [lens]; first | omega | assumption) | (simp [lens]; done) | (simp [lens]; omega)) ?_) | (refine st_load rfl 28 _ rfl hm rfl 3 rfl agg28 (by first | omega | assumption | (simp only [lens]; first | omega | assumption) | (simp [lens]; done) | (simp [lens]; omega)) ?_))))
 go_loopw [4] (fun v4 wr => ∃ i : Nat, i ≤ hs.length ∧ v4 = .int .i64 i ∧ Mem w wr [⟨g3, vals .i16 (needs (zs 44) hs i), 28, true⟩, ⟨g2, vals .i16 (zs 44), 28, true⟩]) (fun v4 _ => hs.length - (intOf v4).toNat)
 case atStart => exact ⟨0, by omega, rfl, hm⟩
 case round =>
  obtain ⟨i, hi, rfl, hm⟩ := hrel
  have hl2 := (needs_length (zs 44) hs i).trans zs_length
  by_cases hlt : i < hs.length
  ·obtain ⟨ad, A1, c1, rfl, hc1, hl1, hC1⟩ := at_L2 HR.out (i : Int) (by omega) (by omega)
   rw [Int.toNat_natCast] at hc1
   replace hc1 := ((hm.done rfl).cell (World.block_lt_of_cell? w _ hc1)).trans hc1
   have HC1 := Aside0.mk hC1
   have HN := Aside0.mk (okH_N (HH.out.at i hlt))
   have HS := Aside0.mk (needs_succ (zs 44) hs i hlt)
   have HB := Aside0.mk (needs_part hs HH.out.short i hlt)
   clear hC1
   generalize rd_L2 hs (i : Int) = x at *
   generalize needs (zs 44) hs i = X at *
   go_wp2_with (first
    | (first | fail | ((with_reducible refine gt_alloc 2 28 ?_); refine st_alloc rfl 2 rfl 28 rfl hm zero28 ?_; clear hm; intro g2 w2 hm) | ((with_reducible refine gt_build 28 ?_); refine st_zero rfl 28 rfl built28 ?_) | ((with_reducible refine gt_alloc 3 28 ?_); refine st_alloc rfl 3 rfl 28 rfl hm zero28 ?_; clear hm; intro g3 w3 hm) | ((with_reducible refine gt_store 28 ?_); (first | (refine st_full rfl 28 _ _ rfl hm rfl rfl 0 rfl agg28 (by first | omega | assumption | (simp only [lens]; first | omega | assumption) | (simp [lens]; done) | (simp [lens]; omega)) (by first | omega | assumption | (simp only [lens]; first | omega | assumption) | (simp [lens]; done) | (simp [lens]; omega)) ?_) | (refine st_full rfl 28 _ _ rfl hm rfl rfl 1 rfl agg28 (by first | omega | assumption | (simp only [lens]; first | omega | assumption) | (simp [lens]; done) | (simp [lens]; omega)) (by first | omega | assumption | (simp only [lens]; first | omega | assumption) | (simp [lens]; done) | (simp [lens]; omega)) ?_) | (refine st_full rfl 28 _ _ rfl hm rfl rfl 2 rfl agg28 (by first | omega | assumption | (simp only [lens]; first | omega | assumption) | (simp [lens]; done) | (simp [lens]; omega)) (by first | omega | assumption | (simp only [lens]; first | omega | assumption) | (simp [lens]; done) | (simp [lens]; omega)) ?_) | (refine st_full rfl 28 _ _ rfl hm rfl rfl 3 rfl agg28 (by first | omega | assumption | (simp only [lens]; first | omega | assumption) | (simp [lens]; done) | (simp [lens]; omega)) (by first | omega | assumption | (simp only [lens]; first | omega | assumption) | (simp [lens]; done) | (simp [lens]; omega)) ?_)); clear hm; intro ws hm; simp only [List.set_cons_zero, List.set_cons_succ] at hm) | ((with_reducible refine gt_load 28 ?_); (first | (refine st_load rfl 28 _ rfl hm rfl 0 rfl agg28 (by first | omega | assumption | (simp only [lens]; first | omega | assumption) | (simp [lens]; done) | (simp [lens]; omega)) ?_) | (refine st_load rfl 28 _ rfl hm rfl 1 rfl agg28 (by first | omega | assumption | (simp only [lens]; first | omega | assumption) | (simp [lens]; done) | (simp [lens]; omega)) ?_) | (refine st_load rfl 28 _ rfl hm rfl 2 rfl agg28 (by first | omega | assumption | (simp only [lens]; first | omega | assumption) | (simp [lens]; done) | (simp [lens]; omega)) ?_) | (refine st_load rfl 28 _ rfl hm rfl 3 rfl agg28 (by first | omega | assumption | (simp only [lens]; first | omega | assumption) | (simp [lens]; done) | (simp [lens]; omega)) ?_))))
    | (go_at_call 57; refine (l04Add_calls g3 X A1 c1 x 1 _ (hm.mem (n := 0) rfl) (fun W cs hf => Kd.C_below HC1.out ((hm.fr1 (n := 0) rfl hf).done rfl)) hl1 hl2 HN.out.1 HN.out.2 (fun i hi j hj => by have := HB.out i hi j hj; omega)).mono ?_; rintro e wa ⟨rfl, hf⟩; replace hm := hm.fr1 (n := 0) rfl hf; simp only [List.set_cons_zero] at hm; clear hf))
   go_roundw
   case rel => exact ⟨i + 1, by omega, by go_num, by rw [HS.out]; exact hm⟩
   case measure => simp [intOf]; omega
  ·have HI := Aside0.mk (show i = hs.length by omega)
   generalize hX : needs (zs 44) hs i = X at *
   have HX := Aside0.mk hX
   clear hX
   go_wp2_with (first | fail | ((with_reducible refine gt_alloc 2 28 ?_); refine st_alloc rfl 2 rfl 28 rfl hm zero28 ?_; clear hm; intro g2 w2 hm) | ((with_reducible refine gt_build 28 ?_); refine st_zero rfl 28 rfl built28 ?_) | ((with_reducible refine gt_alloc 3 28 ?_); refine st_alloc rfl 3 rfl 28 rfl hm zero28 ?_; clear hm; intro g3 w3 hm) | ((with_reducible refine gt_store 28 ?_); (first | (refine st_full rfl 28 _ _ rfl hm rfl rfl 0 rfl agg28 (by first | omega | assumption | (simp only [lens]; first | omega | assumption) | (simp [lens]; done) | (simp [lens]; omega)) (by first | omega | assumption | (simp only [lens]; first | omega | assumption) | (simp [lens]; done) | (simp [lens]; omega)) ?_) | (refine st_full rfl 28 _ _ rfl hm rfl rfl 1 rfl agg28 (by first | omega | assumption | (simp only [lens]; first | omega | assumption) | (simp [lens]; done) | (simp [lens]; omega)) (by first | omega | assumption | (simp only [lens]; first | omega | assumption) | (simp [lens]; done) | (simp [lens]; omega)) ?_) | (refine st_full rfl 28 _ _ rfl hm rfl rfl 2 rfl agg28 (by first | omega | assumption | (simp only [lens]; first | omega | assumption) | (simp [lens]; done) | (simp [lens]; omega)) (by first | omega | assumption | (simp only [lens]; first | omega | assumption) | (simp [lens]; done) | (simp [lens]; omega)) ?_) | (refine st_full rfl 28 _ _ rfl hm rfl rfl 3 rfl agg28 (by first | omega | assumption | (simp only [lens]; first | omega | assumption) | (simp [lens]; done) | (simp [lens]; omega)) (by first | omega | assumption | (simp only [lens]; first | omega | assumption) | (simp [lens]; done) | (simp [lens]; omega)) ?_)); clear hm; intro ws hm; simp only [List.set_cons_zero, List.set_cons_succ] at hm) | ((with_reducible refine gt_load 28 ?_); (first | (refine st_load rfl 28 _ rfl hm rfl 0 rfl agg28 (by first | omega | assumption | (simp only [lens]; first | omega | assumption) | (simp [lens]; done) | (simp [lens]; omega)) ?_) | (refine st_load rfl 28 _ rfl hm rfl 1 rfl agg28 (by first | omega | assumption | (simp only [lens]; first | omega | assumption) | (simp [lens]; done) | (simp [lens]; omega)) ?_) | (refine st_load rfl 28 _ rfl hm rfl 2 rfl agg28 (by first | omega | assumption | (simp only [lens]; first | omega | assumption) | (simp [lens]; done) | (simp [lens]; omega)) ?_) | (refine st_load rfl 28 _ rfl hm rfl 3 rfl agg28 (by first | omega | assumption | (simp only [lens]; first | omega | assumption) | (simp [lens]; done) | (simp [lens]; omega)) ?_))))
   ((try simp only [Exit.inBlock, Exit.then]); (first | (refine ret_cell hm rfl rfl 1 rfl agg28 (by first | omega | assumption | (simp only [lens]; first | omega | assumption) | (simp [lens]; done) | (simp [lens]; omega)) rfl ?_) | (refine ret_cell_tmp hm rfl rfl 1 rfl agg28 (by first | omega | assumption | (simp only [lens]; first | omega | assumption) | (simp [lens]; done) | (simp [lens]; omega)) rfl ?_)))
   exact ⟨by rw [← HX.out, HI.out], hm.done rfl⟩
theorem plus_pile (X h : List Int) (n : Nat) (hX : X.length = 44) (hb : ∀ j : Nat, j < 44 → -1000000 ≤ rd X (j : Int) ∧ rd X (j : Int) ≤ 1000000) (hn : n ≤ 1000) :
  List.zipWith (fun a b => wrap64 (a + b)) X (pile (zs 44) h 1 n) = pile X h 1 n := by
 have hp := (pile_length (zs 44) h 1 n).trans zs_length
 refine list_eq (n := 44) (zip_length _ _ _ hX hp) ((pile_length X h 1 n).trans hX) fun j hj => ?_
 have h1 := hb j hj
 have h2 := pile_small h n j hj
 rw [rd_zip _ _ _ j (by omega) (by omega), rd_pile X h 1 j (by omega) hX n, w64 (by omega) (by omega)]
set_option maxHeartbeats 8000000 in
set_option maxRecDepth 100000 in
theorem needed_calls (A0 : Option Addr) (c0 : Nat) (hs : List (List Int)) (w : World) (hr : Kd.C hk w A0 hs.length hs) (hc : hs.length ≤ c0) (hh : Hs hs) :
  Calls Tryz.prog 24 #[.slice A0 hs.length c0] w fun e w' => e = .returned (.agg (vals .i64 (needs (zs 44) hs hs.length))) ∧ Below w.heap.size w w' := by
 have hm := Mem.start w
 have HR := Aside0.mk hr
 have HH := Aside0.mk hh
 have hfew := hh.few
 clear hr hh
 go_enter Tryz.func24, Tryz.ntmps24
 go_wp2_with (first | fail | ((with_reducible refine gt_alloc 2 55 ?_); refine st_alloc rfl 2 rfl 55 rfl hm zero55 ?_; clear hm; intro g2 w2 hm) | ((with_reducible refine gt_build 55 ?_); refine st_zero rfl 55 rfl built55 ?_) | ((with_reducible refine gt_alloc 3 55 ?_); refine st_alloc rfl 3 rfl 55 rfl hm zero55 ?_; clear hm; intro g3 w3 hm) | ((with_reducible refine gt_store 55 ?_); (first | (refine st_full rfl 55 _ _ rfl hm rfl rfl 0 rfl agg55 (by first | omega | assumption | (simp only [lens]; first | omega | assumption) | (simp [lens]; done) | (simp [lens]; omega)) (by first | omega | assumption | (simp only [lens]; first | omega | assumption) | (simp [lens]; done) | (simp [lens]; omega)) ?_) | (refine st_full rfl 55 _ _ rfl hm rfl rfl 1 rfl agg55 (by first | omega | assumption | (simp only [lens]; first | omega | assumption) | (simp [lens]; done) | (simp [lens]; omega)) (by first | omega | assumption | (simp only [lens]; first | omega | assumption) | (simp [lens]; done) | (simp [lens]; omega)) ?_) | (refine st_full rfl 55 _ _ rfl hm rfl rfl 2 rfl agg55 (by first | omega | assumption | (simp only [lens]; first | omega | assumption) | (simp [lens]; done) | (simp [lens]; omega)) (by first | omega | assumption | (simp only [lens]; first | omega | assumption) | (simp [lens]; done) | (simp [lens]; omega)) ?_) | (refine st_full rfl 55 _ _ rfl hm rfl rfl 3 rfl agg55 (by first | omega | assumption | (simp only [lens]; first | omega | assumption) | (simp [lens]; done) | (simp [lens]; omega)) (by first | omega | assumption | (simp only [lens]; first | omega | assumption) | (simp [lens]; done) | (simp [lens]; omega)) ?_)); clear hm; intro ws hm; simp only [List.set_cons_zero, List.set_cons_succ] at hm) | ((with_reducible refine gt_load 55 ?_); (first | (refine st_load rfl 55 _ rfl hm rfl 0 rfl agg55 (by first | omega | assumption | (simp only [lens]; first | omega | assumption) | (simp [lens]; done) | (simp [lens]; omega)) ?_) | (refine st_load rfl 55 _ rfl hm rfl 1 rfl agg55 (by first | omega | assumption | (simp only [lens]; first | omega | assumption) | (simp [lens]; done) | (simp [lens]; omega)) ?_) | (refine st_load rfl 55 _ rfl hm rfl 2 rfl agg55 (by first | omega | assumption | (simp only [lens]; first | omega | assumption) | (simp [lens]; done) | (simp [lens]; omega)) ?_) | (refine st_load rfl 55 _ rfl hm rfl 3 rfl agg55 (by first | omega | assumption | (simp only [lens]; first | omega | assumption) | (simp [lens]; done) | (simp [lens]; omega)) ?_))))
 go_loopw [9, 5] (fun v9 v5 wr => ∃ i : Nat, i ≤ hs.length ∧ v9 = .int .i64 i ∧ Mem w wr [⟨g3, vals .i64 (needs (zs 44) hs i), 55, true⟩, ⟨g2, vals .i64 (zs 44), 55, true⟩]) (fun v9 _ _ => hs.length - (intOf v9).toNat)
 case atStart => exact ⟨0, by omega, rfl, hm⟩
 case round =>
  obtain ⟨i, hi, rfl, hm⟩ := hrel
  have hl2 := (needs_length (zs 44) hs i).trans zs_length
  by_cases hlt : i < hs.length
  ·obtain ⟨ad, A1, c1, rfl, hc1, hl1, hC1⟩ := at_L2 HR.out (i : Int) (by omega) (by omega)
   rw [Int.toNat_natCast] at hc1
   replace hc1 := ((hm.done rfl).cell (World.block_lt_of_cell? w _ hc1)).trans hc1
   have HC1 := Aside0.mk hC1
   have HN := Aside0.mk (okH_N (HH.out.at i hlt))
   have HS := Aside0.mk (needs_succ (zs 44) hs i hlt)
   have HB := Aside0.mk (fun j hj => needs_small hs HH.out.short i (by omega) j hj)
   clear hC1
   generalize rd_L2 hs (i : Int) = x at *
   generalize needs (zs 44) hs i = X at *
   have HP := Aside0.mk (fun W hr => hoistPieces_calls A1 c1 x W hr hl1 HN.out.1 HN.out.2)
   have hlp := (pile_length (zs 44) x 1 x.length).trans zs_length
   have hPL := fun W => plus_calls X (pile (zs 44) x 1 x.length) W hl2 hlp
   rw [plus_pile X x x.length hl2 (fun j hj => by have := HB.out j hj; omega) HN.out.2, ← HS.out] at hPL
   have HPL := Aside0.mk hPL
   have hl5 := (needs_length (zs 44) hs (i + 1)).trans zs_length
   clear hPL HS HB HN
   generalize hY : needs (zs 44) hs (i + 1) = Y at *
   have HY := Aside0.mk hY
   clear hY
   generalize pile (zs 44) x 1 x.length = P at *
   go_wp2_with (first | fail | ((with_reducible refine gt_alloc 2 55 ?_); refine st_alloc rfl 2 rfl 55 rfl hm zero55 ?_; clear hm; intro g2 w2 hm) | ((with_reducible refine gt_build 55 ?_); refine st_zero rfl 55 rfl built55 ?_) | ((with_reducible refine gt_alloc 3 55 ?_); refine st_alloc rfl 3 rfl 55 rfl hm zero55 ?_; clear hm; intro g3 w3 hm) | ((with_reducible refine gt_store 55 ?_); (first | (refine st_full rfl 55 _ _ rfl hm rfl rfl 0 rfl agg55 (by first | omega | assumption | (simp only [lens]; first | omega | assumption) | (simp [lens]; done) | (simp [lens]; omega)) (by first | omega | assumption | (simp only [lens]; first | omega | assumption) | (simp [lens]; done) | (simp [lens]; omega)) ?_) | (refine st_full rfl 55 _ _ rfl hm rfl rfl 1 rfl agg55 (by first | omega | assumption | (simp only [lens]; first | omega | assumption) | (simp [lens]; done) | (simp [lens]; omega)) (by first | omega | assumption | (simp only [lens]; first | omega | assumption) | (simp [lens]; done) | (simp [lens]; omega)) ?_) | (refine st_full rfl 55 _ _ rfl hm rfl rfl 2 rfl agg55 (by first | omega | assumption | (simp only [lens]; first | omega | assumption) | (simp [lens]; done) | (simp [lens]; omega)) (by first | omega | assumption | (simp only [lens]; first | omega | assumption) | (simp [lens]; done) | (simp [lens]; omega)) ?_) | (refine st_full rfl 55 _ _ rfl hm rfl rfl 3 rfl agg55 (by first | omega | assumption | (simp only [lens]; first | omega | assumption) | (simp [lens]; done) | (simp [lens]; omega)) (by first | omega | assumption | (simp only [lens]; first | omega | assumption) | (simp [lens]; done) | (simp [lens]; omega)) ?_)); clear hm; intro ws hm; simp only [List.set_cons_zero, List.set_cons_succ] at hm) | ((with_reducible refine gt_load 55 ?_); (first | (refine st_load rfl 55 _ rfl hm rfl 0 rfl agg55 (by first | omega | assumption | (simp only [lens]; first | omega | assumption) | (simp [lens]; done) | (simp [lens]; omega)) ?_) | (refine st_load rfl 55 _ rfl hm rfl 1 rfl agg55 (by first | omega | assumption | (simp only [lens]; first | omega | assumption) | (simp [lens]; done) | (simp [lens]; omega)) ?_) | (refine st_load rfl 55 _ rfl hm rfl 2 rfl agg55 (by first | omega | assumption | (simp only [lens]; first | omega | assumption) | (simp [lens]; done) | (simp [lens]; omega)) ?_) | (refine st_load rfl 55 _ rfl hm rfl 3 rfl agg55 (by first | omega | assumption | (simp only [lens]; first | omega | assumption) | (simp [lens]; done) | (simp [lens]; omega)) ?_))))
   refine start_ (n := 5) (S := fun w' => Mem w w' [⟨g3, vals .i64 X, 55, true⟩, ⟨g2, vals .i64 (zs 44), 55, true⟩]) (ds := [4]) #[false, false, false, false, false] (by kernel_rfl) rfl rfl (hm.drawn _) (fun hHeld => ?_)
   refine pure_ (i := 1) (N := some 14) (v := ?_) (a' := ?_) #[false, true, false, false, false] rfl rfl (by kernel_rfl) (fun _ _ _ h => h) (Or.inl ⟨by rfl, ?_⟩) ?_ ?_
   rotate_left
   ·intro w'
    go_simp
    with_reducible rfl
   rotate_left
   ·simp only [Act.put, List.setIfInBounds_toArray, List.set_cons_zero, List.set_cons_succ, i64_w, i32_w]
    rfl
   refine take_ (i := 0) (N := some 13) (v := .agg (vals .i64 X)) (a' := ?_) #[true, true, false, false, false] rfl rfl (by kernel_rfl) (fun _ _ _ h => h) (Or.inl ⟨by rfl, ?_⟩) hHeld ?_ ?_
   ·intro w' s0
    exact y_load (by rfl) (by rfl) 0 (by rfl) agg55 (by first | omega | assumption | (simp only [lens]; first | omega | assumption) | (simp [lens]; done) | (simp [lens]; omega)) w' s0
   rotate_left
   ·simp only [Act.put, List.setIfInBounds_toArray, List.set_cons_zero, List.set_cons_succ, i64_w, i32_w]
    rfl
   refine one_ (i := 2) (N := some 15) #[true, true, true, false, false] rfl rfl (by kernel_rfl) (by decide) (fun K hK => ?_)
   refine goes_ Tryz.func55 (by kernel_rfl) rfl #[.slice A1 x.length c1] (by rfl) rfl rfl (by simp only [List.map_toArray, List.map_cons, List.map_nil]; rfl) ?_
   refine (HP.out _ (Kd.C_below HC1.out (hHeld.done rfl))).mono ?_
   rintro e w3 ⟨rfl, hb⟩
   refine ⟨_, rfl, ?_⟩
   refine hK.out _ _ (hHeld.after hb) (fun hHeld => ?_)
   clear hK K
   refine norm_ (a' := ?_) ?_ ?_
   rotate_left
   ·show Act.put _ (some 15) _ = _
    simp only [Act.put, List.setIfInBounds_toArray, List.set_cons_zero, List.set_cons_succ, i64_w, i32_w]
    rfl
   refine one_ (i := 3) (N := some 16) #[true, true, true, true, false] rfl rfl (by kernel_rfl) (by decide) (fun K hK => ?_)
   refine goes_ Tryz.func54 (by kernel_rfl) rfl #[.agg (vals .i64 X), .agg (vals .i64 P)] (by rfl) rfl rfl (by simp only [List.map_toArray, List.map_cons, List.map_nil]; rfl) ?_
   refine (HPL.out _).mono ?_
   rintro e w3 ⟨rfl, hb⟩
   refine ⟨_, rfl, ?_⟩
   refine hK.out _ _ (hHeld.after hb) (fun hHeld => ?_)
   clear hK K
   refine norm_ (a' := ?_) ?_ ?_
   rotate_left
   ·show Act.put _ (some 16) _ = _
    simp only [Act.put, List.setIfInBounds_toArray, List.set_cons_zero, List.set_cons_succ, i64_w, i32_w]
    rfl
   refine last_ (i := 4) (N := none) #[true, true, true, true, true] rfl rfl (by kernel_rfl) (by decide) (fun K hK => ?_)
   refine skip_ (by rfl) rfl (y_store (by rfl) (by rfl) (by rfl) 0 hHeld (by rfl) agg55 (by first | omega | assumption | (simp only [lens]; first | omega | assumption) | (simp [lens]; done) | (simp [lens]; omega)) (by first | omega | assumption | (simp only [lens]; first | omega | assumption) | (simp [lens]; done) | (simp [lens]; omega))) ?_
   have hm := hHeld.row (n := 0) rfl (vals .i64 Y)
   refine hK.out _ _ ?_
   clear hK K
   refine norm_ (a' := ?_) ?_ ?_
   rotate_left
   ·rfl
   refine done_ (by kernel_rfl) ?_
   simp only [List.set_cons_zero, List.set_cons_succ] at hm
   go_wp2_with fail
   go_roundw
   case rel => exact ⟨i + 1, by omega, by go_num, by rw [HY.out]; exact hm⟩
   case measure => simp [intOf]; omega
  ·have HI := Aside0.mk (show i = hs.length by omega)
   generalize hX : needs (zs 44) hs i = X at *
   have HX := Aside0.mk hX
   clear hX
   go_wp2_with (first | fail | ((with_reducible refine gt_alloc 2 55 ?_); refine st_alloc rfl 2 rfl 55 rfl hm zero55 ?_; clear hm; intro g2 w2 hm) | ((with_reducible refine gt_build 55 ?_); refine st_zero rfl 55 rfl built55 ?_) | ((with_reducible refine gt_alloc 3 55 ?_); refine st_alloc rfl 3 rfl 55 rfl hm zero55 ?_; clear hm; intro g3 w3 hm) | ((with_reducible refine gt_store 55 ?_); (first | (refine st_full rfl 55 _ _ rfl hm rfl rfl 0 rfl agg55 (by first | omega | assumption | (simp only [lens]; first | omega | assumption) | (simp [lens]; done) | (simp [lens]; omega)) (by first | omega | assumption | (simp only [lens]; first | omega | assumption) | (simp [lens]; done) | (simp [lens]; omega)) ?_) | (refine st_full rfl 55 _ _ rfl hm rfl rfl 1 rfl agg55 (by first | omega | assumption | (simp only [lens]; first | omega | assumption) | (simp [lens]; done) | (simp [lens]; omega)) (by first | omega | assumption | (simp only [lens]; first | omega | assumption) | (simp [lens]; done) | (simp [lens]; omega)) ?_) | (refine st_full rfl 55 _ _ rfl hm rfl rfl 2 rfl agg55 (by first | omega | assumption | (simp only [lens]; first | omega | assumption) | (simp [lens]; done) | (simp [lens]; omega)) (by first | omega | assumption | (simp only [lens]; first | omega | assumption) | (simp [lens]; done) | (simp [lens]; omega)) ?_) | (refine st_full rfl 55 _ _ rfl hm rfl rfl 3 rfl agg55 (by first | omega | assumption | (simp only [lens]; first | omega | assumption) | (simp [lens]; done) | (simp [lens]; omega)) (by first | omega | assumption | (simp only [lens]; first | omega | assumption) | (simp [lens]; done) | (simp [lens]; omega)) ?_)); clear hm; intro ws hm; simp only [List.set_cons_zero, List.set_cons_succ] at hm) | ((with_reducible refine gt_load 55 ?_); (first | (refine st_load rfl 55 _ rfl hm rfl 0 rfl agg55 (by first | omega | assumption | (simp only [lens]; first | omega | assumption) | (simp [lens]; done) | (simp [lens]; omega)) ?_) | (refine st_load rfl 55 _ rfl hm rfl 1 rfl agg55 (by first | omega | assumption | (simp only [lens]; first | omega | assumption) | (simp [lens]; done) | (simp [lens]; omega)) ?_) | (refine st_load rfl 55 _ rfl hm rfl 2 rfl agg55 (by first | omega | assumption | (simp only [lens]; first | omega | assumption) | (simp [lens]; done) | (simp [lens]; omega)) ?_) | (refine st_load rfl 55 _ rfl hm rfl 3 rfl agg55 (by first | omega | assumption | (simp only [lens]; first | omega | assumption) | (simp [lens]; done) | (simp [lens]; omega)) ?_))))
   ((try simp only [Exit.inBlock, Exit.then]); (first | (refine ret_cell hm rfl rfl 1 rfl agg55 (by first | omega | assumption | (simp only [lens]; first | omega | assumption) | (simp [lens]; done) | (simp [lens]; omega)) rfl ?_) | (refine ret_cell_tmp hm rfl rfl 1 rfl agg55 (by first | omega | assumption | (simp only [lens]; first | omega | assumption) | (simp [lens]; done) | (simp [lens]; omega)) rfl ?_)))
   exact ⟨by rw [← HX.out, HI.out], hm.done rfl⟩
end Go.Proofs.YthaoopbfggnceaaGreatDoor.Arr
namespace Go.Proofs.YthaoopbfggnceaaGreatDoor.Arr
open Go.RowKit Go.Proofs.YthaoopbfggnceaaGreatDoorW.PrintWords Go.Proofs.YthaoopbfggnceaaGreatDoor.U
set_option linter.unusedVariables false
set_option linter.unusedSimpArgs false
structure FrB (B : List Nat) (w w' : World) : Prop where
 os : w'.os = w.os
 tape : w'.tape = w.tape
 output : w'.output = w.output
 size : w.heap.size ≤ w'.heap.size
 other : ∀ k, k < w.heap.size → k ∉ B → w'.heap[k]? = w.heap[k]?
namespace FrB
variable {B B' : List Nat} {w w1 w2 : World}
end FrB
def Row (base : Nat) (w : World) (A : Option Addr) (xs : List Int) : Prop := ∀ W : World, (∀ k, base ≤ k → k < w.heap.size → W.heap[k]? = w.heap[k]?) → Kd.C (Kd.int .i8) W A xs.length xs
namespace Row
variable {base : Nat} {w w1 : World} {A : Option Addr} {xs : List Int}
end Row
theorem C_row {w : World} {g : Nat} {k : IntKind} {L : List Int} {t : TypeId} (h : w.heap[g]? = some (.cells (vals k L) t (0, 0))) (hl : L.length ≤ 1000000) : Kd.C (Kd.int k) w (some ⟨g, 0, none⟩) L.length L := by
 refine ⟨rfl, by omega, fun _ => ⟨_, rfl, fun j y hj => ?_⟩⟩
 have hj1 := (List.getElem?_eq_some_iff.1 hj).1
 refine ⟨[.int k y], rfl, rfl, fun i u hu => ?_⟩
 rcases i with _ | i
 ·cases hu
  have hadd : (⟨g, 0, none⟩ : Addr).add (j * 1 + 0) = ⟨g, j, none⟩ := by unfold Addr.add; split <;> simp_all
  have := cell_of_row w g j _ t (0, 0) h
  rw [vals_get hj1, rd_get L j hj1] at this
  show w.cell? ((⟨g, 0, none⟩ : Addr).add (j * 1 + 0)) = _
  rw [hadd, this]
  rw [(List.getElem?_eq_some_iff.1 hj).2]
 ·simp at hu
theorem fill_int {k : IntKind} {z : Int} {cells : Array Value} {i : Nat} {place : Nat → Option (Nat × Nat)} {off : Nat} {rest : List (Nat × Value)} (hp : place i = some (off, 1)) (hc : off + 1 ≤ cells.size) :
  Instr.fill place cells ((i, .int k z) :: rest) = Instr.fill place (cells.setIfInBounds off (.int k z)) rest := by
 rw [Instr.fill, hp]
 have hs : (Value.int k z).cells.size = 1 := rfl
 simp only [hs]
 rw [if_neg (by simp; omega)]
 congr 1
end Go.Proofs.YthaoopbfggnceaaGreatDoor.Arr
namespace Go.Proofs.YthaoopbfggnceaaGreatDoor.Arr
open Go.RowKit Go.Proofs.YthaoopbfggnceaaGreatDoorW.PrintWords Go.Proofs.YthaoopbfggnceaaGreatDoorW.PrintLast Go.Proofs.YthaoopbfggnceaaGreatDoorW.PrintMore Go.Proofs.YthaoopbfggnceaaGreatDoor.U Go.Proofs.YthaoopbfggnceaaGreatDoor.L
set_option linter.unusedVariables false
set_option linter.unusedSimpArgs false
section
variable {P : Program} {ops : Array Oper} {rest : List Oper} {o : Oper} {a : Act} {w0 w : World} {M : List Ent} {Q : Exit → Act → World → Prop}
theorem st_ints2 (hgd : o.guard = none) (d : Nat) (hdst : o.dst = some d) (t : TypeId) (x y : Operand) (ho : o.op = .buildSlice t 2 #[(0, x), (1, y)]) (hm : Mem w0 w M) {k : IntKind} {z z' : Int} {e : TypeId} (hx : a.eval x = .int k z) (hy : a.eval y = .int k z') (hu : P.underlying t = some (.slice e))
  (he : OneTy P e) (hz : ZeroTy P e (vals k [0]))
  (h : ∀ g w1, Mem w0 w1 (⟨g, vals k [z, z'], e, true⟩ :: M) → wpList P ops Q rest (a.put (some d) (.slice (some ⟨g, 0, none⟩) 2 2)) w1) : wpList P ops Q (o :: rest) a w := by
 obtain ⟨zz, hz, hzc⟩ := hz
 obtain ⟨_, hi⟩ := he
 refine wpList_plain hgd fun K hK => ?_
 rw [← hdst] at h
 unfold Oper.wp execOp
 cases hq : P.info? e with
 | none => simp [hq] at hi
 | some i =>
  have hs : i.size = 1 := by simpa [hq] using hi
  have hz' : i.zero = some zz := by simpa [hq] using hz
  have hf := fill_int (k := k) (z := z) (cells := (Array.range (2 * 1)).map (zz.cells[· % zz.cells.size]!)) (off := 0) (place := fun i => some (i * 1, 1)) (i := 0) (rest := [(1, .int k z')]) (by simp) (by simp)
  rw [fill_int (k := k) (z := z') (off := 1) (by simp) (by simp)] at hf
  have hc : (((Array.range (2 * 1)).map (zz.cells[· % zz.cells.size]!)).setIfInBounds 0 (.int k z)).setIfInBounds 1 (.int k z') = vals k [z, z'] := by
   rw [show Array.range (2 * 1) = #[0, 1] from rfl]
   generalize (fun x => zz.cells[x % zz.cells.size]!) = f
   simp [vals]
  rw [hc] at hf
  have hrun : (Instr.buildSlice t 2 #[(0, .int k z), (1, .int k z')]).run P w = .ok (.slice (some ⟨w.heap.size, 0, none⟩) 2 2) (w.alloc (.cells (vals k [z, z']) e)) := by
   simp only [Instr.buildSlice, Sem.run_bind, run_underlying hu w, Result.andThen_ok, sizeOf, typeInfo, run_program, hq, Sem.run_pure, hs, zeroValue, hz']
   rw [if_neg (by omega), if_neg (by omega)]
   simp only [Sem.run_bind, Sem.run_pure, Result.andThen_ok, hq, hz', hf, run_program]
   simp [Instr.fill, newRow, Sem.run_bind]
  simp only [ho, List.map_toArray, List.map_cons, List.map_nil, hx, hy, Sem.run_bind, hrun, Sem.run_pure, Result.andThen_ok]
  exact hK _ _ (h _ _ (hm.new _ _))
end
def fst2 (a b : Int) : Int := if a = 0 then b else a
theorem firstOf_calls (g : Nat) (a b : Int) (w : World) (h : w.heap[g]? = some (.cells (vals .i64 [a, b]) 2 (0, 0))) :
  Calls Tryz.prog 42 #[.slice (some ⟨g, 0, none⟩) 2 2] w fun e w' => e = .returned (.int .i64 (fst2 a b)) ∧ Below w.heap.size w w' := by
 refine (impl_firstOf.calls 4 _ 2 [a, b] (fst2 a b) w (C_row h (by simp)) (by simp) ?_).mono ?_
 ·unfold impl_firstOf.f fst2
  by_cases ha : a = 0
  ·by_cases hb : b = 0
   ·simp [impl_firstOf.l0, rd, ha, hb, wrap64]
   ·simp [impl_firstOf.l0, rd, ha, hb, wrap64]
  ·simp [impl_firstOf.l0, rd, ha, wrap64]
 ·rintro e w' ⟨rfl, hb⟩
  exact ⟨rfl, by first | exact hb | exact hb.below⟩
structure Any (hs : List (List Int)) : Prop where
 few : hs.length ≤ 1048576
 small : ∀ h ∈ hs, Small8 h
theorem Any.at {hs : List (List Int)} (h : Any hs) (i : Nat) (hi : i < hs.length) : Small8 (rd_L2 hs (i : Int)) := by
 rw [rdL_get hs i hi]; exact h.small _ (List.getElem_mem hi)
def codeH (hs : List (List Int)) : Int := if hs.all okH = true then (if (hs.length : Int) ≤ 6 then 0 else 3) else 1
theorem codeH_zero {hs : List (List Int)} (h : codeH hs = 0) : Hs hs ∧ hs.length ≤ 6 := by
 unfold codeH at h
 split at h
 ·rename_i h1
  split at h
  ·exact ⟨⟨by omega, fun x hx => List.all_eq_true.1 h1 x hx⟩, by omega⟩
  ·omega
 ·omega
theorem l04Hoists_calls (A0 : Option Addr) (c0 : Nat) (hs : List (List Int)) (w : World) (hr : Kd.C hk w A0 hs.length hs) (hc : hs.length ≤ c0) (hh : Any hs) :
  Calls Tryz.prog 26 #[.slice A0 hs.length c0] w fun e w' => e = .returned (.int .i64 (codeH hs)) ∧ Below w.heap.size w w' := by
 have hfew := hh.few
 have key : Ev (fun k => spec_l04Hoists.f k hs) (codeH hs) := by
  unfold spec_l04Hoists.f
  refine iter (F := fun k (s : Int) => spec_l04Hoists.l0 k hs s) (fun i s => s = (i : Int) ∧ ∀ j, j < i → okH (rd_L2 hs (j : Int)) = true) _ hs.length ?_ ?_ 0 0 (by omega) ⟨rfl, fun j hj => by omega⟩
  ·rintro i s hi ⟨rfl, hp⟩
   have he : Ev (fun k => spec_l02Ok.f k (rd_L2 hs (i : Int))) (okH (rd_L2 hs (i : Int))) := by
    unfold spec_l02Ok.f
    refine Ev.bind (l02Read_ev _ (hh.at i hi).1 (hh.at i hi).2) (cons ?_)
    unfold okH
    cases readH (rd_L2 hs (i : Int)) <;> rfl
   cases hk : okH (rd_L2 hs (i : Int)) with
   | true =>
    rw [hk] at he
    refine .inl ⟨((i + 1 : Nat) : Int), ⟨rfl, fun j hj => ?_⟩, fun hgo => ?_⟩
    ·rcases Nat.lt_or_ge j i with h | h
     ·exact hp j h
     ·obtain rfl : j = i := by omega
      exact hk
    ·refine Ev.step (fun k => by rw [spec_l04Hoists.l0]) ?_
     refine pos (by omega) (pos (by omega) (Ev.bind he (pos rfl ?_)))
     rw [w64 (by omega) (by omega)]; exact hgo
   | false =>
    rw [hk] at he
    refine .inr ?_
    refine Ev.step (fun k => by rw [spec_l04Hoists.l0]) ?_
    refine pos (by omega) (pos (by omega) (Ev.bind he (neg (by decide) (cons ?_))))
    unfold codeH
    rw [if_neg]
    intro hall
    have := List.all_eq_true.1 hall _ (List.getElem_mem hi)
    rw [← rdL_get hs i hi, hk] at this
    cases this
  ·rintro s ⟨rfl, hp⟩
   refine Ev.step (fun k => by rw [spec_l04Hoists.l0]) ?_
   refine neg (by omega) ?_
   have hall : hs.all okH = true := List.all_eq_true.2 fun x hx => by
    obtain ⟨j, hj, rfl⟩ := List.getElem_of_mem hx
    have := hp j hj
    rwa [rdL_get hs j hj] at this
   unfold codeH
   rw [if_pos hall]
   by_cases h6 : (hs.length : Int) ≤ 6
   ·rw [if_pos h6]; exact neg (by omega) (Ev.now _)
   ·rw [if_neg h6]; exact pos (by omega) (Ev.now _)
 obtain ⟨k, hk⟩ := key.rounds
 exact spec_l04Hoists.calls k A0 c0 hs (codeH hs) w hr hc hk
theorem unless_calls (b : Bool) (a : Int) (w : World) : Calls Tryz.prog 53 #[.bool b, .int .i64 a] w fun e w' => e = .returned (.int .i64 (if b = true then 0 else a)) ∧ Below w.heap.size w w' := by
 refine (impl_unless.calls b a (if b = true then 0 else a) w ?_).mono ?_
 ·unfold impl_unless.f; cases b <;> rfl
 ·rintro e w' ⟨rfl, hb⟩
  exact ⟨rfl, hb.below⟩
theorem hoistsCode1_enters (a : Array Value) (W : World) : (callFunc 51 a).run Tryz.prog W = .ok (.enter 51 a) W := by kernel_rfl
set_option maxHeartbeats 4000000 in
set_option maxRecDepth 100000 in
theorem hoistsCode1_calls (A0 : Option Addr) (c0 : Nat) (h : List Int) (w : World) (hr : Kd.C (Kd.int .i8) w A0 h.length h) (hc : h.length ≤ c0) (hs : Small8 h) : Calls Tryz.prog 51 (#[.slice A0 h.length c0] ++ #[]) w fun e w' => e = .returned (.bool (!okH h)) ∧ Below w.heap.size w w' := by
 have HR := Aside0.mk hr
 have HS := Aside0.mk hs
 clear hr hs
 show Calls Tryz.prog 51 #[.slice A0 h.length c0] w _
 go_enter Tryz.func51, Tryz.ntmps51
 go_wp2_with (go_at_call 52; refine (validHoist_calls A0 c0 h _ HR.out hc HS.out.1 HS.out.2).mono ?_; rintro e wa ⟨rfl, hb⟩; have HB := Aside0.mk hb; clear hb)
 go_ret
 exact ⟨rfl, HB.out⟩
set_option maxHeartbeats 4000000 in
set_option maxRecDepth 100000 in
theorem indexFunc_h (g : FuncId) (hg : ∀ (a : Array Value) (W : World), (callFunc g a).run Tryz.prog W = .ok (.enter g a) W) (cap : Array Value) (p : List Int → Bool) (A0 : Option Addr) (c0 : Nat) (l0 : List (List Int)) (w : World) (hr0 : Kd.C hk w A0 l0.length l0) (hc0 : l0.length ≤ c0)
  (hf : ∀ x ∈ l0, ∀ A c W, Kd.C (Kd.int .i8) W A x.length x → x.length ≤ c → Calls Tryz.prog g (#[.slice A x.length c] ++ cap) W fun e W' => e = .returned (.bool (p x)) ∧ Below W.heap.size W W') :
  Calls Tryz.prog 76 #[.slice A0 l0.length c0, .func (.func g) #[] cap] w fun e w' => e = .returned (.int .i64 (ixa p l0)) ∧ Below w.heap.size w w' := by
 have HF := Aside0.mk hf
 have HR0 := Aside0.mk hr0
 have hmx := Kd.C_max hr0
 clear hf hr0
 go_enter Tryz.func76, Tryz.ntmps76
 go_wp2_with fail
 go_loopw [8, 5] (fun v8 v5 wr => ∃ i : Nat, i ≤ l0.length ∧ v8 = .int .i64 i ∧ Aside0 (Below w.heap.size w wr) ∧ Aside0 (∀ j, j < i → ∀ y, l0[j]? = some y → p y = false)) (fun v8 _ _ => l0.length - (intOf v8).toNat)
 case atStart => exact ⟨0, Nat.zero_le _, rfl, ⟨Below.refl _ _⟩, ⟨fun j hj => absurd hj (by omega)⟩⟩
 case round =>
  obtain ⟨i, hi, rfl, HB, HP⟩ := hrel
  by_cases hlt : i < l0.length
  ·have hx := List.getElem?_eq_getElem hlt
   have hx2 := rdL_get l0 i hlt
   obtain ⟨ad, A1, c1, rfl, hcell, hl1, hC1⟩ := at_L2 (Kd.C_below HR0.out HB.out) (i : Int) (by omega) (by omega)
   rw [Int.toNat_natCast] at hcell
   rw [← hx2] at hx
   generalize rd_L2 l0 (i : Int) = x at *
   have HM := Aside0.mk (HF.out x (List.mem_of_getElem? hx) A1 c1 _ hC1 hl1)
   have HX := Aside0.mk hx
   clear hx hC1 hx2
   cases hp : p x with
   | true =>
    have HPX := Aside0.mk hp
    rw [hp] at HM
    clear hp
    go_wp2_with (refine HM.out.mono ?_; rintro e w1 ⟨rfl, hb1⟩; have HB1 := Aside0.mk hb1; clear hb1)
    go_ret
    exact ⟨by rw [ixa_found p l0 i x HX.out HP.out HPX.out]; rfl, below_then HB.out HB1.out⟩
   | false =>
    have HPX := Aside0.mk hp
    rw [hp] at HM
    clear hp
    go_wp2_with (refine HM.out.mono ?_; rintro e w1 ⟨rfl, hb1⟩; have HB1 := Aside0.mk hb1; clear hb1)
    go_roundw
    case rel => exact ⟨i + 1, by omega, by go_num, ⟨below_then HB.out HB1.out⟩, ⟨fun j hj y hy => by
     rcases Nat.lt_or_ge j i with h | h
     ·exact HP.out j h y hy
     ·obtain rfl : j = i := by omega
      rw [HX.out] at hy
      rw [← Option.some.inj hy]; exact HPX.out⟩⟩
    case measure => simp [intOf]; omega
  ·have HI := Aside0.mk (show i = l0.length by omega)
   go_wp2_with fail
   go_ret
   exact ⟨by rw [ixa_none p l0 (fun j hj => HP.out j (by rw [HI.out]; exact hj))]; rfl, HB.out⟩
set_option maxHeartbeats 4000000 in
set_option maxRecDepth 100000 in
theorem containsFunc_h (g : FuncId) (hg : ∀ (a : Array Value) (W : World), (callFunc g a).run Tryz.prog W = .ok (.enter g a) W) (cap : Array Value) (p : List Int → Bool) (A0 : Option Addr) (c0 : Nat) (l0 : List (List Int)) (w : World) (hr0 : Kd.C hk w A0 l0.length l0) (hc0 : l0.length ≤ c0)
  (hf : ∀ x ∈ l0, ∀ A c W, Kd.C (Kd.int .i8) W A x.length x → x.length ≤ c → Calls Tryz.prog g (#[.slice A x.length c] ++ cap) W fun e W' => e = .returned (.bool (p x)) ∧ Below W.heap.size W W') :
  Calls Tryz.prog 50 #[.slice A0 l0.length c0, .func (.func g) #[] cap] w fun e w' => e = .returned (.bool (l0.any p)) ∧ Below w.heap.size w w' := by
 have HM := Aside0.mk (indexFunc_h g hg cap p A0 c0 l0 w hr0 hc0 hf)
 have HA := Aside0.mk (ixa_any p l0)
 clear hf hr0 hg hc0
 generalize ixa p l0 = n at *
 generalize l0.any p = b at *
 go_enter Tryz.func50, Tryz.ntmps50
 go_wp2_with (go_at_call 76; refine HM.out.mono ?_; rintro e w1 ⟨rfl, hb1⟩; have HB1 := Aside0.mk hb1; clear hb1)
 go_ret
 exact ⟨by rw [← HA.out]; rfl, HB1.out⟩
set_option maxHeartbeats 4000000 in
set_option maxRecDepth 100000 in
theorem hoistsCode_calls (A0 : Option Addr) (c0 : Nat) (hs : List (List Int)) (w : World) (hr : Kd.C hk w A0 hs.length hs) (hc : hs.length ≤ c0) (hh : Any hs) :
  Calls Tryz.prog 23 #[.slice A0 hs.length c0] w fun e w' => e = .returned (.int .i64 (codeH hs)) ∧ Below w.heap.size w w' := by
 have HM := Aside0.mk (containsFunc_h 51 hoistsCode1_enters #[] (fun h => !okH h) A0 c0 hs w hr hc (fun x hx A c W hr1 hc1 => hoistsCode1_calls A c x W hr1 hc1 (hh.small x hx)))
 have HA := Aside0.mk (show codeH hs = if (hs.any fun h => !okH h) = true then 1 else if (hs.length : Int) ≤ 6 then 0 else 3 by
  unfold codeH
  have : (hs.any fun h => !okH h) = !hs.all okH := by simp [List.all_eq_not_any_not]
  rw [this]
  cases hs.all okH <;> simp)
 clear hr hh
 rw [HA.out]
 clear HA
 generalize (hs.any fun h => !okH h) = c at *
 by_cases h6 : (hs.length : Int) ≤ 6
 all_goals
  cases c
  all_goals
   go_enter Tryz.func23, Tryz.ntmps23
   go_wp2_with (first
    | (go_at_call 50; refine HM.out.mono ?_; rintro e wa ⟨rfl, hb⟩; have HB := Aside0.mk hb; clear hb)
    | (go_at_call 53; refine (unless_calls _ _ _).mono ?_; rintro e wa ⟨rfl, hb2⟩; have HB2 := Aside0.mk hb2; clear hb2))
   go_ret
   first
    | exact ⟨by simp [h6], below_then HB.out HB2.out⟩
    | exact ⟨by simp, HB.out⟩
    | exact ⟨by simp [h6], HB.out⟩
end Go.Proofs.YthaoopbfggnceaaGreatDoor.Arr
namespace Go.Proofs.YthaoopbfggnceaaGreatDoor.Arr
open Go.RowKit Go.Proofs.YthaoopbfggnceaaGreatDoor.U Go.Proofs.YthaoopbfggnceaaGreatDoorW.PrintWords
set_option linter.unusedVariables false
set_option linter.unusedSimpArgs false
section
variable {P : Program} {ops : Array Oper} {rest : List Oper} {o : Oper} {a : Act} {w : World} {Q : Exit → Act → World → Prop} {dst : Option Tmp} {x : Operand} {tt : TypeId} {pos : String} {after : Array Edge} {g : Option (Nat × Bool)}
end
def Held (R : List Ent) (w : World) : Prop := ∀ e ∈ R, w.heap[e.g]? = some (.cells e.cs e.t (0, 0))
def entOf (w : World) (b k : Nat) : Option Ent := if b ≤ k then (match w.heap[k]? with | some (.cells cs t (0, 0)) => some ⟨k, cs, t, true⟩ | _ => none) else none
def newEnts (w : World) (b : Nat) : List Ent := (List.range w.heap.size).filterMap (entOf w b)
theorem entOf_some {w : World} {b k : Nat} {e : Ent} (h : entOf w b k = some e) : e.g = k ∧ e.own = true ∧ b ≤ k ∧ w.heap[k]? = some (.cells e.cs e.t (0, 0)) := by
 unfold entOf at h
 split at h
 ·rename_i hb
  split at h
  ·rename_i cs t hk
   injection h with h
   subst h
   exact ⟨rfl, rfl, hb, hk⟩
  ·cases h
 ·cases h
theorem entOf_cells {w : World} {b k : Nat} {cs : Array Value} {t : TypeId} (hb : b ≤ k) (h : w.heap[k]? = some (.cells cs t (0, 0))) : entOf w b k = some ⟨k, cs, t, true⟩ := by
 unfold entOf
 rw [if_pos hb, h]
 rfl
theorem newEnts_mem {w : World} {b : Nat} {e : Ent} (h : e ∈ newEnts w b) : e.own = true ∧ b ≤ e.g ∧ w.heap[e.g]? = some (.cells e.cs e.t (0, 0)) := by
 obtain ⟨k, _, hk⟩ := List.mem_filterMap.1 h
 obtain ⟨h1, h2, h3, h4⟩ := entOf_some hk
 subst h1
 exact ⟨h2, h3, h4⟩
theorem newEnts_own {w : World} {b : Nat} : (newEnts w b).all (·.own) = true := List.all_eq_true.2 fun e he => (newEnts_mem he).1
theorem newEnts_lt {w : World} {b : Nat} : (newEnts w b).Pairwise fun e f => e.g < f.g := by
 unfold newEnts
 rw [List.pairwise_filterMap]
 refine List.pairwise_lt_range.imp fun {a c} hac e he f hf => ?_
 rw [(entOf_some he).1, (entOf_some hf).1]
 exact hac
theorem newEnts_apart {w : World} {b m n : Nat} {e f : Ent} (hm : (newEnts w b)[m]? = some e) (hn : (newEnts w b)[n]? = some f) (hg : e.g = f.g) : m = n := by
 obtain ⟨hm1, rfl⟩ := List.getElem?_eq_some_iff.1 hm
 obtain ⟨hn1, rfl⟩ := List.getElem?_eq_some_iff.1 hn
 have h := List.pairwise_iff_getElem.1 (newEnts_lt (w := w) (b := b))
 rcases Nat.lt_trichotomy m n with h1 | h1 | h1
 ·have := h m n hm1 hn1 h1; omega
 ·exact h1
 ·have := h n m hn1 hm1 h1; omega
theorem Mem.grow {w0 w w' : World} {M : List Ent} (h : Mem w0 w M) (hb : Below w.heap.size w w') : Mem w0 w' (M ++ newEnts w' w.heap.size) := by
 have ha := h.after hb
 have hlt : ∀ e ∈ M, e.g < w.heap.size := fun e he => lt_of_some (h.ent e he).1
 refine ⟨ha.os, ha.tape, ha.output, ha.size, fun k hk hne => ha.block k hk fun e he => hne e (List.mem_append_left _ he), fun e he => ?_, fun m n e f hm hn hef => ?_⟩
 ·rcases List.mem_append.1 he with he | he
  ·exact ha.ent e he
  ·obtain ⟨_, h2, h3⟩ := newEnts_mem he
   exact ⟨h3, fun _ => Nat.le_trans h.size h2⟩
 ·rcases Nat.lt_or_ge m M.length with h1 | h1 <;> rcases Nat.lt_or_ge n M.length with h2 | h2
  ·rw [List.getElem?_append_left h1] at hm
   rw [List.getElem?_append_left h2] at hn
   exact h.apart m n e f hm hn hef
  ·rw [List.getElem?_append_left h1] at hm
   rw [List.getElem?_append_right h2] at hn
   have e1 := hlt e (List.mem_of_getElem? hm)
   have e2 := (newEnts_mem (List.mem_of_getElem? hn)).2.1
   omega
  ·rw [List.getElem?_append_right h1] at hm
   rw [List.getElem?_append_left h2] at hn
   have e1 := hlt f (List.mem_of_getElem? hn)
   have e2 := (newEnts_mem (List.mem_of_getElem? hm)).2.1
   omega
  ·rw [List.getElem?_append_right h1] at hm
   rw [List.getElem?_append_right h2] at hn
   have := newEnts_apart hm hn hef
   omega
theorem Mem.held {w0 w : World} {M R : List Ent} (h : Mem w0 w M) (hs : ∀ e ∈ R, e ∈ M) : Held R w := fun e he => (h.ent e (hs e he)).1
theorem R_held {α : Type} {d : Kd α} {e : Nat} {w' W : World} {base : Nat} {ok : Nat → Prop} {v : Value} {xs : List α} (hR : d.R e w' base ok v xs) (hh : Held (newEnts w' base) W) : ∃ ok', d.R e W base ok' v xs := by
 refine ⟨_, Kd.R_move (Kd.R_bound hR) fun k hk => ?_⟩
 obtain ⟨_, hb, hlt, q, hq, cells, hc⟩ := hk
 have := hh ⟨k, cells, q, true⟩ (List.mem_filterMap.2 ⟨k, List.mem_range.2 hlt, entOf_cells hb hc⟩)
 rw [hc]; exact this
theorem C_held {α : Type} {d : Kd α} {e : Nat} {w' W : World} {base n c : Nat} {ok : Nat → Prop} {A : Option Addr} {xs : List α} (hR : d.R e w' base ok (.slice A n c) xs) (hh : Held (newEnts w' base) W) : d.C W A n xs := by
 obtain ⟨ok', h⟩ := R_held hR hh
 obtain ⟨e1, _, h2⟩ := Kd.R_reads' h
 rw [e1]; exact h2
end Go.Proofs.YthaoopbfggnceaaGreatDoor.Arr
namespace Go.Proofs.YthaoopbfggnceaaGreatDoor.Arr
open Go.RowKit Go.Proofs.YthaoopbfggnceaaGreatDoorW.PrintWords Go.Proofs.YthaoopbfggnceaaGreatDoorW.PrintLast Go.Proofs.YthaoopbfggnceaaGreatDoorW.PrintMore Go.Proofs.YthaoopbfggnceaaGreatDoor.U Go.Proofs.YthaoopbfggnceaaGreatDoor.L
set_option linter.unusedVariables false
set_option linter.unusedSimpArgs false
end Go.Proofs.YthaoopbfggnceaaGreatDoor.Arr
namespace Go.Proofs.YthaoopbfggnceaaGreatDoor.Arr
open Go.RowKit Go.Proofs.YthaoopbfggnceaaGreatDoorW.PrintWords Go.Proofs.YthaoopbfggnceaaGreatDoorW.PrintLast Go.Proofs.YthaoopbfggnceaaGreatDoorW.PrintMore Go.Proofs.YthaoopbfggnceaaGreatDoor.U Go.Proofs.YthaoopbfggnceaaGreatDoor.L
set_option linter.unusedVariables false
set_option linter.unusedSimpArgs false
def w16 (x : Int) : Int := IntKind.i16.wrap x
theorem w16_small {x : Int} (h0 : 0 ≤ x) (h1 : x ≤ 20000) : w16 x = x := by
 unfold w16 IntKind.wrap
 simp only [IntKind.signed, IntKind.bits]
 simp
 omega
set_option maxHeartbeats 4000000 in
set_option maxRecDepth 100000 in
theorem locker_calls (L : List Int) (w : World) (hl : L.length = 44) : Calls Tryz.prog 25 #[.agg (vals .i64 L)] w fun e w' =>
  e = .returned (.agg (vals .i16 (L.map w16))) ∧ Below w.heap.size w w' := by
 have hm := Mem.start w
 go_enter Tryz.func25, Tryz.ntmps25
 go_wp2_with (first | fail | ((with_reducible refine gt_box 1 55 ?_); refine st_box rfl 1 rfl 55 _ rfl hm (v := .agg (vals _ _)) rfl (cs := vals _ _) rfl ?_; clear hm; intro g1 w1 hm) | ((with_reducible refine gt_alloc 2 28 ?_); refine st_alloc rfl 2 rfl 28 rfl hm zero28 ?_; clear hm; intro g2 w2 hm) | ((with_reducible refine gt_build 28 ?_); refine st_zero rfl 28 rfl built28 ?_) | ((with_reducible refine gt_alloc 3 28 ?_); refine st_alloc rfl 3 rfl 28 rfl hm zero28 ?_; clear hm; intro g3 w3 hm) | ((with_reducible refine gt_store 28 ?_); (first | (refine st_full rfl 28 _ _ rfl hm rfl rfl 0 rfl agg28 (by first | omega | assumption | (simp only [lens]; first | omega | assumption) | (simp [lens]; done) | (simp [lens]; omega)) (by first | omega | assumption | (simp only [lens]; first | omega | assumption) | (simp [lens]; done) | (simp [lens]; omega)) ?_) | (refine st_full rfl 28 _ _ rfl hm rfl rfl 1 rfl agg28 (by first | omega | assumption | (simp only [lens]; first | omega | assumption) | (simp [lens]; done) | (simp [lens]; omega)) (by first | omega | assumption | (simp only [lens]; first | omega | assumption) | (simp [lens]; done) | (simp [lens]; omega)) ?_) | (refine st_full rfl 28 _ _ rfl hm rfl rfl 2 rfl agg28 (by first | omega | assumption | (simp only [lens]; first | omega | assumption) | (simp [lens]; done) | (simp [lens]; omega)) (by first | omega | assumption | (simp only [lens]; first | omega | assumption) | (simp [lens]; done) | (simp [lens]; omega)) ?_) | (refine st_full rfl 28 _ _ rfl hm rfl rfl 3 rfl agg28 (by first | omega | assumption | (simp only [lens]; first | omega | assumption) | (simp [lens]; done) | (simp [lens]; omega)) (by first | omega | assumption | (simp only [lens]; first | omega | assumption) | (simp [lens]; done) | (simp [lens]; omega)) ?_) | (refine st_full rfl 28 _ _ rfl hm rfl rfl 4 rfl agg28 (by first | omega | assumption | (simp only [lens]; first | omega | assumption) | (simp [lens]; done) | (simp [lens]; omega)) (by first | omega | assumption | (simp only [lens]; first | omega | assumption) | (simp [lens]; done) | (simp [lens]; omega)) ?_)); clear hm; intro ws hm; simp only [List.set_cons_zero, List.set_cons_succ] at hm) | ((with_reducible refine gt_field 55 0 ?_); refine st_field rfl 55 _ 0 rfl rfl field55_0 ?_) | ((with_reducible refine gt_load 52 ?_); (first | (refine st_part rfl 52 _ rfl hm rfl 0 rfl agg52 (by first | omega | assumption | (simp only [lens]; first | omega | assumption) | (simp [lens]; done) | (simp [lens]; omega)) ?_) | (refine st_part rfl 52 _ rfl hm rfl 1 rfl agg52 (by first | omega | assumption | (simp only [lens]; first | omega | assumption) | (simp [lens]; done) | (simp [lens]; omega)) ?_) | (refine st_part rfl 52 _ rfl hm rfl 2 rfl agg52 (by first | omega | assumption | (simp only [lens]; first | omega | assumption) | (simp [lens]; done) | (simp [lens]; omega)) ?_) | (refine st_part rfl 52 _ rfl hm rfl 3 rfl agg52 (by first | omega | assumption | (simp only [lens]; first | omega | assumption) | (simp [lens]; done) | (simp [lens]; omega)) ?_) | (refine st_part rfl 52 _ rfl hm rfl 4 rfl agg52 (by first | omega | assumption | (simp only [lens]; first | omega | assumption) | (simp [lens]; done) | (simp [lens]; omega)) ?_))) | ((with_reducible refine gt_index 52 ?_); refine st_index rfl 52 _ _ rfl rfl rfl arr52 (by first | omega | assumption | (simp only [lens]; first | omega | assumption) | (simp [lens]; done) | (simp [lens]; omega)) (by first | omega | assumption | (simp only [lens]; first | omega | assumption) | (simp [lens]; done) | (simp [lens]; omega)) (by first | omega | assumption | (simp only [lens]; first | omega | assumption) | (simp [lens]; done) | (simp [lens]; omega)) ?_) | ((with_reducible refine gt_field 28 0 ?_); refine st_field rfl 28 _ 0 rfl rfl field28_0 ?_) | ((with_reducible refine gt_elem 25 ?_); refine st_elem rfl 25 _ _ rfl rfl rfl arr25 (by first | omega | assumption | (simp only [lens]; first | omega | assumption) | (simp [lens]; done) | (simp [lens]; omega)) (by first | omega | assumption | (simp only [lens]; first | omega | assumption) | (simp [lens]; done) | (simp [lens]; omega)) ?_) | ((with_reducible refine gt_store 24 ?_); (first | (refine st_set rfl 24 _ _ rfl hm rfl rfl 0 rfl one24 (by first | omega | assumption | (simp only [lens]; first | omega | assumption) | (simp [lens]; done) | (simp [lens]; omega)) ?_) | (refine st_set rfl 24 _ _ rfl hm rfl rfl 1 rfl one24 (by first | omega | assumption | (simp only [lens]; first | omega | assumption) | (simp [lens]; done) | (simp [lens]; omega)) ?_) | (refine st_set rfl 24 _ _ rfl hm rfl rfl 2 rfl one24 (by first | omega | assumption | (simp only [lens]; first | omega | assumption) | (simp [lens]; done) | (simp [lens]; omega)) ?_) | (refine st_set rfl 24 _ _ rfl hm rfl rfl 3 rfl one24 (by first | omega | assumption | (simp only [lens]; first | omega | assumption) | (simp [lens]; done) | (simp [lens]; omega)) ?_) | (refine st_set rfl 24 _ _ rfl hm rfl rfl 4 rfl one24 (by first | omega | assumption | (simp only [lens]; first | omega | assumption) | (simp [lens]; done) | (simp [lens]; omega)) ?_)); clear hm; intro ws hm; simp only [List.set_cons_zero, List.set_cons_succ] at hm) | ((with_reducible refine gt_field 55 1 ?_); refine st_field rfl 55 _ 1 rfl rfl field55_1 ?_) | ((with_reducible refine gt_load 53 ?_); (first | (refine st_part rfl 53 _ rfl hm rfl 0 rfl agg53 (by first | omega | assumption | (simp only [lens]; first | omega | assumption) | (simp [lens]; done) | (simp [lens]; omega)) ?_) | (refine st_part rfl 53 _ rfl hm rfl 1 rfl agg53 (by first | omega | assumption | (simp only [lens]; first | omega | assumption) | (simp [lens]; done) | (simp [lens]; omega)) ?_) | (refine st_part rfl 53 _ rfl hm rfl 2 rfl agg53 (by first | omega | assumption | (simp only [lens]; first | omega | assumption) | (simp [lens]; done) | (simp [lens]; omega)) ?_) | (refine st_part rfl 53 _ rfl hm rfl 3 rfl agg53 (by first | omega | assumption | (simp only [lens]; first | omega | assumption) | (simp [lens]; done) | (simp [lens]; omega)) ?_) | (refine st_part rfl 53 _ rfl hm rfl 4 rfl agg53 (by first | omega | assumption | (simp only [lens]; first | omega | assumption) | (simp [lens]; done) | (simp [lens]; omega)) ?_))) | ((with_reducible refine gt_index 53 ?_); refine st_index rfl 53 _ _ rfl rfl rfl arr53 (by first | omega | assumption | (simp only [lens]; first | omega | assumption) | (simp [lens]; done) | (simp [lens]; omega)) (by first | omega | assumption | (simp only [lens]; first | omega | assumption) | (simp [lens]; done) | (simp [lens]; omega)) (by first | omega | assumption | (simp only [lens]; first | omega | assumption) | (simp [lens]; done) | (simp [lens]; omega)) ?_) | ((with_reducible refine gt_field 28 1 ?_); refine st_field rfl 28 _ 1 rfl rfl field28_1 ?_) | ((with_reducible refine gt_elem 26 ?_); refine st_elem rfl 26 _ _ rfl rfl rfl arr26 (by first | omega | assumption | (simp only [lens]; first | omega | assumption) | (simp [lens]; done) | (simp [lens]; omega)) (by first | omega | assumption | (simp only [lens]; first | omega | assumption) | (simp [lens]; done) | (simp [lens]; omega)) ?_) | ((with_reducible refine gt_load 28 ?_); (first | (refine st_load rfl 28 _ rfl hm rfl 0 rfl agg28 (by first | omega | assumption | (simp only [lens]; first | omega | assumption) | (simp [lens]; done) | (simp [lens]; omega)) ?_) | (refine st_load rfl 28 _ rfl hm rfl 1 rfl agg28 (by first | omega | assumption | (simp only [lens]; first | omega | assumption) | (simp [lens]; done) | (simp [lens]; omega)) ?_) | (refine st_load rfl 28 _ rfl hm rfl 2 rfl agg28 (by first | omega | assumption | (simp only [lens]; first | omega | assumption) | (simp [lens]; done) | (simp [lens]; omega)) ?_) | (refine st_load rfl 28 _ rfl hm rfl 3 rfl agg28 (by first | omega | assumption | (simp only [lens]; first | omega | assumption) | (simp [lens]; done) | (simp [lens]; omega)) ?_) | (refine st_load rfl 28 _ rfl hm rfl 4 rfl agg28 (by first | omega | assumption | (simp only [lens]; first | omega | assumption) | (simp [lens]; done) | (simp [lens]; omega)) ?_))))
 go_loopw [11, 4, 5] (fun v11 v4 v5 wr => ∃ i : Nat, i ≤ 40 ∧ v11 = .int .i64 i ∧ Mem w wr [⟨g3, vals .i16 (mixTo (zs 44) (L.map w16) 0 i), 28, true⟩, ⟨g2, vals .i16 (zs 44), 28, true⟩, ⟨g1, vals .i64 L, 55, true⟩]) (fun v11 _ _ _ => 40 - (intOf v11).toNat)
 case atStart => exact ⟨0, by omega, rfl, by rw [mixTo_zero]; exact hm⟩
 case round =>
  obtain ⟨i, hi, rfl, hm⟩ := hrel
  have hl2 := mixTo_length (zs 44) (L.map w16) 0 i (by rw [zs_length]; omega) (by rw [List.length_map]; omega)
  rw [zs_length] at hl2
  by_cases hlt : i < 40
  ·go_wp2_with (first | fail | ((with_reducible refine gt_box 1 55 ?_); refine st_box rfl 1 rfl 55 _ rfl hm (v := .agg (vals _ _)) rfl (cs := vals _ _) rfl ?_; clear hm; intro g1 w1 hm) | ((with_reducible refine gt_alloc 2 28 ?_); refine st_alloc rfl 2 rfl 28 rfl hm zero28 ?_; clear hm; intro g2 w2 hm) | ((with_reducible refine gt_build 28 ?_); refine st_zero rfl 28 rfl built28 ?_) | ((with_reducible refine gt_alloc 3 28 ?_); refine st_alloc rfl 3 rfl 28 rfl hm zero28 ?_; clear hm; intro g3 w3 hm) | ((with_reducible refine gt_store 28 ?_); (first | (refine st_full rfl 28 _ _ rfl hm rfl rfl 0 rfl agg28 (by first | omega | assumption | (simp only [lens]; first | omega | assumption) | (simp [lens]; done) | (simp [lens]; omega)) (by first | omega | assumption | (simp only [lens]; first | omega | assumption) | (simp [lens]; done) | (simp [lens]; omega)) ?_) | (refine st_full rfl 28 _ _ rfl hm rfl rfl 1 rfl agg28 (by first | omega | assumption | (simp only [lens]; first | omega | assumption) | (simp [lens]; done) | (simp [lens]; omega)) (by first | omega | assumption | (simp only [lens]; first | omega | assumption) | (simp [lens]; done) | (simp [lens]; omega)) ?_) | (refine st_full rfl 28 _ _ rfl hm rfl rfl 2 rfl agg28 (by first | omega | assumption | (simp only [lens]; first | omega | assumption) | (simp [lens]; done) | (simp [lens]; omega)) (by first | omega | assumption | (simp only [lens]; first | omega | assumption) | (simp [lens]; done) | (simp [lens]; omega)) ?_) | (refine st_full rfl 28 _ _ rfl hm rfl rfl 3 rfl agg28 (by first | omega | assumption | (simp only [lens]; first | omega | assumption) | (simp [lens]; done) | (simp [lens]; omega)) (by first | omega | assumption | (simp only [lens]; first | omega | assumption) | (simp [lens]; done) | (simp [lens]; omega)) ?_) | (refine st_full rfl 28 _ _ rfl hm rfl rfl 4 rfl agg28 (by first | omega | assumption | (simp only [lens]; first | omega | assumption) | (simp [lens]; done) | (simp [lens]; omega)) (by first | omega | assumption | (simp only [lens]; first | omega | assumption) | (simp [lens]; done) | (simp [lens]; omega)) ?_)); clear hm; intro ws hm; simp only [List.set_cons_zero, List.set_cons_succ] at hm) | ((with_reducible refine gt_field 55 0 ?_); refine st_field rfl 55 _ 0 rfl rfl field55_0 ?_) | ((with_reducible refine gt_load 52 ?_); (first | (refine st_part rfl 52 _ rfl hm rfl 0 rfl agg52 (by first | omega | assumption | (simp only [lens]; first | omega | assumption) | (simp [lens]; done) | (simp [lens]; omega)) ?_) | (refine st_part rfl 52 _ rfl hm rfl 1 rfl agg52 (by first | omega | assumption | (simp only [lens]; first | omega | assumption) | (simp [lens]; done) | (simp [lens]; omega)) ?_) | (refine st_part rfl 52 _ rfl hm rfl 2 rfl agg52 (by first | omega | assumption | (simp only [lens]; first | omega | assumption) | (simp [lens]; done) | (simp [lens]; omega)) ?_) | (refine st_part rfl 52 _ rfl hm rfl 3 rfl agg52 (by first | omega | assumption | (simp only [lens]; first | omega | assumption) | (simp [lens]; done) | (simp [lens]; omega)) ?_) | (refine st_part rfl 52 _ rfl hm rfl 4 rfl agg52 (by first | omega | assumption | (simp only [lens]; first | omega | assumption) | (simp [lens]; done) | (simp [lens]; omega)) ?_))) | ((with_reducible refine gt_index 52 ?_); refine st_index rfl 52 _ _ rfl rfl rfl arr52 (by first | omega | assumption | (simp only [lens]; first | omega | assumption) | (simp [lens]; done) | (simp [lens]; omega)) (by first | omega | assumption | (simp only [lens]; first | omega | assumption) | (simp [lens]; done) | (simp [lens]; omega)) (by first | omega | assumption | (simp only [lens]; first | omega | assumption) | (simp [lens]; done) | (simp [lens]; omega)) ?_) | ((with_reducible refine gt_field 28 0 ?_); refine st_field rfl 28 _ 0 rfl rfl field28_0 ?_) | ((with_reducible refine gt_elem 25 ?_); refine st_elem rfl 25 _ _ rfl rfl rfl arr25 (by first | omega | assumption | (simp only [lens]; first | omega | assumption) | (simp [lens]; done) | (simp [lens]; omega)) (by first | omega | assumption | (simp only [lens]; first | omega | assumption) | (simp [lens]; done) | (simp [lens]; omega)) ?_) | ((with_reducible refine gt_store 24 ?_); (first | (refine st_set rfl 24 _ _ rfl hm rfl rfl 0 rfl one24 (by first | omega | assumption | (simp only [lens]; first | omega | assumption) | (simp [lens]; done) | (simp [lens]; omega)) ?_) | (refine st_set rfl 24 _ _ rfl hm rfl rfl 1 rfl one24 (by first | omega | assumption | (simp only [lens]; first | omega | assumption) | (simp [lens]; done) | (simp [lens]; omega)) ?_) | (refine st_set rfl 24 _ _ rfl hm rfl rfl 2 rfl one24 (by first | omega | assumption | (simp only [lens]; first | omega | assumption) | (simp [lens]; done) | (simp [lens]; omega)) ?_) | (refine st_set rfl 24 _ _ rfl hm rfl rfl 3 rfl one24 (by first | omega | assumption | (simp only [lens]; first | omega | assumption) | (simp [lens]; done) | (simp [lens]; omega)) ?_) | (refine st_set rfl 24 _ _ rfl hm rfl rfl 4 rfl one24 (by first | omega | assumption | (simp only [lens]; first | omega | assumption) | (simp [lens]; done) | (simp [lens]; omega)) ?_)); clear hm; intro ws hm; simp only [List.set_cons_zero, List.set_cons_succ] at hm) | ((with_reducible refine gt_field 55 1 ?_); refine st_field rfl 55 _ 1 rfl rfl field55_1 ?_) | ((with_reducible refine gt_load 53 ?_); (first | (refine st_part rfl 53 _ rfl hm rfl 0 rfl agg53 (by first | omega | assumption | (simp only [lens]; first | omega | assumption) | (simp [lens]; done) | (simp [lens]; omega)) ?_) | (refine st_part rfl 53 _ rfl hm rfl 1 rfl agg53 (by first | omega | assumption | (simp only [lens]; first | omega | assumption) | (simp [lens]; done) | (simp [lens]; omega)) ?_) | (refine st_part rfl 53 _ rfl hm rfl 2 rfl agg53 (by first | omega | assumption | (simp only [lens]; first | omega | assumption) | (simp [lens]; done) | (simp [lens]; omega)) ?_) | (refine st_part rfl 53 _ rfl hm rfl 3 rfl agg53 (by first | omega | assumption | (simp only [lens]; first | omega | assumption) | (simp [lens]; done) | (simp [lens]; omega)) ?_) | (refine st_part rfl 53 _ rfl hm rfl 4 rfl agg53 (by first | omega | assumption | (simp only [lens]; first | omega | assumption) | (simp [lens]; done) | (simp [lens]; omega)) ?_))) | ((with_reducible refine gt_index 53 ?_); refine st_index rfl 53 _ _ rfl rfl rfl arr53 (by first | omega | assumption | (simp only [lens]; first | omega | assumption) | (simp [lens]; done) | (simp [lens]; omega)) (by first | omega | assumption | (simp only [lens]; first | omega | assumption) | (simp [lens]; done) | (simp [lens]; omega)) (by first | omega | assumption | (simp only [lens]; first | omega | assumption) | (simp [lens]; done) | (simp [lens]; omega)) ?_) | ((with_reducible refine gt_field 28 1 ?_); refine st_field rfl 28 _ 1 rfl rfl field28_1 ?_) | ((with_reducible refine gt_elem 26 ?_); refine st_elem rfl 26 _ _ rfl rfl rfl arr26 (by first | omega | assumption | (simp only [lens]; first | omega | assumption) | (simp [lens]; done) | (simp [lens]; omega)) (by first | omega | assumption | (simp only [lens]; first | omega | assumption) | (simp [lens]; done) | (simp [lens]; omega)) ?_) | ((with_reducible refine gt_load 28 ?_); (first | (refine st_load rfl 28 _ rfl hm rfl 0 rfl agg28 (by first | omega | assumption | (simp only [lens]; first | omega | assumption) | (simp [lens]; done) | (simp [lens]; omega)) ?_) | (refine st_load rfl 28 _ rfl hm rfl 1 rfl agg28 (by first | omega | assumption | (simp only [lens]; first | omega | assumption) | (simp [lens]; done) | (simp [lens]; omega)) ?_) | (refine st_load rfl 28 _ rfl hm rfl 2 rfl agg28 (by first | omega | assumption | (simp only [lens]; first | omega | assumption) | (simp [lens]; done) | (simp [lens]; omega)) ?_) | (refine st_load rfl 28 _ rfl hm rfl 3 rfl agg28 (by first | omega | assumption | (simp only [lens]; first | omega | assumption) | (simp [lens]; done) | (simp [lens]; omega)) ?_) | (refine st_load rfl 28 _ rfl hm rfl 4 rfl agg28 (by first | omega | assumption | (simp only [lens]; first | omega | assumption) | (simp [lens]; done) | (simp [lens]; omega)) ?_))))
   go_roundw
   case rel =>
    refine ⟨i + 1, by omega, by go_num, ?_⟩
    rw [← mixTo_succ (zs 44) _ 0 i (by rw [zs_length]; omega) (by rw [List.length_map]; omega), rd_map _ _ _ (by omega), ← rd_take L i 40 (by omega) (by omega)]
    simpa [w16] using hm
   case measure => simp [intOf]; omega
  ·have HI := Aside0.mk (show i = 40 by omega)
   generalize hF : mixTo (zs 44) (L.map w16) 0 i = F at *
   have HF := Aside0.mk hF
   clear hF
   go_wp2_with (first | fail | ((with_reducible refine gt_box 1 55 ?_); refine st_box rfl 1 rfl 55 _ rfl hm (v := .agg (vals _ _)) rfl (cs := vals _ _) rfl ?_; clear hm; intro g1 w1 hm) | ((with_reducible refine gt_alloc 2 28 ?_); refine st_alloc rfl 2 rfl 28 rfl hm zero28 ?_; clear hm; intro g2 w2 hm) | ((with_reducible refine gt_build 28 ?_); refine st_zero rfl 28 rfl built28 ?_) | ((with_reducible refine gt_alloc 3 28 ?_); refine st_alloc rfl 3 rfl 28 rfl hm zero28 ?_; clear hm; intro g3 w3 hm) | ((with_reducible refine gt_store 28 ?_); (first | (refine st_full rfl 28 _ _ rfl hm rfl rfl 0 rfl agg28 (by first | omega | assumption | (simp only [lens]; first | omega | assumption) | (simp [lens]; done) | (simp [lens]; omega)) (by first | omega | assumption | (simp only [lens]; first | omega | assumption) | (simp [lens]; done) | (simp [lens]; omega)) ?_) | (refine st_full rfl 28 _ _ rfl hm rfl rfl 1 rfl agg28 (by first | omega | assumption | (simp only [lens]; first | omega | assumption) | (simp [lens]; done) | (simp [lens]; omega)) (by first | omega | assumption | (simp only [lens]; first | omega | assumption) | (simp [lens]; done) | (simp [lens]; omega)) ?_) | (refine st_full rfl 28 _ _ rfl hm rfl rfl 2 rfl agg28 (by first | omega | assumption | (simp only [lens]; first | omega | assumption) | (simp [lens]; done) | (simp [lens]; omega)) (by first | omega | assumption | (simp only [lens]; first | omega | assumption) | (simp [lens]; done) | (simp [lens]; omega)) ?_) | (refine st_full rfl 28 _ _ rfl hm rfl rfl 3 rfl agg28 (by first | omega | assumption | (simp only [lens]; first | omega | assumption) | (simp [lens]; done) | (simp [lens]; omega)) (by first | omega | assumption | (simp only [lens]; first | omega | assumption) | (simp [lens]; done) | (simp [lens]; omega)) ?_) | (refine st_full rfl 28 _ _ rfl hm rfl rfl 4 rfl agg28 (by first | omega | assumption | (simp only [lens]; first | omega | assumption) | (simp [lens]; done) | (simp [lens]; omega)) (by first | omega | assumption | (simp only [lens]; first | omega | assumption) | (simp [lens]; done) | (simp [lens]; omega)) ?_)); clear hm; intro ws hm; simp only [List.set_cons_zero, List.set_cons_succ] at hm) | ((with_reducible refine gt_field 55 0 ?_); refine st_field rfl 55 _ 0 rfl rfl field55_0 ?_) | ((with_reducible refine gt_load 52 ?_); (first | (refine st_part rfl 52 _ rfl hm rfl 0 rfl agg52 (by first | omega | assumption | (simp only [lens]; first | omega | assumption) | (simp [lens]; done) | (simp [lens]; omega)) ?_) | (refine st_part rfl 52 _ rfl hm rfl 1 rfl agg52 (by first | omega | assumption | (simp only [lens]; first | omega | assumption) | (simp [lens]; done) | (simp [lens]; omega)) ?_) | (refine st_part rfl 52 _ rfl hm rfl 2 rfl agg52 (by first | omega | assumption | (simp only [lens]; first | omega | assumption) | (simp [lens]; done) | (simp [lens]; omega)) ?_) | (refine st_part rfl 52 _ rfl hm rfl 3 rfl agg52 (by first | omega | assumption | (simp only [lens]; first | omega | assumption) | (simp [lens]; done) | (simp [lens]; omega)) ?_) | (refine st_part rfl 52 _ rfl hm rfl 4 rfl agg52 (by first | omega | assumption | (simp only [lens]; first | omega | assumption) | (simp [lens]; done) | (simp [lens]; omega)) ?_))) | ((with_reducible refine gt_index 52 ?_); refine st_index rfl 52 _ _ rfl rfl rfl arr52 (by first | omega | assumption | (simp only [lens]; first | omega | assumption) | (simp [lens]; done) | (simp [lens]; omega)) (by first | omega | assumption | (simp only [lens]; first | omega | assumption) | (simp [lens]; done) | (simp [lens]; omega)) (by first | omega | assumption | (simp only [lens]; first | omega | assumption) | (simp [lens]; done) | (simp [lens]; omega)) ?_) | ((with_reducible refine gt_field 28 0 ?_); refine st_field rfl 28 _ 0 rfl rfl field28_0 ?_) | ((with_reducible refine gt_elem 25 ?_); refine st_elem rfl 25 _ _ rfl rfl rfl arr25 (by first | omega | assumption | (simp only [lens]; first | omega | assumption) | (simp [lens]; done) | (simp [lens]; omega)) (by first | omega | assumption | (simp only [lens]; first | omega | assumption) | (simp [lens]; done) | (simp [lens]; omega)) ?_) | ((with_reducible refine gt_store 24 ?_); (first | (refine st_set rfl 24 _ _ rfl hm rfl rfl 0 rfl one24 (by first | omega | assumption | (simp only [lens]; first | omega | assumption) | (simp [lens]; done) | (simp [lens]; omega)) ?_) | (refine st_set rfl 24 _ _ rfl hm rfl rfl 1 rfl one24 (by first | omega | assumption | (simp only [lens]; first | omega | assumption) | (simp [lens]; done) | (simp [lens]; omega)) ?_) | (refine st_set rfl 24 _ _ rfl hm rfl rfl 2 rfl one24 (by first | omega | assumption | (simp only [lens]; first | omega | assumption) | (simp [lens]; done) | (simp [lens]; omega)) ?_) | (refine st_set rfl 24 _ _ rfl hm rfl rfl 3 rfl one24 (by first | omega | assumption | (simp only [lens]; first | omega | assumption) | (simp [lens]; done) | (simp [lens]; omega)) ?_) | (refine st_set rfl 24 _ _ rfl hm rfl rfl 4 rfl one24 (by first | omega | assumption | (simp only [lens]; first | omega | assumption) | (simp [lens]; done) | (simp [lens]; omega)) ?_)); clear hm; intro ws hm; simp only [List.set_cons_zero, List.set_cons_succ] at hm) | ((with_reducible refine gt_field 55 1 ?_); refine st_field rfl 55 _ 1 rfl rfl field55_1 ?_) | ((with_reducible refine gt_load 53 ?_); (first | (refine st_part rfl 53 _ rfl hm rfl 0 rfl agg53 (by first | omega | assumption | (simp only [lens]; first | omega | assumption) | (simp [lens]; done) | (simp [lens]; omega)) ?_) | (refine st_part rfl 53 _ rfl hm rfl 1 rfl agg53 (by first | omega | assumption | (simp only [lens]; first | omega | assumption) | (simp [lens]; done) | (simp [lens]; omega)) ?_) | (refine st_part rfl 53 _ rfl hm rfl 2 rfl agg53 (by first | omega | assumption | (simp only [lens]; first | omega | assumption) | (simp [lens]; done) | (simp [lens]; omega)) ?_) | (refine st_part rfl 53 _ rfl hm rfl 3 rfl agg53 (by first | omega | assumption | (simp only [lens]; first | omega | assumption) | (simp [lens]; done) | (simp [lens]; omega)) ?_) | (refine st_part rfl 53 _ rfl hm rfl 4 rfl agg53 (by first | omega | assumption | (simp only [lens]; first | omega | assumption) | (simp [lens]; done) | (simp [lens]; omega)) ?_))) | ((with_reducible refine gt_index 53 ?_); refine st_index rfl 53 _ _ rfl rfl rfl arr53 (by first | omega | assumption | (simp only [lens]; first | omega | assumption) | (simp [lens]; done) | (simp [lens]; omega)) (by first | omega | assumption | (simp only [lens]; first | omega | assumption) | (simp [lens]; done) | (simp [lens]; omega)) (by first | omega | assumption | (simp only [lens]; first | omega | assumption) | (simp [lens]; done) | (simp [lens]; omega)) ?_) | ((with_reducible refine gt_field 28 1 ?_); refine st_field rfl 28 _ 1 rfl rfl field28_1 ?_) | ((with_reducible refine gt_elem 26 ?_); refine st_elem rfl 26 _ _ rfl rfl rfl arr26 (by first | omega | assumption | (simp only [lens]; first | omega | assumption) | (simp [lens]; done) | (simp [lens]; omega)) (by first | omega | assumption | (simp only [lens]; first | omega | assumption) | (simp [lens]; done) | (simp [lens]; omega)) ?_) | ((with_reducible refine gt_load 28 ?_); (first | (refine st_load rfl 28 _ rfl hm rfl 0 rfl agg28 (by first | omega | assumption | (simp only [lens]; first | omega | assumption) | (simp [lens]; done) | (simp [lens]; omega)) ?_) | (refine st_load rfl 28 _ rfl hm rfl 1 rfl agg28 (by first | omega | assumption | (simp only [lens]; first | omega | assumption) | (simp [lens]; done) | (simp [lens]; omega)) ?_) | (refine st_load rfl 28 _ rfl hm rfl 2 rfl agg28 (by first | omega | assumption | (simp only [lens]; first | omega | assumption) | (simp [lens]; done) | (simp [lens]; omega)) ?_) | (refine st_load rfl 28 _ rfl hm rfl 3 rfl agg28 (by first | omega | assumption | (simp only [lens]; first | omega | assumption) | (simp [lens]; done) | (simp [lens]; omega)) ?_) | (refine st_load rfl 28 _ rfl hm rfl 4 rfl agg28 (by first | omega | assumption | (simp only [lens]; first | omega | assumption) | (simp [lens]; done) | (simp [lens]; omega)) ?_))))
   go_loopw [23, 6, 7] (fun v23 v6 v7 wr => ∃ i : Nat, i ≤ 4 ∧ v23 = .int .i64 i ∧ Mem w wr [⟨g3, vals .i16 (mixTo F ((L.drop 40).map w16) 40 i), 28, true⟩, ⟨g2, vals .i16 (zs 44), 28, true⟩, ⟨g1, vals .i64 L, 55, true⟩]) (fun v23 _ _ _ => 4 - (intOf v23).toNat)
   case atStart => exact ⟨0, by omega, rfl, by rw [mixTo_zero]; exact hm⟩
   case round =>
    obtain ⟨i2, hi2, rfl, hm⟩ := hrel
    have hl3 := mixTo_length F ((L.drop 40).map w16) 40 i2 (by omega) (by simp; omega)
    by_cases hlt : i2 < 4
    ·go_wp2_with (first | fail | ((with_reducible refine gt_box 1 55 ?_); refine st_box rfl 1 rfl 55 _ rfl hm (v := .agg (vals _ _)) rfl (cs := vals _ _) rfl ?_; clear hm; intro g1 w1 hm) | ((with_reducible refine gt_alloc 2 28 ?_); refine st_alloc rfl 2 rfl 28 rfl hm zero28 ?_; clear hm; intro g2 w2 hm) | ((with_reducible refine gt_build 28 ?_); refine st_zero rfl 28 rfl built28 ?_) | ((with_reducible refine gt_alloc 3 28 ?_); refine st_alloc rfl 3 rfl 28 rfl hm zero28 ?_; clear hm; intro g3 w3 hm) | ((with_reducible refine gt_store 28 ?_); (first | (refine st_full rfl 28 _ _ rfl hm rfl rfl 0 rfl agg28 (by first | omega | assumption | (simp only [lens]; first | omega | assumption) | (simp [lens]; done) | (simp [lens]; omega)) (by first | omega | assumption | (simp only [lens]; first | omega | assumption) | (simp [lens]; done) | (simp [lens]; omega)) ?_) | (refine st_full rfl 28 _ _ rfl hm rfl rfl 1 rfl agg28 (by first | omega | assumption | (simp only [lens]; first | omega | assumption) | (simp [lens]; done) | (simp [lens]; omega)) (by first | omega | assumption | (simp only [lens]; first | omega | assumption) | (simp [lens]; done) | (simp [lens]; omega)) ?_) | (refine st_full rfl 28 _ _ rfl hm rfl rfl 2 rfl agg28 (by first | omega | assumption | (simp only [lens]; first | omega | assumption) | (simp [lens]; done) | (simp [lens]; omega)) (by first | omega | assumption | (simp only [lens]; first | omega | assumption) | (simp [lens]; done) | (simp [lens]; omega)) ?_) | (refine st_full rfl 28 _ _ rfl hm rfl rfl 3 rfl agg28 (by first | omega | assumption | (simp only [lens]; first | omega | assumption) | (simp [lens]; done) | (simp [lens]; omega)) (by first | omega | assumption | (simp only [lens]; first | omega | assumption) | (simp [lens]; done) | (simp [lens]; omega)) ?_) | (refine st_full rfl 28 _ _ rfl hm rfl rfl 4 rfl agg28 (by first | omega | assumption | (simp only [lens]; first | omega | assumption) | (simp [lens]; done) | (simp [lens]; omega)) (by first | omega | assumption | (simp only [lens]; first | omega | assumption) | (simp [lens]; done) | (simp [lens]; omega)) ?_)); clear hm; intro ws hm; simp only [List.set_cons_zero, List.set_cons_succ] at hm) | ((with_reducible refine gt_field 55 0 ?_); refine st_field rfl 55 _ 0 rfl rfl field55_0 ?_) | ((with_reducible refine gt_load 52 ?_); (first | (refine st_part rfl 52 _ rfl hm rfl 0 rfl agg52 (by first | omega | assumption | (simp only [lens]; first | omega | assumption) | (simp [lens]; done) | (simp [lens]; omega)) ?_) | (refine st_part rfl 52 _ rfl hm rfl 1 rfl agg52 (by first | omega | assumption | (simp only [lens]; first | omega | assumption) | (simp [lens]; done) | (simp [lens]; omega)) ?_) | (refine st_part rfl 52 _ rfl hm rfl 2 rfl agg52 (by first | omega | assumption | (simp only [lens]; first | omega | assumption) | (simp [lens]; done) | (simp [lens]; omega)) ?_) | (refine st_part rfl 52 _ rfl hm rfl 3 rfl agg52 (by first | omega | assumption | (simp only [lens]; first | omega | assumption) | (simp [lens]; done) | (simp [lens]; omega)) ?_) | (refine st_part rfl 52 _ rfl hm rfl 4 rfl agg52 (by first | omega | assumption | (simp only [lens]; first | omega | assumption) | (simp [lens]; done) | (simp [lens]; omega)) ?_))) | ((with_reducible refine gt_index 52 ?_); refine st_index rfl 52 _ _ rfl rfl rfl arr52 (by first | omega | assumption | (simp only [lens]; first | omega | assumption) | (simp [lens]; done) | (simp [lens]; omega)) (by first | omega | assumption | (simp only [lens]; first | omega | assumption) | (simp [lens]; done) | (simp [lens]; omega)) (by first | omega | assumption | (simp only [lens]; first | omega | assumption) | (simp [lens]; done) | (simp [lens]; omega)) ?_) | ((with_reducible refine gt_field 28 0 ?_); refine st_field rfl 28 _ 0 rfl rfl field28_0 ?_) | ((with_reducible refine gt_elem 25 ?_); refine st_elem rfl 25 _ _ rfl rfl rfl arr25 (by first | omega | assumption | (simp only [lens]; first | omega | assumption) | (simp [lens]; done) | (simp [lens]; omega)) (by first | omega | assumption | (simp only [lens]; first | omega | assumption) | (simp [lens]; done) | (simp [lens]; omega)) ?_) | ((with_reducible refine gt_store 24 ?_); (first | (refine st_set rfl 24 _ _ rfl hm rfl rfl 0 rfl one24 (by first | omega | assumption | (simp only [lens]; first | omega | assumption) | (simp [lens]; done) | (simp [lens]; omega)) ?_) | (refine st_set rfl 24 _ _ rfl hm rfl rfl 1 rfl one24 (by first | omega | assumption | (simp only [lens]; first | omega | assumption) | (simp [lens]; done) | (simp [lens]; omega)) ?_) | (refine st_set rfl 24 _ _ rfl hm rfl rfl 2 rfl one24 (by first | omega | assumption | (simp only [lens]; first | omega | assumption) | (simp [lens]; done) | (simp [lens]; omega)) ?_) | (refine st_set rfl 24 _ _ rfl hm rfl rfl 3 rfl one24 (by first | omega | assumption | (simp only [lens]; first | omega | assumption) | (simp [lens]; done) | (simp [lens]; omega)) ?_) | (refine st_set rfl 24 _ _ rfl hm rfl rfl 4 rfl one24 (by first | omega | assumption | (simp only [lens]; first | omega | assumption) | (simp [lens]; done) | (simp [lens]; omega)) ?_)); clear hm; intro ws hm; simp only [List.set_cons_zero, List.set_cons_succ] at hm) | ((with_reducible refine gt_field 55 1 ?_); refine st_field rfl 55 _ 1 rfl rfl field55_1 ?_) | ((with_reducible refine gt_load 53 ?_); (first | (refine st_part rfl 53 _ rfl hm rfl 0 rfl agg53 (by first | omega | assumption | (simp only [lens]; first | omega | assumption) | (simp [lens]; done) | (simp [lens]; omega)) ?_) | (refine st_part rfl 53 _ rfl hm rfl 1 rfl agg53 (by first | omega | assumption | (simp only [lens]; first | omega | assumption) | (simp [lens]; done) | (simp [lens]; omega)) ?_) | (refine st_part rfl 53 _ rfl hm rfl 2 rfl agg53 (by first | omega | assumption | (simp only [lens]; first | omega | assumption) | (simp [lens]; done) | (simp [lens]; omega)) ?_) | (refine st_part rfl 53 _ rfl hm rfl 3 rfl agg53 (by first | omega | assumption | (simp only [lens]; first | omega | assumption) | (simp [lens]; done) | (simp [lens]; omega)) ?_) | (refine st_part rfl 53 _ rfl hm rfl 4 rfl agg53 (by first | omega | assumption | (simp only [lens]; first | omega | assumption) | (simp [lens]; done) | (simp [lens]; omega)) ?_))) | ((with_reducible refine gt_index 53 ?_); refine st_index rfl 53 _ _ rfl rfl rfl arr53 (by first | omega | assumption | (simp only [lens]; first | omega | assumption) | (simp [lens]; done) | (simp [lens]; omega)) (by first | omega | assumption | (simp only [lens]; first | omega | assumption) | (simp [lens]; done) | (simp [lens]; omega)) (by first | omega | assumption | (simp only [lens]; first | omega | assumption) | (simp [lens]; done) | (simp [lens]; omega)) ?_) | ((with_reducible refine gt_field 28 1 ?_); refine st_field rfl 28 _ 1 rfl rfl field28_1 ?_) | ((with_reducible refine gt_elem 26 ?_); refine st_elem rfl 26 _ _ rfl rfl rfl arr26 (by first | omega | assumption | (simp only [lens]; first | omega | assumption) | (simp [lens]; done) | (simp [lens]; omega)) (by first | omega | assumption | (simp only [lens]; first | omega | assumption) | (simp [lens]; done) | (simp [lens]; omega)) ?_) | ((with_reducible refine gt_load 28 ?_); (first | (refine st_load rfl 28 _ rfl hm rfl 0 rfl agg28 (by first | omega | assumption | (simp only [lens]; first | omega | assumption) | (simp [lens]; done) | (simp [lens]; omega)) ?_) | (refine st_load rfl 28 _ rfl hm rfl 1 rfl agg28 (by first | omega | assumption | (simp only [lens]; first | omega | assumption) | (simp [lens]; done) | (simp [lens]; omega)) ?_) | (refine st_load rfl 28 _ rfl hm rfl 2 rfl agg28 (by first | omega | assumption | (simp only [lens]; first | omega | assumption) | (simp [lens]; done) | (simp [lens]; omega)) ?_) | (refine st_load rfl 28 _ rfl hm rfl 3 rfl agg28 (by first | omega | assumption | (simp only [lens]; first | omega | assumption) | (simp [lens]; done) | (simp [lens]; omega)) ?_) | (refine st_load rfl 28 _ rfl hm rfl 4 rfl agg28 (by first | omega | assumption | (simp only [lens]; first | omega | assumption) | (simp [lens]; done) | (simp [lens]; omega)) ?_))))
     go_roundw
     case rel =>
      refine ⟨i2 + 1, by omega, by go_num, ?_⟩
      rw [← mixTo_succ F _ 40 i2 (by omega) (by simp; omega), rd_map _ _ _ (by simp; omega), ← rd_take (L.drop 40) i2 4 (by omega) (by simp; omega)]
      simpa [w16] using hm
     case measure => simp [intOf]; omega
    ·have HI2 := Aside0.mk (show i2 = 4 by omega)
     go_wp2_with (first | fail | ((with_reducible refine gt_box 1 55 ?_); refine st_box rfl 1 rfl 55 _ rfl hm (v := .agg (vals _ _)) rfl (cs := vals _ _) rfl ?_; clear hm; intro g1 w1 hm) | ((with_reducible refine gt_alloc 2 28 ?_); refine st_alloc rfl 2 rfl 28 rfl hm zero28 ?_; clear hm; intro g2 w2 hm) | ((with_reducible refine gt_build 28 ?_); refine st_zero rfl 28 rfl built28 ?_) | ((with_reducible refine gt_alloc 3 28 ?_); refine st_alloc rfl 3 rfl 28 rfl hm zero28 ?_; clear hm; intro g3 w3 hm) | ((with_reducible refine gt_store 28 ?_); (first | (refine st_full rfl 28 _ _ rfl hm rfl rfl 0 rfl agg28 (by first | omega | assumption | (simp only [lens]; first | omega | assumption) | (simp [lens]; done) | (simp [lens]; omega)) (by first | omega | assumption | (simp only [lens]; first | omega | assumption) | (simp [lens]; done) | (simp [lens]; omega)) ?_) | (refine st_full rfl 28 _ _ rfl hm rfl rfl 1 rfl agg28 (by first | omega | assumption | (simp only [lens]; first | omega | assumption) | (simp [lens]; done) | (simp [lens]; omega)) (by first | omega | assumption | (simp only [lens]; first | omega | assumption) | (simp [lens]; done) | (simp [lens]; omega)) ?_) | (refine st_full rfl 28 _ _ rfl hm rfl rfl 2 rfl agg28 (by first | omega | assumption | (simp only [lens]; first | omega | assumption) | (simp [lens]; done) | (simp [lens]; omega)) (by first | omega | assumption | (simp only [lens]; first | omega | assumption) | (simp [lens]; done) | (simp [lens]; omega)) ?_) | (refine st_full rfl 28 _ _ rfl hm rfl rfl 3 rfl agg28 (by first | omega | assumption | (simp only [lens]; first | omega | assumption) | (simp [lens]; done) | (simp [lens]; omega)) (by first | omega | assumption | (simp only [lens]; first | omega | assumption) | (simp [lens]; done) | (simp [lens]; omega)) ?_) | (refine st_full rfl 28 _ _ rfl hm rfl rfl 4 rfl agg28 (by first | omega | assumption | (simp only [lens]; first | omega | assumption) | (simp [lens]; done) | (simp [lens]; omega)) (by first | omega | assumption | (simp only [lens]; first | omega | assumption) | (simp [lens]; done) | (simp [lens]; omega)) ?_)); clear hm; intro ws hm; simp only [List.set_cons_zero, List.set_cons_succ] at hm) | ((with_reducible refine gt_field 55 0 ?_); refine st_field rfl 55 _ 0 rfl rfl field55_0 ?_) | ((with_reducible refine gt_load 52 ?_); (first | (refine st_part rfl 52 _ rfl hm rfl 0 rfl agg52 (by first | omega | assumption | (simp only [lens]; first | omega | assumption) | (simp [lens]; done) | (simp [lens]; omega)) ?_) | (refine st_part rfl 52 _ rfl hm rfl 1 rfl agg52 (by first | omega | assumption | (simp only [lens]; first | omega | assumption) | (simp [lens]; done) | (simp [lens]; omega)) ?_) | (refine st_part rfl 52 _ rfl hm rfl 2 rfl agg52 (by first | omega | assumption | (simp only [lens]; first | omega | assumption) | (simp [lens]; done) | (simp [lens]; omega)) ?_) | (refine st_part rfl 52 _ rfl hm rfl 3 rfl agg52 (by first | omega | assumption | (simp only [lens]; first | omega | assumption) | (simp [lens]; done) | (simp [lens]; omega)) ?_) | (refine st_part rfl 52 _ rfl hm rfl 4 rfl agg52 (by first | omega | assumption | (simp only [lens]; first | omega | assumption) | (simp [lens]; done) | (simp [lens]; omega)) ?_))) | ((with_reducible refine gt_index 52 ?_); refine st_index rfl 52 _ _ rfl rfl rfl arr52 (by first | omega | assumption | (simp only [lens]; first | omega | assumption) | (simp [lens]; done) | (simp [lens]; omega)) (by first | omega | assumption | (simp only [lens]; first | omega | assumption) | (simp [lens]; done) | (simp [lens]; omega)) (by first | omega | assumption | (simp only [lens]; first | omega | assumption) | (simp [lens]; done) | (simp [lens]; omega)) ?_) | ((with_reducible refine gt_field 28 0 ?_); refine st_field rfl 28 _ 0 rfl rfl field28_0 ?_) | ((with_reducible refine gt_elem 25 ?_); refine st_elem rfl 25 _ _ rfl rfl rfl arr25 (by first | omega | assumption | (simp only [lens]; first | omega | assumption) | (simp [lens]; done) | (simp [lens]; omega)) (by first | omega | assumption | (simp only [lens]; first | omega | assumption) | (simp [lens]; done) | (simp [lens]; omega)) ?_) | ((with_reducible refine gt_store 24 ?_); (first | (refine st_set rfl 24 _ _ rfl hm rfl rfl 0 rfl one24 (by first | omega | assumption | (simp only [lens]; first | omega | assumption) | (simp [lens]; done) | (simp [lens]; omega)) ?_) | (refine st_set rfl 24 _ _ rfl hm rfl rfl 1 rfl one24 (by first | omega | assumption | (simp only [lens]; first | omega | assumption) | (simp [lens]; done) | (simp [lens]; omega)) ?_) | (refine st_set rfl 24 _ _ rfl hm rfl rfl 2 rfl one24 (by first | omega | assumption | (simp only [lens]; first | omega | assumption) | (simp [lens]; done) | (simp [lens]; omega)) ?_) | (refine st_set rfl 24 _ _ rfl hm rfl rfl 3 rfl one24 (by first | omega | assumption | (simp only [lens]; first | omega | assumption) | (simp [lens]; done) | (simp [lens]; omega)) ?_) | (refine st_set rfl 24 _ _ rfl hm rfl rfl 4 rfl one24 (by first | omega | assumption | (simp only [lens]; first | omega | assumption) | (simp [lens]; done) | (simp [lens]; omega)) ?_)); clear hm; intro ws hm; simp only [List.set_cons_zero, List.set_cons_succ] at hm) | ((with_reducible refine gt_field 55 1 ?_); refine st_field rfl 55 _ 1 rfl rfl field55_1 ?_) | ((with_reducible refine gt_load 53 ?_); (first | (refine st_part rfl 53 _ rfl hm rfl 0 rfl agg53 (by first | omega | assumption | (simp only [lens]; first | omega | assumption) | (simp [lens]; done) | (simp [lens]; omega)) ?_) | (refine st_part rfl 53 _ rfl hm rfl 1 rfl agg53 (by first | omega | assumption | (simp only [lens]; first | omega | assumption) | (simp [lens]; done) | (simp [lens]; omega)) ?_) | (refine st_part rfl 53 _ rfl hm rfl 2 rfl agg53 (by first | omega | assumption | (simp only [lens]; first | omega | assumption) | (simp [lens]; done) | (simp [lens]; omega)) ?_) | (refine st_part rfl 53 _ rfl hm rfl 3 rfl agg53 (by first | omega | assumption | (simp only [lens]; first | omega | assumption) | (simp [lens]; done) | (simp [lens]; omega)) ?_) | (refine st_part rfl 53 _ rfl hm rfl 4 rfl agg53 (by first | omega | assumption | (simp only [lens]; first | omega | assumption) | (simp [lens]; done) | (simp [lens]; omega)) ?_))) | ((with_reducible refine gt_index 53 ?_); refine st_index rfl 53 _ _ rfl rfl rfl arr53 (by first | omega | assumption | (simp only [lens]; first | omega | assumption) | (simp [lens]; done) | (simp [lens]; omega)) (by first | omega | assumption | (simp only [lens]; first | omega | assumption) | (simp [lens]; done) | (simp [lens]; omega)) (by first | omega | assumption | (simp only [lens]; first | omega | assumption) | (simp [lens]; done) | (simp [lens]; omega)) ?_) | ((with_reducible refine gt_field 28 1 ?_); refine st_field rfl 28 _ 1 rfl rfl field28_1 ?_) | ((with_reducible refine gt_elem 26 ?_); refine st_elem rfl 26 _ _ rfl rfl rfl arr26 (by first | omega | assumption | (simp only [lens]; first | omega | assumption) | (simp [lens]; done) | (simp [lens]; omega)) (by first | omega | assumption | (simp only [lens]; first | omega | assumption) | (simp [lens]; done) | (simp [lens]; omega)) ?_) | ((with_reducible refine gt_load 28 ?_); (first | (refine st_load rfl 28 _ rfl hm rfl 0 rfl agg28 (by first | omega | assumption | (simp only [lens]; first | omega | assumption) | (simp [lens]; done) | (simp [lens]; omega)) ?_) | (refine st_load rfl 28 _ rfl hm rfl 1 rfl agg28 (by first | omega | assumption | (simp only [lens]; first | omega | assumption) | (simp [lens]; done) | (simp [lens]; omega)) ?_) | (refine st_load rfl 28 _ rfl hm rfl 2 rfl agg28 (by first | omega | assumption | (simp only [lens]; first | omega | assumption) | (simp [lens]; done) | (simp [lens]; omega)) ?_) | (refine st_load rfl 28 _ rfl hm rfl 3 rfl agg28 (by first | omega | assumption | (simp only [lens]; first | omega | assumption) | (simp [lens]; done) | (simp [lens]; omega)) ?_) | (refine st_load rfl 28 _ rfl hm rfl 4 rfl agg28 (by first | omega | assumption | (simp only [lens]; first | omega | assumption) | (simp [lens]; done) | (simp [lens]; omega)) ?_))))
     ((try simp only [Exit.inBlock, Exit.then]); (first | (refine ret_cell hm rfl rfl 1 rfl agg28 (by first | omega | assumption | (simp only [lens]; first | omega | assumption) | (simp [lens]; done) | (simp [lens]; omega)) rfl ?_) | (refine ret_cell_tmp hm rfl rfl 1 rfl agg28 (by first | omega | assumption | (simp only [lens]; first | omega | assumption) | (simp [lens]; done) | (simp [lens]; omega)) rfl ?_)))
     refine ⟨?_, hm.done rfl⟩
     rw [← HF.out, HI.out, HI2.out]
     congr 3
     unfold mixTo
     apply List.ext_getElem?
     intro j
     simp only [zs, List.getElem?_append, List.length_append, List.length_take, List.getElem?_take, List.getElem?_drop, List.length_drop, List.length_map, List.length_replicate, List.getElem?_map, List.getElem?_replicate, hl]
     repeat' split
     all_goals first | rfl | omega | (congr 2; omega) | (rw [List.getElem?_eq_none (by omega)]; rfl) | (rw [List.getElem?_eq_none (l := L) (by omega)]; simp; omega)
end Go.Proofs.YthaoopbfggnceaaGreatDoor.Arr
namespace Go.Proofs.YthaoopbfggnceaaGreatDoor.Arr
open Go.RowKit Go.Proofs.YthaoopbfggnceaaGreatDoor.L Go.Proofs.YthaoopbfggnceaaGreatDoor.U Go.Proofs.YthaoopbfggnceaaGreatDoorW.PrintLast Go.Proofs.YthaoopbfggnceaaGreatDoorW.PrintMore Go.Proofs.YthaoopbfggnceaaGreatDoorW.PrintWords
set_option linter.unusedVariables false
set_option linter.unusedSimpArgs false
theorem wf16 {x : Int} (h0 : 0 ≤ x) (h1 : x ≤ 20000) : (Lit.int .i16 x).wf = true := by
 simp only [Lit.wf, IntKind.min, IntKind.max, IntKind.signed, IntKind.bits, Bool.and_eq_true, decide_eq_true_eq, if_true]
 omega
theorem needs_in {hs : List (List Int)} (hh : Hs hs) (n : Nat) (hn : n ≤ hs.length) : ∀ x ∈ needs (zs 44) hs n, 0 ≤ x ∧ x ≤ 8 * n := fun x hx => by
 obtain ⟨j, hj, rfl⟩ := List.getElem_of_mem hx
 have h2 := hj
 rw [needs_length, zs_length] at h2
 have := needs_small hs hh.short n hn j h2
 rwa [rd_get _ j hj] at this
theorem needs_fits {hs : List (List Int)} (hh : Hs hs) (n : Nat) (hn : n ≤ hs.length) : Fits .i16 (needs (zs 44) hs n) := fun x hx => by
 have := needs_in hh n hn x hx
 have := hh.few
 exact wf16 (by omega) (by omega)
theorem needs_w16 {hs : List (List Int)} (hh : Hs hs) (n : Nat) (hn : n ≤ hs.length) : (needs (zs 44) hs n).map w16 = needs (zs 44) hs n := by
 have : ∀ x ∈ needs (zs 44) hs n, w16 x = x := fun x hx => by
  have := needs_in hh n hn x hx
  have := hh.few
  exact w16_small (by omega) (by omega)
 rw [List.map_congr_left this, List.map_id']
def needRes (hs : List (List Int)) : Value :=
 if codeH hs = 0 then (if okL (needs (zs 44) hs hs.length) = true then .tuple #[.agg (vals .i16 (needs (zs 44) hs hs.length)), .int .i64 0] else .tuple #[.agg (vals .i16 (zs 44)), .int .i64 3])
 else .tuple #[.agg (vals .i16 (zs 44)), .int .i64 (codeH hs)]
set_option maxHeartbeats 8000000 in
set_option maxRecDepth 100000 in
theorem specNeeded_calls (A0 : Option Addr) (c0 : Nat) (hs : List (List Int)) (w : World) (hr : Kd.C hk w A0 hs.length hs) (hc : hs.length ≤ c0) (hh : Any hs) :
  Calls Tryz.prog 8 #[.slice A0 hs.length c0] w fun e w' => e = .returned (needRes hs) ∧ Below w.heap.size w w' := by
 have hm := Mem.start w
 have HR := Aside0.mk hr
 have HL := Aside0.mk (fun W hr => l04Hoists_calls A0 c0 hs W hr hc hh)
 clear hr hh
 unfold needRes
 by_cases hk0 : codeH hs = 0
 ·rw [if_pos hk0]
  obtain ⟨h1, h6⟩ := codeH_zero hk0
  have HN := Aside0.mk (fun W hr => l04Need_calls A0 c0 hs W hr hc h1)
  have HF := Aside0.mk (needs_fits h1 hs.length (Nat.le_refl _))
  have hl := (needs_length (zs 44) hs hs.length).trans zs_length
  rw [hk0] at HL
  clear h1 hk0
  generalize needs (zs 44) hs hs.length = N at *
  have HO := Aside0.mk (fun W g h => l04Ok_calls g N W hl HF.out h)
  generalize okL N = b at *
  cases b
  all_goals
   go_enter Tryz.func8, Tryz.ntmps8
   go_wp2_with (first
    | (first | fail | ((with_reducible refine gt_alloc 2 28 ?_); refine st_alloc rfl 2 rfl 28 rfl hm zero28 ?_; clear hm; intro g2 w2 hm) | ((with_reducible refine gt_build 28 ?_); refine st_zero rfl 28 rfl built28 ?_) | ((with_reducible refine gt_store 28 ?_); (first | (refine st_full rfl 28 _ _ rfl hm rfl rfl 0 rfl agg28 (by first | omega | assumption | (simp only [lens]; first | omega | assumption) | (simp [lens]; done) | (simp [lens]; omega)) (by first | omega | assumption | (simp only [lens]; first | omega | assumption) | (simp [lens]; done) | (simp [lens]; omega)) ?_) | (refine st_full rfl 28 _ _ rfl hm rfl rfl 1 rfl agg28 (by first | omega | assumption | (simp only [lens]; first | omega | assumption) | (simp [lens]; done) | (simp [lens]; omega)) (by first | omega | assumption | (simp only [lens]; first | omega | assumption) | (simp [lens]; done) | (simp [lens]; omega)) ?_) | (refine st_full rfl 28 _ _ rfl hm rfl rfl 2 rfl agg28 (by first | omega | assumption | (simp only [lens]; first | omega | assumption) | (simp [lens]; done) | (simp [lens]; omega)) (by first | omega | assumption | (simp only [lens]; first | omega | assumption) | (simp [lens]; done) | (simp [lens]; omega)) ?_) | (refine st_full rfl 28 _ _ rfl hm rfl rfl 3 rfl agg28 (by first | omega | assumption | (simp only [lens]; first | omega | assumption) | (simp [lens]; done) | (simp [lens]; omega)) (by first | omega | assumption | (simp only [lens]; first | omega | assumption) | (simp [lens]; done) | (simp [lens]; omega)) ?_)); clear hm; intro ws hm; simp only [List.set_cons_zero, List.set_cons_succ] at hm) | ((with_reducible refine gt_alloc 5 28 ?_); refine st_alloc rfl 5 rfl 28 rfl hm zero28 ?_; clear hm; intro g5 w5 hm) | ((with_reducible refine gt_load 28 ?_); (first | (refine st_load rfl 28 _ rfl hm rfl 0 rfl agg28 (by first | omega | assumption | (simp only [lens]; first | omega | assumption) | (simp [lens]; done) | (simp [lens]; omega)) ?_) | (refine st_load rfl 28 _ rfl hm rfl 1 rfl agg28 (by first | omega | assumption | (simp only [lens]; first | omega | assumption) | (simp [lens]; done) | (simp [lens]; omega)) ?_) | (refine st_load rfl 28 _ rfl hm rfl 2 rfl agg28 (by first | omega | assumption | (simp only [lens]; first | omega | assumption) | (simp [lens]; done) | (simp [lens]; omega)) ?_) | (refine st_load rfl 28 _ rfl hm rfl 3 rfl agg28 (by first | omega | assumption | (simp only [lens]; first | omega | assumption) | (simp [lens]; done) | (simp [lens]; omega)) ?_))))
    | (go_at_call 26; refine (HL.out _ (Kd.C_below HR.out (hm.done rfl))).mono ?_; rintro e wa ⟨rfl, hb⟩; replace hm := hm.after hb; clear hb)
    | (go_at_call 27; refine (HN.out _ (Kd.C_below HR.out (hm.done rfl))).mono ?_; rintro e wa ⟨rfl, hb⟩; replace hm := hm.after hb; clear hb)
    | (go_at_call 28; refine (HO.out _ g5 (hm.mem (n := 0) rfl)).mono ?_; rintro e wa ⟨rfl, hb⟩; replace hm := hm.after hb; clear hb))
   ((try simp only [Exit.inBlock, Exit.then]); (first | (refine ret_cell hm rfl rfl 1 rfl agg28 (by first | omega | assumption | (simp only [lens]; first | omega | assumption) | (simp [lens]; done) | (simp [lens]; omega)) rfl ?_) | (refine ret_cell_tmp hm rfl rfl 1 rfl agg28 (by first | omega | assumption | (simp only [lens]; first | omega | assumption) | (simp [lens]; done) | (simp [lens]; omega)) rfl ?_)))
   exact ⟨rfl, hm.done rfl⟩
 ·rw [if_neg hk0]
  generalize codeH hs = c at *
  go_enter Tryz.func8, Tryz.ntmps8
  go_wp2_with (first
   | (first | fail | ((with_reducible refine gt_alloc 2 28 ?_); refine st_alloc rfl 2 rfl 28 rfl hm zero28 ?_; clear hm; intro g2 w2 hm) | ((with_reducible refine gt_build 28 ?_); refine st_zero rfl 28 rfl built28 ?_) | ((with_reducible refine gt_store 28 ?_); (first | (refine st_full rfl 28 _ _ rfl hm rfl rfl 0 rfl agg28 (by first | omega | assumption | (simp only [lens]; first | omega | assumption) | (simp [lens]; done) | (simp [lens]; omega)) (by first | omega | assumption | (simp only [lens]; first | omega | assumption) | (simp [lens]; done) | (simp [lens]; omega)) ?_) | (refine st_full rfl 28 _ _ rfl hm rfl rfl 1 rfl agg28 (by first | omega | assumption | (simp only [lens]; first | omega | assumption) | (simp [lens]; done) | (simp [lens]; omega)) (by first | omega | assumption | (simp only [lens]; first | omega | assumption) | (simp [lens]; done) | (simp [lens]; omega)) ?_) | (refine st_full rfl 28 _ _ rfl hm rfl rfl 2 rfl agg28 (by first | omega | assumption | (simp only [lens]; first | omega | assumption) | (simp [lens]; done) | (simp [lens]; omega)) (by first | omega | assumption | (simp only [lens]; first | omega | assumption) | (simp [lens]; done) | (simp [lens]; omega)) ?_) | (refine st_full rfl 28 _ _ rfl hm rfl rfl 3 rfl agg28 (by first | omega | assumption | (simp only [lens]; first | omega | assumption) | (simp [lens]; done) | (simp [lens]; omega)) (by first | omega | assumption | (simp only [lens]; first | omega | assumption) | (simp [lens]; done) | (simp [lens]; omega)) ?_)); clear hm; intro ws hm; simp only [List.set_cons_zero, List.set_cons_succ] at hm) | ((with_reducible refine gt_alloc 5 28 ?_); refine st_alloc rfl 5 rfl 28 rfl hm zero28 ?_; clear hm; intro g5 w5 hm) | ((with_reducible refine gt_load 28 ?_); (first | (refine st_load rfl 28 _ rfl hm rfl 0 rfl agg28 (by first | omega | assumption | (simp only [lens]; first | omega | assumption) | (simp [lens]; done) | (simp [lens]; omega)) ?_) | (refine st_load rfl 28 _ rfl hm rfl 1 rfl agg28 (by first | omega | assumption | (simp only [lens]; first | omega | assumption) | (simp [lens]; done) | (simp [lens]; omega)) ?_) | (refine st_load rfl 28 _ rfl hm rfl 2 rfl agg28 (by first | omega | assumption | (simp only [lens]; first | omega | assumption) | (simp [lens]; done) | (simp [lens]; omega)) ?_) | (refine st_load rfl 28 _ rfl hm rfl 3 rfl agg28 (by first | omega | assumption | (simp only [lens]; first | omega | assumption) | (simp [lens]; done) | (simp [lens]; omega)) ?_))))
   | (go_at_call 26; refine (HL.out _ (Kd.C_below HR.out (hm.done rfl))).mono ?_; rintro e wa ⟨rfl, hb⟩; replace hm := hm.after hb; clear hb))
  ((try simp only [Exit.inBlock, Exit.then]); (first | (refine ret_cell hm rfl rfl 0 rfl agg28 (by first | omega | assumption | (simp only [lens]; first | omega | assumption) | (simp [lens]; done) | (simp [lens]; omega)) rfl ?_) | (refine ret_cell_tmp hm rfl rfl 0 rfl agg28 (by first | omega | assumption | (simp only [lens]; first | omega | assumption) | (simp [lens]; done) | (simp [lens]; omega)) rfl ?_)))
  exact ⟨rfl, hm.done rfl⟩
set_option maxHeartbeats 8000000 in
set_option maxRecDepth 100000 in
theorem implNeeded_calls (A0 : Option Addr) (c0 : Nat) (hs : List (List Int)) (w : World) (hr : Kd.C hk w A0 hs.length hs) (hc : hs.length ≤ c0) (hh : Any hs) :
  Calls Tryz.prog 7 #[.slice A0 hs.length c0] w fun e w' => e = .returned (needRes hs) ∧ Below w.heap.size w w' := by
 have hm := Mem.start w
 have HR := Aside0.mk hr
 have HL := Aside0.mk (fun W hr => hoistsCode_calls A0 c0 hs W hr hc hh)
 clear hr hh
 unfold needRes
 by_cases hk0 : codeH hs = 0
 ·rw [if_pos hk0]
  obtain ⟨h1, h6⟩ := codeH_zero hk0
  have HN := Aside0.mk (fun W hr => needed_calls A0 c0 hs W hr hc h1)
  have HF := Aside0.mk (needs_fits h1 hs.length (Nat.le_refl _))
  have hl := (needs_length (zs 44) hs hs.length).trans zs_length
  have hLK := fun W => locker_calls (needs (zs 44) hs hs.length) W hl
  rw [needs_w16 h1 hs.length (Nat.le_refl _)] at hLK
  rw [hk0] at HL
  clear h1 hk0
  generalize needs (zs 44) hs hs.length = N at *
  have HLK := Aside0.mk hLK
  clear hLK
  have HO := Aside0.mk (fun W => implValid_calls N W hl HF.out)
  generalize okL N = b at *
  cases b
  all_goals
   go_enter Tryz.func7, Tryz.ntmps7
   go_wp2_with (first
    | (first | fail | ((with_reducible refine gt_alloc 2 28 ?_); refine st_alloc rfl 2 rfl 28 rfl hm zero28 ?_; clear hm; intro g2 w2 hm) | ((with_reducible refine gt_build 28 ?_); refine st_zero rfl 28 rfl built28 ?_) | ((with_reducible refine gt_store 28 ?_); (first | (refine st_full rfl 28 _ _ rfl hm rfl rfl 0 rfl agg28 (by first | omega | assumption | (simp only [lens]; first | omega | assumption) | (simp [lens]; done) | (simp [lens]; omega)) (by first | omega | assumption | (simp only [lens]; first | omega | assumption) | (simp [lens]; done) | (simp [lens]; omega)) ?_) | (refine st_full rfl 28 _ _ rfl hm rfl rfl 1 rfl agg28 (by first | omega | assumption | (simp only [lens]; first | omega | assumption) | (simp [lens]; done) | (simp [lens]; omega)) (by first | omega | assumption | (simp only [lens]; first | omega | assumption) | (simp [lens]; done) | (simp [lens]; omega)) ?_) | (refine st_full rfl 28 _ _ rfl hm rfl rfl 2 rfl agg28 (by first | omega | assumption | (simp only [lens]; first | omega | assumption) | (simp [lens]; done) | (simp [lens]; omega)) (by first | omega | assumption | (simp only [lens]; first | omega | assumption) | (simp [lens]; done) | (simp [lens]; omega)) ?_) | (refine st_full rfl 28 _ _ rfl hm rfl rfl 3 rfl agg28 (by first | omega | assumption | (simp only [lens]; first | omega | assumption) | (simp [lens]; done) | (simp [lens]; omega)) (by first | omega | assumption | (simp only [lens]; first | omega | assumption) | (simp [lens]; done) | (simp [lens]; omega)) ?_)); clear hm; intro ws hm; simp only [List.set_cons_zero, List.set_cons_succ] at hm) | ((with_reducible refine gt_alloc 5 28 ?_); refine st_alloc rfl 5 rfl 28 rfl hm zero28 ?_; clear hm; intro g5 w5 hm) | ((with_reducible refine gt_load 28 ?_); (first | (refine st_load rfl 28 _ rfl hm rfl 0 rfl agg28 (by first | omega | assumption | (simp only [lens]; first | omega | assumption) | (simp [lens]; done) | (simp [lens]; omega)) ?_) | (refine st_load rfl 28 _ rfl hm rfl 1 rfl agg28 (by first | omega | assumption | (simp only [lens]; first | omega | assumption) | (simp [lens]; done) | (simp [lens]; omega)) ?_) | (refine st_load rfl 28 _ rfl hm rfl 2 rfl agg28 (by first | omega | assumption | (simp only [lens]; first | omega | assumption) | (simp [lens]; done) | (simp [lens]; omega)) ?_) | (refine st_load rfl 28 _ rfl hm rfl 3 rfl agg28 (by first | omega | assumption | (simp only [lens]; first | omega | assumption) | (simp [lens]; done) | (simp [lens]; omega)) ?_))))
    | (go_at_call 23; refine (HL.out _ (Kd.C_below HR.out (hm.done rfl))).mono ?_; rintro e wa ⟨rfl, hb⟩; replace hm := hm.after hb; clear hb)
    | (go_at_call 24; refine (HN.out _ (Kd.C_below HR.out (hm.done rfl))).mono ?_; rintro e wa ⟨rfl, hb⟩; replace hm := hm.after hb; clear hb)
    | (go_at_call 25; refine (HLK.out _).mono ?_; rintro e wa ⟨rfl, hb⟩; replace hm := hm.after hb; clear hb)
    | (go_at_call 11; refine (HO.out _).mono ?_; rintro e wa ⟨rfl, hb⟩; replace hm := hm.after hb; clear hb))
   ((try simp only [Exit.inBlock, Exit.then]); (first | (refine ret_cell hm rfl rfl 1 rfl agg28 (by first | omega | assumption | (simp only [lens]; first | omega | assumption) | (simp [lens]; done) | (simp [lens]; omega)) rfl ?_) | (refine ret_cell_tmp hm rfl rfl 1 rfl agg28 (by first | omega | assumption | (simp only [lens]; first | omega | assumption) | (simp [lens]; done) | (simp [lens]; omega)) rfl ?_)))
   exact ⟨rfl, hm.done rfl⟩
 ·rw [if_neg hk0]
  generalize codeH hs = c at *
  go_enter Tryz.func7, Tryz.ntmps7
  go_wp2_with (first
   | (first | fail | ((with_reducible refine gt_alloc 2 28 ?_); refine st_alloc rfl 2 rfl 28 rfl hm zero28 ?_; clear hm; intro g2 w2 hm) | ((with_reducible refine gt_build 28 ?_); refine st_zero rfl 28 rfl built28 ?_) | ((with_reducible refine gt_store 28 ?_); (first | (refine st_full rfl 28 _ _ rfl hm rfl rfl 0 rfl agg28 (by first | omega | assumption | (simp only [lens]; first | omega | assumption) | (simp [lens]; done) | (simp [lens]; omega)) (by first | omega | assumption | (simp only [lens]; first | omega | assumption) | (simp [lens]; done) | (simp [lens]; omega)) ?_) | (refine st_full rfl 28 _ _ rfl hm rfl rfl 1 rfl agg28 (by first | omega | assumption | (simp only [lens]; first | omega | assumption) | (simp [lens]; done) | (simp [lens]; omega)) (by first | omega | assumption | (simp only [lens]; first | omega | assumption) | (simp [lens]; done) | (simp [lens]; omega)) ?_) | (refine st_full rfl 28 _ _ rfl hm rfl rfl 2 rfl agg28 (by first | omega | assumption | (simp only [lens]; first | omega | assumption) | (simp [lens]; done) | (simp [lens]; omega)) (by first | omega | assumption | (simp only [lens]; first | omega | assumption) | (simp [lens]; done) | (simp [lens]; omega)) ?_) | (refine st_full rfl 28 _ _ rfl hm rfl rfl 3 rfl agg28 (by first | omega | assumption | (simp only [lens]; first | omega | assumption) | (simp [lens]; done) | (simp [lens]; omega)) (by first | omega | assumption | (simp only [lens]; first | omega | assumption) | (simp [lens]; done) | (simp [lens]; omega)) ?_)); clear hm; intro ws hm; simp only [List.set_cons_zero, List.set_cons_succ] at hm) | ((with_reducible refine gt_alloc 5 28 ?_); refine st_alloc rfl 5 rfl 28 rfl hm zero28 ?_; clear hm; intro g5 w5 hm) | ((with_reducible refine gt_load 28 ?_); (first | (refine st_load rfl 28 _ rfl hm rfl 0 rfl agg28 (by first | omega | assumption | (simp only [lens]; first | omega | assumption) | (simp [lens]; done) | (simp [lens]; omega)) ?_) | (refine st_load rfl 28 _ rfl hm rfl 1 rfl agg28 (by first | omega | assumption | (simp only [lens]; first | omega | assumption) | (simp [lens]; done) | (simp [lens]; omega)) ?_) | (refine st_load rfl 28 _ rfl hm rfl 2 rfl agg28 (by first | omega | assumption | (simp only [lens]; first | omega | assumption) | (simp [lens]; done) | (simp [lens]; omega)) ?_) | (refine st_load rfl 28 _ rfl hm rfl 3 rfl agg28 (by first | omega | assumption | (simp only [lens]; first | omega | assumption) | (simp [lens]; done) | (simp [lens]; omega)) ?_))))
   | (go_at_call 23; refine (HL.out _ (Kd.C_below HR.out (hm.done rfl))).mono ?_; rintro e wa ⟨rfl, hb⟩; replace hm := hm.after hb; clear hb))
  ((try simp only [Exit.inBlock, Exit.then]); (first | (refine ret_cell hm rfl rfl 0 rfl agg28 (by first | omega | assumption | (simp only [lens]; first | omega | assumption) | (simp [lens]; done) | (simp [lens]; omega)) rfl ?_) | (refine ret_cell_tmp hm rfl rfl 0 rfl agg28 (by first | omega | assumption | (simp only [lens]; first | omega | assumption) | (simp [lens]; done) | (simp [lens]; omega)) rfl ?_)))
  exact ⟨rfl, hm.done rfl⟩
end Go.Proofs.YthaoopbfggnceaaGreatDoor.Arr
namespace Go.Proofs.YthaoopbfggnceaaGreatDoor.Arr
open Go.RowKit Go.Proofs.YthaoopbfggnceaaGreatDoorW.PrintWords Go.Proofs.YthaoopbfggnceaaGreatDoorW.PrintLast Go.Proofs.YthaoopbfggnceaaGreatDoorW.PrintMore Go.Proofs.YthaoopbfggnceaaGreatDoor.U Go.Proofs.YthaoopbfggnceaaGreatDoor.L
set_option linter.unusedVariables false
set_option linter.unusedSimpArgs false
theorem okL_bb {L : List Int} (h : okL L = true) : ∀ x ∈ L, -1000000 ≤ x ∧ x ≤ 1000000 := fun x hx => by have := okL_in h x hx; omega
def flown (L : List Int) (hs : List (List Int)) : Int := if okL L = true then codeH hs else 1
theorem flown_fst (L : List Int) (hs : List (List Int)) : fst2 (if [L].all okL = true then 0 else 1) (codeH hs) = flown L hs := by
 unfold flown fst2
 by_cases h : okL L = true
 ·simp [h]
 ·simp [h]
theorem flown_zero {L : List Int} {hs : List (List Int)} (h : flown L hs = 0) : okL L = true ∧ codeH hs = 0 := by
 unfold flown at h
 split at h
 ·exact ⟨by assumption, h⟩
 ·omega
def canRes (L : List Int) (hs : List (List Int)) : Value :=
 if flown L hs = 0 then .tuple #[.bool (covB L (needs (zs 44) hs hs.length)), .int .i64 0] else .tuple #[.bool false, .int .i64 (flown L hs)]
theorem needs_b {hs : List (List Int)} (hh : Hs hs) (n : Nat) (hn : n ≤ hs.length) : ∀ x ∈ needs (zs 44) hs n, -1000000 ≤ x ∧ x ≤ 1000000 := fun x hx => by
 have := needs_in hh n hn x hx
 have := hh.few
 omega
set_option maxHeartbeats 8000000 in
set_option maxRecDepth 100000 in
theorem implCan_calls (L : List Int) (A0 : Option Addr) (c0 : Nat) (hs : List (List Int)) (w : World) (hl : L.length = 44) (hw : Fits .i16 L) (hr : Kd.C hk w A0 hs.length hs) (hc : hs.length ≤ c0) (hh : Any hs) :
  Calls Tryz.prog 13 #[.agg (vals .i16 L), .slice A0 hs.length c0] w fun e w' => e = .returned (canRes L hs) ∧ Below w.heap.size w w' := by
 have hm := Mem.start w
 have HR := Aside0.mk hr
 have HW := Aside0.mk hw
 have HC := Aside0.mk (fun W hr => hoistsCode_calls A0 c0 hs W hr hc hh)
 have hFS := flown_fst L hs
 have hLC := fun W g h => lockerCode_calls g [L] W h (by simp)
 generalize (if [L].all okL = true then (0 : Int) else 1) = lc at hFS hLC
 have HFS := Aside0.mk hFS
 have HLC := Aside0.mk hLC
 clear hr hh hw hFS hLC
 unfold canRes
 by_cases hk0 : flown L hs = 0
 ·rw [if_pos hk0]
  obtain ⟨h1, h6⟩ := codeH_zero (flown_zero hk0).2
  have HN := Aside0.mk (fun W hr => needed_calls A0 c0 hs W hr hc h1)
  have hl2 := (needs_length (zs 44) hs hs.length).trans zs_length
  have HB2 := Aside0.mk (needs_b h1 hs.length (Nat.le_refl _))
  have HOB := Aside0.mk (okL_bb (flown_zero hk0).1)
  rw [hk0] at HFS
  clear h1 hk0
  generalize needs (zs 44) hs hs.length = N at *
  have HO := Aside0.mk (fun W => covers_calls L N W hl hl2 HOB.out HB2.out)
  generalize covB L N = b at *
  generalize codeH hs = cH at *
  go_enter Tryz.func13, Tryz.ntmps13
  go_wp2_with (first
   | (first | fail | ((with_reducible refine gt_box 2 28 ?_); refine st_box rfl 2 rfl 28 _ rfl hm (v := .agg (vals _ _)) rfl (cs := vals _ _) rfl ?_; clear hm; intro g2 w2 hm) | ((with_reducible refine gt_load 28 ?_); (first | (refine st_load rfl 28 _ rfl hm rfl 0 rfl agg28 (by first | omega | assumption | (simp only [lens]; first | omega | assumption) | (simp [lens]; done) | (simp [lens]; omega)) ?_) | (refine st_load rfl 28 _ rfl hm rfl 1 rfl agg28 (by first | omega | assumption | (simp only [lens]; first | omega | assumption) | (simp [lens]; done) | (simp [lens]; omega)) ?_) | (refine st_load rfl 28 _ rfl hm rfl 2 rfl agg28 (by first | omega | assumption | (simp only [lens]; first | omega | assumption) | (simp [lens]; done) | (simp [lens]; omega)) ?_))) | (refine st_lit1 rfl 8 rfl 111 _ rfl hm rfl Tryz.underlying111 agg28 zero28 (by first | omega | assumption | (simp only [lens]; first | omega | assumption) | (simp [lens]; done) | (simp [lens]; omega))  (by decide) (by decide) ?_; clear hm; intro g8 w8 hm))
   | (refine st_ints2 rfl 12 rfl 85 _ _ rfl hm rfl rfl Tryz.underlying85 one2 zero2 ?_; clear hm; intro g12 w12 hm)
   | (go_at_call 40; refine (HLC.out _ g8 (lks1 hm (n := 0) rfl hl HW.out)).mono ?_; rintro e wa ⟨rfl, hb⟩; replace hm := hm.after hb; clear hb)
   | (go_at_call 23; refine (HC.out _ (Kd.C_below HR.out (hm.done rfl))).mono ?_; rintro e wa ⟨rfl, hb⟩; replace hm := hm.after hb; clear hb)
   | (go_at_call 42; refine (firstOf_calls g12 _ _ _ (hm.mem (n := 0) rfl)).mono ?_; rintro e wa ⟨rfl, hb⟩; replace hm := hm.after hb; clear hb; rw [HFS.out])
   | (go_at_call 36; refine (pieces_calls L _ hl HW.out).mono ?_; rintro e wa ⟨rfl, hb⟩; replace hm := hm.after hb; clear hb)
   | (go_at_call 24; refine (HN.out _ (Kd.C_below HR.out (hm.done rfl))).mono ?_; rintro e wa ⟨rfl, hb⟩; replace hm := hm.after hb; clear hb)
   | (go_at_call 41; refine (HO.out _).mono ?_; rintro e wa ⟨rfl, hb⟩; replace hm := hm.after hb; clear hb))
  go_ret2
  exact ⟨rfl, hm.done rfl⟩
 ·rw [if_neg hk0]
  generalize flown L hs = c at *
  generalize codeH hs = cH at *
  go_enter Tryz.func13, Tryz.ntmps13
  go_wp2_with (first
   | (first | fail | ((with_reducible refine gt_box 2 28 ?_); refine st_box rfl 2 rfl 28 _ rfl hm (v := .agg (vals _ _)) rfl (cs := vals _ _) rfl ?_; clear hm; intro g2 w2 hm) | ((with_reducible refine gt_load 28 ?_); (first | (refine st_load rfl 28 _ rfl hm rfl 0 rfl agg28 (by first | omega | assumption | (simp only [lens]; first | omega | assumption) | (simp [lens]; done) | (simp [lens]; omega)) ?_) | (refine st_load rfl 28 _ rfl hm rfl 1 rfl agg28 (by first | omega | assumption | (simp only [lens]; first | omega | assumption) | (simp [lens]; done) | (simp [lens]; omega)) ?_) | (refine st_load rfl 28 _ rfl hm rfl 2 rfl agg28 (by first | omega | assumption | (simp only [lens]; first | omega | assumption) | (simp [lens]; done) | (simp [lens]; omega)) ?_))) | (refine st_lit1 rfl 8 rfl 111 _ rfl hm rfl Tryz.underlying111 agg28 zero28 (by first | omega | assumption | (simp only [lens]; first | omega | assumption) | (simp [lens]; done) | (simp [lens]; omega))  (by decide) (by decide) ?_; clear hm; intro g8 w8 hm))
   | (refine st_ints2 rfl 12 rfl 85 _ _ rfl hm rfl rfl Tryz.underlying85 one2 zero2 ?_; clear hm; intro g12 w12 hm)
   | (go_at_call 40; refine (HLC.out _ g8 (lks1 hm (n := 0) rfl hl HW.out)).mono ?_; rintro e wa ⟨rfl, hb⟩; replace hm := hm.after hb; clear hb)
   | (go_at_call 23; refine (HC.out _ (Kd.C_below HR.out (hm.done rfl))).mono ?_; rintro e wa ⟨rfl, hb⟩; replace hm := hm.after hb; clear hb)
   | (go_at_call 42; refine (firstOf_calls g12 _ _ _ (hm.mem (n := 0) rfl)).mono ?_; rintro e wa ⟨rfl, hb⟩; replace hm := hm.after hb; clear hb; rw [HFS.out]))
  go_ret2
  exact ⟨rfl, hm.done rfl⟩
end Go.Proofs.YthaoopbfggnceaaGreatDoor.Arr
namespace Go.Proofs.YthaoopbfggnceaaGreatDoor.Arr
open Go.RowKit Go.Proofs.YthaoopbfggnceaaGreatDoorW.PrintWords Go.Proofs.YthaoopbfggnceaaGreatDoorW.PrintLast Go.Proofs.YthaoopbfggnceaaGreatDoorW.PrintMore Go.Proofs.YthaoopbfggnceaaGreatDoor.U Go.Proofs.YthaoopbfggnceaaGreatDoor.L
set_option linter.unusedVariables false
set_option linter.unusedSimpArgs false
theorem C_take {α : Type} {d : Kd α} {w : World} {A : Option Addr} {n : Nat} {xs : List α} (h : d.C w A n xs) (m : Nat) (hm : m ≤ n) : d.C w A m (xs.take m) := by
 obtain ⟨h1, h2, h3⟩ := h
 refine ⟨by rw [List.length_take]; omega, by omega, fun h0 => ?_⟩
 obtain ⟨ad, e, hc⟩ := h3 (by omega)
 refine ⟨ad, e, fun j p hj => hc j p ?_⟩
 have hjm := (List.getElem?_eq_some_iff.1 hj).1
 rw [List.length_take] at hjm
 rwa [List.getElem?_take, if_pos (by omega)] at hj
theorem needs_take (L : List Int) (hs : List (List Int)) (m : Nat) : ∀ n, n ≤ m → needs L (hs.take m) n = needs L hs n
 | 0, _ => rfl
 | n + 1, hn => by
  rw [needs, needs, needs_take L hs m n (by omega)]
  have : (hs.take m).getD n [] = hs.getD n [] := by rw [List.getD_eq_getElem?_getD, List.getD_eq_getElem?_getD, List.getElem?_take, if_pos (by omega)]
  rw [this]
theorem Hs.take {hs : List (List Int)} (h : Hs hs) (m : Nat) : Hs (hs.take m) := ⟨by have := h.few; rw [List.length_take]; omega, fun x hx => h.ok x (List.mem_of_mem_take hx)⟩
theorem needed_take (A0 : Option Addr) (c0 : Nat) (hs : List (List Int)) (m : Nat) (w : World) (hr : Kd.C hk w A0 hs.length hs) (hc : hs.length ≤ c0) (hh : Hs hs) (hm : m ≤ hs.length) :
  Calls Tryz.prog 24 #[.slice A0 m c0] w fun e w' => e = .returned (.agg (vals .i64 (needs (zs 44) hs m))) ∧ Below w.heap.size w w' := by
 have hl : (hs.take m).length = m := by rw [List.length_take]; omega
 have := needed_calls A0 c0 (hs.take m) w (by rw [hl]; exact C_take hr m hm) (by omega) (hh.take m)
 rwa [hl, needs_take _ _ _ _ (Nat.le_refl _)] at this
def ground (L : List Int) (hs : List (List Int)) : Int := ixa (fun i => !covB L (needs (zs 44) hs (i + 1))) (List.range hs.length)
theorem ground_found {L : List Int} {hs : List (List Int)} (i : Nat) (hi : i < hs.length) (h : ∀ j, j < i → covB L (needs (zs 44) hs (j + 1)) = true) (hp : covB L (needs (zs 44) hs (i + 1)) = false) : ground L hs = i := by
 unfold ground
 refine ixa_found _ _ i i (by simp [hi]) (fun j hj y hy => ?_) (by simp [hp])
 have h2 := (List.getElem?_eq_some_iff.1 hy).1
 rw [List.length_range] at h2
 rw [List.getElem?_range h2] at hy
 cases hy
 simp [h j hj]
theorem ground_none {L : List Int} {hs : List (List Int)} (h : ∀ j, j < hs.length → covB L (needs (zs 44) hs (j + 1)) = true) : ground L hs = -1 := by
 unfold ground
 refine ixa_none _ _ fun j hj y hy => ?_
 rw [List.length_range] at hj
 rw [List.getElem?_range hj] at hy
 cases hy
 simp [h j hj]
def grRes (z : Int) : Value := if 0 ≤ z then .tuple #[.int .i64 z, .int .i64 0] else .tuple #[.int .i64 0, .int .i64 6]
theorem grRes_pos (i : Nat) : grRes (i : Int) = .tuple #[.int .i64 (i : Int), .int .i64 0] := if_pos (by omega)
theorem grRes_neg : grRes (-1) = .tuple #[.int .i64 0, .int .i64 6] := if_neg (by omega)
def firstRes (L : List Int) (hs : List (List Int)) : Value :=
 if flown L hs = 0 then grRes (ground L hs) else .tuple #[.int .i64 0, .int .i64 (flown L hs)]
set_option maxHeartbeats 8000000 in
set_option maxRecDepth 100000 in
theorem implFirst_calls (L : List Int) (A0 : Option Addr) (c0 : Nat) (hs : List (List Int)) (w : World) (hl : L.length = 44) (hw : Fits .i16 L) (hr : Kd.C hk w A0 hs.length hs) (hc : hs.length ≤ c0) (hh : Any hs) :
  Calls Tryz.prog 19 #[.agg (vals .i16 L), .slice A0 hs.length c0] w fun e w' => e = .returned (firstRes L hs) ∧ Below w.heap.size w w' := by
 have hm := Mem.start w
 have HR := Aside0.mk hr
 have HW := Aside0.mk hw
 have HC := Aside0.mk (fun W hr => hoistsCode_calls A0 c0 hs W hr hc hh)
 have hFS := flown_fst L hs
 have hLC := fun W g h => lockerCode_calls g [L] W h (by simp)
 generalize (if [L].all okL = true then (0 : Int) else 1) = lc at hFS hLC
 have HFS := Aside0.mk hFS
 have HLC := Aside0.mk hLC
 clear hr hh hw hFS hLC
 unfold firstRes
 by_cases hk0 : flown L hs = 0
 ·rw [if_pos hk0]
  obtain ⟨h1, h6⟩ := codeH_zero (flown_zero hk0).2
  have HN := Aside0.mk (fun m W hr hm => needed_take A0 c0 hs m W hr hc h1 hm)
  have HNB := Aside0.mk (fun m hm => needs_b h1 m hm)
  have HOB := Aside0.mk (okL_bb (flown_zero hk0).1)
  rw [hk0] at HFS
  clear h1 hk0
  have HG1 := Aside0.mk (@ground_found L hs)
  have HG2 := Aside0.mk (@ground_none L hs)
  generalize ground L hs = gr at *
  generalize codeH hs = cH at *
  go_enter Tryz.func19, Tryz.ntmps19
  go_wp2_with (first
   | (first | fail | ((with_reducible refine gt_box 2 28 ?_); refine st_box rfl 2 rfl 28 _ rfl hm (v := .agg (vals _ _)) rfl (cs := vals _ _) rfl ?_; clear hm; intro g2 w2 hm) | ((with_reducible refine gt_load 28 ?_); (first | (refine st_load rfl 28 _ rfl hm rfl 0 rfl agg28 (by first | omega | assumption | (simp only [lens]; first | omega | assumption) | (simp [lens]; done) | (simp [lens]; omega)) ?_) | (refine st_load rfl 28 _ rfl hm rfl 1 rfl agg28 (by first | omega | assumption | (simp only [lens]; first | omega | assumption) | (simp [lens]; done) | (simp [lens]; omega)) ?_) | (refine st_load rfl 28 _ rfl hm rfl 2 rfl agg28 (by first | omega | assumption | (simp only [lens]; first | omega | assumption) | (simp [lens]; done) | (simp [lens]; omega)) ?_))) | (refine st_lit1 rfl 9 rfl 111 _ rfl hm rfl Tryz.underlying111 agg28 zero28 (by first | omega | assumption | (simp only [lens]; first | omega | assumption) | (simp [lens]; done) | (simp [lens]; omega))  (by decide) (by decide) ?_; clear hm; intro g9 w9 hm))
   | (refine st_ints2 rfl 13 rfl 85 _ _ rfl hm rfl rfl Tryz.underlying85 one2 zero2 ?_; clear hm; intro g13 w13 hm)
   | (go_at_call 40; refine (HLC.out _ g9 (lks1 hm (n := 0) rfl hl HW.out)).mono ?_; rintro e wa ⟨rfl, hb⟩; replace hm := hm.after hb; clear hb)
   | (go_at_call 23; refine (HC.out _ (Kd.C_below HR.out (hm.done rfl))).mono ?_; rintro e wa ⟨rfl, hb⟩; replace hm := hm.after hb; clear hb)
   | (go_at_call 42; refine (firstOf_calls g13 _ _ _ (hm.mem (n := 0) rfl)).mono ?_; rintro e wa ⟨rfl, hb⟩; replace hm := hm.after hb; clear hb; rw [HFS.out]))
  replace hm := (hm.rest rfl).rest rfl
  go_loopw [20, 7] (fun v20 v7 wr => ∃ i : Nat, i ≤ hs.length ∧ v20 = .int .i64 i ∧ Aside0 (∀ j, j < i → covB L (needs (zs 44) hs (j + 1)) = true) ∧ Mem w wr [⟨g2, vals .i16 L, 28, true⟩]) (fun v20 _ _ => hs.length - (intOf v20).toNat)
  case atStart => exact ⟨0, by omega, rfl, ⟨fun j hj => absurd hj (by omega)⟩, hm⟩
  case round =>
   obtain ⟨i, hi, rfl, HJ, hm⟩ := hrel
   by_cases hlt : i < hs.length
   ·have hl2 := (needs_length (zs 44) hs (i + 1)).trans zs_length
    have HNi := Aside0.mk (fun W hr => HN.out (i + 1) W hr (by omega))
    have HO := Aside0.mk (fun W => covers_calls L _ W hl hl2 HOB.out (HNB.out (i + 1) (by omega)))
    generalize hb0 : covB L (needs (zs 44) hs (i + 1)) = b at *
    have HBA := Aside0.mk hb0
    clear hb0
    generalize hN : needs (zs 44) hs (i + 1) = N at HNi HO hl2
    clear hN
    have hs1 : (i : Int) + 1 ≤ (c0 : Int) := by omega
    have hs2 : i + 1 ≤ c0 := by omega
    have hs3 : (i : Int) < (c0 : Int) := by omega
    have hs4 : i < c0 := by omega
    have hs0 : 0 ≤ (i : Int) + 1 := by omega
    have hs5 : ((i : Int) + 1).toNat = i + 1 := by omega
    have hsw : wrap64 ((i : Int) + 1) = (i : Int) + 1 := w64 (by omega) (by omega)
    cases b
    all_goals
     go_wp2_with (first | fail | ((with_reducible refine gt_box 2 28 ?_); refine st_box rfl 2 rfl 28 _ rfl hm (v := .agg (vals _ _)) rfl (cs := vals _ _) rfl ?_; clear hm; intro g2 w2 hm) | ((with_reducible refine gt_load 28 ?_); (first | (refine st_load rfl 28 _ rfl hm rfl 0 rfl agg28 (by first | omega | assumption | (simp only [lens]; first | omega | assumption) | (simp [lens]; done) | (simp [lens]; omega)) ?_) | (refine st_load rfl 28 _ rfl hm rfl 1 rfl agg28 (by first | omega | assumption | (simp only [lens]; first | omega | assumption) | (simp [lens]; done) | (simp [lens]; omega)) ?_) | (refine st_load rfl 28 _ rfl hm rfl 2 rfl agg28 (by first | omega | assumption | (simp only [lens]; first | omega | assumption) | (simp [lens]; done) | (simp [lens]; omega)) ?_))) | (refine st_lit1 rfl 9 rfl 111 _ rfl hm rfl Tryz.underlying111 agg28 zero28 (by first | omega | assumption | (simp only [lens]; first | omega | assumption) | (simp [lens]; done) | (simp [lens]; omega))  (by decide) (by decide) ?_; clear hm; intro g9 w9 hm))
     refine start_ (n := 9) (S := fun w' => Mem w w' [⟨g2, vals .i16 L, 28, true⟩]) (ds := []) #[false, false, false, false, false, false, false, false, false] (by kernel_rfl) rfl rfl (hm.drawn _) (fun hHeld => ?_)
     refine pure_ (i := 2) (N := some 25) (v := ?_) (a' := ?_) #[false, false, true, false, false, false, false, false, false] rfl rfl (by kernel_rfl) (fun _ _ _ h => h) (Or.inl ⟨by rfl, ?_⟩) ?_ ?_
     rotate_left
     ·intro w'
      go_simp
      with_reducible rfl
     rotate_left
     ·simp only [Act.put, List.setIfInBounds_toArray, List.set_cons_zero, List.set_cons_succ, i64_w, i32_w]
      rfl
     refine pure_ (i := 3) (N := some 26) (v := ?_) (a' := ?_) #[false, false, true, true, false, false, false, false, false] rfl rfl (by kernel_rfl) (fun _ _ _ h => h) (Or.inl ⟨by rfl, ?_⟩) ?_ ?_
     rotate_left
     ·intro w'
      go_simp
      with_reducible rfl
     rotate_left
     ·simp only [Act.put, List.setIfInBounds_toArray, List.set_cons_zero, List.set_cons_succ, i64_w, i32_w]
      rfl
     refine pure_ (i := 4) (N := some 27) (v := ?_) (a' := ?_) #[false, false, true, true, true, false, false, false, false] rfl rfl (by kernel_rfl) (fun _ _ _ h => h) (Or.inl ⟨by rfl, ?_⟩) ?_ ?_
     rotate_left
     ·intro w'
      go_simp
      with_reducible rfl
     rotate_left
     ·simp only [Act.put, List.setIfInBounds_toArray, List.set_cons_zero, List.set_cons_succ, i64_w, i32_w]
      rfl
     refine pure_ (i := 5) (N := some 28) (v := ?_) (a' := ?_) #[false, false, true, true, true, true, false, false, false] rfl rfl (by kernel_rfl) (fun _ _ _ h => h) (Or.inl ⟨by rfl, ?_⟩) ?_ ?_
     rotate_left
     ·intro w'
      go_simp
      with_reducible rfl
     rotate_left
     ·simp only [Act.put, List.setIfInBounds_toArray, List.set_cons_zero, List.set_cons_succ, i64_w, i32_w]
      rfl
     refine take_ (i := 0) (N := some 23) (v := .agg (vals .i16 L)) (a' := ?_) #[true, false, true, true, true, true, false, false, false] rfl rfl (by kernel_rfl) (fun _ _ _ h => h) (Or.inl ⟨by rfl, ?_⟩) hHeld ?_ ?_
     ·intro w' s0
      exact y_load (by rfl) (by rfl) 0 (by rfl) agg28 (by first | omega | assumption | (simp only [lens]; first | omega | assumption) | (simp [lens]; done) | (simp [lens]; omega)) w' s0
     rotate_left
     ·simp only [Act.put, List.setIfInBounds_toArray, List.set_cons_zero, List.set_cons_succ, i64_w, i32_w]
      rfl
     refine one_ (i := 1) (N := some 24) #[true, true, true, true, true, true, false, false, false] rfl rfl (by kernel_rfl) (by decide) (fun K hK => ?_)
     refine goes_ Tryz.func36 (by kernel_rfl) rfl #[.agg (vals .i16 L)] (by rfl) rfl rfl (by simp only [List.map_toArray, List.map_cons, List.map_nil]; rfl) ?_
     refine (pieces_calls L _ hl HW.out).mono ?_
     rintro e w3 ⟨rfl, hb⟩
     refine ⟨_, rfl, ?_⟩
     refine hK.out _ _ (hHeld.after hb) (fun hHeld => ?_)
     clear hK K
     refine norm_ (a' := ?_) ?_ ?_
     rotate_left
     ·show Act.put _ (some 24) _ = _
      simp only [Act.put, List.setIfInBounds_toArray, List.set_cons_zero, List.set_cons_succ, i64_w, i32_w]
      rfl
     refine one_ (i := 6) (N := some 29) #[true, true, true, true, true, true, true, false, false] rfl rfl (by kernel_rfl) (by decide) (fun K hK => ?_)
     refine goes_ Tryz.func24 (by kernel_rfl) rfl #[.slice A0 (i + 1) c0] (by rfl) rfl rfl (by simp only [List.map_toArray, List.map_cons, List.map_nil]; rfl) ?_
     refine (HNi.out _ (Kd.C_below HR.out (hHeld.done rfl))).mono ?_
     rintro e w3 ⟨rfl, hb⟩
     refine ⟨_, rfl, ?_⟩
     refine hK.out _ _ (hHeld.after hb) (fun hHeld => ?_)
     clear hK K
     refine norm_ (a' := ?_) ?_ ?_
     rotate_left
     ·show Act.put _ (some 29) _ = _
      simp only [Act.put, List.setIfInBounds_toArray, List.set_cons_zero, List.set_cons_succ, i64_w, i32_w]
      rfl
     refine one_ (i := 7) (N := some 30) #[true, true, true, true, true, true, true, true, false] rfl rfl (by kernel_rfl) (by decide) (fun K hK => ?_)
     refine goes_ Tryz.func41 (by kernel_rfl) rfl #[.agg (vals .i64 L), .agg (vals .i64 N)] (by rfl) rfl rfl (by simp only [List.map_toArray, List.map_cons, List.map_nil]; rfl) ?_
     refine (HO.out _).mono ?_
     rintro e w3 ⟨rfl, hb⟩
     refine ⟨_, rfl, ?_⟩
     refine hK.out _ _ (hHeld.after hb) (fun hHeld => ?_)
     clear hK K
     refine norm_ (a' := ?_) ?_ ?_
     rotate_left
     ·show Act.put _ (some 30) _ = _
      simp only [Act.put, List.setIfInBounds_toArray, List.set_cons_zero, List.set_cons_succ, i64_w, i32_w]
      rfl
     refine pure_ (i := 8) (N := some 31) (v := ?_) (a' := ?_) #[true, true, true, true, true, true, true, true, true] rfl rfl (by kernel_rfl) (fun _ _ _ h => h) (Or.inl ⟨by rfl, ?_⟩) ?_ ?_
     rotate_left
     ·intro w'
      go_simp
      with_reducible rfl
     rotate_left
     ·simp only [Act.put, List.setIfInBounds_toArray, List.set_cons_zero, List.set_cons_succ, i64_w, i32_w]
      rfl
     refine done_ (by kernel_rfl) ?_
     go_wp2_with fail
    ·go_ret2
     refine ⟨?_, hHeld.done rfl⟩
     rw [HG1.out i hlt HJ.out HBA.out, grRes_pos]; rfl
    ·go_roundw
     case rel => exact ⟨i + 1, by omega, by go_num, ⟨fun j hj => by
      rcases Nat.lt_or_ge j i with h | h
      ·exact HJ.out j h
      ·obtain rfl : j = i := by omega
       exact HBA.out⟩, hHeld⟩
     case measure => simp [intOf]; omega
   ·have HI := Aside0.mk (show i = hs.length by omega)
    go_wp2_with (first | fail | ((with_reducible refine gt_box 2 28 ?_); refine st_box rfl 2 rfl 28 _ rfl hm (v := .agg (vals _ _)) rfl (cs := vals _ _) rfl ?_; clear hm; intro g2 w2 hm) | ((with_reducible refine gt_load 28 ?_); (first | (refine st_load rfl 28 _ rfl hm rfl 0 rfl agg28 (by first | omega | assumption | (simp only [lens]; first | omega | assumption) | (simp [lens]; done) | (simp [lens]; omega)) ?_) | (refine st_load rfl 28 _ rfl hm rfl 1 rfl agg28 (by first | omega | assumption | (simp only [lens]; first | omega | assumption) | (simp [lens]; done) | (simp [lens]; omega)) ?_) | (refine st_load rfl 28 _ rfl hm rfl 2 rfl agg28 (by first | omega | assumption | (simp only [lens]; first | omega | assumption) | (simp [lens]; done) | (simp [lens]; omega)) ?_))) | (refine st_lit1 rfl 9 rfl 111 _ rfl hm rfl Tryz.underlying111 agg28 zero28 (by first | omega | assumption | (simp only [lens]; first | omega | assumption) | (simp [lens]; done) | (simp [lens]; omega))  (by decide) (by decide) ?_; clear hm; intro g9 w9 hm))
    go_ret2
    refine ⟨?_, hm.done rfl⟩
    rw [HG2.out (fun j hj => HJ.out j (by rw [HI.out]; exact hj)), grRes_neg]
    rfl
 ·rw [if_neg hk0]
  generalize flown L hs = c at *
  generalize codeH hs = cH at *
  go_enter Tryz.func19, Tryz.ntmps19
  go_wp2_with (first
   | (first | fail | ((with_reducible refine gt_box 2 28 ?_); refine st_box rfl 2 rfl 28 _ rfl hm (v := .agg (vals _ _)) rfl (cs := vals _ _) rfl ?_; clear hm; intro g2 w2 hm) | ((with_reducible refine gt_load 28 ?_); (first | (refine st_load rfl 28 _ rfl hm rfl 0 rfl agg28 (by first | omega | assumption | (simp only [lens]; first | omega | assumption) | (simp [lens]; done) | (simp [lens]; omega)) ?_) | (refine st_load rfl 28 _ rfl hm rfl 1 rfl agg28 (by first | omega | assumption | (simp only [lens]; first | omega | assumption) | (simp [lens]; done) | (simp [lens]; omega)) ?_) | (refine st_load rfl 28 _ rfl hm rfl 2 rfl agg28 (by first | omega | assumption | (simp only [lens]; first | omega | assumption) | (simp [lens]; done) | (simp [lens]; omega)) ?_))) | (refine st_lit1 rfl 9 rfl 111 _ rfl hm rfl Tryz.underlying111 agg28 zero28 (by first | omega | assumption | (simp only [lens]; first | omega | assumption) | (simp [lens]; done) | (simp [lens]; omega))  (by decide) (by decide) ?_; clear hm; intro g9 w9 hm))
   | (refine st_ints2 rfl 13 rfl 85 _ _ rfl hm rfl rfl Tryz.underlying85 one2 zero2 ?_; clear hm; intro g13 w13 hm)
   | (go_at_call 40; refine (HLC.out _ g9 (lks1 hm (n := 0) rfl hl HW.out)).mono ?_; rintro e wa ⟨rfl, hb⟩; replace hm := hm.after hb; clear hb)
   | (go_at_call 23; refine (HC.out _ (Kd.C_below HR.out (hm.done rfl))).mono ?_; rintro e wa ⟨rfl, hb⟩; replace hm := hm.after hb; clear hb)
   | (go_at_call 42; refine (firstOf_calls g13 _ _ _ (hm.mem (n := 0) rfl)).mono ?_; rintro e wa ⟨rfl, hb⟩; replace hm := hm.after hb; clear hb; rw [HFS.out]))
  go_ret2
  exact ⟨rfl, hm.done rfl⟩
end Go.Proofs.YthaoopbfggnceaaGreatDoor.Arr
namespace Go.Proofs.YthaoopbfggnceaaGreatDoor.Arr
open Go.RowKit Go.Proofs.YthaoopbfggnceaaGreatDoorW.PrintWords Go.Proofs.YthaoopbfggnceaaGreatDoorW.PrintLast Go.Proofs.YthaoopbfggnceaaGreatDoorW.PrintMore Go.Proofs.YthaoopbfggnceaaGreatDoor.U Go.Proofs.YthaoopbfggnceaaGreatDoor.L
set_option linter.unusedVariables false
set_option linter.unusedSimpArgs false
theorem okL_b {L : List Int} (h : okL L = true) : ∀ x ∈ L, -1000000 ≤ x ∧ x ≤ 1000000 := fun x hx => by have := okL_in h x hx; omega
set_option maxHeartbeats 4000000 in
set_option maxRecDepth 100000 in
theorem implCovers_calls (L L' : List Int) (w : World) (hl : L.length = 44) (hw : Fits .i16 L) (hl' : L'.length = 44) (hw' : Fits .i16 L') : Calls Tryz.prog 12 #[.agg (vals .i16 L), .agg (vals .i16 L')] w fun e w' =>
  e = .returned (if okL L = true ∧ okL L' = true then .tuple #[.bool (covB L L'), .int .i64 0] else .tuple #[.bool false, .int .i64 1]) ∧ Below w.heap.size w w' := by
 have hm := Mem.start w
 have HW := Aside0.mk hw
 have HW' := Aside0.mk hw'
 clear hw hw'
 by_cases hok : okL L = true ∧ okL L' = true
 ·rw [if_pos hok]
  have HK := Aside0.mk (show (if [L, L'].all okL = true then (0 : Int) else 1) = 0 by simp [hok])
  have HB := Aside0.mk (okL_b hok.1)
  have HB' := Aside0.mk (okL_b hok.2)
  clear hok
  go_enter Tryz.func12, Tryz.ntmps12
  go_wp2_with (first
   | (first | fail | ((with_reducible refine gt_box 2 28 ?_); refine st_box rfl 2 rfl 28 _ rfl hm (v := .agg (vals _ _)) rfl (cs := vals _ _) rfl ?_; clear hm; intro g2 w2 hm) | ((with_reducible refine gt_box 3 28 ?_); refine st_box rfl 3 rfl 28 _ rfl hm (v := .agg (vals _ _)) rfl (cs := vals _ _) rfl ?_; clear hm; intro g3 w3 hm) | ((with_reducible refine gt_load 28 ?_); (first | (refine st_load rfl 28 _ rfl hm rfl 0 rfl agg28 (by first | omega | assumption | (simp only [lens]; first | omega | assumption) | (simp [lens]; done) | (simp [lens]; omega)) ?_) | (refine st_load rfl 28 _ rfl hm rfl 1 rfl agg28 (by first | omega | assumption | (simp only [lens]; first | omega | assumption) | (simp [lens]; done) | (simp [lens]; omega)) ?_) | (refine st_load rfl 28 _ rfl hm rfl 2 rfl agg28 (by first | omega | assumption | (simp only [lens]; first | omega | assumption) | (simp [lens]; done) | (simp [lens]; omega)) ?_) | (refine st_load rfl 28 _ rfl hm rfl 3 rfl agg28 (by first | omega | assumption | (simp only [lens]; first | omega | assumption) | (simp [lens]; done) | (simp [lens]; omega)) ?_))) | (refine st_lit2 rfl 9 rfl 111 _ _ rfl hm rfl rfl Tryz.underlying111 agg28 zero28 (by first | omega | assumption | (simp only [lens]; first | omega | assumption) | (simp [lens]; done) | (simp [lens]; omega)) (by first | omega | assumption | (simp only [lens]; first | omega | assumption) | (simp [lens]; done) | (simp [lens]; omega)) (by decide) (by decide) ?_; clear hm; intro g9 w9 hm))
   | (go_at_call 40; refine (lockerCode_calls _ [L, L'] _ (lks2 hm (n := 0) rfl hl HW.out hl' HW'.out) (by simp)).mono ?_; rintro e wa ⟨rfl, hb⟩; replace hm := hm.after hb; clear hb; rw [HK.out]))
  refine start_ (n := 7) (S := fun w' => Mem w w' [⟨g9, vals .i16 (L ++ L'), 28, true⟩, ⟨g3, vals .i16 L', 28, true⟩, ⟨g2, vals .i16 L, 28, true⟩]) (ds := []) #[false, false, false, false, false, false, false] (by kernel_rfl) rfl rfl (hm.drawn _) (fun hHeld => ?_)
  refine take_ (i := 0) (N := some 14) (v := .agg (vals .i16 L)) (a' := ?_) #[true, false, false, false, false, false, false] rfl rfl (by kernel_rfl) (fun _ _ _ h => h) (Or.inl ⟨by rfl, ?_⟩) hHeld ?_ ?_
  ·intro w' s0
   exact y_load (by rfl) (by rfl) 2 (by rfl) agg28 (by first | omega | assumption | (simp only [lens]; first | omega | assumption) | (simp [lens]; done) | (simp [lens]; omega)) w' s0
  rotate_left
  ·simp only [Act.put, List.setIfInBounds_toArray, List.set_cons_zero, List.set_cons_succ, i64_w, i32_w]
   rfl
  refine take_ (i := 2) (N := some 16) (v := .agg (vals .i16 L')) (a' := ?_) #[true, false, true, false, false, false, false] rfl rfl (by kernel_rfl) (fun _ _ _ h => h) (Or.inl ⟨by rfl, ?_⟩) hHeld ?_ ?_
  ·intro w' s0
   exact y_load (by rfl) (by rfl) 1 (by rfl) agg28 (by first | omega | assumption | (simp only [lens]; first | omega | assumption) | (simp [lens]; done) | (simp [lens]; omega)) w' s0
  rotate_left
  ·simp only [Act.put, List.setIfInBounds_toArray, List.set_cons_zero, List.set_cons_succ, i64_w, i32_w]
   rfl
  refine one_ (i := 1) (N := some 15) #[true, true, true, false, false, false, false] rfl rfl (by kernel_rfl) (by decide) (fun K hK => ?_)
  refine goes_ Tryz.func36 (by kernel_rfl) rfl #[.agg (vals .i16 L)] (by rfl) rfl rfl (by simp only [List.map_toArray, List.map_cons, List.map_nil]; rfl) ?_
  refine (pieces_calls L _ hl HW.out).mono ?_
  rintro e w3 ⟨rfl, hb⟩
  refine ⟨_, rfl, ?_⟩
  refine hK.out _ _ (hHeld.after hb) (fun hHeld => ?_)
  clear hK K
  refine norm_ (a' := ?_) ?_ ?_
  rotate_left
  ·show Act.put _ (some 15) _ = _
   simp only [Act.put, List.setIfInBounds_toArray, List.set_cons_zero, List.set_cons_succ, i64_w, i32_w]
   rfl
  refine one_ (i := 3) (N := some 17) #[true, true, true, true, false, false, false] rfl rfl (by kernel_rfl) (by decide) (fun K hK => ?_)
  refine goes_ Tryz.func36 (by kernel_rfl) rfl #[.agg (vals .i16 L')] (by rfl) rfl rfl (by simp only [List.map_toArray, List.map_cons, List.map_nil]; rfl) ?_
  refine (pieces_calls L' _ hl' HW'.out).mono ?_
  rintro e w3 ⟨rfl, hb⟩
  refine ⟨_, rfl, ?_⟩
  refine hK.out _ _ (hHeld.after hb) (fun hHeld => ?_)
  clear hK K
  refine norm_ (a' := ?_) ?_ ?_
  rotate_left
  ·show Act.put _ (some 17) _ = _
   simp only [Act.put, List.setIfInBounds_toArray, List.set_cons_zero, List.set_cons_succ, i64_w, i32_w]
   rfl
  refine one_ (i := 4) (N := some 18) #[true, true, true, true, true, false, false] rfl rfl (by kernel_rfl) (by decide) (fun K hK => ?_)
  refine goes_ Tryz.func41 (by kernel_rfl) rfl #[.agg (vals .i64 L), .agg (vals .i64 L')] (by rfl) rfl rfl (by simp only [List.map_toArray, List.map_cons, List.map_nil]; rfl) ?_
  refine (covers_calls L L' _ hl hl' HB.out HB'.out).mono ?_
  rintro e w3 ⟨rfl, hb⟩
  refine ⟨_, rfl, ?_⟩
  refine hK.out _ _ (hHeld.after hb) (fun hHeld => ?_)
  clear hK K
  refine norm_ (a' := ?_) ?_ ?_
  rotate_left
  ·show Act.put _ (some 18) _ = _
   simp only [Act.put, List.setIfInBounds_toArray, List.set_cons_zero, List.set_cons_succ, i64_w, i32_w]
   rfl
  refine pure_ (i := 5) (N := some 4) (v := ?_) (a' := ?_) #[true, true, true, true, true, true, false] rfl rfl (by kernel_rfl) (fun _ _ _ h => h) (Or.inl ⟨by rfl, ?_⟩) ?_ ?_
  rotate_left
  ·intro w'
   go_simp
   with_reducible rfl
  rotate_left
  ·simp only [Act.put, List.setIfInBounds_toArray, List.set_cons_zero, List.set_cons_succ, i64_w, i32_w]
   rfl
  refine pure_ (i := 6) (N := some 5) (v := ?_) (a' := ?_) #[true, true, true, true, true, true, true] rfl rfl (by kernel_rfl) (fun _ _ _ h => h) (Or.inl ⟨by rfl, ?_⟩) ?_ ?_
  rotate_left
  ·intro w'
   go_simp
   with_reducible rfl
  rotate_left
  ·simp only [Act.put, List.setIfInBounds_toArray, List.set_cons_zero, List.set_cons_succ, i64_w, i32_w]
   rfl
  refine done_ (by kernel_rfl) ?_
  go_wp2_with fail
  go_ret2
  exact ⟨rfl, hHeld.done rfl⟩
 ·rw [if_neg hok]
  have HK := Aside0.mk (show (if [L, L'].all okL = true then (0 : Int) else 1) = 1 by rw [if_neg]; simpa using hok)
  clear hok
  go_enter Tryz.func12, Tryz.ntmps12
  go_wp2_with (first
   | (first | fail | ((with_reducible refine gt_box 2 28 ?_); refine st_box rfl 2 rfl 28 _ rfl hm (v := .agg (vals _ _)) rfl (cs := vals _ _) rfl ?_; clear hm; intro g2 w2 hm) | ((with_reducible refine gt_box 3 28 ?_); refine st_box rfl 3 rfl 28 _ rfl hm (v := .agg (vals _ _)) rfl (cs := vals _ _) rfl ?_; clear hm; intro g3 w3 hm) | ((with_reducible refine gt_load 28 ?_); (first | (refine st_load rfl 28 _ rfl hm rfl 0 rfl agg28 (by first | omega | assumption | (simp only [lens]; first | omega | assumption) | (simp [lens]; done) | (simp [lens]; omega)) ?_) | (refine st_load rfl 28 _ rfl hm rfl 1 rfl agg28 (by first | omega | assumption | (simp only [lens]; first | omega | assumption) | (simp [lens]; done) | (simp [lens]; omega)) ?_) | (refine st_load rfl 28 _ rfl hm rfl 2 rfl agg28 (by first | omega | assumption | (simp only [lens]; first | omega | assumption) | (simp [lens]; done) | (simp [lens]; omega)) ?_) | (refine st_load rfl 28 _ rfl hm rfl 3 rfl agg28 (by first | omega | assumption | (simp only [lens]; first | omega | assumption) | (simp [lens]; done) | (simp [lens]; omega)) ?_))) | (refine st_lit2 rfl 9 rfl 111 _ _ rfl hm rfl rfl Tryz.underlying111 agg28 zero28 (by first | omega | assumption | (simp only [lens]; first | omega | assumption) | (simp [lens]; done) | (simp [lens]; omega)) (by first | omega | assumption | (simp only [lens]; first | omega | assumption) | (simp [lens]; done) | (simp [lens]; omega)) (by decide) (by decide) ?_; clear hm; intro g9 w9 hm))
   | (go_at_call 40; refine (lockerCode_calls _ [L, L'] _ (lks2 hm (n := 0) rfl hl HW.out hl' HW'.out) (by simp)).mono ?_; rintro e wa ⟨rfl, hb⟩; replace hm := hm.after hb; clear hb; rw [HK.out]))
  go_ret2
  exact ⟨rfl, hm.done rfl⟩
end Go.Proofs.YthaoopbfggnceaaGreatDoor.Arr
