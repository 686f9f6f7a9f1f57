/- Lockers given as a list: whether all are valid. No condition. -/
import Derived.Test.YtmpkgdgbjhegnaaLockVal
import Derived.Test.YtmpkgdgbjhegnaaArrS
import Derived.Test.YtmpkgdgbjhegnaaPBx1
namespace Go.Proofs.Ytmpkgdgbjhegnaa.Arr
open Go.RowKit Go.Proofs.YtmpkgdgbjhegnaaW.PrintWords Go.Proofs.YtmpkgdgbjhegnaaW.PrintLast Go.Proofs.YtmpkgdgbjhegnaaW.PrintMore Go.Proofs.Ytmpkgdgbjhegnaa.U Go.Proofs.Ytmpkgdgbjhegnaa.B
set_option linter.unusedVariables false
set_option linter.unusedSimpArgs false

/-- A row of lockers, from a block's first cell on. -/
def Lks (w : World) (g : Nat) (l : List (List Int)) : Prop := ∀ (i : Nat) (L : List Int), l[i]? = some L → L.length = 44 ∧ Fits .i16 L ∧ ∀ j, j < 44 → w.cell? ⟨g, i * 44 + j, none⟩ = some (.int .i16 (rd L (j : Int)))
theorem Lks.below {w w' : World} {g : Nat} {l : List (List Int)} (h : Lks w g l) (hb : Below w.heap.size w w') : Lks w' g l := fun i L hi => by
  obtain ⟨h1, h2, h3⟩ := h i L hi
  exact ⟨h1, h2, fun j hj => (hb.cell (World.block_lt_of_cell? w _ (h3 j hj))).trans (h3 j hj)⟩

set_option maxHeartbeats 4000000 in
set_option maxRecDepth 100000 in
theorem indexFunc_lk (f : FuncId) (hg : ∀ (a : Array Value) (W : World), (callFunc f a).run Try.prog W = .ok (.enter f a) W) (cap : Array Value) (g : Nat) (p : List Int → Bool) (l0 : List (List Int)) (w : World) (hr0 : Lks w g l0) (hmx : l0.length ≤ 1000)
   (hf : ∀ x ∈ l0, ∀ W, Below w.heap.size w W → Calls Try.prog f (#[.agg (vals .i16 x)] ++ cap) W fun e W' => e = .returned (.bool (p x)) ∧ Below W.heap.size W W') :
   Calls Try.prog 98 #[.slice (some ⟨g, 0, none⟩) l0.length l0.length, .func (.func f) #[] cap] w fun e w' => e = .returned (.int .i64 (ixa p l0)) ∧ Below w.heap.size w w' := by
  have HF := Aside0.mk hf
  have HR0 := Aside0.mk hr0
  clear hf hr0
  go_enter Try.func98, Try.ntmps98
  go_wp2_with fail
  go_loopw [8, 5] (fun v8 v5 wr => ∃ i : Nat, i ≤ l0.length ∧ v8 = .int .i64 i ∧ Aside0 (Below w.heap.size w wr) ∧ Aside0 (∀ j, j < i → ∀ y, l0[j]? = some y → p y = false)) (fun v8 _ _ => l0.length - (intOf v8).toNat)
  case atStart => exact ⟨0, Nat.zero_le _, rfl, ⟨Below.refl _ _⟩, ⟨fun j hj => absurd hj (by omega)⟩⟩
  case round =>
    obtain ⟨i, hi, rfl, HB, HP⟩ := hrel
    by_cases hlt : i < l0.length
    · obtain ⟨x, hx⟩ : ∃ x, l0[i]? = some x := ⟨_, List.getElem?_eq_getElem hlt⟩
      obtain ⟨hl44, _, hcl⟩ := (HR0.out.below HB.out) i x hx
      have HM := Aside0.mk (HF.out x (List.mem_of_getElem? hx) _ HB.out)
      have HX := Aside0.mk hx
      have HCL := Aside0.mk hcl
      clear hx hcl
      cases hp : p x with
      | true =>
        have HPX := Aside0.mk hp
        rw [hp] at HM
        clear hp
        go_wp2_with (first
          | ((with_reducible refine gt_elem 105 ?_); refine st_selem rfl _ _ _ rfl rfl rfl Try.underlying105 agg26.2 hlt ?_)
          | ((with_reducible refine gt_load 26 ?_); refine st_loadc rfl _ _ rfl rfl hl44 HCL.out agg26 ?_)
          | (refine HM.out.mono ?_; rintro e w1 ⟨rfl, hb1⟩; have HB1 := Aside0.mk hb1; clear hb1))
        go_ret
        exact ⟨by rw [ixa_found p l0 i x HX.out HP.out HPX.out]; rfl, below_then HB.out HB1.out⟩
      | false =>
        have HPX := Aside0.mk hp
        rw [hp] at HM
        clear hp
        go_wp2_with (first
          | ((with_reducible refine gt_elem 105 ?_); refine st_selem rfl _ _ _ rfl rfl rfl Try.underlying105 agg26.2 hlt ?_)
          | ((with_reducible refine gt_load 26 ?_); refine st_loadc rfl _ _ rfl rfl hl44 HCL.out agg26 ?_)
          | (refine HM.out.mono ?_; rintro e w1 ⟨rfl, hb1⟩; have HB1 := Aside0.mk hb1; clear hb1))
        go_roundw
        case rel => exact ⟨i + 1, by omega, by go_num, ⟨below_then HB.out HB1.out⟩, ⟨fun j hj y hy => by
          rcases Nat.lt_or_ge j i with h | h
          · exact HP.out j h y hy
          · obtain rfl : j = i := by omega
            rw [HX.out] at hy
            rw [← Option.some.inj hy]; exact HPX.out⟩⟩
        case measure => simp [intOf]; omega
    · have HI := Aside0.mk (show i = l0.length by omega)
      go_wp2_with fail
      go_ret
      exact ⟨by rw [ixa_none p l0 (fun j hj => HP.out j (by rw [HI.out]; exact hj))]; rfl, HB.out⟩

set_option maxHeartbeats 4000000 in
set_option maxRecDepth 100000 in
theorem containsFunc_lk (f : FuncId) (hg : ∀ (a : Array Value) (W : World), (callFunc f a).run Try.prog W = .ok (.enter f a) W) (cap : Array Value) (g : Nat) (p : List Int → Bool) (l0 : List (List Int)) (w : World) (hr0 : Lks w g l0) (hmx : l0.length ≤ 1000)
   (hf : ∀ x ∈ l0, ∀ W, Below w.heap.size w W → Calls Try.prog f (#[.agg (vals .i16 x)] ++ cap) W fun e W' => e = .returned (.bool (p x)) ∧ Below W.heap.size W W') :
   Calls Try.prog 85 #[.slice (some ⟨g, 0, none⟩) l0.length l0.length, .func (.func f) #[] cap] w fun e w' => e = .returned (.bool (l0.any p)) ∧ Below w.heap.size w w' := by
  have HM := Aside0.mk (indexFunc_lk f hg cap g p l0 w hr0 hmx hf)
  have HA := Aside0.mk (ixa_any p l0)
  clear hf hr0 hg
  generalize ixa p l0 = n at *
  generalize l0.any p = b at *
  go_enter Try.func85, Try.ntmps85
  go_wp2_with (go_at_call 98; refine HM.out.mono ?_; rintro e w1 ⟨rfl, hb1⟩; have HB1 := Aside0.mk hb1; clear hb1)
  go_ret
  exact ⟨by rw [← HA.out]; rfl, HB1.out⟩

set_option maxHeartbeats 4000000 in
set_option maxRecDepth 100000 in
theorem lockerCode1_calls (L : List Int) (w : World) (hl : L.length = 44) (hw : Fits .i16 L) : Calls Try.prog 86 (#[.agg (vals .i16 L)] ++ #[]) w fun e w' => e = .returned (.bool (!okL L)) ∧ Below w.heap.size w w' := by
  have hm := Mem.start w
  have HW := Aside0.mk hw
  clear hw
  go_enter Try.func86, Try.ntmps86
  go_wp2_with (first
    | (first | fail | ((with_reducible refine gt_box 1 26 ?_); refine st_box rfl 1 rfl 26 _ rfl hm (v := .agg (vals _ _)) rfl (cs := vals _ _) rfl ?_; clear hm; intro g1 w1 hm) | ((with_reducible refine gt_load 26 ?_); (first | (refine st_load rfl 26 _ rfl hm rfl 0 rfl agg26 (by first | omega | assumption | (simp only [lens]; first | omega | assumption) | (simp [lens]; done) | (simp [lens]; omega)) ?_) | (refine st_load rfl 26 _ rfl hm rfl 1 rfl agg26 (by first | omega | assumption | (simp only [lens]; first | omega | assumption) | (simp [lens]; done) | (simp [lens]; omega)) ?_) | (refine st_load rfl 26 _ rfl hm rfl 2 rfl agg26 (by first | omega | assumption | (simp only [lens]; first | omega | assumption) | (simp [lens]; done) | (simp [lens]; omega)) ?_))))
    | (go_at_call 20; refine (implValid_calls _ _ hl HW.out).mono ?_; rintro e wa ⟨rfl, hb⟩; replace hm := hm.after hb; clear hb))
  go_ret
  exact ⟨rfl, hm.done rfl⟩
theorem lockerCode1_enters (a : Array Value) (W : World) : (callFunc 86 a).run Try.prog W = .ok (.enter 86 a) W := by kernel_rfl

set_option maxHeartbeats 4000000 in
set_option maxRecDepth 100000 in
theorem lockerCode_calls (g : Nat) (l : List (List Int)) (w : World) (h : Lks w g l) (hmx : l.length ≤ 1000) : Calls Try.prog 62 #[.slice (some ⟨g, 0, none⟩) l.length l.length] w fun e w' =>
    e = .returned (.int .i64 (if l.all okL = true then 0 else 1)) ∧ Below w.heap.size w w' := by
  have HM := Aside0.mk (containsFunc_lk 86 lockerCode1_enters #[] g (fun L => !okL L) l w h hmx (fun x hx W _ => by
    obtain ⟨i, hi, rfl⟩ := List.getElem_of_mem hx
    obtain ⟨h1, h2, _⟩ := h i _ (List.getElem?_eq_getElem hi)
    exact lockerCode1_calls _ W h1 h2))
  have HA := Aside0.mk (show (!l.any fun L => !okL L) = l.all okL by simp [List.all_eq_not_any_not])
  clear h
  rw [← HA.out]
  clear HA
  generalize (l.any fun L => !okL L) = c at *
  cases c
  all_goals
    go_enter Try.func62, Try.ntmps62
    go_wp2_with (first
      | (go_at_call 85; refine HM.out.mono ?_; rintro e wa ⟨rfl, hb⟩; have HB := Aside0.mk hb; clear hb)
      | (go_at_call 84; refine (impl_unless.calls _ _ _ _ rfl).mono ?_; rintro e wa ⟨rfl, hb2⟩; have HB2 := Aside0.mk hb2.below; clear hb2))
    go_ret
    exact ⟨rfl, below_then HB.out HB2.out⟩
theorem lks1 {w0 w : World} {M : List Ent} {n g : Nat} {L : List Int} {t : TypeId} {o : Bool} (hm : Mem w0 w M) (hn : M[n]? = some ⟨g, vals .i16 L, t, o⟩) (hl : L.length = 44) (hw : Fits .i16 L) : Lks w g [L] := fun i L' hi => by
  rcases i with _ | i
  · rw [List.getElem?_cons_zero] at hi
    cases hi
    exact ⟨hl, hw, fun j hj => by rw [Nat.zero_mul, Nat.zero_add]; exact hm.get hn j (by omega)⟩
  · simp at hi
theorem lks2 {w0 w : World} {M : List Ent} {n g : Nat} {L L' : List Int} {t : TypeId} {o : Bool} (hm : Mem w0 w M) (hn : M[n]? = some ⟨g, vals .i16 (L ++ L'), t, o⟩) (hl : L.length = 44) (hw : Fits .i16 L) (hl' : L'.length = 44) (hw' : Fits .i16 L') : Lks w g [L, L'] := fun i K hi => by
  have hget := fun (a : Nat) (ha : a < 88) => hm.get hn a (by simp only [lens]; omega)
  rcases i with _ | _ | i
  · rw [List.getElem?_cons_zero] at hi
    cases hi
    refine ⟨hl, hw, fun j hj => ?_⟩
    rw [Nat.zero_mul, Nat.zero_add, hget j (by omega), rd_get _ j (by simp only [lens]; omega), rd_get _ j (by omega), List.getElem_append_left (by omega)]
  · rw [List.getElem?_cons_succ, List.getElem?_cons_zero] at hi
    cases hi
    refine ⟨hl', hw', fun j hj => ?_⟩
    rw [Nat.zero_add, Nat.one_mul, hget (44 + j) (by omega), rd_get _ (44 + j) (by simp only [lens]; omega), rd_get _ j (by omega), List.getElem_append_right (by omega)]
    congr 3
    omega
  · simp at hi
/-! ### How many pieces -/
def psum (L : List Int) : Nat → Int
  | 0 => 0
  | i + 1 => psum L i + rd L (i : Int)
theorem psum_le {L : List Int} {b : Int} (h : ∀ x ∈ L, 0 ≤ x ∧ x ≤ b) : ∀ i : Nat, i ≤ L.length → 0 ≤ psum L i ∧ psum L i ≤ b * i
  | 0, _ => by simp [psum]
  | i + 1, hi => by
    have h1 := psum_le h i (by omega)
    have h2 := h _ (rd_in L i (by omega))
    have e : b * ((i + 1 : Nat) : Int) = b * (i : Int) + b := by rw [show ((i + 1 : Nat) : Int) = (i : Int) + 1 by omega, Int.mul_add, Int.mul_one]
    simp only [psum]
    rw [e]
    omega
theorem okL_in {L : List Int} (h : okL L = true) : ∀ x ∈ L, 0 ≤ x ∧ x ≤ 20 := fun x hx => by
  have := List.all_eq_true.1 h x hx
  simpa [okx] using this

set_option maxHeartbeats 4000000 in
set_option maxRecDepth 100000 in
theorem l04Pieces_calls (g : Nat) (L : List Int) (w : World) (hl : L.length = 44) (hw : ∀ x ∈ L, 0 ≤ x ∧ x ≤ 20000) (hg : w.heap[g]? = some (.cells (vals .i16 L) 26 (0, 0))) :
    Calls Try.prog 61 #[.pointer (some ⟨g, 0, none⟩)] w fun e w' => e = .returned (.int .i64 (psum L 44)) ∧ Below w.heap.size w w' := by
  have hm := Mem.given hg
  have HG := Aside0.mk hg
  have HW := Aside0.mk hw
  clear hg hw
  go_enter Try.func61, Try.ntmps61
  go_wp2_with (first | fail | ((with_reducible refine gt_field 26 0 ?_); refine st_field rfl 26 _ 0 rfl rfl field26_0 ?_) | ((with_reducible refine gt_elem 23 ?_); refine st_elem rfl 23 _ _ rfl rfl rfl arr23 (by first | omega | assumption | (simp only [lens]; first | omega | assumption) | (simp [lens]; done) | (simp [lens]; omega)) (by first | omega | assumption | (simp only [lens]; first | omega | assumption) | (simp [lens]; done) | (simp [lens]; omega)) ?_) | ((with_reducible refine gt_load 22 ?_); (first | (refine st_get rfl 22 _ rfl hm rfl 0 rfl one22 (by first | omega | assumption | (simp only [lens]; first | omega | assumption) | (simp [lens]; done) | (simp [lens]; omega)) ?_) | (refine st_get rfl 22 _ rfl hm rfl 1 rfl one22 (by first | omega | assumption | (simp only [lens]; first | omega | assumption) | (simp [lens]; done) | (simp [lens]; omega)) ?_))) | ((with_reducible refine gt_field 26 1 ?_); refine st_field rfl 26 _ 1 rfl rfl field26_1 ?_) | ((with_reducible refine gt_elem 24 ?_); refine st_elem rfl 24 _ _ rfl rfl rfl arr24 (by first | omega | assumption | (simp only [lens]; first | omega | assumption) | (simp [lens]; done) | (simp [lens]; omega)) (by first | omega | assumption | (simp only [lens]; first | omega | assumption) | (simp [lens]; done) | (simp [lens]; omega)) ?_))
  go_loopw [3, 4] (fun v3 v4 wr => ∃ i : Nat, i ≤ 40 ∧ v4 = .int .i64 i ∧ v3 = .int .i64 (psum L i) ∧ Mem w wr [⟨g, vals .i16 L, 26, false⟩]) (fun _ v4 _ => 40 - (intOf v4).toNat)
  case atStart => exact ⟨0, by omega, rfl, rfl, hm⟩
  case round =>
    obtain ⟨i, hi, rfl, rfl, hm⟩ := hrel
    have hs := psum_le HW.out i (by omega)
    generalize hS : psum L i = S at *
    have HS := Aside0.mk hS
    clear hS
    by_cases hlt : i < 40
    · have hx16 := HW.out _ (rd_in L i (by omega))
      go_wp2_with (first | fail | ((with_reducible refine gt_field 26 0 ?_); refine st_field rfl 26 _ 0 rfl rfl field26_0 ?_) | ((with_reducible refine gt_elem 23 ?_); refine st_elem rfl 23 _ _ rfl rfl rfl arr23 (by first | omega | assumption | (simp only [lens]; first | omega | assumption) | (simp [lens]; done) | (simp [lens]; omega)) (by first | omega | assumption | (simp only [lens]; first | omega | assumption) | (simp [lens]; done) | (simp [lens]; omega)) ?_) | ((with_reducible refine gt_load 22 ?_); (first | (refine st_get rfl 22 _ rfl hm rfl 0 rfl one22 (by first | omega | assumption | (simp only [lens]; first | omega | assumption) | (simp [lens]; done) | (simp [lens]; omega)) ?_) | (refine st_get rfl 22 _ rfl hm rfl 1 rfl one22 (by first | omega | assumption | (simp only [lens]; first | omega | assumption) | (simp [lens]; done) | (simp [lens]; omega)) ?_))) | ((with_reducible refine gt_field 26 1 ?_); refine st_field rfl 26 _ 1 rfl rfl field26_1 ?_) | ((with_reducible refine gt_elem 24 ?_); refine st_elem rfl 24 _ _ rfl rfl rfl arr24 (by first | omega | assumption | (simp only [lens]; first | omega | assumption) | (simp [lens]; done) | (simp [lens]; omega)) (by first | omega | assumption | (simp only [lens]; first | omega | assumption) | (simp [lens]; done) | (simp [lens]; omega)) ?_))
      go_roundw
      case rel =>
        refine ⟨i + 1, by omega, by go_num, ?_, hm⟩
        rw [psum, HS.out]
        all_goals (first | rfl | (congr 1; unfold wrap64; omega))
      case measure => simp [intOf]; omega
    · have HI := Aside0.mk (show i = 40 by omega)
      go_wp2_with (first | fail | ((with_reducible refine gt_field 26 0 ?_); refine st_field rfl 26 _ 0 rfl rfl field26_0 ?_) | ((with_reducible refine gt_elem 23 ?_); refine st_elem rfl 23 _ _ rfl rfl rfl arr23 (by first | omega | assumption | (simp only [lens]; first | omega | assumption) | (simp [lens]; done) | (simp [lens]; omega)) (by first | omega | assumption | (simp only [lens]; first | omega | assumption) | (simp [lens]; done) | (simp [lens]; omega)) ?_) | ((with_reducible refine gt_load 22 ?_); (first | (refine st_get rfl 22 _ rfl hm rfl 0 rfl one22 (by first | omega | assumption | (simp only [lens]; first | omega | assumption) | (simp [lens]; done) | (simp [lens]; omega)) ?_) | (refine st_get rfl 22 _ rfl hm rfl 1 rfl one22 (by first | omega | assumption | (simp only [lens]; first | omega | assumption) | (simp [lens]; done) | (simp [lens]; omega)) ?_))) | ((with_reducible refine gt_field 26 1 ?_); refine st_field rfl 26 _ 1 rfl rfl field26_1 ?_) | ((with_reducible refine gt_elem 24 ?_); refine st_elem rfl 24 _ _ rfl rfl rfl arr24 (by first | omega | assumption | (simp only [lens]; first | omega | assumption) | (simp [lens]; done) | (simp [lens]; omega)) (by first | omega | assumption | (simp only [lens]; first | omega | assumption) | (simp [lens]; done) | (simp [lens]; omega)) ?_))
      go_loopw [3, 5] (fun v3 v5 wr => ∃ i : Nat, i ≤ 4 ∧ v5 = .int .i64 i ∧ v3 = .int .i64 (psum L (40 + i)) ∧ Mem w wr [⟨g, vals .i16 L, 26, false⟩]) (fun _ v5 _ => 4 - (intOf v5).toNat)
      case atStart => exact ⟨0, by omega, rfl, by rw [← HS.out, HI.out], hm⟩
      case round =>
        obtain ⟨i2, hi2, rfl, rfl, hm⟩ := hrel
        have hs2 := psum_le HW.out (40 + i2) (by omega)
        generalize hS : psum L (40 + i2) = S2 at *
        have HS2 := Aside0.mk hS
        clear hS
        by_cases hlt : i2 < 4
        · have hx16 := HW.out _ (rd_inI L (40 + (i2 : Int)) (by omega) (by omega))
          go_wp2_with (first | fail | ((with_reducible refine gt_field 26 0 ?_); refine st_field rfl 26 _ 0 rfl rfl field26_0 ?_) | ((with_reducible refine gt_elem 23 ?_); refine st_elem rfl 23 _ _ rfl rfl rfl arr23 (by first | omega | assumption | (simp only [lens]; first | omega | assumption) | (simp [lens]; done) | (simp [lens]; omega)) (by first | omega | assumption | (simp only [lens]; first | omega | assumption) | (simp [lens]; done) | (simp [lens]; omega)) ?_) | ((with_reducible refine gt_load 22 ?_); (first | (refine st_get rfl 22 _ rfl hm rfl 0 rfl one22 (by first | omega | assumption | (simp only [lens]; first | omega | assumption) | (simp [lens]; done) | (simp [lens]; omega)) ?_) | (refine st_get rfl 22 _ rfl hm rfl 1 rfl one22 (by first | omega | assumption | (simp only [lens]; first | omega | assumption) | (simp [lens]; done) | (simp [lens]; omega)) ?_))) | ((with_reducible refine gt_field 26 1 ?_); refine st_field rfl 26 _ 1 rfl rfl field26_1 ?_) | ((with_reducible refine gt_elem 24 ?_); refine st_elem rfl 24 _ _ rfl rfl rfl arr24 (by first | omega | assumption | (simp only [lens]; first | omega | assumption) | (simp [lens]; done) | (simp [lens]; omega)) (by first | omega | assumption | (simp only [lens]; first | omega | assumption) | (simp [lens]; done) | (simp [lens]; omega)) ?_))
          go_roundw
          case rel =>
            refine ⟨i2 + 1, by omega, by go_num, ?_, hm⟩
            rw [show 40 + (i2 + 1) = 40 + i2 + 1 from rfl, psum, HS2.out, show ((40 + i2 : Nat) : Int) = 40 + (i2 : Int) by omega]
            all_goals (first | rfl | (congr 1; unfold wrap64; omega))
          case measure => simp [intOf]; omega
        · have HI2 := Aside0.mk (show i2 = 4 by omega)
          go_wp2_with (first | fail | ((with_reducible refine gt_field 26 0 ?_); refine st_field rfl 26 _ 0 rfl rfl field26_0 ?_) | ((with_reducible refine gt_elem 23 ?_); refine st_elem rfl 23 _ _ rfl rfl rfl arr23 (by first | omega | assumption | (simp only [lens]; first | omega | assumption) | (simp [lens]; done) | (simp [lens]; omega)) (by first | omega | assumption | (simp only [lens]; first | omega | assumption) | (simp [lens]; done) | (simp [lens]; omega)) ?_) | ((with_reducible refine gt_load 22 ?_); (first | (refine st_get rfl 22 _ rfl hm rfl 0 rfl one22 (by first | omega | assumption | (simp only [lens]; first | omega | assumption) | (simp [lens]; done) | (simp [lens]; omega)) ?_) | (refine st_get rfl 22 _ rfl hm rfl 1 rfl one22 (by first | omega | assumption | (simp only [lens]; first | omega | assumption) | (simp [lens]; done) | (simp [lens]; omega)) ?_))) | ((with_reducible refine gt_field 26 1 ?_); refine st_field rfl 26 _ 1 rfl rfl field26_1 ?_) | ((with_reducible refine gt_elem 24 ?_); refine st_elem rfl 24 _ _ rfl rfl rfl arr24 (by first | omega | assumption | (simp only [lens]; first | omega | assumption) | (simp [lens]; done) | (simp [lens]; omega)) (by first | omega | assumption | (simp only [lens]; first | omega | assumption) | (simp [lens]; done) | (simp [lens]; omega)) ?_))
          go_ret
          refine ⟨?_, (hm.gives (M := []) rfl).below HG.out⟩
          rw [show (44 : Nat) = 40 + 4 from rfl, ← HI2.out, HS2.out]; rfl

set_option maxHeartbeats 4000000 in
set_option maxRecDepth 100000 in
theorem count_calls (L : List Int) (w : World) (hl : L.length = 44) (hw : ∀ x ∈ L, 0 ≤ x ∧ x ≤ 20000) :
    Calls Try.prog 63 #[.agg (vals .i64 L)] w fun e w' => e = .returned (.int .i64 (psum L 44)) ∧ Below w.heap.size w w' := by
  have hm := Mem.start w
  have HW := Aside0.mk hw
  clear hw
  go_enter Try.func63, Try.ntmps63
  go_wp2_with (first
    | (first | fail | ((with_reducible refine gt_box 1 68 ?_); refine st_box rfl 1 rfl 68 _ rfl hm (v := .agg (vals _ _)) rfl (cs := vals _ _) rfl ?_; clear hm; intro g1 w1 hm) | ((with_reducible refine gt_load 3 ?_); (first | (refine st_get rfl 3 _ rfl hm rfl 0 rfl one3 (by first | omega | assumption | (simp only [lens]; first | omega | assumption) | (simp [lens]; done) | (simp [lens]; omega)) ?_) | (refine st_get rfl 3 _ rfl hm rfl 1 rfl one3 (by first | omega | assumption | (simp only [lens]; first | omega | assumption) | (simp [lens]; done) | (simp [lens]; omega)) ?_) | (refine st_get rfl 3 _ rfl hm rfl 2 rfl one3 (by first | omega | assumption | (simp only [lens]; first | omega | assumption) | (simp [lens]; done) | (simp [lens]; omega)) ?_))))
    | (go_at_call 59; refine (all_calls _ _).mono ?_; rintro e wa ⟨v, rfl, hR, hb⟩; replace hm := hm.after hb; clear hb; obtain ⟨A, c, rfl, hc, hC⟩ := Kd.R_reads hR; have HC := Aside0.mk hC; have Hc := Aside0.mk hc; clear hC hc hR; rw [List.length_range] at *))
  go_loopw [8, 3, 5] (fun v8 v3 v5 wr => ∃ i : Nat, i ≤ 44 ∧ v8 = .int .i64 i ∧ v3 = .int .i64 (psum L i) ∧ Aside0 (Below wa.heap.size wa wr) ∧ Mem w wr [⟨g1, vals .i64 L, 68, true⟩]) (fun v8 _ _ _ => 44 - (intOf v8).toNat)
  case atStart => exact ⟨0, by omega, rfl, rfl, ⟨Below.refl _ _⟩, hm⟩
  case round =>
    obtain ⟨i, hi, rfl, rfl, HB, hm⟩ := hrel
    have hs := psum_le HW.out i (by omega)
    generalize hS : psum L i = S at *
    have HS := Aside0.mk hS
    clear hS
    by_cases hlt : i < 44
    · have hx16 := HW.out _ (rd_in L i (by omega))
      obtain ⟨ad, rfl, hcell⟩ := at_scalar HC.out i i (by rw [List.getElem?_range hlt]) hlt
      replace hcell := (HB.out.cell (World.block_lt_of_cell? wa _ hcell)).trans hcell
      go_wp2_with (first | fail | ((with_reducible refine gt_box 1 68 ?_); refine st_box rfl 1 rfl 68 _ rfl hm (v := .agg (vals _ _)) rfl (cs := vals _ _) rfl ?_; clear hm; intro g1 w1 hm) | ((with_reducible refine gt_load 3 ?_); (first | (refine st_get rfl 3 _ rfl hm rfl 0 rfl one3 (by first | omega | assumption | (simp only [lens]; first | omega | assumption) | (simp [lens]; done) | (simp [lens]; omega)) ?_) | (refine st_get rfl 3 _ rfl hm rfl 1 rfl one3 (by first | omega | assumption | (simp only [lens]; first | omega | assumption) | (simp [lens]; done) | (simp [lens]; omega)) ?_) | (refine st_get rfl 3 _ rfl hm rfl 2 rfl one3 (by first | omega | assumption | (simp only [lens]; first | omega | assumption) | (simp [lens]; done) | (simp [lens]; omega)) ?_))))
      go_roundw
      case rel =>
        refine ⟨i + 1, by omega, by go_num, ?_, HB, hm⟩
        rw [psum, HS.out]
        all_goals (first | rfl | (congr 1; unfold wrap64; omega))
      case measure => simp [intOf]; omega
    · have HI := Aside0.mk (show i = 44 by omega)
      go_wp2_with (first | fail | ((with_reducible refine gt_box 1 68 ?_); refine st_box rfl 1 rfl 68 _ rfl hm (v := .agg (vals _ _)) rfl (cs := vals _ _) rfl ?_; clear hm; intro g1 w1 hm) | ((with_reducible refine gt_load 3 ?_); (first | (refine st_get rfl 3 _ rfl hm rfl 0 rfl one3 (by first | omega | assumption | (simp only [lens]; first | omega | assumption) | (simp [lens]; done) | (simp [lens]; omega)) ?_) | (refine st_get rfl 3 _ rfl hm rfl 1 rfl one3 (by first | omega | assumption | (simp only [lens]; first | omega | assumption) | (simp [lens]; done) | (simp [lens]; omega)) ?_) | (refine st_get rfl 3 _ rfl hm rfl 2 rfl one3 (by first | omega | assumption | (simp only [lens]; first | omega | assumption) | (simp [lens]; done) | (simp [lens]; omega)) ?_))))
      go_ret
      refine ⟨?_, hm.done rfl⟩
      rw [← HI.out, HS.out]; rfl

set_option maxHeartbeats 4000000 in
set_option maxRecDepth 100000 in
theorem specCount_calls (L : List Int) (w : World) (hl : L.length = 44) (hw : Fits .i16 L) : Calls Try.prog 21 #[.agg (vals .i16 L)] w fun e w' =>
    e = .returned (if okL L = true then .tuple #[.int .i64 (psum L 44), .int .i64 0] else .tuple #[.int .i64 0, .int .i64 1]) ∧ Below w.heap.size w w' := by
  have hm := Mem.start w
  have HW := Aside0.mk hw
  clear hw
  cases hok : okL L with
  | true =>
    have HK := Aside0.mk hok
    have HB := Aside0.mk (fun (x : Int) (hx : x ∈ L) => (⟨(okL_in hok x hx).1, by have := (okL_in hok x hx).2; omega⟩ : 0 ≤ x ∧ x ≤ 20000))
    clear hok
    go_enter Try.func21, Try.ntmps21
    go_wp2_with (first
      | (first | fail | ((with_reducible refine gt_box 1 26 ?_); refine st_box rfl 1 rfl 26 _ rfl hm (v := .agg (vals _ _)) rfl (cs := vals _ _) rfl ?_; clear hm; intro g1 w1 hm))
      | (go_at_call 54; refine (l04Ok_calls _ _ _ hl HW.out (hm.mem (n := 0) rfl)).mono ?_; rintro e wa ⟨rfl, hb⟩; replace hm := hm.after hb; clear hb; rw [HK.out])
      | (go_at_call 61; refine (l04Pieces_calls _ _ _ hl HB.out (hm.mem (n := 0) rfl)).mono ?_; rintro e wa ⟨rfl, hb⟩; replace hm := hm.after hb; clear hb))
    go_ret2
    exact ⟨rfl, hm.done rfl⟩
  | false =>
    have HK := Aside0.mk hok
    clear hok
    go_enter Try.func21, Try.ntmps21
    go_wp2_with (first
      | (first | fail | ((with_reducible refine gt_box 1 26 ?_); refine st_box rfl 1 rfl 26 _ rfl hm (v := .agg (vals _ _)) rfl (cs := vals _ _) rfl ?_; clear hm; intro g1 w1 hm))
      | (go_at_call 54; refine (l04Ok_calls _ _ _ hl HW.out (hm.mem (n := 0) rfl)).mono ?_; rintro e wa ⟨rfl, hb⟩; replace hm := hm.after hb; clear hb; rw [HK.out]))
    go_ret2
    exact ⟨rfl, hm.done rfl⟩

set_option maxHeartbeats 4000000 in
set_option maxRecDepth 100000 in
theorem implCount_calls (L : List Int) (w : World) (hl : L.length = 44) (hw : Fits .i16 L) : Calls Try.prog 22 #[.agg (vals .i16 L)] w fun e w' =>
    e = .returned (if okL L = true then .tuple #[.int .i64 (psum L 44), .int .i64 0] else .tuple #[.int .i64 0, .int .i64 1]) ∧ Below w.heap.size w w' := by
  have hm := Mem.start w
  have HW := Aside0.mk hw
  clear hw
  cases hok : okL L with
  | true =>
    have HK := Aside0.mk (show (if [L].all okL = true then (0 : Int) else 1) = 0 by simp [hok])
    have HB := Aside0.mk (fun (x : Int) (hx : x ∈ L) => (⟨(okL_in hok x hx).1, by have := (okL_in hok x hx).2; omega⟩ : 0 ≤ x ∧ x ≤ 20000))
    clear hok
    go_enter Try.func22, Try.ntmps22
    go_wp2_with (first
      | (first | fail | ((with_reducible refine gt_box 1 26 ?_); refine st_box rfl 1 rfl 26 _ rfl hm (v := .agg (vals _ _)) rfl (cs := vals _ _) rfl ?_; clear hm; intro g1 w1 hm) | ((with_reducible refine gt_load 26 ?_); (first | (refine st_load rfl 26 _ rfl hm rfl 0 rfl agg26 (by first | omega | assumption | (simp only [lens]; first | omega | assumption) | (simp [lens]; done) | (simp [lens]; omega)) ?_) | (refine st_load rfl 26 _ rfl hm rfl 1 rfl agg26 (by first | omega | assumption | (simp only [lens]; first | omega | assumption) | (simp [lens]; done) | (simp [lens]; omega)) ?_) | (refine st_load rfl 26 _ rfl hm rfl 2 rfl agg26 (by first | omega | assumption | (simp only [lens]; first | omega | assumption) | (simp [lens]; done) | (simp [lens]; omega)) ?_))) | (refine st_lit1 rfl 6 rfl 105 _ rfl hm rfl Try.underlying105 agg26 zero26 (by first | omega | assumption | (simp only [lens]; first | omega | assumption) | (simp [lens]; done) | (simp [lens]; omega))  (by decide) (by decide) ?_; clear hm; intro g6 w6 hm))
      | (go_at_call 62; refine (lockerCode_calls _ [L] _ (lks1 hm (n := 0) rfl hl HW.out) (by simp)).mono ?_; rintro e wa ⟨rfl, hb⟩; replace hm := hm.after hb; clear hb; rw [HK.out])
      | (go_at_call 57; refine (pieces_calls _ _ hl HW.out).mono ?_; rintro e wa ⟨rfl, hb⟩; replace hm := hm.after hb; clear hb)
      | (go_at_call 63; refine (count_calls _ _ hl HB.out).mono ?_; rintro e wa ⟨rfl, hb⟩; replace hm := hm.after hb; clear hb))
    go_ret2
    exact ⟨rfl, hm.done rfl⟩
  | false =>
    have HK := Aside0.mk (show (if [L].all okL = true then (0 : Int) else 1) = 1 by simp [hok])
    clear hok
    go_enter Try.func22, Try.ntmps22
    go_wp2_with (first
      | (first | fail | ((with_reducible refine gt_box 1 26 ?_); refine st_box rfl 1 rfl 26 _ rfl hm (v := .agg (vals _ _)) rfl (cs := vals _ _) rfl ?_; clear hm; intro g1 w1 hm) | ((with_reducible refine gt_load 26 ?_); (first | (refine st_load rfl 26 _ rfl hm rfl 0 rfl agg26 (by first | omega | assumption | (simp only [lens]; first | omega | assumption) | (simp [lens]; done) | (simp [lens]; omega)) ?_) | (refine st_load rfl 26 _ rfl hm rfl 1 rfl agg26 (by first | omega | assumption | (simp only [lens]; first | omega | assumption) | (simp [lens]; done) | (simp [lens]; omega)) ?_) | (refine st_load rfl 26 _ rfl hm rfl 2 rfl agg26 (by first | omega | assumption | (simp only [lens]; first | omega | assumption) | (simp [lens]; done) | (simp [lens]; omega)) ?_))) | (refine st_lit1 rfl 6 rfl 105 _ rfl hm rfl Try.underlying105 agg26 zero26 (by first | omega | assumption | (simp only [lens]; first | omega | assumption) | (simp [lens]; done) | (simp [lens]; omega))  (by decide) (by decide) ?_; clear hm; intro g6 w6 hm))
      | (go_at_call 62; refine (lockerCode_calls _ [L] _ (lks1 hm (n := 0) rfl hl HW.out) (by simp)).mono ?_; rintro e wa ⟨rfl, hb⟩; replace hm := hm.after hb; clear hb; rw [HK.out]))
    go_ret2
    exact ⟨rfl, hm.done rfl⟩

set_option maxHeartbeats 4000000 in
set_option maxRecDepth 100000 in
theorem law_FnExactCountPieces (L : List Int) (hl : L.length = 44) (hw : ∀ z ∈ L, (Lit.int .i16 z).wf = true) (w : World) : Calls Try.prog 5 #[.agg (vals .i16 L)] w fun e w' => e = .returned (.bool true) ∧ Below w.heap.size w w' := by
  have hm := Mem.start w
  have HW := Aside0.mk hw
  clear hw
  obtain ⟨a, b, H⟩ : ∃ a b : Int, Aside0 ((if okL L = true then Value.tuple #[.int .i64 (psum L 44), .int .i64 0] else .tuple #[.int .i64 0, .int .i64 1]) = .tuple #[.int .i64 a, .int .i64 b]) := by
    cases okL L
    · exact ⟨_, _, ⟨rfl⟩⟩
    · exact ⟨_, _, ⟨rfl⟩⟩
  go_enter Try.func5, Try.ntmps5
  go_wp2_with (first
    | (first | fail | ((with_reducible refine gt_box 1 31 ?_); refine st_box rfl 1 rfl 31 _ rfl hm (v := .agg (vals _ _)) rfl (cs := vals _ _) rfl ?_; clear hm; intro g1 w1 hm) | ((with_reducible refine gt_load 31 ?_); (first | (refine st_load rfl 31 _ rfl hm rfl 0 rfl agg31 (by first | omega | assumption | (simp only [lens]; first | omega | assumption) | (simp [lens]; done) | (simp [lens]; omega)) ?_) | (refine st_load rfl 31 _ rfl hm rfl 1 rfl agg31 (by first | omega | assumption | (simp only [lens]; first | omega | assumption) | (simp [lens]; done) | (simp [lens]; omega)) ?_) | (refine st_load rfl 31 _ rfl hm rfl 2 rfl agg31 (by first | omega | assumption | (simp only [lens]; first | omega | assumption) | (simp [lens]; done) | (simp [lens]; omega)) ?_))))
    | (go_at_call 19; refine (toLocker_calls _ _ hl).mono ?_; rintro e wa ⟨rfl, hb⟩; replace hm := hm.after hb; clear hb)
    | (go_at_call 21; refine (specCount_calls _ _ hl HW.out).mono ?_; rintro e wa ⟨rfl, hb⟩; replace hm := hm.after hb; clear hb; rw [H.out])
    | (go_at_call 22; refine (implCount_calls _ _ hl HW.out).mono ?_; rintro e wa ⟨rfl, hb⟩; replace hm := hm.after hb; clear hb; rw [H.out]))
  go_ret
  exact ⟨rfl, hm.done rfl⟩
-- law FnExactCountPieces
end Go.Proofs.Ytmpkgdgbjhegnaa.Arr
