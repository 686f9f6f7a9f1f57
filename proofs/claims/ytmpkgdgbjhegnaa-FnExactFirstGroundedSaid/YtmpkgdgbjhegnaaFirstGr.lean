/- The first hoist that cannot be flown: both parts' answers and the law. No condition beyond the lists' lengths and their numbers' kind. -/
import Derived.Test.YtmpkgdgbjhegnaaCanFly
namespace Go.Proofs.Ytmpkgdgbjhegnaa.Arr
open Go.RowKit Go.Proofs.YtmpkgdgbjhegnaaW.PrintWords Go.Proofs.YtmpkgdgbjhegnaaW.PrintLast Go.Proofs.YtmpkgdgbjhegnaaW.PrintMore Go.Proofs.Ytmpkgdgbjhegnaa.U Go.Proofs.Ytmpkgdgbjhegnaa.B
set_option linter.unusedVariables false
set_option linter.unusedSimpArgs false

theorem C_take {α : Type} {d : Kd α} {w : World} {A : Option Addr} {n : Nat} {xs : List α} (h : d.C w A n xs) (m : Nat) (hm : m ≤ n) : d.C w A m (xs.take m) := by
  obtain ⟨h1, h2, h3⟩ := h
  refine ⟨by rw [List.length_take]; omega, by omega, fun h0 => ?_⟩
  obtain ⟨ad, e, hc⟩ := h3 (by omega)
  refine ⟨ad, e, fun j p hj => hc j p ?_⟩
  have hjm := (List.getElem?_eq_some_iff.1 hj).1
  rw [List.length_take] at hjm
  rwa [List.getElem?_take, if_pos (by omega)] at hj
theorem needs_take (L : List Int) (hs : List (List Int)) (m : Nat) : ∀ n, n ≤ m → needs L (hs.take m) n = needs L hs n
  | 0, _ => rfl
  | n + 1, hn => by
    rw [needs, needs, needs_take L hs m n (by omega)]
    have : (hs.take m).getD n [] = hs.getD n [] := by rw [List.getD_eq_getElem?_getD, List.getD_eq_getElem?_getD, List.getElem?_take, if_pos (by omega)]
    rw [this]
theorem Hs.take {hs : List (List Int)} (h : Hs hs) (m : Nat) : Hs (hs.take m) := ⟨by have := h.few; rw [List.length_take]; omega, fun x hx => h.ok x (List.mem_of_mem_take hx)⟩
theorem l04Need_take (A0 : Option Addr) (c0 : Nat) (hs : List (List Int)) (m : Nat) (w : World) (hr : Kd.C hk w A0 hs.length hs) (hc : hs.length ≤ c0) (hh : Hs hs) (hm : m ≤ hs.length) :
    Calls Try.prog 78 #[.slice A0 m c0] w fun e w' => e = .returned (.agg (vals .i16 (needs (zs 44) hs m))) ∧ Below w.heap.size w w' := by
  have hl : (hs.take m).length = m := by rw [List.length_take]; omega
  have := l04Need_calls A0 c0 (hs.take m) w (by rw [hl]; exact C_take hr m hm) (by omega) (hh.take m)
  rwa [hl, needs_take _ _ _ _ (Nat.le_refl _)] at this
theorem needed_take (A0 : Option Addr) (c0 : Nat) (hs : List (List Int)) (m : Nat) (w : World) (hr : Kd.C hk w A0 hs.length hs) (hc : hs.length ≤ c0) (hh : Hs hs) (hm : m ≤ hs.length) :
    Calls Try.prog 80 #[.slice A0 m c0] w fun e w' => e = .returned (.agg (vals .i64 (needs (zs 44) hs m))) ∧ Below w.heap.size w w' := by
  have hl : (hs.take m).length = m := by rw [List.length_take]; omega
  have := needed_calls A0 c0 (hs.take m) w (by rw [hl]; exact C_take hr m hm) (by omega) (hh.take m)
  rwa [hl, needs_take _ _ _ _ (Nat.le_refl _)] at this
/-- Where the first hoist is that cannot be flown, -1 if there is none. -/
def ground (L : List Int) (hs : List (List Int)) : Int := ixa (fun i => !covB L (needs (zs 44) hs (i + 1))) (List.range hs.length)
theorem ground_found {L : List Int} {hs : List (List Int)} (i : Nat) (hi : i < hs.length) (h : ∀ j, j < i → covB L (needs (zs 44) hs (j + 1)) = true) (hp : covB L (needs (zs 44) hs (i + 1)) = false) : ground L hs = i := by
  unfold ground
  refine ixa_found _ _ i i (by simp [hi]) (fun j hj y hy => ?_) (by simp [hp])
  have h2 := (List.getElem?_eq_some_iff.1 hy).1
  rw [List.length_range] at h2
  rw [List.getElem?_range h2] at hy
  cases hy
  simp [h j hj]
theorem ground_none {L : List Int} {hs : List (List Int)} (h : ∀ j, j < hs.length → covB L (needs (zs 44) hs (j + 1)) = true) : ground L hs = -1 := by
  unfold ground
  refine ixa_none _ _ fun j hj y hy => ?_
  rw [List.length_range] at hj
  rw [List.getElem?_range hj] at hy
  cases hy
  simp [h j hj]
def grRes (z : Int) : Value := if 0 ≤ z then .tuple #[.int .i64 z, .int .i64 0] else .tuple #[.int .i64 0, .int .i64 6]
theorem grRes_pos (i : Nat) : grRes (i : Int) = .tuple #[.int .i64 (i : Int), .int .i64 0] := if_pos (by omega)
theorem grRes_neg : grRes (-1) = .tuple #[.int .i64 0, .int .i64 6] := if_neg (by omega)
def firstRes (L : List Int) (hs : List (List Int)) : Value :=
  if flown L hs = 0 then grRes (ground L hs) else .tuple #[.int .i64 0, .int .i64 (flown L hs)]
theorem firstRes_ex (L : List Int) (hs : List (List Int)) : ∃ (z : Int) (b : Int), Aside0 (firstRes L hs = .tuple #[.int .i64 z, .int .i64 b]) := by
  unfold firstRes
  by_cases h : flown L hs = 0
  · by_cases h2 : 0 ≤ ground L hs
    · exact ⟨_, _, ⟨by rw [if_pos h, grRes, if_pos h2]⟩⟩
    · exact ⟨_, _, ⟨by rw [if_pos h, grRes, if_neg h2]⟩⟩
  · exact ⟨_, _, ⟨if_neg h⟩⟩
set_option maxHeartbeats 8000000 in
set_option maxRecDepth 100000 in
theorem specFirst_calls (L : List Int) (A0 : Option Addr) (c0 : Nat) (hs : List (List Int)) (w : World) (hl : L.length = 44) (hw : Fits .i16 L) (hr : Kd.C hk w A0 hs.length hs) (hc : hs.length ≤ c0) (hh : Any hs) :
    Calls Try.prog 46 #[.agg (vals .i16 L), .slice A0 hs.length c0] w fun e w' => e = .returned (firstRes L hs) ∧ Below w.heap.size w w' := by
  have hm := Mem.start w
  have HR := Aside0.mk hr
  have HL := Aside0.mk (fun g W hg hr => l04Flown_calls g L A0 c0 hs W hl hw hg hr hc hh)
  clear hr hh hw
  unfold firstRes
  by_cases hk0 : flown L hs = 0
  · rw [if_pos hk0]
    obtain ⟨h1, h6⟩ := codeH_zero (flown_zero hk0).2
    have HN := Aside0.mk (fun m W hr hm => l04Need_take A0 c0 hs m W hr hc h1 hm)
    rw [hk0] at HL
    clear h1 hk0
    have HG1 := Aside0.mk (@ground_found L hs)
    have HG2 := Aside0.mk (@ground_none L hs)
    generalize ground L hs = gr at *
    go_enter Try.func46, Try.ntmps46
    go_wp2_with (first
      | (first | fail | ((with_reducible refine gt_box 2 26 ?_); refine st_box rfl 2 rfl 26 _ rfl hm (v := .agg (vals _ _)) rfl (cs := vals _ _) rfl ?_; clear hm; intro g2 w2 hm) | ((with_reducible refine gt_alloc 8 26 ?_); refine st_alloc rfl 8 rfl 26 rfl hm zero26 ?_; clear hm; intro g8 w8 hm) | ((with_reducible refine gt_store 26 ?_); (first | (refine st_full rfl 26 _ _ rfl hm rfl rfl 0 rfl agg26 (by first | omega | assumption | (simp only [lens]; first | omega | assumption) | (simp [lens]; done) | (simp [lens]; omega)) (by first | omega | assumption | (simp only [lens]; first | omega | assumption) | (simp [lens]; done) | (simp [lens]; omega)) ?_) | (refine st_full rfl 26 _ _ rfl hm rfl rfl 1 rfl agg26 (by first | omega | assumption | (simp only [lens]; first | omega | assumption) | (simp [lens]; done) | (simp [lens]; omega)) (by first | omega | assumption | (simp only [lens]; first | omega | assumption) | (simp [lens]; done) | (simp [lens]; omega)) ?_) | (refine st_full rfl 26 _ _ rfl hm rfl rfl 2 rfl agg26 (by first | omega | assumption | (simp only [lens]; first | omega | assumption) | (simp [lens]; done) | (simp [lens]; omega)) (by first | omega | assumption | (simp only [lens]; first | omega | assumption) | (simp [lens]; done) | (simp [lens]; omega)) ?_) | (refine st_full rfl 26 _ _ rfl hm rfl rfl 3 rfl agg26 (by first | omega | assumption | (simp only [lens]; first | omega | assumption) | (simp [lens]; done) | (simp [lens]; omega)) (by first | omega | assumption | (simp only [lens]; first | omega | assumption) | (simp [lens]; done) | (simp [lens]; omega)) ?_)); clear hm; intro ws hm; simp only [List.set_cons_zero, List.set_cons_succ] at hm))
      | (go_at_call 81; refine (HL.out g2 _ (hm.mem (n := 0) rfl) (Kd.C_below HR.out (hm.done rfl))).mono ?_; rintro e wa ⟨rfl, hb⟩; replace hm := hm.after hb; clear hb))
    go_loopw [7] (fun v7 wr => ∃ i : Nat, i ≤ hs.length ∧ v7 = .int .i64 i ∧ Aside0 (∀ j, j < i → covB L (needs (zs 44) hs (j + 1)) = true) ∧ Mem w wr [⟨g2, vals .i16 L, 26, true⟩]) (fun v7 _ => hs.length - (intOf v7).toNat)
    case atStart => exact ⟨0, by omega, rfl, ⟨fun j hj => absurd hj (by omega)⟩, hm⟩
    case round =>
      obtain ⟨i, hi, rfl, HJ, hm⟩ := hrel
      by_cases hlt : i < hs.length
      · have hl2 := (needs_length (zs 44) hs (i + 1)).trans zs_length
        have HNi := Aside0.mk (fun W hr => HN.out (i + 1) W hr (by omega))
        have HO := Aside0.mk (fun W g g' h h' => l04Covers_calls g g' L _ W hl hl2 h h')
        generalize hb0 : covB L (needs (zs 44) hs (i + 1)) = b at *
        have HBA := Aside0.mk hb0
        have HBB := Aside0.mk hb0
        clear hb0
        generalize hN : needs (zs 44) hs (i + 1) = N at HNi HO HBB hl2
        clear hN
        have hs1 : (i : Int) + 1 ≤ (c0 : Int) := by omega
        have hs2 : i + 1 ≤ c0 := by omega
        have hs3 : (i : Int) < (c0 : Int) := by omega
        have hs4 : i < c0 := by omega
        cases b
        · go_wp2_with (first
            | (first | fail | ((with_reducible refine gt_box 2 26 ?_); refine st_box rfl 2 rfl 26 _ rfl hm (v := .agg (vals _ _)) rfl (cs := vals _ _) rfl ?_; clear hm; intro g2 w2 hm) | ((with_reducible refine gt_alloc 8 26 ?_); refine st_alloc rfl 8 rfl 26 rfl hm zero26 ?_; clear hm; intro g8 w8 hm) | ((with_reducible refine gt_store 26 ?_); (first | (refine st_full rfl 26 _ _ rfl hm rfl rfl 0 rfl agg26 (by first | omega | assumption | (simp only [lens]; first | omega | assumption) | (simp [lens]; done) | (simp [lens]; omega)) (by first | omega | assumption | (simp only [lens]; first | omega | assumption) | (simp [lens]; done) | (simp [lens]; omega)) ?_) | (refine st_full rfl 26 _ _ rfl hm rfl rfl 1 rfl agg26 (by first | omega | assumption | (simp only [lens]; first | omega | assumption) | (simp [lens]; done) | (simp [lens]; omega)) (by first | omega | assumption | (simp only [lens]; first | omega | assumption) | (simp [lens]; done) | (simp [lens]; omega)) ?_) | (refine st_full rfl 26 _ _ rfl hm rfl rfl 2 rfl agg26 (by first | omega | assumption | (simp only [lens]; first | omega | assumption) | (simp [lens]; done) | (simp [lens]; omega)) (by first | omega | assumption | (simp only [lens]; first | omega | assumption) | (simp [lens]; done) | (simp [lens]; omega)) ?_) | (refine st_full rfl 26 _ _ rfl hm rfl rfl 3 rfl agg26 (by first | omega | assumption | (simp only [lens]; first | omega | assumption) | (simp [lens]; done) | (simp [lens]; omega)) (by first | omega | assumption | (simp only [lens]; first | omega | assumption) | (simp [lens]; done) | (simp [lens]; omega)) ?_)); clear hm; intro ws hm; simp only [List.set_cons_zero, List.set_cons_succ] at hm))
            | (go_at_call 78; refine (HNi.out _ (Kd.C_below HR.out (hm.done rfl))).mono ?_; rintro e wa ⟨rfl, hb⟩; replace hm := hm.after hb; clear hb)
            | (go_at_call 64; refine (HO.out _ g2 g8 (hm.mem (n := 1) rfl) (hm.mem (n := 0) rfl)).mono ?_; rintro e wa ⟨rfl, hb⟩; replace hm := hm.after hb; clear hb))
          go_ret2
          refine ⟨?_, hm.done rfl⟩
          rw [HG1.out i hlt HJ.out HBA.out, grRes_pos]; rfl
        · go_wp2_with (first
            | (first | fail | ((with_reducible refine gt_box 2 26 ?_); refine st_box rfl 2 rfl 26 _ rfl hm (v := .agg (vals _ _)) rfl (cs := vals _ _) rfl ?_; clear hm; intro g2 w2 hm) | ((with_reducible refine gt_alloc 8 26 ?_); refine st_alloc rfl 8 rfl 26 rfl hm zero26 ?_; clear hm; intro g8 w8 hm) | ((with_reducible refine gt_store 26 ?_); (first | (refine st_full rfl 26 _ _ rfl hm rfl rfl 0 rfl agg26 (by first | omega | assumption | (simp only [lens]; first | omega | assumption) | (simp [lens]; done) | (simp [lens]; omega)) (by first | omega | assumption | (simp only [lens]; first | omega | assumption) | (simp [lens]; done) | (simp [lens]; omega)) ?_) | (refine st_full rfl 26 _ _ rfl hm rfl rfl 1 rfl agg26 (by first | omega | assumption | (simp only [lens]; first | omega | assumption) | (simp [lens]; done) | (simp [lens]; omega)) (by first | omega | assumption | (simp only [lens]; first | omega | assumption) | (simp [lens]; done) | (simp [lens]; omega)) ?_) | (refine st_full rfl 26 _ _ rfl hm rfl rfl 2 rfl agg26 (by first | omega | assumption | (simp only [lens]; first | omega | assumption) | (simp [lens]; done) | (simp [lens]; omega)) (by first | omega | assumption | (simp only [lens]; first | omega | assumption) | (simp [lens]; done) | (simp [lens]; omega)) ?_) | (refine st_full rfl 26 _ _ rfl hm rfl rfl 3 rfl agg26 (by first | omega | assumption | (simp only [lens]; first | omega | assumption) | (simp [lens]; done) | (simp [lens]; omega)) (by first | omega | assumption | (simp only [lens]; first | omega | assumption) | (simp [lens]; done) | (simp [lens]; omega)) ?_)); clear hm; intro ws hm; simp only [List.set_cons_zero, List.set_cons_succ] at hm))
            | (go_at_call 78; refine (HNi.out _ (Kd.C_below HR.out (hm.done rfl))).mono ?_; rintro e wa ⟨rfl, hb⟩; replace hm := hm.after hb; clear hb)
            | (go_at_call 64; refine (HO.out _ g2 g8 (hm.mem (n := 1) rfl) (hm.mem (n := 0) rfl)).mono ?_; rintro e wa ⟨rfl, hb⟩; replace hm := hm.after hb; clear hb))
          go_roundw
          case rel => exact ⟨i + 1, by omega, by go_num, ⟨fun j hj => by
            rcases Nat.lt_or_ge j i with h | h
            · exact HJ.out j h
            · obtain rfl : j = i := by omega
              exact HBA.out⟩, hm.rest rfl⟩
          case measure => simp [intOf]; omega
      · have HI := Aside0.mk (show i = hs.length by omega)
        go_wp2_with (first | fail | ((with_reducible refine gt_box 2 26 ?_); refine st_box rfl 2 rfl 26 _ rfl hm (v := .agg (vals _ _)) rfl (cs := vals _ _) rfl ?_; clear hm; intro g2 w2 hm) | ((with_reducible refine gt_alloc 8 26 ?_); refine st_alloc rfl 8 rfl 26 rfl hm zero26 ?_; clear hm; intro g8 w8 hm) | ((with_reducible refine gt_store 26 ?_); (first | (refine st_full rfl 26 _ _ rfl hm rfl rfl 0 rfl agg26 (by first | omega | assumption | (simp only [lens]; first | omega | assumption) | (simp [lens]; done) | (simp [lens]; omega)) (by first | omega | assumption | (simp only [lens]; first | omega | assumption) | (simp [lens]; done) | (simp [lens]; omega)) ?_) | (refine st_full rfl 26 _ _ rfl hm rfl rfl 1 rfl agg26 (by first | omega | assumption | (simp only [lens]; first | omega | assumption) | (simp [lens]; done) | (simp [lens]; omega)) (by first | omega | assumption | (simp only [lens]; first | omega | assumption) | (simp [lens]; done) | (simp [lens]; omega)) ?_) | (refine st_full rfl 26 _ _ rfl hm rfl rfl 2 rfl agg26 (by first | omega | assumption | (simp only [lens]; first | omega | assumption) | (simp [lens]; done) | (simp [lens]; omega)) (by first | omega | assumption | (simp only [lens]; first | omega | assumption) | (simp [lens]; done) | (simp [lens]; omega)) ?_) | (refine st_full rfl 26 _ _ rfl hm rfl rfl 3 rfl agg26 (by first | omega | assumption | (simp only [lens]; first | omega | assumption) | (simp [lens]; done) | (simp [lens]; omega)) (by first | omega | assumption | (simp only [lens]; first | omega | assumption) | (simp [lens]; done) | (simp [lens]; omega)) ?_)); clear hm; intro ws hm; simp only [List.set_cons_zero, List.set_cons_succ] at hm))
        go_ret2
        refine ⟨?_, hm.done rfl⟩
        rw [HG2.out (fun j hj => HJ.out j (by rw [HI.out]; exact hj)), grRes_neg]
        rfl
  · rw [if_neg hk0]
    generalize flown L hs = c at *
    go_enter Try.func46, Try.ntmps46
    go_wp2_with (first
      | (first | fail | ((with_reducible refine gt_box 2 26 ?_); refine st_box rfl 2 rfl 26 _ rfl hm (v := .agg (vals _ _)) rfl (cs := vals _ _) rfl ?_; clear hm; intro g2 w2 hm) | ((with_reducible refine gt_alloc 8 26 ?_); refine st_alloc rfl 8 rfl 26 rfl hm zero26 ?_; clear hm; intro g8 w8 hm) | ((with_reducible refine gt_store 26 ?_); (first | (refine st_full rfl 26 _ _ rfl hm rfl rfl 0 rfl agg26 (by first | omega | assumption | (simp only [lens]; first | omega | assumption) | (simp [lens]; done) | (simp [lens]; omega)) (by first | omega | assumption | (simp only [lens]; first | omega | assumption) | (simp [lens]; done) | (simp [lens]; omega)) ?_) | (refine st_full rfl 26 _ _ rfl hm rfl rfl 1 rfl agg26 (by first | omega | assumption | (simp only [lens]; first | omega | assumption) | (simp [lens]; done) | (simp [lens]; omega)) (by first | omega | assumption | (simp only [lens]; first | omega | assumption) | (simp [lens]; done) | (simp [lens]; omega)) ?_) | (refine st_full rfl 26 _ _ rfl hm rfl rfl 2 rfl agg26 (by first | omega | assumption | (simp only [lens]; first | omega | assumption) | (simp [lens]; done) | (simp [lens]; omega)) (by first | omega | assumption | (simp only [lens]; first | omega | assumption) | (simp [lens]; done) | (simp [lens]; omega)) ?_) | (refine st_full rfl 26 _ _ rfl hm rfl rfl 3 rfl agg26 (by first | omega | assumption | (simp only [lens]; first | omega | assumption) | (simp [lens]; done) | (simp [lens]; omega)) (by first | omega | assumption | (simp only [lens]; first | omega | assumption) | (simp [lens]; done) | (simp [lens]; omega)) ?_)); clear hm; intro ws hm; simp only [List.set_cons_zero, List.set_cons_succ] at hm))
      | (go_at_call 81; refine (HL.out g2 _ (hm.mem (n := 0) rfl) (Kd.C_below HR.out (hm.done rfl))).mono ?_; rintro e wa ⟨rfl, hb⟩; replace hm := hm.after hb; clear hb))
    go_ret2
    exact ⟨rfl, hm.done rfl⟩
set_option maxHeartbeats 8000000 in
set_option maxRecDepth 100000 in
theorem implFirst_calls (L : List Int) (A0 : Option Addr) (c0 : Nat) (hs : List (List Int)) (w : World) (hl : L.length = 44) (hw : Fits .i16 L) (hr : Kd.C hk w A0 hs.length hs) (hc : hs.length ≤ c0) (hh : Any hs) :
    Calls Try.prog 47 #[.agg (vals .i16 L), .slice A0 hs.length c0] w fun e w' => e = .returned (firstRes L hs) ∧ Below w.heap.size w w' := by
  have hm := Mem.start w
  have HR := Aside0.mk hr
  have HW := Aside0.mk hw
  have HC := Aside0.mk (fun W hr => hoistsCode_calls A0 c0 hs W hr hc hh)
  have hFS := flown_fst L hs
  have hLC := fun W g h => lockerCode_calls g [L] W h (by simp)
  generalize (if [L].all okL = true then (0 : Int) else 1) = lc at hFS hLC
  have HFS := Aside0.mk hFS
  have HLC := Aside0.mk hLC
  clear hr hh hw hFS hLC
  unfold firstRes
  by_cases hk0 : flown L hs = 0
  · rw [if_pos hk0]
    obtain ⟨h1, h6⟩ := codeH_zero (flown_zero hk0).2
    have HN := Aside0.mk (fun m W hr hm => needed_take A0 c0 hs m W hr hc h1 hm)
    have HNB := Aside0.mk (fun m hm => needs_b h1 m hm)
    have HOB := Aside0.mk (okL_bb (flown_zero hk0).1)
    rw [hk0] at HFS
    clear h1 hk0
    have HG1 := Aside0.mk (@ground_found L hs)
    have HG2 := Aside0.mk (@ground_none L hs)
    generalize ground L hs = gr at *
    generalize codeH hs = cH at *
    go_enter Try.func47, Try.ntmps47
    go_wp2_with (first
      | (first | fail | ((with_reducible refine gt_box 2 26 ?_); refine st_box rfl 2 rfl 26 _ rfl hm (v := .agg (vals _ _)) rfl (cs := vals _ _) rfl ?_; clear hm; intro g2 w2 hm) | ((with_reducible refine gt_load 26 ?_); (first | (refine st_load rfl 26 _ rfl hm rfl 0 rfl agg26 (by first | omega | assumption | (simp only [lens]; first | omega | assumption) | (simp [lens]; done) | (simp [lens]; omega)) ?_) | (refine st_load rfl 26 _ rfl hm rfl 1 rfl agg26 (by first | omega | assumption | (simp only [lens]; first | omega | assumption) | (simp [lens]; done) | (simp [lens]; omega)) ?_) | (refine st_load rfl 26 _ rfl hm rfl 2 rfl agg26 (by first | omega | assumption | (simp only [lens]; first | omega | assumption) | (simp [lens]; done) | (simp [lens]; omega)) ?_))) | (refine st_lit1 rfl 9 rfl 105 _ rfl hm rfl Try.underlying105 agg26 zero26 (by first | omega | assumption | (simp only [lens]; first | omega | assumption) | (simp [lens]; done) | (simp [lens]; omega))  (by decide) (by decide) ?_; clear hm; intro g9 w9 hm))
      | (refine st_ints2 rfl 13 rfl 118 _ _ rfl hm rfl rfl Try.underlying118 one2 zero2 ?_; clear hm; intro g13 w13 hm)
      | (go_at_call 62; refine (HLC.out _ g9 (lks1 hm (n := 0) rfl hl HW.out)).mono ?_; rintro e wa ⟨rfl, hb⟩; replace hm := hm.after hb; clear hb)
      | (go_at_call 79; refine (HC.out _ (Kd.C_below HR.out (hm.done rfl))).mono ?_; rintro e wa ⟨rfl, hb⟩; replace hm := hm.after hb; clear hb)
      | (go_at_call 82; refine (firstOf_calls g13 _ _ _ (hm.mem (n := 0) rfl)).mono ?_; rintro e wa ⟨rfl, hb⟩; replace hm := hm.after hb; clear hb; rw [HFS.out]))
    replace hm := (hm.rest rfl).rest rfl
    go_loopw [20, 7] (fun v20 v7 wr => ∃ i : Nat, i ≤ hs.length ∧ v20 = .int .i64 i ∧ Aside0 (∀ j, j < i → covB L (needs (zs 44) hs (j + 1)) = true) ∧ Mem w wr [⟨g2, vals .i16 L, 26, true⟩]) (fun v20 _ _ => hs.length - (intOf v20).toNat)
    case atStart => exact ⟨0, by omega, rfl, ⟨fun j hj => absurd hj (by omega)⟩, hm⟩
    case round =>
      obtain ⟨i, hi, rfl, HJ, hm⟩ := hrel
      by_cases hlt : i < hs.length
      · have hl2 := (needs_length (zs 44) hs (i + 1)).trans zs_length
        have HNi := Aside0.mk (fun W hr => HN.out (i + 1) W hr (by omega))
        have HO := Aside0.mk (fun W => covers_calls L _ W hl hl2 HOB.out (HNB.out (i + 1) (by omega)))
        generalize hb0 : covB L (needs (zs 44) hs (i + 1)) = b at *
        have HBA := Aside0.mk hb0
        clear hb0
        generalize hN : needs (zs 44) hs (i + 1) = N at HNi HO hl2
        clear hN
        have hs1 : (i : Int) + 1 ≤ (c0 : Int) := by omega
        have hs2 : i + 1 ≤ c0 := by omega
        have hs3 : (i : Int) < (c0 : Int) := by omega
        have hs4 : i < c0 := by omega
        have hs0 : 0 ≤ (i : Int) + 1 := by omega
        have hs5 : ((i : Int) + 1).toNat = i + 1 := by omega
        have hsw : wrap64 ((i : Int) + 1) = (i : Int) + 1 := w64 (by omega) (by omega)
        cases b
        all_goals
          go_wp2_with (first | fail | ((with_reducible refine gt_box 2 26 ?_); refine st_box rfl 2 rfl 26 _ rfl hm (v := .agg (vals _ _)) rfl (cs := vals _ _) rfl ?_; clear hm; intro g2 w2 hm) | ((with_reducible refine gt_load 26 ?_); (first | (refine st_load rfl 26 _ rfl hm rfl 0 rfl agg26 (by first | omega | assumption | (simp only [lens]; first | omega | assumption) | (simp [lens]; done) | (simp [lens]; omega)) ?_) | (refine st_load rfl 26 _ rfl hm rfl 1 rfl agg26 (by first | omega | assumption | (simp only [lens]; first | omega | assumption) | (simp [lens]; done) | (simp [lens]; omega)) ?_) | (refine st_load rfl 26 _ rfl hm rfl 2 rfl agg26 (by first | omega | assumption | (simp only [lens]; first | omega | assumption) | (simp [lens]; done) | (simp [lens]; omega)) ?_))) | (refine st_lit1 rfl 9 rfl 105 _ rfl hm rfl Try.underlying105 agg26 zero26 (by first | omega | assumption | (simp only [lens]; first | omega | assumption) | (simp [lens]; done) | (simp [lens]; omega))  (by decide) (by decide) ?_; clear hm; intro g9 w9 hm))
          refine start_ (n := 9) (S := fun w' => Mem w w' [⟨g2, vals .i16 L, 26, true⟩]) (ds := []) #[false, false, false, false, false, false, false, false, false] (by kernel_rfl) rfl rfl (hm.drawn _) (fun hHeld => ?_)
          refine pure_ (i := 2) (N := some 25) (v := ?_) (a' := ?_) #[false, false, true, false, false, false, false, false, false] rfl rfl (by kernel_rfl) (fun _ _ _ h => h) (Or.inl ⟨by rfl, ?_⟩) ?_ ?_
          rotate_left
          · intro w'
            go_simp
            with_reducible rfl
          rotate_left
          · simp only [Act.put, List.setIfInBounds_toArray, List.set_cons_zero, List.set_cons_succ, i64_w, i32_w]
            rfl
          refine pure_ (i := 3) (N := some 26) (v := ?_) (a' := ?_) #[false, false, true, true, false, false, false, false, false] rfl rfl (by kernel_rfl) (fun _ _ _ h => h) (Or.inl ⟨by rfl, ?_⟩) ?_ ?_
          rotate_left
          · intro w'
            go_simp
            with_reducible rfl
          rotate_left
          · simp only [Act.put, List.setIfInBounds_toArray, List.set_cons_zero, List.set_cons_succ, i64_w, i32_w]
            rfl
          refine pure_ (i := 4) (N := some 27) (v := ?_) (a' := ?_) #[false, false, true, true, true, false, false, false, false] rfl rfl (by kernel_rfl) (fun _ _ _ h => h) (Or.inl ⟨by rfl, ?_⟩) ?_ ?_
          rotate_left
          · intro w'
            go_simp
            with_reducible rfl
          rotate_left
          · simp only [Act.put, List.setIfInBounds_toArray, List.set_cons_zero, List.set_cons_succ, i64_w, i32_w]
            rfl
          refine pure_ (i := 5) (N := some 28) (v := ?_) (a' := ?_) #[false, false, true, true, true, true, false, false, false] rfl rfl (by kernel_rfl) (fun _ _ _ h => h) (Or.inl ⟨by rfl, ?_⟩) ?_ ?_
          rotate_left
          · intro w'
            go_simp
            with_reducible rfl
          rotate_left
          · simp only [Act.put, List.setIfInBounds_toArray, List.set_cons_zero, List.set_cons_succ, i64_w, i32_w]
            rfl
          refine take_ (i := 0) (N := some 23) (v := .agg (vals .i16 L)) (a' := ?_) #[true, false, true, true, true, true, false, false, false] rfl rfl (by kernel_rfl) (fun _ _ _ h => h) (Or.inl ⟨by rfl, ?_⟩) hHeld ?_ ?_
          · intro w' s0
            exact y_load (by rfl) (by rfl) 0 (by rfl) agg26 (by first | omega | assumption | (simp only [lens]; first | omega | assumption) | (simp [lens]; done) | (simp [lens]; omega)) w' s0
          rotate_left
          · simp only [Act.put, List.setIfInBounds_toArray, List.set_cons_zero, List.set_cons_succ, i64_w, i32_w]
            rfl
          refine one_ (i := 1) (N := some 24) #[true, true, true, true, true, true, false, false, false] rfl rfl (by kernel_rfl) (by decide) (fun K hK => ?_)
          refine goes_ Try.func57 (by kernel_rfl) rfl #[.agg (vals .i16 L)] (by rfl) rfl rfl (by simp only [List.map_toArray, List.map_cons, List.map_nil]; rfl) ?_
          refine (pieces_calls L _ hl HW.out).mono ?_
          rintro e w3 ⟨rfl, hb⟩
          refine ⟨_, rfl, ?_⟩
          refine hK.out _ _ (hHeld.after hb) (fun hHeld => ?_)
          clear hK K
          refine norm_ (a' := ?_) ?_ ?_
          rotate_left
          · show Act.put _ (some 24) _ = _
            simp only [Act.put, List.setIfInBounds_toArray, List.set_cons_zero, List.set_cons_succ, i64_w, i32_w]
            rfl
          refine one_ (i := 6) (N := some 29) #[true, true, true, true, true, true, true, false, false] rfl rfl (by kernel_rfl) (by decide) (fun K hK => ?_)
          refine goes_ Try.func80 (by kernel_rfl) rfl #[.slice A0 (i + 1) c0] (by rfl) rfl rfl (by simp only [List.map_toArray, List.map_cons, List.map_nil]; rfl) ?_
          refine (HNi.out _ (Kd.C_below HR.out (hHeld.done rfl))).mono ?_
          rintro e w3 ⟨rfl, hb⟩
          refine ⟨_, rfl, ?_⟩
          refine hK.out _ _ (hHeld.after hb) (fun hHeld => ?_)
          clear hK K
          refine norm_ (a' := ?_) ?_ ?_
          rotate_left
          · show Act.put _ (some 29) _ = _
            simp only [Act.put, List.setIfInBounds_toArray, List.set_cons_zero, List.set_cons_succ, i64_w, i32_w]
            rfl
          refine one_ (i := 7) (N := some 30) #[true, true, true, true, true, true, true, true, false] rfl rfl (by kernel_rfl) (by decide) (fun K hK => ?_)
          refine goes_ Try.func65 (by kernel_rfl) rfl #[.agg (vals .i64 L), .agg (vals .i64 N)] (by rfl) rfl rfl (by simp only [List.map_toArray, List.map_cons, List.map_nil]; rfl) ?_
          refine (HO.out _).mono ?_
          rintro e w3 ⟨rfl, hb⟩
          refine ⟨_, rfl, ?_⟩
          refine hK.out _ _ (hHeld.after hb) (fun hHeld => ?_)
          clear hK K
          refine norm_ (a' := ?_) ?_ ?_
          rotate_left
          · show Act.put _ (some 30) _ = _
            simp only [Act.put, List.setIfInBounds_toArray, List.set_cons_zero, List.set_cons_succ, i64_w, i32_w]
            rfl
          refine pure_ (i := 8) (N := some 31) (v := ?_) (a' := ?_) #[true, true, true, true, true, true, true, true, true] rfl rfl (by kernel_rfl) (fun _ _ _ h => h) (Or.inl ⟨by rfl, ?_⟩) ?_ ?_
          rotate_left
          · intro w'
            go_simp
            with_reducible rfl
          rotate_left
          · simp only [Act.put, List.setIfInBounds_toArray, List.set_cons_zero, List.set_cons_succ, i64_w, i32_w]
            rfl
          refine done_ (by kernel_rfl) ?_
          go_wp2_with fail
        · go_ret2
          refine ⟨?_, hHeld.done rfl⟩
          rw [HG1.out i hlt HJ.out HBA.out, grRes_pos]; rfl
        · go_roundw
          case rel => exact ⟨i + 1, by omega, by go_num, ⟨fun j hj => by
            rcases Nat.lt_or_ge j i with h | h
            · exact HJ.out j h
            · obtain rfl : j = i := by omega
              exact HBA.out⟩, hHeld⟩
          case measure => simp [intOf]; omega
      · have HI := Aside0.mk (show i = hs.length by omega)
        go_wp2_with (first | fail | ((with_reducible refine gt_box 2 26 ?_); refine st_box rfl 2 rfl 26 _ rfl hm (v := .agg (vals _ _)) rfl (cs := vals _ _) rfl ?_; clear hm; intro g2 w2 hm) | ((with_reducible refine gt_load 26 ?_); (first | (refine st_load rfl 26 _ rfl hm rfl 0 rfl agg26 (by first | omega | assumption | (simp only [lens]; first | omega | assumption) | (simp [lens]; done) | (simp [lens]; omega)) ?_) | (refine st_load rfl 26 _ rfl hm rfl 1 rfl agg26 (by first | omega | assumption | (simp only [lens]; first | omega | assumption) | (simp [lens]; done) | (simp [lens]; omega)) ?_) | (refine st_load rfl 26 _ rfl hm rfl 2 rfl agg26 (by first | omega | assumption | (simp only [lens]; first | omega | assumption) | (simp [lens]; done) | (simp [lens]; omega)) ?_))) | (refine st_lit1 rfl 9 rfl 105 _ rfl hm rfl Try.underlying105 agg26 zero26 (by first | omega | assumption | (simp only [lens]; first | omega | assumption) | (simp [lens]; done) | (simp [lens]; omega))  (by decide) (by decide) ?_; clear hm; intro g9 w9 hm))
        go_ret2
        refine ⟨?_, hm.done rfl⟩
        rw [HG2.out (fun j hj => HJ.out j (by rw [HI.out]; exact hj)), grRes_neg]
        rfl
  · rw [if_neg hk0]
    generalize flown L hs = c at *
    generalize codeH hs = cH at *
    go_enter Try.func47, Try.ntmps47
    go_wp2_with (first
      | (first | fail | ((with_reducible refine gt_box 2 26 ?_); refine st_box rfl 2 rfl 26 _ rfl hm (v := .agg (vals _ _)) rfl (cs := vals _ _) rfl ?_; clear hm; intro g2 w2 hm) | ((with_reducible refine gt_load 26 ?_); (first | (refine st_load rfl 26 _ rfl hm rfl 0 rfl agg26 (by first | omega | assumption | (simp only [lens]; first | omega | assumption) | (simp [lens]; done) | (simp [lens]; omega)) ?_) | (refine st_load rfl 26 _ rfl hm rfl 1 rfl agg26 (by first | omega | assumption | (simp only [lens]; first | omega | assumption) | (simp [lens]; done) | (simp [lens]; omega)) ?_) | (refine st_load rfl 26 _ rfl hm rfl 2 rfl agg26 (by first | omega | assumption | (simp only [lens]; first | omega | assumption) | (simp [lens]; done) | (simp [lens]; omega)) ?_))) | (refine st_lit1 rfl 9 rfl 105 _ rfl hm rfl Try.underlying105 agg26 zero26 (by first | omega | assumption | (simp only [lens]; first | omega | assumption) | (simp [lens]; done) | (simp [lens]; omega))  (by decide) (by decide) ?_; clear hm; intro g9 w9 hm))
      | (refine st_ints2 rfl 13 rfl 118 _ _ rfl hm rfl rfl Try.underlying118 one2 zero2 ?_; clear hm; intro g13 w13 hm)
      | (go_at_call 62; refine (HLC.out _ g9 (lks1 hm (n := 0) rfl hl HW.out)).mono ?_; rintro e wa ⟨rfl, hb⟩; replace hm := hm.after hb; clear hb)
      | (go_at_call 79; refine (HC.out _ (Kd.C_below HR.out (hm.done rfl))).mono ?_; rintro e wa ⟨rfl, hb⟩; replace hm := hm.after hb; clear hb)
      | (go_at_call 82; refine (firstOf_calls g13 _ _ _ (hm.mem (n := 0) rfl)).mono ?_; rintro e wa ⟨rfl, hb⟩; replace hm := hm.after hb; clear hb; rw [HFS.out]))
    go_ret2
    exact ⟨rfl, hm.done rfl⟩
set_option maxHeartbeats 8000000 in
set_option maxRecDepth 100000 in
theorem law_FnExactFirstGrounded (w : World) (L : List Int) (hl : L.length = 44) (hw : ∀ z ∈ L, (Lit.int .i16 z).wf = true) (A0 : Option Addr) (c0 : Nat) (l : List (List Int)) (hr : Kd.C hk w A0 l.length l) (hc : l.length ≤ c0) (wf : WfL (WfL (WfI .i8)) l) :
    Calls Try.prog 14 #[.agg (vals .i16 L), .slice A0 l.length c0] w fun e w' => e = .returned (.bool true) ∧ Below w.heap.size w w' := by
  have hm := Mem.start w
  have HR := Aside0.mk hr
  obtain ⟨r, hG, h0⟩ := guardS l wf
  have HGU := Aside0.mk hG
  have HGO := Aside0.mk h0
  have HW := Aside0.mk hw
  clear hr wf hG h0 hw
  by_cases hneg : r < 0
  · go_enter Try.func14, Try.ntmps14
    go_wp2_with (first
      | (first | fail | ((with_reducible refine gt_box 2 31 ?_); refine st_box rfl 2 rfl 31 _ rfl hm (v := .agg (vals _ _)) rfl (cs := vals _ _) rfl ?_; clear hm; intro g2 w2 hm) | ((with_reducible refine gt_load 31 ?_); (first | (refine st_load rfl 31 _ rfl hm rfl 0 rfl agg31 (by first | omega | assumption | (simp only [lens]; first | omega | assumption) | (simp [lens]; done) | (simp [lens]; omega)) ?_) | (refine st_load rfl 31 _ rfl hm rfl 1 rfl agg31 (by first | omega | assumption | (simp only [lens]; first | omega | assumption) | (simp [lens]; done) | (simp [lens]; omega)) ?_) | (refine st_load rfl 31 _ rfl hm rfl 2 rfl agg31 (by first | omega | assumption | (simp only [lens]; first | omega | assumption) | (simp [lens]; done) | (simp [lens]; omega)) ?_))))
      | (go_at_call 39; refine (HGU.out A0 c0 _ (Kd.C_below HR.out (hm.done rfl)) hc).mono ?_; rintro e wa ⟨rfl, hb⟩; replace hm := hm.after hb; clear hb))
    go_ret
    exact ⟨rfl, hm.done rfl⟩
  · obtain ⟨hn, hls, hany⟩ := HGO.out (by omega)
    obtain ⟨z, b, H⟩ := firstRes_ex L l
    have hS := fun A c W hr hc => specFirst_calls L A c l W hl HW.out hr hc hany
    have hG := fun A c W hr hc => implFirst_calls L A c l W hl HW.out hr hc hany
    rw [H.out] at hS hG
    have HS := Aside0.mk hS
    have HG := Aside0.mk hG
    have HLS := Aside0.mk hls
    clear hS hG H hany hls HGO HW
    go_enter Try.func14, Try.ntmps14
    go_wp2_with (first
      | (first | fail | ((with_reducible refine gt_box 2 31 ?_); refine st_box rfl 2 rfl 31 _ rfl hm (v := .agg (vals _ _)) rfl (cs := vals _ _) rfl ?_; clear hm; intro g2 w2 hm) | ((with_reducible refine gt_load 31 ?_); (first | (refine st_load rfl 31 _ rfl hm rfl 0 rfl agg31 (by first | omega | assumption | (simp only [lens]; first | omega | assumption) | (simp [lens]; done) | (simp [lens]; omega)) ?_) | (refine st_load rfl 31 _ rfl hm rfl 1 rfl agg31 (by first | omega | assumption | (simp only [lens]; first | omega | assumption) | (simp [lens]; done) | (simp [lens]; omega)) ?_) | (refine st_load rfl 31 _ rfl hm rfl 2 rfl agg31 (by first | omega | assumption | (simp only [lens]; first | omega | assumption) | (simp [lens]; done) | (simp [lens]; omega)) ?_))))
      | (go_at_call 39; refine (HGU.out A0 c0 _ (Kd.C_below HR.out (hm.done rfl)) hc).mono ?_; rintro e wa ⟨rfl, hb⟩; replace hm := hm.after hb; clear hb)
      | (go_at_call 19; refine (toLocker_calls L _ hl).mono ?_; rintro e wa ⟨rfl, hb⟩; replace hm := hm.after hb; clear hb)
      | (go_at_call 41; have ht : Mem _ _ [⟨g2, _, _, _⟩] := hm; clear ht; refine (toHoistS_keeps A0 c0 l _ (Kd.C_below HR.out (hm.done rfl)) hc hn HLS.out).mono ?_; rintro e wa ⟨A1, c1, R1, rfl, hc1, hR1, ho1, hC1, hb⟩; replace hm := hm.grow hb; rw [hR1, List.cons_append, List.nil_append] at hm; have HO1 := Aside0.mk ho1; have HC1 := Aside0.mk hC1; clear hR1 ho1 hC1 hb)
      | (go_at_call 46; refine (HS.out A1 c1 _ (HC1.out _ (hm.held (by simp +contextual))) hc1).mono ?_; rintro e wa ⟨rfl, hb⟩; replace hm := hm.after hb; clear hb)
      | (go_at_call 41; have ht : Mem _ _ (⟨g2, _, _, _⟩ :: R1) := hm; clear ht; refine (toHoistS_keeps A0 c0 l _ (Kd.C_below HR.out (hm.done (by simp [HO1.out]))) hc hn HLS.out).mono ?_; rintro e wa ⟨A2, c2, R2, rfl, hc2, hR2, ho2, hC2, hb⟩; replace hm := hm.grow hb; rw [hR2, List.cons_append] at hm; have HO2 := Aside0.mk ho2; have HC2 := Aside0.mk hC2; clear hR2 ho2 hC2 hb)
      | (go_at_call 47; refine (HG.out A2 c2 _ (HC2.out _ (hm.held (by simp +contextual))) hc2).mono ?_; rintro e wa ⟨rfl, hb⟩; replace hm := hm.after hb; clear hb)
      | (go_at_call 41; have ht : Mem _ _ (⟨g2, _, _, _⟩ :: (R1 ++ R2)) := hm; clear ht; refine (toHoistS_keeps A0 c0 l _ (Kd.C_below HR.out (hm.done (by simp [HO1.out, HO2.out]))) hc hn HLS.out).mono ?_; rintro e wa ⟨A3, c3, R3, rfl, hc3, hR3, ho3, hC3, hb⟩; replace hm := hm.grow hb; rw [hR3, List.cons_append] at hm; have HO3 := Aside0.mk ho3; have HC3 := Aside0.mk hC3; clear hR3 ho3 hC3 hb)
      | (go_at_call 43; refine (eqHoistS_calls A2 A3 c2 c3 l _ (HC2.out _ (hm.held (by simp +contextual))) hc2 (HC3.out _ (hm.held (by simp +contextual))) hc3 hn HLS.out).mono ?_; rintro e wa ⟨rfl, hb⟩; replace hm := hm.after hb; clear hb))
    go_ret
    exact ⟨rfl, hm.done (by simp [HO1.out, HO2.out, HO3.out])⟩
-- law FnExactFirstGrounded
end Go.Proofs.Ytmpkgdgbjhegnaa.Arr
