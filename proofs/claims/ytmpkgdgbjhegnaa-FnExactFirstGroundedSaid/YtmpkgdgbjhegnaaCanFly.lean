/- Whether hoists can be flown out of a locker: both parts' answers and the law. No condition beyond the lists' lengths and their numbers' kind. -/
import Derived.Test.YtmpkgdgbjhegnaaHoistFlyLaw
namespace Go.Proofs.Ytmpkgdgbjhegnaa.Arr
open Go.RowKit Go.Proofs.YtmpkgdgbjhegnaaW.PrintWords Go.Proofs.YtmpkgdgbjhegnaaW.PrintLast Go.Proofs.YtmpkgdgbjhegnaaW.PrintMore Go.Proofs.Ytmpkgdgbjhegnaa.U Go.Proofs.Ytmpkgdgbjhegnaa.B
set_option linter.unusedVariables false
set_option linter.unusedSimpArgs false

theorem okL_bb {L : List Int} (h : okL L = true) : ∀ x ∈ L, -1000000 ≤ x ∧ x ≤ 1000000 := fun x hx => by have := okL_in h x hx; omega
/-- The code of a locker and hoists. -/
def flown (L : List Int) (hs : List (List Int)) : Int := if okL L = true then codeH hs else 1
theorem flown_fst (L : List Int) (hs : List (List Int)) : fst2 (if [L].all okL = true then 0 else 1) (codeH hs) = flown L hs := by
  unfold flown fst2
  by_cases h : okL L = true
  · simp [h]
  · simp [h]
theorem flown_zero {L : List Int} {hs : List (List Int)} (h : flown L hs = 0) : okL L = true ∧ codeH hs = 0 := by
  unfold flown at h
  split at h
  · exact ⟨by assumption, h⟩
  · omega
set_option maxHeartbeats 4000000 in
set_option maxRecDepth 100000 in
theorem l04Flown_calls (g : Nat) (L : List Int) (A0 : Option Addr) (c0 : Nat) (hs : List (List Int)) (w : World) (hl : L.length = 44) (hw : Fits .i16 L) (hg : w.heap[g]? = some (.cells (vals .i16 L) 26 (0, 0)))
    (hr : Kd.C hk w A0 hs.length hs) (hc : hs.length ≤ c0) (hh : Any hs) :
    Calls Try.prog 81 #[.pointer (some ⟨g, 0, none⟩), .slice A0 hs.length c0] w fun e w' => e = .returned (.int .i64 (flown L hs)) ∧ Below w.heap.size w w' := by
  have HO := Aside0.mk (l04Ok_calls g L w hl hw hg)
  have HL := Aside0.mk (fun W hr => l04Hoists_calls A0 c0 hs W hr hc hh)
  have HR := Aside0.mk hr
  clear hr hh hw hg
  unfold flown
  generalize okL L = b at *
  generalize codeH hs = c at *
  cases b
  all_goals
    go_enter Try.func81, Try.ntmps81
    go_wp2_with (first
      | (go_at_call 54; refine HO.out.mono ?_; rintro e wa ⟨rfl, hb⟩; have HB := Aside0.mk hb; clear hb)
      | (go_at_call 77; refine (HL.out _ (Kd.C_below HR.out HB.out)).mono ?_; rintro e wa ⟨rfl, hb2⟩; have HB2 := Aside0.mk hb2; clear hb2))
    go_ret
    first
      | exact ⟨rfl, below_then HB.out HB2.out⟩
      | exact ⟨rfl, HB.out⟩
def canRes (L : List Int) (hs : List (List Int)) : Value :=
  if flown L hs = 0 then .tuple #[.bool (covB L (needs (zs 44) hs hs.length)), .int .i64 0] else .tuple #[.bool false, .int .i64 (flown L hs)]
set_option maxHeartbeats 8000000 in
set_option maxRecDepth 100000 in
theorem specCan_calls (L : List Int) (A0 : Option Addr) (c0 : Nat) (hs : List (List Int)) (w : World) (hl : L.length = 44) (hw : Fits .i16 L) (hr : Kd.C hk w A0 hs.length hs) (hc : hs.length ≤ c0) (hh : Any hs) :
    Calls Try.prog 44 #[.agg (vals .i16 L), .slice A0 hs.length c0] w fun e w' => e = .returned (canRes L hs) ∧ Below w.heap.size w w' := by
  have hm := Mem.start w
  have HR := Aside0.mk hr
  have HL := Aside0.mk (fun g W hg hr => l04Flown_calls g L A0 c0 hs W hl hw hg hr hc hh)
  clear hr hh hw
  unfold canRes
  by_cases hk0 : flown L hs = 0
  · rw [if_pos hk0]
    obtain ⟨h1, h6⟩ := codeH_zero (flown_zero hk0).2
    have HN := Aside0.mk (fun W hr => l04Need_calls A0 c0 hs W hr hc h1)
    have hl2 := (needs_length (zs 44) hs hs.length).trans zs_length
    rw [hk0] at HL
    clear h1 hk0
    generalize needs (zs 44) hs hs.length = N at *
    have HO := Aside0.mk (fun W g g' h h' => l04Covers_calls g g' L N W hl hl2 h h')
    generalize covB L N = b at *
    go_enter Try.func44, Try.ntmps44
    go_wp2_with (first
      | (first | fail | ((with_reducible refine gt_box 2 26 ?_); refine st_box rfl 2 rfl 26 _ rfl hm (v := .agg (vals _ _)) rfl (cs := vals _ _) rfl ?_; clear hm; intro g2 w2 hm) | ((with_reducible refine gt_alloc 7 26 ?_); refine st_alloc rfl 7 rfl 26 rfl hm zero26 ?_; clear hm; intro g7 w7 hm) | ((with_reducible refine gt_store 26 ?_); (first | (refine st_full rfl 26 _ _ rfl hm rfl rfl 0 rfl agg26 (by first | omega | assumption | (simp only [lens]; first | omega | assumption) | (simp [lens]; done) | (simp [lens]; omega)) (by first | omega | assumption | (simp only [lens]; first | omega | assumption) | (simp [lens]; done) | (simp [lens]; omega)) ?_) | (refine st_full rfl 26 _ _ rfl hm rfl rfl 1 rfl agg26 (by first | omega | assumption | (simp only [lens]; first | omega | assumption) | (simp [lens]; done) | (simp [lens]; omega)) (by first | omega | assumption | (simp only [lens]; first | omega | assumption) | (simp [lens]; done) | (simp [lens]; omega)) ?_) | (refine st_full rfl 26 _ _ rfl hm rfl rfl 2 rfl agg26 (by first | omega | assumption | (simp only [lens]; first | omega | assumption) | (simp [lens]; done) | (simp [lens]; omega)) (by first | omega | assumption | (simp only [lens]; first | omega | assumption) | (simp [lens]; done) | (simp [lens]; omega)) ?_) | (refine st_full rfl 26 _ _ rfl hm rfl rfl 3 rfl agg26 (by first | omega | assumption | (simp only [lens]; first | omega | assumption) | (simp [lens]; done) | (simp [lens]; omega)) (by first | omega | assumption | (simp only [lens]; first | omega | assumption) | (simp [lens]; done) | (simp [lens]; omega)) ?_)); clear hm; intro ws hm; simp only [List.set_cons_zero, List.set_cons_succ] at hm))
      | (go_at_call 81; refine (HL.out g2 _ (hm.mem (n := 0) rfl) (Kd.C_below HR.out (hm.done rfl))).mono ?_; rintro e wa ⟨rfl, hb⟩; replace hm := hm.after hb; clear hb)
      | (go_at_call 78; refine (HN.out _ (Kd.C_below HR.out (hm.done rfl))).mono ?_; rintro e wa ⟨rfl, hb⟩; replace hm := hm.after hb; clear hb)
      | (go_at_call 64; refine (HO.out _ g2 g7 (hm.mem (n := 1) rfl) (hm.mem (n := 0) rfl)).mono ?_; rintro e wa ⟨rfl, hb⟩; replace hm := hm.after hb; clear hb))
    go_ret2
    exact ⟨rfl, hm.done rfl⟩
  · rw [if_neg hk0]
    generalize flown L hs = c at *
    go_enter Try.func44, Try.ntmps44
    go_wp2_with (first
      | (first | fail | ((with_reducible refine gt_box 2 26 ?_); refine st_box rfl 2 rfl 26 _ rfl hm (v := .agg (vals _ _)) rfl (cs := vals _ _) rfl ?_; clear hm; intro g2 w2 hm) | ((with_reducible refine gt_alloc 7 26 ?_); refine st_alloc rfl 7 rfl 26 rfl hm zero26 ?_; clear hm; intro g7 w7 hm) | ((with_reducible refine gt_store 26 ?_); (first | (refine st_full rfl 26 _ _ rfl hm rfl rfl 0 rfl agg26 (by first | omega | assumption | (simp only [lens]; first | omega | assumption) | (simp [lens]; done) | (simp [lens]; omega)) (by first | omega | assumption | (simp only [lens]; first | omega | assumption) | (simp [lens]; done) | (simp [lens]; omega)) ?_) | (refine st_full rfl 26 _ _ rfl hm rfl rfl 1 rfl agg26 (by first | omega | assumption | (simp only [lens]; first | omega | assumption) | (simp [lens]; done) | (simp [lens]; omega)) (by first | omega | assumption | (simp only [lens]; first | omega | assumption) | (simp [lens]; done) | (simp [lens]; omega)) ?_) | (refine st_full rfl 26 _ _ rfl hm rfl rfl 2 rfl agg26 (by first | omega | assumption | (simp only [lens]; first | omega | assumption) | (simp [lens]; done) | (simp [lens]; omega)) (by first | omega | assumption | (simp only [lens]; first | omega | assumption) | (simp [lens]; done) | (simp [lens]; omega)) ?_) | (refine st_full rfl 26 _ _ rfl hm rfl rfl 3 rfl agg26 (by first | omega | assumption | (simp only [lens]; first | omega | assumption) | (simp [lens]; done) | (simp [lens]; omega)) (by first | omega | assumption | (simp only [lens]; first | omega | assumption) | (simp [lens]; done) | (simp [lens]; omega)) ?_)); clear hm; intro ws hm; simp only [List.set_cons_zero, List.set_cons_succ] at hm))
      | (go_at_call 81; refine (HL.out g2 _ (hm.mem (n := 0) rfl) (Kd.C_below HR.out (hm.done rfl))).mono ?_; rintro e wa ⟨rfl, hb⟩; replace hm := hm.after hb; clear hb))
    go_ret2
    exact ⟨rfl, hm.done rfl⟩
theorem needs_b {hs : List (List Int)} (hh : Hs hs) (n : Nat) (hn : n ≤ hs.length) : ∀ x ∈ needs (zs 44) hs n, -1000000 ≤ x ∧ x ≤ 1000000 := fun x hx => by
  have := needs_in hh n hn x hx
  have := hh.few
  omega
set_option maxHeartbeats 8000000 in
set_option maxRecDepth 100000 in
theorem implCan_calls (L : List Int) (A0 : Option Addr) (c0 : Nat) (hs : List (List Int)) (w : World) (hl : L.length = 44) (hw : Fits .i16 L) (hr : Kd.C hk w A0 hs.length hs) (hc : hs.length ≤ c0) (hh : Any hs) :
    Calls Try.prog 45 #[.agg (vals .i16 L), .slice A0 hs.length c0] w fun e w' => e = .returned (canRes L hs) ∧ Below w.heap.size w w' := by
  have hm := Mem.start w
  have HR := Aside0.mk hr
  have HW := Aside0.mk hw
  have HC := Aside0.mk (fun W hr => hoistsCode_calls A0 c0 hs W hr hc hh)
  have hFS := flown_fst L hs
  have hLC := fun W g h => lockerCode_calls g [L] W h (by simp)
  generalize (if [L].all okL = true then (0 : Int) else 1) = lc at hFS hLC
  have HFS := Aside0.mk hFS
  have HLC := Aside0.mk hLC
  clear hr hh hw hFS hLC
  unfold canRes
  by_cases hk0 : flown L hs = 0
  · rw [if_pos hk0]
    obtain ⟨h1, h6⟩ := codeH_zero (flown_zero hk0).2
    have HN := Aside0.mk (fun W hr => needed_calls A0 c0 hs W hr hc h1)
    have hl2 := (needs_length (zs 44) hs hs.length).trans zs_length
    have HB2 := Aside0.mk (needs_b h1 hs.length (Nat.le_refl _))
    have HOB := Aside0.mk (okL_bb (flown_zero hk0).1)
    rw [hk0] at HFS
    clear h1 hk0
    generalize needs (zs 44) hs hs.length = N at *
    have HO := Aside0.mk (fun W => covers_calls L N W hl hl2 HOB.out HB2.out)
    generalize covB L N = b at *
    generalize codeH hs = cH at *
    go_enter Try.func45, Try.ntmps45
    go_wp2_with (first
      | (first | fail | ((with_reducible refine gt_box 2 26 ?_); refine st_box rfl 2 rfl 26 _ rfl hm (v := .agg (vals _ _)) rfl (cs := vals _ _) rfl ?_; clear hm; intro g2 w2 hm) | ((with_reducible refine gt_load 26 ?_); (first | (refine st_load rfl 26 _ rfl hm rfl 0 rfl agg26 (by first | omega | assumption | (simp only [lens]; first | omega | assumption) | (simp [lens]; done) | (simp [lens]; omega)) ?_) | (refine st_load rfl 26 _ rfl hm rfl 1 rfl agg26 (by first | omega | assumption | (simp only [lens]; first | omega | assumption) | (simp [lens]; done) | (simp [lens]; omega)) ?_) | (refine st_load rfl 26 _ rfl hm rfl 2 rfl agg26 (by first | omega | assumption | (simp only [lens]; first | omega | assumption) | (simp [lens]; done) | (simp [lens]; omega)) ?_))) | (refine st_lit1 rfl 8 rfl 105 _ rfl hm rfl Try.underlying105 agg26 zero26 (by first | omega | assumption | (simp only [lens]; first | omega | assumption) | (simp [lens]; done) | (simp [lens]; omega))  (by decide) (by decide) ?_; clear hm; intro g8 w8 hm))
      | (refine st_ints2 rfl 12 rfl 118 _ _ rfl hm rfl rfl Try.underlying118 one2 zero2 ?_; clear hm; intro g12 w12 hm)
      | (go_at_call 62; refine (HLC.out _ g8 (lks1 hm (n := 0) rfl hl HW.out)).mono ?_; rintro e wa ⟨rfl, hb⟩; replace hm := hm.after hb; clear hb)
      | (go_at_call 79; refine (HC.out _ (Kd.C_below HR.out (hm.done rfl))).mono ?_; rintro e wa ⟨rfl, hb⟩; replace hm := hm.after hb; clear hb)
      | (go_at_call 82; refine (firstOf_calls g12 _ _ _ (hm.mem (n := 0) rfl)).mono ?_; rintro e wa ⟨rfl, hb⟩; replace hm := hm.after hb; clear hb; rw [HFS.out])
      | (go_at_call 57; refine (pieces_calls L _ hl HW.out).mono ?_; rintro e wa ⟨rfl, hb⟩; replace hm := hm.after hb; clear hb)
      | (go_at_call 80; refine (HN.out _ (Kd.C_below HR.out (hm.done rfl))).mono ?_; rintro e wa ⟨rfl, hb⟩; replace hm := hm.after hb; clear hb)
      | (go_at_call 65; refine (HO.out _).mono ?_; rintro e wa ⟨rfl, hb⟩; replace hm := hm.after hb; clear hb))
    go_ret2
    exact ⟨rfl, hm.done rfl⟩
  · rw [if_neg hk0]
    generalize flown L hs = c at *
    generalize codeH hs = cH at *
    go_enter Try.func45, Try.ntmps45
    go_wp2_with (first
      | (first | fail | ((with_reducible refine gt_box 2 26 ?_); refine st_box rfl 2 rfl 26 _ rfl hm (v := .agg (vals _ _)) rfl (cs := vals _ _) rfl ?_; clear hm; intro g2 w2 hm) | ((with_reducible refine gt_load 26 ?_); (first | (refine st_load rfl 26 _ rfl hm rfl 0 rfl agg26 (by first | omega | assumption | (simp only [lens]; first | omega | assumption) | (simp [lens]; done) | (simp [lens]; omega)) ?_) | (refine st_load rfl 26 _ rfl hm rfl 1 rfl agg26 (by first | omega | assumption | (simp only [lens]; first | omega | assumption) | (simp [lens]; done) | (simp [lens]; omega)) ?_) | (refine st_load rfl 26 _ rfl hm rfl 2 rfl agg26 (by first | omega | assumption | (simp only [lens]; first | omega | assumption) | (simp [lens]; done) | (simp [lens]; omega)) ?_))) | (refine st_lit1 rfl 8 rfl 105 _ rfl hm rfl Try.underlying105 agg26 zero26 (by first | omega | assumption | (simp only [lens]; first | omega | assumption) | (simp [lens]; done) | (simp [lens]; omega))  (by decide) (by decide) ?_; clear hm; intro g8 w8 hm))
      | (refine st_ints2 rfl 12 rfl 118 _ _ rfl hm rfl rfl Try.underlying118 one2 zero2 ?_; clear hm; intro g12 w12 hm)
      | (go_at_call 62; refine (HLC.out _ g8 (lks1 hm (n := 0) rfl hl HW.out)).mono ?_; rintro e wa ⟨rfl, hb⟩; replace hm := hm.after hb; clear hb)
      | (go_at_call 79; refine (HC.out _ (Kd.C_below HR.out (hm.done rfl))).mono ?_; rintro e wa ⟨rfl, hb⟩; replace hm := hm.after hb; clear hb)
      | (go_at_call 82; refine (firstOf_calls g12 _ _ _ (hm.mem (n := 0) rfl)).mono ?_; rintro e wa ⟨rfl, hb⟩; replace hm := hm.after hb; clear hb; rw [HFS.out]))
    go_ret2
    exact ⟨rfl, hm.done rfl⟩
theorem canRes_ex (L : List Int) (hs : List (List Int)) : ∃ (z : Bool) (b : Int), Aside0 (canRes L hs = .tuple #[.bool z, .int .i64 b]) := by
  unfold canRes
  by_cases h : flown L hs = 0
  · exact ⟨_, _, ⟨if_pos h⟩⟩
  · exact ⟨_, _, ⟨if_neg h⟩⟩
set_option maxHeartbeats 8000000 in
set_option maxRecDepth 100000 in
theorem law_FnExactCanFly (w : World) (L : List Int) (hl : L.length = 44) (hw : ∀ z ∈ L, (Lit.int .i16 z).wf = true) (A0 : Option Addr) (c0 : Nat) (l : List (List Int)) (hr : Kd.C hk w A0 l.length l) (hc : l.length ≤ c0) (wf : WfL (WfL (WfI .i8)) l) :
    Calls Try.prog 13 #[.agg (vals .i16 L), .slice A0 l.length c0] w fun e w' => e = .returned (.bool true) ∧ Below w.heap.size w w' := by
  have hm := Mem.start w
  have HR := Aside0.mk hr
  obtain ⟨r, hG, h0⟩ := guardS l wf
  have HGU := Aside0.mk hG
  have HGO := Aside0.mk h0
  have HW := Aside0.mk hw
  clear hr wf hG h0 hw
  by_cases hneg : r < 0
  · go_enter Try.func13, Try.ntmps13
    go_wp2_with (first
      | (first | fail | ((with_reducible refine gt_box 2 31 ?_); refine st_box rfl 2 rfl 31 _ rfl hm (v := .agg (vals _ _)) rfl (cs := vals _ _) rfl ?_; clear hm; intro g2 w2 hm) | ((with_reducible refine gt_load 31 ?_); (first | (refine st_load rfl 31 _ rfl hm rfl 0 rfl agg31 (by first | omega | assumption | (simp only [lens]; first | omega | assumption) | (simp [lens]; done) | (simp [lens]; omega)) ?_) | (refine st_load rfl 31 _ rfl hm rfl 1 rfl agg31 (by first | omega | assumption | (simp only [lens]; first | omega | assumption) | (simp [lens]; done) | (simp [lens]; omega)) ?_) | (refine st_load rfl 31 _ rfl hm rfl 2 rfl agg31 (by first | omega | assumption | (simp only [lens]; first | omega | assumption) | (simp [lens]; done) | (simp [lens]; omega)) ?_))))
      | (go_at_call 39; refine (HGU.out A0 c0 _ (Kd.C_below HR.out (hm.done rfl)) hc).mono ?_; rintro e wa ⟨rfl, hb⟩; replace hm := hm.after hb; clear hb))
    go_ret
    exact ⟨rfl, hm.done rfl⟩
  · obtain ⟨hn, hls, hany⟩ := HGO.out (by omega)
    obtain ⟨z, b, H⟩ := canRes_ex L l
    have hS := fun A c W hr hc => specCan_calls L A c l W hl HW.out hr hc hany
    have hG := fun A c W hr hc => implCan_calls L A c l W hl HW.out hr hc hany
    rw [H.out] at hS hG
    have HS := Aside0.mk hS
    have HG := Aside0.mk hG
    have HLS := Aside0.mk hls
    clear hS hG H hany hls HGO HW
    go_enter Try.func13, Try.ntmps13
    go_wp2_with (first
      | (first | fail | ((with_reducible refine gt_box 2 31 ?_); refine st_box rfl 2 rfl 31 _ rfl hm (v := .agg (vals _ _)) rfl (cs := vals _ _) rfl ?_; clear hm; intro g2 w2 hm) | ((with_reducible refine gt_load 31 ?_); (first | (refine st_load rfl 31 _ rfl hm rfl 0 rfl agg31 (by first | omega | assumption | (simp only [lens]; first | omega | assumption) | (simp [lens]; done) | (simp [lens]; omega)) ?_) | (refine st_load rfl 31 _ rfl hm rfl 1 rfl agg31 (by first | omega | assumption | (simp only [lens]; first | omega | assumption) | (simp [lens]; done) | (simp [lens]; omega)) ?_) | (refine st_load rfl 31 _ rfl hm rfl 2 rfl agg31 (by first | omega | assumption | (simp only [lens]; first | omega | assumption) | (simp [lens]; done) | (simp [lens]; omega)) ?_))))
      | (go_at_call 39; refine (HGU.out A0 c0 _ (Kd.C_below HR.out (hm.done rfl)) hc).mono ?_; rintro e wa ⟨rfl, hb⟩; replace hm := hm.after hb; clear hb)
      | (go_at_call 19; refine (toLocker_calls L _ hl).mono ?_; rintro e wa ⟨rfl, hb⟩; replace hm := hm.after hb; clear hb)
      | (go_at_call 41; have ht : Mem _ _ [⟨g2, _, _, _⟩] := hm; clear ht; refine (toHoistS_keeps A0 c0 l _ (Kd.C_below HR.out (hm.done rfl)) hc hn HLS.out).mono ?_; rintro e wa ⟨A1, c1, R1, rfl, hc1, hR1, ho1, hC1, hb⟩; replace hm := hm.grow hb; rw [hR1, List.cons_append, List.nil_append] at hm; have HO1 := Aside0.mk ho1; have HC1 := Aside0.mk hC1; clear hR1 ho1 hC1 hb)
      | (go_at_call 44; refine (HS.out A1 c1 _ (HC1.out _ (hm.held (by simp +contextual))) hc1).mono ?_; rintro e wa ⟨rfl, hb⟩; replace hm := hm.after hb; clear hb)
      | (go_at_call 41; have ht : Mem _ _ (⟨g2, _, _, _⟩ :: R1) := hm; clear ht; refine (toHoistS_keeps A0 c0 l _ (Kd.C_below HR.out (hm.done (by simp [HO1.out]))) hc hn HLS.out).mono ?_; rintro e wa ⟨A2, c2, R2, rfl, hc2, hR2, ho2, hC2, hb⟩; replace hm := hm.grow hb; rw [hR2, List.cons_append] at hm; have HO2 := Aside0.mk ho2; have HC2 := Aside0.mk hC2; clear hR2 ho2 hC2 hb)
      | (go_at_call 45; refine (HG.out A2 c2 _ (HC2.out _ (hm.held (by simp +contextual))) hc2).mono ?_; rintro e wa ⟨rfl, hb⟩; replace hm := hm.after hb; clear hb)
      | (go_at_call 41; have ht : Mem _ _ (⟨g2, _, _, _⟩ :: (R1 ++ R2)) := hm; clear ht; refine (toHoistS_keeps A0 c0 l _ (Kd.C_below HR.out (hm.done (by simp [HO1.out, HO2.out]))) hc hn HLS.out).mono ?_; rintro e wa ⟨A3, c3, R3, rfl, hc3, hR3, ho3, hC3, hb⟩; replace hm := hm.grow hb; rw [hR3, List.cons_append] at hm; have HO3 := Aside0.mk ho3; have HC3 := Aside0.mk hC3; clear hR3 ho3 hC3 hb)
      | (go_at_call 43; refine (eqHoistS_calls A2 A3 c2 c3 l _ (HC2.out _ (hm.held (by simp +contextual))) hc2 (HC3.out _ (hm.held (by simp +contextual))) hc3 hn HLS.out).mono ?_; rintro e wa ⟨rfl, hb⟩; replace hm := hm.after hb; clear hb))
    go_ret
    exact ⟨rfl, hm.done (by simp [HO1.out, HO2.out, HO3.out])⟩
-- law FnExactCanFly
end Go.Proofs.Ytmpkgdgbjhegnaa.Arr
