/- The program's greedy words, walked. No condition. -/
import Derived.Test.YtnpcjighcdmphaaGreedImpl
import Derived.BigQuiet
import Derived.Test.YtnpcjighcdmphaaPGx3
namespace Go.Proofs.Ytnpcjighcdmphaa.Arr
open Go.RowKit Go.Proofs.YtnpcjighcdmphaaW.PrintWords Go.Proofs.YtnpcjighcdmphaaW.PrintLast Go.Proofs.YtnpcjighcdmphaaW.PrintMore Go.Proofs.Ytnpcjighcdmphaa.U Go.Proofs.Ytnpcjighcdmphaa.G
set_option linter.unusedVariables false
set_option linter.unusedSimpArgs false

/-- Between the rounds. -/
structure GB (w : World) (g6 : Nat) (a : Int) (v : Value) (out : List (List Int)) (W : World) : Prop where
  bel : Below w.heap.size w W
  six : W.heap[g6]? = some (.cells #[.int .i64 a] 2 (0, 0))
  own : Kd.S kWd 32 W w.heap.size (fun _ => True) v out
/-- Within a round: a word has been made. -/
structure GW (w : World) (N0 g6 g14 : Nat) (a : Int) (v : Value) (out : List (List Int)) (Ax : Option Addr) (cx : Nat) (x : List Int) (W : World) : Prop where
  bel : Below w.heap.size w W
  six : W.heap[g6]? = some (.cells #[.int .i64 a] 2 (0, 0))
  own : Kd.S kWd 32 W w.heap.size (fun k => k < N0) v out
  new : W.heap[g14]? = some (.cells #[.slice Ax x.length cx] 32 (0, 0))
  word : Kd.R (Kd.int .u8) 5 W w.heap.size (fun k => N0 ≤ k) (.slice Ax x.length cx) x
theorem GB.word {w w1 w2 W3 : World} {g6 : Nat} {a : Int} {v : Value} {out : List (List Int)} {wr : World} (h : GB w g6 a v out wr) {Ax : Option Addr} {cx : Nat} {x : List Int} (hR : Kd.R (Kd.int .u8) 5 w1 wr.heap.size (fun _ => True) (.slice Ax x.length cx) x) (hb : Below wr.heap.size wr w1)
    {g14 : Nat} (h2 : Below w1.heap.size w1 w2) (h14 : w2.heap[g14]? = some (.cells #[.slice none 0 0] 32 (0, 0))) (hge : w1.heap.size ≤ g14) (h3 : W3 = w2.setCell ⟨g14, 0, none⟩ (.slice Ax x.length cx)) : GW w wr.heap.size g6 g14 a v out Ax cx x W3 := by
  subst h3
  have hs1 := hb.size
  have hs0 := h.bel.size
  have hS1 := Kd.S_mono (Kd.S_old h.own hb) (ok' := fun k => k < wr.heap.size) (fun k hk => hk.2)
  have hS2 := Kd.S_below hS1 h2
  have hS3 := Kd.S_far hS2 (p := ⟨g14, 0, none⟩) (fun k hk => show k ≠ g14 by omega) (.slice Ax x.length cx)
  have hR1 := Kd.R_mono (Kd.R_bound hR) (ok' := fun k => wr.heap.size ≤ k ∧ k < w1.heap.size) (fun k hk => ⟨hk.2.1, hk.2.2.1⟩)
  have hR2 := Kd.R_below (Kd.R_lower hR1 hs0) h2
  have hR3 := Kd.R_mono (Kd.R_far hR2 (p := ⟨g14, 0, none⟩) (fun k hk => show k ≠ g14 by omega) (.slice Ax x.length cx)) (ok' := fun k => wr.heap.size ≤ k) (fun k hk => hk.1)
  have hg6 : g6 ≠ g14 := by have := lt_of_some h.six; omega
  exact ⟨(below_then (below_then h.bel hb) h2).setCell (by show w.heap.size ≤ g14; omega) _, far_setG ((h2.block _ (by have := lt_of_some h.six; omega)).trans ((hb.block _ (lt_of_some h.six)).trans h.six)) hg6, hS3, blk_put h14 0 _ rfl, hR3⟩
theorem GW.below {w W W1 : World} {N0 g6 g14 : Nat} {a : Int} {v : Value} {out : List (List Int)} {Ax : Option Addr} {cx : Nat} {x : List Int} (h : GW w N0 g6 g14 a v out Ax cx x W) (hb : Below W.heap.size W W1) : GW w N0 g6 g14 a v out Ax cx x W1 :=
  ⟨below_then h.bel hb, (hb.block _ (lt_of_some h.six)).trans h.six, Kd.S_below h.own hb, (hb.block _ (lt_of_some h.new)).trans h.new, Kd.R_below h.word hb⟩
theorem GW.done {w W : World} {N0 g6 g14 : Nat} {a : Int} {v : Value} {out : List (List Int)} {Ax : Option Addr} {cx : Nat} {x : List Int} (h : GW w N0 g6 g14 a v out Ax cx x W) : GB w g6 a v out W :=
  ⟨h.bel, h.six, Kd.S_mono h.own (fun _ _ => trivial)⟩
theorem litS (W : World) (base : Nat) (hb : base ≤ W.heap.size) : Kd.S kWd 32 (W.alloc (.cells #[] 32)) base (fun _ => True) (.slice (some ⟨W.heap.size, 0, none⟩) 0 0) [] := by
  refine ⟨fun _ => 0, fun k hk => trivial, [], ?_, Reps.none _ _⟩
  have h2 := World.ownsRow_lit (base := base) (e := 32) (size := 1) W #[] 0 hb (by simp [maxLen]) (by simp)
  have h3 : (W.alloc (.cells #[] 32)).ownsRow base 32 1 (.slice (some ⟨W.heap.size, 0, none⟩) 0 0) 0 [] := by simpa using h2
  exact h3
theorem blk_alloc {W : World} {g : Nat} {o o' : Obj} (h : W.heap[g]? = some o) : (W.alloc o').heap[g]? = some o := ((below_alloc (Below.refl W.heap.size W) o').block g (lt_of_some h)).trans h
set_option maxHeartbeats 8000000 in
set_option maxRecDepth 100000 in
theorem implGreedy_calls (b len a most : Int) (w : World) :
    Calls Try.prog 5 #[.int .i64 b, .int .i64 len, .int .i64 a, .int .i64 most] w fun e w' => ∃ v, e = .returned (.tuple #[v, .int .i64 (greedyW b len a most).2]) ∧ Kd.S kWd 32 w' w.heap.size (fun _ => True) v (greedyW b len a most).1 ∧ Below w.heap.size w w' := by
  have hm := Mem.start w
  unfold greedyW
  by_cases hok : (2 ≤ b ∧ b ≤ 37) ∧ (1 ≤ len ∧ len ≤ 8) ∧ (1 ≤ a ∧ a ≤ len) ∧ (0 ≤ most ∧ most ≤ 60)
  · rw [if_pos hok]
    have HAC := Aside0.mk (show apartC b len a = 0 by unfold apartC; rw [if_pos ⟨hok.1, hok.2.1, hok.2.2.1⟩])
    have HWI := Aside0.mk (decide_eq_true hok.2.2.2)
    have HFS := Aside0.mk (show fst2 (apartC b len (rd [a] 0)) (unl true 2) = 0 by rw [show rd [a] 0 = a from rfl, HAC.out]; rfl)
    obtain ⟨n, rfl⟩ := Int.eq_ofNat_of_zero_le (show 0 ≤ len by omega)
    have HN8 := Aside0.mk (show n ≤ 8 by omega)
    have HB2 := Aside0.mk hok.1.1
    have HM0 := Aside0.mk hok.2.2.2
    have HPW := Aside0.mk (power_calls b n (by omega))
    rw [Int.toNat_natCast]
    clear hok
    by_cases hp : pw b n 1 > 5000
    · rw [if_pos hp]
      generalize pw b n 1 = all at *
      go_enter Try.func5, Try.ntmps5
      go_wp2_with (first
      | (first | fail | ((with_reducible refine gt_box 6 2 ?_); refine st_box rfl 6 rfl 2 _ rfl hm (v := .int _ _) rfl (cs := vals _ [_]) rfl ?_; clear hm; intro g6 w6 hm) | ((with_reducible refine gt_load 2 ?_); (first | (refine st_get rfl 2 _ rfl hm rfl 0 rfl one2 (by first | omega | assumption | (simp only [lens]; first | omega | assumption) | (simp [lens]; done) | (simp [lens]; omega)) ?_) | (refine st_get rfl 2 _ rfl hm rfl 1 rfl one2 (by first | omega | assumption | (simp only [lens]; first | omega | assumption) | (simp [lens]; done) | (simp [lens]; omega)) ?_) | (refine st_get rfl 2 _ rfl hm rfl 2 rfl one2 (by first | omega | assumption | (simp only [lens]; first | omega | assumption) | (simp [lens]; done) | (simp [lens]; omega)) ?_) | (refine st_get rfl 2 _ rfl hm rfl 3 rfl one2 (by first | omega | assumption | (simp only [lens]; first | omega | assumption) | (simp [lens]; done) | (simp [lens]; omega)) ?_))))
      | (refine st_ints2 rfl 22 rfl 44 _ _ rfl hm rfl rfl Try.underlying44 one2 zero2 ?_; clear hm; intro g22 w22 hm)
      | (go_at_call 15; refine (apartCode_calls _ _ _ _).mono ?_; rintro e w1 ⟨rfl, h⟩; replace hm := hm.after h; clear h)
      | (go_at_call 17; refine (within_calls _ _ _ _).mono ?_; rintro e w2 ⟨rfl, h⟩; replace hm := hm.after h; clear h; try rw [HWI.out])
      | (go_at_call 16; refine (unless_calls _ _ _).mono ?_; rintro e w3 ⟨rfl, h⟩; replace hm := hm.after h; clear h)
      | (go_at_call 14; refine (firstOf_calls g22 _ _ _ (hm.mem (n := 0) rfl)).mono ?_; rintro e w4 ⟨rfl, h⟩; replace hm := hm.after h; clear h; rw [HFS.out])
      | (go_at_call 18; refine (HPW.out _).mono ?_; rintro e w5 ⟨rfl, h⟩; replace hm := hm.after h; clear h))
      go_ret2
      exact ⟨_, rfl, Kd.S_nil _ _ _ _ _, hm.done rfl⟩
    · rw [if_neg hp]
      generalize hN : (pw b n 1).toNat = N
      have hall : (N : Int) = pw b n 1 ∨ (N = 0 ∧ pw b n 1 ≤ 0) := by omega
      have HNN := Aside0.mk (show N ≤ 5000 ∧ ∀ r : Nat, ((r : Int) < pw b n 1 ↔ r < N) from ⟨by omega, fun r => by omega⟩)
      clear hN hall
      generalize pw b n 1 = all at *
      go_enter Try.func5, Try.ntmps5
      go_wp2_with (first
      | (first | fail | ((with_reducible refine gt_box 6 2 ?_); refine st_box rfl 6 rfl 2 _ rfl hm (v := .int _ _) rfl (cs := vals _ [_]) rfl ?_; clear hm; intro g6 w6 hm) | ((with_reducible refine gt_load 2 ?_); (first | (refine st_get rfl 2 _ rfl hm rfl 0 rfl one2 (by first | omega | assumption | (simp only [lens]; first | omega | assumption) | (simp [lens]; done) | (simp [lens]; omega)) ?_) | (refine st_get rfl 2 _ rfl hm rfl 1 rfl one2 (by first | omega | assumption | (simp only [lens]; first | omega | assumption) | (simp [lens]; done) | (simp [lens]; omega)) ?_) | (refine st_get rfl 2 _ rfl hm rfl 2 rfl one2 (by first | omega | assumption | (simp only [lens]; first | omega | assumption) | (simp [lens]; done) | (simp [lens]; omega)) ?_) | (refine st_get rfl 2 _ rfl hm rfl 3 rfl one2 (by first | omega | assumption | (simp only [lens]; first | omega | assumption) | (simp [lens]; done) | (simp [lens]; omega)) ?_))))
      | (refine st_ints2 rfl 22 rfl 44 _ _ rfl hm rfl rfl Try.underlying44 one2 zero2 ?_; clear hm; intro g22 w22 hm)
      | (go_at_call 15; refine (apartCode_calls _ _ _ _).mono ?_; rintro e w1 ⟨rfl, h⟩; replace hm := hm.after h; clear h)
      | (go_at_call 17; refine (within_calls _ _ _ _).mono ?_; rintro e w2 ⟨rfl, h⟩; replace hm := hm.after h; clear h; try rw [HWI.out])
      | (go_at_call 16; refine (unless_calls _ _ _).mono ?_; rintro e w3 ⟨rfl, h⟩; replace hm := hm.after h; clear h)
      | (go_at_call 14; refine (firstOf_calls g22 _ _ _ (hm.mem (n := 0) rfl)).mono ?_; rintro e w4 ⟨rfl, h⟩; replace hm := hm.after h; clear h; rw [HFS.out])
      | (go_at_call 18; refine (HPW.out _).mono ?_; rintro e w5 ⟨rfl, h⟩; replace hm := hm.after h; clear h))
      have HG0 := Aside0.mk (show Below w.heap.size w w5 ∧ w5.heap[g6]? = some (.cells #[.int .i64 a] 2 (0, 0)) from ⟨hm.done rfl, hm.mem (n := 1) rfl⟩)
      clear hm
      go_loopw [34, 12] (fun v34 v12 wr => ∃ r : Nat, r ≤ N ∧ v34 = .int .i64 r ∧ Aside0 (GB w g6 a v12 (greedyL b n a most r) wr)) (fun v34 _ _ => N - (intOf v34).toNat)
      case atStart => exact ⟨0, by omega, rfl, ⟨below_alloc HG0.out.1 _, (blk_alloc HG0.out.2), litS _ _ HG0.out.1.size⟩⟩
      case round =>
        clear HG0
        obtain ⟨r, hr, rfl, HGB⟩ := hrel
        by_cases hlt : r < N
        · have hltI : (r : Int) < all := (HNN.out.2 r).2 hlt
          have hw1 : wrap64 ((r : Int) + 1) = ((r + 1 : Nat) : Int) := by rw [w64 (by omega) (by omega)]; omega
          have hlL := greedyL_len b n a most r
          have HMEM := Aside0.mk (greedyL_mem b n a most r)
          have HGS := Aside0.mk (show greedyL b n a most (r + 1) = if ((greedyL b n a most r).length : Int) < most ∧ (greedyL b n a most r).any (nearB a (wordR b n r)) = false then greedyL b n a most r ++ [wordR b n r] else greedyL b n a most r from rfl)
          obtain ⟨kw, hkw⟩ := (wordAt_ev b HB2.out n HN8.out r).rounds
          have HWA := Aside0.mk (fun W => impl_wordAt.calls kw b n r _ W hkw)
          have HXL := Aside0.mk (wordR_len b n r)
          have hN5 := HNN.out.1
          clear hkw
          generalize wordR b n r = x at *
          generalize greedyL b n a most r = L at *
          obtain ⟨Ao, co, hv, hco, _⟩ := Kd.S_reads HGB.out.own
          subst hv
          have hL5 : L.length ≤ 5000 := by omega
          have HCO := Aside0.mk hco
          have HL5 := Aside0.mk hL5
          have HRL := Aside0.mk (fun W g14 Ax cx (h : GW w wr.heap.size g6 g14 a (.slice Ao L.length co) L Ax cx x W) => (Kd.S_reads' h.own).2.2)
          have HSZ := Aside0.mk (fun W g14 Ax cx h => sizeW_calls Ao co L W (HRL.out W g14 Ax cx h) hco hL5)
          have HCF := Aside0.mk (fun W g14 Ax cx (h : GW w wr.heap.size g6 g14 a (.slice Ao L.length co) L Ax cx x W) => containsFunc_w 22 near_enters #[.pointer (some ⟨g14, 0, none⟩), .pointer (some ⟨g6, 0, none⟩)] (nearB a x) Ao co L W (HRL.out W g14 Ax cx h) hco
            (fun y hy A' c' W' hW hC hc' => near_calls y x a A' c' Ax cx g14 g6 W' hC hc' (Kd.R_reads' (h.below hW).word).2.2 (Kd.R_reads' (h.below hW).word).2.1 (by rw [HMEM.out y hy, HXL.out]) (by rw [HMEM.out y hy]; exact HN8.out) (h.below hW).new (h.below hW).six))
          clear hlL hco hN5 hL5
          by_cases hm1 : (L.length : Int) < most
          · by_cases hany : L.any (nearB a x) = false
            · have HANY := Aside0.mk hany
              rw [if_pos ⟨hm1, hany⟩] at HGS
              clear hany HMEM
              go_wp2_with (first
            | (go_at_call 19; refine (HWA.out _).mono ?_; rintro e w7 ⟨v7, rfl, hR, hb⟩; obtain ⟨Ax, cx, rfl⟩ := Kd.R_slice hR; have HR7 := Aside0.mk (And.intro hR hb); have hm := Mem.start w7; clear hR hb)
            | ((with_reducible refine gt_alloc 14 32 ?_); refine st_alloc rfl 14 rfl 32 rfl hm zeroWd ?_; clear hm; intro g14 w8 hm; have HA8 := Aside0.mk (show Below w7.heap.size w7 w8 ∧ w8.heap[g14]? = some (.cells #[.slice none 0 0] 32 (0, 0)) ∧ w7.heap.size ≤ g14 from ⟨hm.done rfl, hm.mem (n := 0) rfl, (hm.ent _ (List.mem_of_getElem? (i := 0) rfl)).2 rfl⟩); clear hm)
            | ((with_reducible refine gt_store 32 ?_); refine store_event rfl rfl rfl (y_store1F rfl (g := g14) (i := 0) (v := .slice Ax x.length cx) rfl rfl HA8.out.2.1 rfl oneWd rfl rfl) ?_; intro w9 hw9; have HGW := Aside0.mk (GB.word HGB.out HR7.out.1 HR7.out.2 HA8.out.1 HA8.out.2.1 HA8.out.2.2 hw9); clear hw9)
            | (go_at_call 20; refine (HSZ.out _ _ _ _ HGW.out).mono ?_; rintro e w10 ⟨rfl, h⟩; replace HGW := Aside0.mk (HGW.out.below h); clear h)
            | (go_at_call 21; refine (HCF.out _ _ _ _ HGW.out).mono ?_; rintro e w11 ⟨rfl, h⟩; replace HGW := Aside0.mk (HGW.out.below h); clear h; rw [HANY.out])
            | ((with_reducible refine gt_load 32 ?_); refine Kd.event_run rfl (y_cellG (by rfl) (by rfl) oneWd ((blk_cell HGW.out.new 0).trans rfl)) ?_)
            | ((with_reducible refine gate_builtin (b := .append) (xs := #[.tmp 51, .tmp 53]) rfl ?_); at_builtin; refine Kd.S_append kWd (w0 := w) w.heap.size rfl (.tmp 51) (.tmp 53) 22 32 (.slice none 0 0) 24 rfl Try.underlying22 infoWd rfl (by decide) (by omega) (.slice Ao L.length co) L x [.slice Ax x.length cx] (fun _ => True) (fun k => wr.heap.size ≤ k) rfl rfl ⟨_, rfl, HGW.out.word⟩ (fun k hk => ⟨trivial, fun e => by have := (Kd.S_R HGW.out.own).1 k e.symm; omega⟩) (fun _ _ => trivial) (Kd.S_mono HGW.out.own (fun k hk => ⟨trivial, by omega⟩)) HGW.out.bel HGW.out.bel.size (by have := HL5.out; omega) ?_; intro v12 w12 hs12 hb12 hg12 hat12; have HGE := Aside0.mk (show GB w g6 a v12 (L ++ [x]) w12 from ⟨hb12, (hg12.block _ (lt_of_some HGW.out.six) (Kd.S_ne HGW.out.own HGW.out.six (by decide))).trans HGW.out.six, hs12⟩); clear hs12 hb12 hg12 hat12))
              go_roundw
              case rel => exact ⟨r + 1, by omega, by go_num, ⟨by rw [HGS.out]; exact HGE.out⟩⟩
              case measure => simp [intOf]; omega
            · have HANY := Aside0.mk (show L.any (nearB a x) = true by cases h : L.any (nearB a x) with | true => rfl | false => exact absurd h hany)
              rw [if_neg (fun h => hany h.2)] at HGS
              clear hany HMEM
              go_wp2_with (first
            | (go_at_call 19; refine (HWA.out _).mono ?_; rintro e w7 ⟨v7, rfl, hR, hb⟩; obtain ⟨Ax, cx, rfl⟩ := Kd.R_slice hR; have HR7 := Aside0.mk (And.intro hR hb); have hm := Mem.start w7; clear hR hb)
            | ((with_reducible refine gt_alloc 14 32 ?_); refine st_alloc rfl 14 rfl 32 rfl hm zeroWd ?_; clear hm; intro g14 w8 hm; have HA8 := Aside0.mk (show Below w7.heap.size w7 w8 ∧ w8.heap[g14]? = some (.cells #[.slice none 0 0] 32 (0, 0)) ∧ w7.heap.size ≤ g14 from ⟨hm.done rfl, hm.mem (n := 0) rfl, (hm.ent _ (List.mem_of_getElem? (i := 0) rfl)).2 rfl⟩); clear hm)
            | ((with_reducible refine gt_store 32 ?_); refine store_event rfl rfl rfl (y_store1F rfl (g := g14) (i := 0) (v := .slice Ax x.length cx) rfl rfl HA8.out.2.1 rfl oneWd rfl rfl) ?_; intro w9 hw9; have HGW := Aside0.mk (GB.word HGB.out HR7.out.1 HR7.out.2 HA8.out.1 HA8.out.2.1 HA8.out.2.2 hw9); clear hw9)
            | (go_at_call 20; refine (HSZ.out _ _ _ _ HGW.out).mono ?_; rintro e w10 ⟨rfl, h⟩; replace HGW := Aside0.mk (HGW.out.below h); clear h)
            | (go_at_call 21; refine (HCF.out _ _ _ _ HGW.out).mono ?_; rintro e w11 ⟨rfl, h⟩; replace HGW := Aside0.mk (HGW.out.below h); clear h; rw [HANY.out])
)
              go_roundw
              case rel => exact ⟨r + 1, by omega, by go_num, ⟨by rw [HGS.out]; exact HGW.out.done⟩⟩
              case measure => simp [intOf]; omega
          · rw [if_neg (fun h => hm1 h.1)] at HGS
            clear HMEM
            go_wp2_with (first
            | (go_at_call 19; refine (HWA.out _).mono ?_; rintro e w7 ⟨v7, rfl, hR, hb⟩; obtain ⟨Ax, cx, rfl⟩ := Kd.R_slice hR; have HR7 := Aside0.mk (And.intro hR hb); have hm := Mem.start w7; clear hR hb)
            | ((with_reducible refine gt_alloc 14 32 ?_); refine st_alloc rfl 14 rfl 32 rfl hm zeroWd ?_; clear hm; intro g14 w8 hm; have HA8 := Aside0.mk (show Below w7.heap.size w7 w8 ∧ w8.heap[g14]? = some (.cells #[.slice none 0 0] 32 (0, 0)) ∧ w7.heap.size ≤ g14 from ⟨hm.done rfl, hm.mem (n := 0) rfl, (hm.ent _ (List.mem_of_getElem? (i := 0) rfl)).2 rfl⟩); clear hm)
            | ((with_reducible refine gt_store 32 ?_); refine store_event rfl rfl rfl (y_store1F rfl (g := g14) (i := 0) (v := .slice Ax x.length cx) rfl rfl HA8.out.2.1 rfl oneWd rfl rfl) ?_; intro w9 hw9; have HGW := Aside0.mk (GB.word HGB.out HR7.out.1 HR7.out.2 HA8.out.1 HA8.out.2.1 HA8.out.2.2 hw9); clear hw9)
            | (go_at_call 20; refine (HSZ.out _ _ _ _ HGW.out).mono ?_; rintro e w10 ⟨rfl, h⟩; replace HGW := Aside0.mk (HGW.out.below h); clear h)
            | (go_at_call 21; refine (HCF.out _ _ _ _ HGW.out).mono ?_; rintro e w11 ⟨rfl, h⟩; replace HGW := Aside0.mk (HGW.out.below h); clear h; rw [HANY.out])
)
            go_roundw
            case rel => exact ⟨r + 1, by omega, by go_num, ⟨by rw [HGS.out]; exact HGW.out.done⟩⟩
            case measure => simp [intOf]; omega
        · have HI := Aside0.mk (show r = N by omega)
          have hltI : ¬ (r : Int) < all := fun h => hlt ((HNN.out.2 r).1 h)
          obtain ⟨Ao, co, hv, _, _⟩ := Kd.S_reads HGB.out.own
          subst hv
          go_wp2_with fail
          go_ret2
          exact ⟨_, rfl, by rw [← HI.out]; exact HGB.out.own, HGB.out.bel⟩
  · rw [if_neg hok]
    generalize hz : decide (0 ≤ most ∧ most ≤ 60) = z
    have HWI := Aside0.mk hz
    have HFS := Aside0.mk (show fst2 (apartC b len (rd [a] 0)) (unl z 2) = 2 by
      rw [show rd [a] 0 = a from rfl]
      unfold fst2 apartC
      by_cases h : (2 ≤ b ∧ b ≤ 37) ∧ (1 ≤ len ∧ len ≤ 8) ∧ (1 ≤ a ∧ a ≤ len)
      · rw [if_pos h, if_pos rfl, ← hz, decide_eq_false (fun h2 => hok ⟨h.1, h.2.1, h.2.2, h2⟩)]
        rfl
      · rw [if_neg h, if_neg (by decide)])
    clear hok hz
    go_enter Try.func5, Try.ntmps5
    go_wp2_with (first
      | (first | fail | ((with_reducible refine gt_box 6 2 ?_); refine st_box rfl 6 rfl 2 _ rfl hm (v := .int _ _) rfl (cs := vals _ [_]) rfl ?_; clear hm; intro g6 w6 hm) | ((with_reducible refine gt_load 2 ?_); (first | (refine st_get rfl 2 _ rfl hm rfl 0 rfl one2 (by first | omega | assumption | (simp only [lens]; first | omega | assumption) | (simp [lens]; done) | (simp [lens]; omega)) ?_) | (refine st_get rfl 2 _ rfl hm rfl 1 rfl one2 (by first | omega | assumption | (simp only [lens]; first | omega | assumption) | (simp [lens]; done) | (simp [lens]; omega)) ?_) | (refine st_get rfl 2 _ rfl hm rfl 2 rfl one2 (by first | omega | assumption | (simp only [lens]; first | omega | assumption) | (simp [lens]; done) | (simp [lens]; omega)) ?_) | (refine st_get rfl 2 _ rfl hm rfl 3 rfl one2 (by first | omega | assumption | (simp only [lens]; first | omega | assumption) | (simp [lens]; done) | (simp [lens]; omega)) ?_))))
      | (refine st_ints2 rfl 22 rfl 44 _ _ rfl hm rfl rfl Try.underlying44 one2 zero2 ?_; clear hm; intro g22 w22 hm)
      | (go_at_call 15; refine (apartCode_calls _ _ _ _).mono ?_; rintro e w1 ⟨rfl, h⟩; replace hm := hm.after h; clear h)
      | (go_at_call 17; refine (within_calls _ _ _ _).mono ?_; rintro e w2 ⟨rfl, h⟩; replace hm := hm.after h; clear h; try rw [HWI.out])
      | (go_at_call 16; refine (unless_calls _ _ _).mono ?_; rintro e w3 ⟨rfl, h⟩; replace hm := hm.after h; clear h)
      | (go_at_call 14; refine (firstOf_calls g22 _ _ _ (hm.mem (n := 0) rfl)).mono ?_; rintro e w4 ⟨rfl, h⟩; replace hm := hm.after h; clear h; rw [HFS.out])
      | (go_at_call 18; refine (HPW.out _).mono ?_; rintro e w5 ⟨rfl, h⟩; replace hm := hm.after h; clear h))
    go_ret2
    exact ⟨_, rfl, Kd.S_nil _ _ _ _ _, hm.done rfl⟩
end Go.Proofs.Ytnpcjighcdmphaa.Arr
