/- Lean functions and walks of this seat's Go functions, written by a program of the session (wip/tools/pp.py over the kit's print.py) out of the translation, with contracts proved by hand. No condition of its own. -/
import Derived.Test.YtpidpljngppmiaaPLx0
import Derived.Test.YtpidpljngppmiaaPLx1
import Derived.Test.YtpidpljngppmiaaPLx2
import Derived.Test.YtpidpljngppmiaaPLx3
namespace Go.Proofs.Ytpidpljngppmiaa.L
open Go.RowKit Go.Proofs.YtpidpljngppmiaaW.PrintWords Go.Proofs.YtpidpljngppmiaaW.PrintLast Go.Proofs.YtpidpljngppmiaaW.PrintMore
attribute [local go_sem] max2_int min2_int max_two min_two max_three min_three max_four min_four   -- for this text's walks alone
set_option linter.unusedVariables false
set_option linter.unusedSimpArgs false

/-! ### impl_Word_93: function 93 -/
-- given slices.Grow[[]loop.example/g01299/impl.Word,loop.example/g01299/impl.Word]
-- kind no
/-- A slice's shape: where it begins, its length, its room. -/
abbrev Shp := Option Addr × Nat × Nat
def kdS : Kd Shp := Kd.scalar (fun x => Value.slice x.1 x.2.1 x.2.2) (fun _ => rfl)
theorem infoG_w : (Try.prog.info? 27).map (fun i => (i.zero, i.size, i.bytes)) = some (some (.slice none 0 0), 1, 24) := by kernel_rfl
set_option maxHeartbeats 4000000 in
set_option maxRecDepth 100000 in
theorem grow_calls (n : Nat) (hn : n ≤ 1000000000000) (w : World) :
    Calls Try.prog 93 #[.slice none 0 0, .int .i64 n] w fun e w' => ∃ v, e = .returned v ∧ Kd.R kdS 27 w' w.heap.size (fun _ => True) v [] ∧ Below w.heap.size w w' := by
  have hw1 : wrap64 (n : Int) = n := by unfold wrap64; omega
  by_cases h0 : n = 0
  · subst h0
    go_enter Try.func93, Try.ntmps93
    go_wp2_with fail
    go_ret
    exact ⟨_, rfl, Kd.R_nil _ _ _ _ _, Below.refl _ _⟩
  · have hp : 0 < (n : Int) := by omega
    go_enter Try.func93, Try.ntmps93
    go_wp2_with (at_builtin; (refine Kd.R_append_zeros kdS (w0 := w) w.heap.size rfl (.tmp 20) (.tmp 21) 39 3 27 (.slice none 0 0) 24 rfl Try.underlying39 Try.underlying3 infoG_w rfl (by decide) (by decide) (.slice none 0 0) [] (none, 0, 0) (n : Int) (fun _ => True) rfl rfl rfl (fun _ _ => trivial) (Kd.R_nil _ _ _ _ _) (by omega) (Below.refl _ _) (Nat.le_refl _) (by simp; omega) ?_); intro v1 w1 ho1 hb1 _ _; obtain ⟨A1, c1, e1⟩ := Kd.R_slice ho1; simp only [List.nil_append, List.length_replicate, Int.toNat_natCast] at e1; subst e1; have HO1 := Aside0.mk (Kd.R_take ho1 (m := 0) (Nat.zero_le _)); have hc1 := (Kd.R_reads' ho1).2.1; have HB1 := Aside0.mk hb1; clear ho1 hb1)
    go_ret
    exact ⟨_, rfl, HO1.out, HB1.out⟩


/-! ### impl_Word_89: function 89 -/
-- given slices.Concat[[]loop.example/g01299/impl.Word,loop.example/g01299/impl.Word]
-- kind no
theorem at_shp {w : World} {A : Option Addr} {n : Nat} {xs : List Shp} (h : Kd.C kdS w A n xs) (i : Nat) (hi : i < n) : ∃ ad, A = some ad ∧ ∃ s, xs[i]? = some s ∧ w.cell? (ad.add i) = some (.slice s.1 s.2.1 s.2.2) := by
  obtain ⟨h1, _, h3⟩ := h
  obtain ⟨ad, e, hc⟩ := h3 (by omega)
  have hx := List.getElem?_eq_getElem (l := xs) (i := i) (by omega)
  obtain ⟨c, _, hk, hcell⟩ := hc i _ hx
  have hk : c = [Value.slice (xs[i]'(by omega)).1 (xs[i]'(by omega)).2.1 (xs[i]'(by omega)).2.2] := hk
  refine ⟨ad, e, _, hx, ?_⟩
  have := hcell 0 _ (by rw [hk]; rfl)
  simpa [kdS, Kd.scalar] using this
set_option maxHeartbeats 4000000 in
set_option maxRecDepth 100000 in
theorem concat_calls (ad : Addr) (A0 A1 : Option Addr) (c0 c1 : Nat) (l0 l1 : List Shp) (w : World) (h : Kd.C kdS w (some ad) 2 [(A0, l0.length, c0), (A1, l1.length, c1)]) (h0 : Kd.C kdS w A0 l0.length l0) (h1 : Kd.C kdS w A1 l1.length l1) (hb : l0.length + l1.length ≤ 1000000000000) :
    Calls Try.prog 89 #[.slice (some ad) 2 2] w fun e w' => ∃ A c, e = .returned (.slice A (l0 ++ l1).length c) ∧ (l0 ++ l1).length ≤ c ∧ Kd.C kdS w' A (l0 ++ l1).length (l0 ++ l1) ∧ Below w.heap.size w w' := by
  have HG := Aside0.mk (fun W => grow_calls (l0.length + l1.length) hb W)
  have H := Aside0.mk h
  have H0 := Aside0.mk h0
  have H1 := Aside0.mk h1
  have hq0 : wrap64 (l0.length : Int) = l0.length := by unfold wrap64; omega
  have hq1 : wrap64 ((l0.length : Int) + (l1.length : Int)) = (l0.length : Int) + (l1.length : Int) := by unfold wrap64; omega
  have hn0 : ¬ ((l0.length : Int) < 0) := by omega
  have hn1 : ¬ ((l0.length : Int) + (l1.length : Int) < 0) := by omega
  have HCAST := Aside0.mk (show (l0.length : Int) + (l1.length : Int) = ((l0.length + l1.length : Nat) : Int) by omega)
  obtain ⟨_, e0, s0, hs0, hcell0⟩ := at_shp h 0 (by omega)
  obtain ⟨_, e1, s1, hs1, hcell1⟩ := at_shp h 1 (by omega)
  cases e0; cases e1; cases hs0; cases hs1
  rw [show ad.add 0 = ad by simp [Addr.add]] at hcell0
  rw [show ad.add 1 = ⟨ad.block, ad.off + 1, none⟩ by simp [Addr.add]] at hcell1
  have HC0 := Aside0.mk hcell0
  have HC1 := Aside0.mk hcell1
  clear h h0 h1
  go_enter Try.func89, Try.ntmps89
  go_wp2_with fail
  go_loopw [11, 3, 5] (fun v11 v3 _ wr => Aside0 (wr = w) ∧ ((v11 = .int .i64 0 ∧ v3 = .int .i64 0) ∨ (v11 = .int .i64 1 ∧ v3 = .int .i64 l0.length) ∨ (v11 = .int .i64 2 ∧ v3 = .int .i64 ((l0.length : Int) + (l1.length : Int))))) (fun v11 _ _ _ => 2 - (intOf v11).toNat)
  case atStart => exact ⟨⟨by simp⟩, .inl ⟨rfl, rfl⟩⟩
  case round =>
    obtain ⟨⟨hww⟩, hcase⟩ := hrel
    have hww := hww.symm
    subst hww
    obtain ⟨rfl, rfl⟩ | ⟨rfl, rfl⟩ | ⟨rfl, rfl⟩ := hcase
    · go_wp2_with fail
      go_roundw
      case rel => exact ⟨⟨by simp⟩, .inr (.inl ⟨rfl, by simp [hq0]⟩)⟩
      case measure => simp [intOf]
    · go_wp2_with fail
      go_roundw
      case rel => exact ⟨⟨by simp⟩, .inr (.inr ⟨rfl, by simp [hq1]⟩)⟩
      case measure => simp [intOf]
    · go_wp2_with (go_at_call 93; rw [HCAST.out]; refine (HG.out _).mono ?_; rintro e w2 ⟨v2, rfl, ho2, hb2⟩; have HO2 := Aside0.mk ho2; have HB2 := Aside0.mk hb2; clear ho2 hb2)
      go_loopw [27, 6, 8] (fun v27 v6 _ wr => ∃ xs : List Shp, Aside0 (Kd.R kdS 27 wr w.heap.size (fun _ => True) v6 xs) ∧ Aside0 (Below w.heap.size w wr) ∧ ((v27 = .int .i64 0 ∧ xs = []) ∨ (v27 = .int .i64 1 ∧ xs = l0) ∨ (v27 = .int .i64 2 ∧ xs = l0 ++ l1))) (fun v27 _ _ _ => 2 - (intOf v27).toNat)
      case atStart => exact ⟨[], HO2, HB2, .inl ⟨rfl, rfl⟩⟩
      case round =>
        have HQ0 := H0
        have HQ1 := H1
        obtain ⟨xs, HO, HB, hcase⟩ := hrel
        have hc0 := HC0.out
        have hc1 := HC1.out
        obtain ⟨A2, m2, rfl⟩ := Kd.R_slice HO.out
        obtain ⟨rfl, rfl⟩ | ⟨rfl, rfl⟩ | ⟨rfl, rfl⟩ := hcase
        · have hcell0 := pw_cell_below HB.out hc0
          go_wp2_with ((with_reducible refine gate_builtin (b := .append) (xs := #[.tmp 31, .tmp 32]) rfl ?_); at_builtin; (refine Kd.R_append_rows kdS (Rr := kdS.K wr) (w0 := w) w.heap.size rfl (.tmp 31) (.tmp 32) 39 27 (.slice none 0 0) 24 rfl Try.underlying39 infoG_w rfl (by decide) (by decide) (.slice A2 ([] : List Shp).length m2) [] l0 A0 l0.length c0 (fun _ => True) (fun _ => False) rfl rfl HO.out (Kd.C_below HQ0.out HB.out) (fun _ _ h => h) (fun _ h => h.elim) (fun _ _ => trivial) HB.out HB.out.size (by first | omega | (simp; omega)) ?_); intro v1 w1 ho1 hb1 _ _; have HO1 := Aside0.mk ho1; have HB1 := Aside0.mk hb1; clear ho1 hb1)
          go_roundw
          case rel => exact ⟨_, HO1, HB1, .inr (.inl ⟨rfl, rfl⟩)⟩
          case measure => simp [intOf]
        · have hcell1 := pw_cell_below HB.out hc1
          go_wp2_with ((with_reducible refine gate_builtin (b := .append) (xs := #[.tmp 31, .tmp 32]) rfl ?_); at_builtin; (refine Kd.R_append_rows kdS (Rr := kdS.K wr) (w0 := w) w.heap.size rfl (.tmp 31) (.tmp 32) 39 27 (.slice none 0 0) 24 rfl Try.underlying39 infoG_w rfl (by decide) (by decide) (.slice A2 xs.length m2) xs l1 A1 l1.length c1 (fun _ => True) (fun _ => False) rfl rfl HO.out (Kd.C_below HQ1.out HB.out) (fun _ _ h => h) (fun _ h => h.elim) (fun _ _ => trivial) HB.out HB.out.size (by first | omega | (simp; omega)) ?_); intro v1 w1 ho1 hb1 _ _; have HO1 := Aside0.mk ho1; have HB1 := Aside0.mk hb1; clear ho1 hb1)
          go_roundw
          case rel => exact ⟨_, HO1, HB1, .inr (.inr ⟨rfl, rfl⟩)⟩
          case measure => simp [intOf]
        · have hr := Kd.R_reads' HO.out
          have HR := Aside0.mk hr.2.2
          have hc2 := hr.2.1
          clear hr
          go_wp2_with fail
          go_ret
          exact ⟨A2, m2, rfl, hc2, HR.out, HB.out⟩


/-! ### impl_wordsCode: function 75 -/
-- given loop.example/g01299/impl.wordsCode
-- kind no
/-- The rows of a list of words, each by its shape. -/
theorem shp_of {w : World} {A : Option Addr} {n : Nat} {l : List (List Int)} (h : Kd.C (Kd.slice 5 (Kd.int .u8)) w A n l) : ∃ ss : List Shp, ss.length = l.length ∧ Kd.C kdS w A n ss ∧ ∀ (j : Nat) (x : List Int), l[j]? = some x → ∃ A1 c1, ss[j]? = some (A1, x.length, c1) ∧ x.length ≤ c1 ∧ Kd.C (Kd.int .u8) w A1 x.length x := by
  obtain ⟨h1, h2, h3⟩ := h
  have key : ∀ j : Nat, ∃ s : Shp, ∀ x, l[j]? = some x → s = (s.1, x.length, s.2.2) ∧ x.length ≤ s.2.2 ∧ Kd.C (Kd.int .u8) w s.1 x.length x ∧ ∀ ad, A = some ad → w.cell? (ad.add j) = some (.slice s.1 x.length s.2.2) := by
    intro j
    cases hx : l[j]? with
    | none => exact ⟨(none, 0, 0), fun x hx => by cases hx⟩
    | some x =>
      have hj := (List.getElem?_eq_some_iff.1 hx).1
      obtain ⟨ad, e, hc⟩ := h3 (by omega)
      obtain ⟨c, _, ⟨A1, c1, rfl, hle, hC⟩, hcell⟩ := hc j x hx
      refine ⟨(A1, x.length, c1), fun y hy => ?_⟩
      cases hy
      refine ⟨rfl, hle, hC, fun ad' e' => ?_⟩
      rw [e] at e'
      cases e'
      have := hcell 0 _ rfl
      simpa [Kd.slice] using this
  have hch : ∃ f : Nat → Shp, ∀ j x, l[j]? = some x → f j = ((f j).1, x.length, (f j).2.2) ∧ x.length ≤ (f j).2.2 ∧ Kd.C (Kd.int .u8) w (f j).1 x.length x ∧ ∀ ad, A = some ad → w.cell? (ad.add j) = some (.slice (f j).1 x.length (f j).2.2) := ⟨fun j => Classical.choose (key j), fun j => Classical.choose_spec (key j)⟩
  obtain ⟨f, hf⟩ := hch
  refine ⟨(List.range l.length).map f, by simp, ⟨by simp; exact h1, h2, fun hn => ?_⟩, fun j x hx => ?_⟩
  · obtain ⟨ad, e, _⟩ := h3 hn
    refine ⟨ad, e, fun j s hs => ⟨[.slice s.1 s.2.1 s.2.2], rfl, rfl, fun i u hu => ?_⟩⟩
    have hj := (List.getElem?_eq_some_iff.1 hs).1
    rw [List.length_map, List.length_range] at hj
    have hx := List.getElem?_eq_getElem hj
    obtain ⟨e1, _, _, h4⟩ := hf j _ hx
    rw [List.getElem?_map, List.getElem?_range hj] at hs
    cases hs
    rcases i with _ | i
    · cases hu
      have := h4 ad e
      rw [e1]
      simpa [kdS, Kd.scalar] using this
    · simp at hu
  · have hj := (List.getElem?_eq_some_iff.1 hx).1
    obtain ⟨e1, h2, h3, _⟩ := hf j x hx
    refine ⟨(f j).1, (f j).2.2, ?_, h2, h3⟩
    rw [List.getElem?_map, List.getElem?_range hj, ← e1]
    rfl
theorem of_shp {w : World} {A : Option Addr} {n : Nat} {l : List (List Int)} {ss : List Shp} (h : Kd.C kdS w A n ss) (hl : l.length = n) (hr : ∀ (j : Nat) (x : List Int), l[j]? = some x → ∃ A1 c1, ss[j]? = some (A1, x.length, c1) ∧ x.length ≤ c1 ∧ Kd.C (Kd.int .u8) w A1 x.length x) : Kd.C (Kd.slice 5 (Kd.int .u8)) w A n l := by
  obtain ⟨h1, h2, h3⟩ := h
  refine ⟨hl, h2, fun hn => ?_⟩
  obtain ⟨ad, e, hc⟩ := h3 hn
  refine ⟨ad, e, fun j x hx => ?_⟩
  obtain ⟨A1, c1, hs, hle, hC⟩ := hr j x hx
  obtain ⟨c, _, hk, hcell⟩ := hc j _ hs
  have hk : c = [Value.slice A1 x.length c1] := hk
  exact ⟨c, by rw [hk]; rfl, ⟨A1, c1, hk, hle, hC⟩, hcell⟩
theorem box_cell (w : World) (cs : Array Value) (t : TypeId) (i : Nat) : (w.alloc (.cells cs t)).cell? ⟨w.heap.size, i, none⟩ = cs[i]? := by
  have h := heap_alloc_new w (.cells cs t)
  unfold World.cell?
  rw [h]
  rfl
theorem box_shp (w : World) (l : List Shp) (t : TypeId) (hl : l.length ≤ 1000) : Kd.C kdS (w.alloc (.cells (l.map fun x => Value.slice x.1 x.2.1 x.2.2).toArray t)) (some ⟨w.heap.size, 0, none⟩) l.length l := by
  refine ⟨rfl, by omega, fun hn => ⟨_, rfl, fun j s hs => ⟨[.slice s.1 s.2.1 s.2.2], rfl, rfl, fun i u hu => ?_⟩⟩⟩
  rcases i with _ | i
  · cases hu
    have e : (⟨w.heap.size, 0, none⟩ : Addr).add (j * 1 + 0) = ⟨w.heap.size, j, none⟩ := by
      unfold Addr.add
      split
      · rename_i h; have : j = 0 := by omega
        subst this; rfl
      · simp
    show World.cell? _ ((⟨w.heap.size, 0, none⟩ : Addr).add (j * 1 + 0)) = _
    rw [e, box_cell, List.getElem?_toArray, List.getElem?_map, hs]
    rfl
  · simp at hu
def codeW (l0 l1 : List (List Int)) : Int := if areW (l0 ++ l1) 37 = true then (if (l0.length : Int) ≤ 60 then 0 else 3) else 1
theorem codeW_ex (l0 l1 : List (List Int)) : Aside0 (codeW l0 l1 = if areW (l0 ++ l1) 37 = true then (if (l0.length : Int) ≤ 60 then 0 else 3) else 1) := ⟨rfl⟩
set_option maxHeartbeats 4000000 in
set_option maxRecDepth 100000 in
theorem wordsCode_calls (A0 : Option Addr) (c0 : Nat) (l0 : List (List Int)) (A1 : Option Addr) (c1 : Nat) (l1 : List (List Int)) (w : World) (hr0 : Kd.C (Kd.slice 5 (Kd.int .u8)) w A0 l0.length l0) (hc0 : l0.length ≤ c0) (hr1 : Kd.C (Kd.slice 5 (Kd.int .u8)) w A1 l1.length l1) (hc1 : l1.length ≤ c1) (hb : l0.length + l1.length ≤ 1000000000) :
    Calls Try.prog 75 #[.slice A0 l0.length c0, .slice A1 l1.length c1] w fun e w' => e = .returned (.int .i64 (codeW l0 l1)) ∧ Below w.heap.size w w' := by
  obtain ⟨s0, hs0, hC0, hx0⟩ := shp_of hr0
  obtain ⟨s1, hs1, hC1, hx1⟩ := shp_of hr1
  have HCAT : Aside0 (∀ (ad : Addr) (W : World), Below w.heap.size w W → Kd.C kdS W (some ad) 2 [(A0, l0.length, c0), (A1, l1.length, c1)] → Calls Try.prog 89 #[.slice (some ad) 2 2] W fun e w' => ∃ A c, e = .returned (.slice A (l0 ++ l1).length c) ∧ (l0 ++ l1).length ≤ c ∧ Kd.C (Kd.slice 5 (Kd.int .u8)) w' A (l0 ++ l1).length (l0 ++ l1) ∧ Below W.heap.size W w') := ⟨fun ad W hW hbx => by
    refine (concat_calls ad A0 A1 c0 c1 s0 s1 W (by rw [hs0, hs1]; exact hbx) (by rw [hs0]; exact Kd.C_below hC0 hW) (by rw [hs1]; exact Kd.C_below hC1 hW) (by omega)).mono ?_
    rintro e w' ⟨A, c, rfl, hc, hC, hB⟩
    have hlen : (s0 ++ s1).length = (l0 ++ l1).length := by rw [List.length_append, List.length_append, hs0, hs1]
    rw [hlen] at hc hC
    refine ⟨A, c, by rw [hlen], hc, of_shp hC rfl (fun j x hx => ?_), hB⟩
    rcases Nat.lt_or_ge j l0.length with hj | hj
    · rw [List.getElem?_append_left hj] at hx
      obtain ⟨A2, c2, h1, h2, h3⟩ := hx0 j x hx
      exact ⟨A2, c2, by rw [List.getElem?_append_left (by omega)]; exact h1, h2, Kd.C_below (Kd.C_below h3 hW) hB⟩
    · rw [List.getElem?_append_right hj] at hx
      obtain ⟨A2, c2, h1, h2, h3⟩ := hx1 _ x hx
      exact ⟨A2, c2, by rw [List.getElem?_append_right (by omega), hs0]; exact h1, h2, Kd.C_below (Kd.C_below h3 hW) hB⟩⟩
  have HAW : Aside0 (∀ (A : Option Addr) (c : Nat) (W : World), Kd.C (Kd.slice 5 (Kd.int .u8)) W A (l0 ++ l1).length (l0 ++ l1) → (l0 ++ l1).length ≤ c → Calls Try.prog 88 #[.slice A (l0 ++ l1).length c, .int .i64 37] W fun e w' => e = .returned (.bool (areW (l0 ++ l1) 37)) ∧ Below W.heap.size W w') := ⟨fun A c W h hc => areWords_calls A c _ 37 W h hc⟩
  have HCW := codeW_ex l0 l1
  clear hr0 hr1 hC0 hC1 hx0 hx1 hs0 hs1
  generalize codeW l0 l1 = r at *
  generalize areW (l0 ++ l1) 37 = b at *
  generalize hll : l0 ++ l1 = ll at *
  clear hll
  cases b
  · go_enter Try.func75, Try.ntmps75
    go_wp2_with (first
      | (go_at_call 89; refine (HCAT.out _ _ ?hB ?hC).mono ?_; (case hB => exact below_alloc (Below.refl _ _) _); (case hC => exact box_shp w [(A0, l0.length, c0), (A1, l1.length, c1)] _ (by simp)); rintro e w1 ⟨A2, m2, rfl, hm2, hC2, hb1⟩; have HC2 := Aside0.mk hC2; have HM2 := Aside0.mk hm2; have HB1 := Aside0.mk (below_then (below_alloc (Below.refl w.heap.size w) _) (by simp) hb1); clear hC2 hb1 hm2)
      | (go_at_call 88; refine (HAW.out A2 m2 _ HC2.out HM2.out).mono ?_; rintro e w2 ⟨rfl, hb2⟩; have HB2 := Aside0.mk (below_then HB1.out HB1.out.size hb2); clear hb2)
      | (go_at_call 80; refine (impl_unless.calls _ _ _ _ rfl).mono ?_; rintro e w3 ⟨rfl, hd3⟩; have HB3 := Aside0.mk hd3.below; clear hd3))
    go_ret
    exact ⟨by rw [HCW.out]; rfl, HB2.out⟩
  · by_cases h6 : (l0.length : Int) ≤ 60
    · have hd6 := decide_eq_true h6
      have HD6 := Aside0.mk h6
      go_enter Try.func75, Try.ntmps75
      go_wp2_with (first
      | (go_at_call 89; refine (HCAT.out _ _ ?hB ?hC).mono ?_; (case hB => exact below_alloc (Below.refl _ _) _); (case hC => exact box_shp w [(A0, l0.length, c0), (A1, l1.length, c1)] _ (by simp)); rintro e w1 ⟨A2, m2, rfl, hm2, hC2, hb1⟩; have HC2 := Aside0.mk hC2; have HM2 := Aside0.mk hm2; have HB1 := Aside0.mk (below_then (below_alloc (Below.refl w.heap.size w) _) (by simp) hb1); clear hC2 hb1 hm2)
      | (go_at_call 88; refine (HAW.out A2 m2 _ HC2.out HM2.out).mono ?_; rintro e w2 ⟨rfl, hb2⟩; have HB2 := Aside0.mk (below_then HB1.out HB1.out.size hb2); clear hb2)
      | (go_at_call 80; refine (impl_unless.calls _ _ _ _ rfl).mono ?_; rintro e w3 ⟨rfl, hd3⟩; have HB3 := Aside0.mk hd3.below; clear hd3))
      go_ret
      exact ⟨congrArg (fun z : Int => Ending.returned (Value.int .i64 z)) (show (0 : Int) = r by rw [HCW.out]; have h6 := HD6.out; simp only [if_true]; split <;> omega), below_then HB2.out HB2.out.size HB3.out⟩
    · have hd6 := decide_eq_false h6
      have HD6 := Aside0.mk h6
      go_enter Try.func75, Try.ntmps75
      go_wp2_with (first
      | (go_at_call 89; refine (HCAT.out _ _ ?hB ?hC).mono ?_; (case hB => exact below_alloc (Below.refl _ _) _); (case hC => exact box_shp w [(A0, l0.length, c0), (A1, l1.length, c1)] _ (by simp)); rintro e w1 ⟨A2, m2, rfl, hm2, hC2, hb1⟩; have HC2 := Aside0.mk hC2; have HM2 := Aside0.mk hm2; have HB1 := Aside0.mk (below_then (below_alloc (Below.refl w.heap.size w) _) (by simp) hb1); clear hC2 hb1 hm2)
      | (go_at_call 88; refine (HAW.out A2 m2 _ HC2.out HM2.out).mono ?_; rintro e w2 ⟨rfl, hb2⟩; have HB2 := Aside0.mk (below_then HB1.out HB1.out.size hb2); clear hb2)
      | (go_at_call 80; refine (impl_unless.calls _ _ _ _ rfl).mono ?_; rintro e w3 ⟨rfl, hd3⟩; have HB3 := Aside0.mk hd3.below; clear hd3))
      go_ret
      exact ⟨congrArg (fun z : Int => Ending.returned (Value.int .i64 z)) (show (3 : Int) = r by rw [HCW.out]; have h6 := HD6.out; simp only [if_true]; split <;> omega), below_then HB2.out HB2.out.size HB3.out⟩


-- NOT PRINTED: function 76 (impl_nearest)

/-! ### impl_LeastApart: function 41 -/
-- given loop.example/g01299/impl.LeastApart
-- rounds no
-- making yes
/-- In how many letters two words differ. -/
def apD (l l' : List Int) : Nat → Int
  | 0 => 0
  | i + 1 => apD l l' i + if rd l (i : Int) = rd l' (i : Int) then 0 else 1
theorem apD_le (l l' : List Int) : ∀ i : Nat, 0 ≤ apD l l' i ∧ apD l l' i ≤ i
  | 0 => ⟨Int.le_refl _, Int.le_refl _⟩
  | i + 1 => by
    have := apD_le l l' i
    unfold apD
    split <;> omega
theorem unlike_l0 (l l' : List Int) (hl : l.length = l'.length) (hn : l.length ≤ 1000000) : ∀ (d i : Nat), i + d = l.length → ∃ k, impl_unlike.l0 k l' (apD l l' i) l (l.length : Int) (i : Int) = some (apD l l' l.length) := by
  intro d
  induction d with
  | zero =>
    intro i hi
    obtain rfl : i = l.length := by omega
    refine ⟨1, ?_⟩
    simp only [impl_unlike.l0]
    rw [if_neg (by omega)]
  | succ d ih =>
    intro i hi
    obtain ⟨k, hk⟩ := ih (i + 1) (by omega)
    have h0 := apD_le l l' i
    refine ⟨k + 1, ?_⟩
    simp only [impl_unlike.l0]
    rw [if_pos (by omega), if_pos (by omega), if_pos (by omega), if_pos (by omega), show wrap64 ((i : Int) + 1) = ((i + 1 : Nat) : Int) by unfold wrap64; omega]
    rw [apD] at hk
    by_cases he : rd l (i : Int) = rd l' (i : Int)
    · rw [if_pos he.symm]
      rw [if_pos he, Int.add_zero] at hk
      exact hk
    · rw [if_neg (fun e => he e.symm), show wrap64 (apD l l' i + 1) = apD l l' i + 1 by unfold wrap64; omega]
      rw [if_neg he] at hk
      exact hk
theorem unlike_calls (A0 : Option Addr) (c0 : Nat) (l0 : List Int) (A1 : Option Addr) (c1 : Nat) (l1 : List Int) (w : World) (hr0 : Kd.C (Kd.int .u8) w A0 l0.length l0) (hc0 : l0.length ≤ c0) (hr1 : Kd.C (Kd.int .u8) w A1 l1.length l1) (hc1 : l1.length ≤ c1) (hl : l0.length = l1.length) (hn : l0.length ≤ 1000000) :
    Calls Try.prog 56 #[.slice A0 l0.length c0, .slice A1 l1.length c1] w fun e w' => e = .returned (.int .i64 (apD l0 l1 l0.length)) ∧ Drawn0 w w' := by
  obtain ⟨k, hk⟩ := unlike_l0 l0 l1 hl hn l0.length 0 (by omega)
  refine (impl_unlike.calls k A0 c0 l0 A1 c1 l1 _ w hr0 hc0 hr1 hc1 (by unfold impl_unlike.f; exact hk)).mono ?_
  rintro e w' ⟨rfl, hd⟩
  exact ⟨rfl, hd⟩
/-- Words of one length, not too long. -/
def Even8 (l : List (List Int)) : Prop := l.length ≤ 60 ∧ ∀ x ∈ l, x.length ≤ 8 ∧ x.length = (rd_L1 l 0).length
theorem areW_even {l : List (List Int)} {n : Int} (h : areW l n = true) : ∀ x ∈ l, x.length ≤ 8 ∧ x.length = (rd_L1 l 0).length := by
  intro x hx
  unfold areW at h
  have h1 : l.any (badW l n) = false := by simpa using h
  rw [List.any_eq_false] at h1
  have h2 := h1 x hx
  unfold badW at h2
  have h3 : isWB x n = true ∧ (x.length : Int) = ((rd_L1 l 0).length : Int) := by simpa using h2
  refine ⟨?_, by omega⟩
  have h4 := h3.1
  unfold isWB at h4
  split at h4
  · split at h4
    · omega
    · cases h4
  · cases h4
/-- The distance of two words of a list. -/
def dW (l : List (List Int)) (i k : Nat) : Int := apD (rd_L1 l (i : Int)) (rd_L1 l (k : Int)) (rd_L1 l (i : Int)).length
theorem dW_b {l : List (List Int)} (h : Even8 l) (i k : Nat) (hi : i < l.length) : 0 ≤ dW l i k ∧ dW l i k ≤ 8 := by
  have h1 := h.2 _ (by rw [rdW_get l i hi]; exact List.getElem_mem hi : rd_L1 l (i : Int) ∈ l)
  have := apD_le (rd_L1 l (i : Int)) (rd_L1 l (k : Int)) (rd_L1 l (i : Int)).length
  unfold dW
  omega
/-- The least distance so far: all pairs whose first place is less than i, and those of i whose second place is less than k; -1 if there are none. -/
def lessI (a n : Int) : Int := if a < 0 ∨ n < a then n else a
def rowM (l : List (List Int)) (i : Nat) : Nat → Int → Int
  | 0, a => a
  | d + 1, a => lessI (rowM l i d a) (dW l i (i + 1 + d))
def allM (l : List (List Int)) : Nat → Int
  | 0 => -1
  | i + 1 => rowM l i (l.length - (i + 1)) (allM l i)
theorem rowM_b {l : List (List Int)} (h : Even8 l) (i : Nat) (hi : i < l.length) : ∀ (d : Nat) (a : Int), -1 ≤ a → a ≤ 8 → -1 ≤ rowM l i d a ∧ rowM l i d a ≤ 8
  | 0, a, h0, h1 => ⟨h0, h1⟩
  | d + 1, a, h0, h1 => by
    have h2 := rowM_b h i hi d a h0 h1
    have h3 := dW_b h i (i + 1 + d) hi
    unfold rowM lessI
    split <;> omega
theorem allM_b {l : List (List Int)} (h : Even8 l) : ∀ i : Nat, i ≤ l.length → -1 ≤ allM l i ∧ allM l i ≤ 8
  | 0, _ => ⟨Int.le_refl _, by simp [allM]⟩
  | i + 1, hi => by
    have h1 := allM_b h i (by omega)
    exact rowM_b h i (by omega) _ _ h1.1 h1.2
theorem least1_enters (a : Array Value) (W : World) : (callFunc 77 a).run Try.prog W = .ok (.enter 77 a) W := by kernel_rfl
set_option maxHeartbeats 4000000 in
set_option maxRecDepth 100000 in
theorem least1_calls (b : Nat) (A0 : Option Addr) (c0 : Nat) (l0 : List (List Int)) (i k : Nat) (w : World) (hcell : w.cell? ⟨b, 0, none⟩ = some (.slice A0 l0.length c0)) (hr0 : Kd.C (Kd.slice 5 (Kd.int .u8)) w A0 l0.length l0) (hi : i < l0.length) (hk : k < l0.length) (he : Even8 l0) :
    Calls Try.prog 77 #[.int .i64 i, .int .i64 k, .pointer (some ⟨b, 0, none⟩)] w fun e w' => e = .returned (.int .i64 (dW l0 i k)) ∧ Below w.heap.size w w' := by
  obtain ⟨ad, A1, c1, rfl, hc1, hl1, hC1⟩ := at_L1 hr0 (i : Int) (by omega) (by omega)
  obtain ⟨ad', A2, c2, e2, hc2, hl2, hC2⟩ := at_L1 hr0 (k : Int) (by omega) (by omega)
  cases e2
  rw [Int.toNat_natCast] at hc1 hc2
  have g1 := he.2 _ (by rw [rdW_get l0 i hi]; exact List.getElem_mem hi : rd_L1 l0 (i : Int) ∈ l0)
  have g2 := he.2 _ (by rw [rdW_get l0 k hk]; exact List.getElem_mem hk : rd_L1 l0 (k : Int) ∈ l0)
  have HM := Aside0.mk (fun (nd : Nat) => unlike_calls A1 c1 _ A2 c2 _ (w.drewN nd) (Kd.C_drewN hC1 nd) hl1 (Kd.C_drewN hC2 nd) hl2 (by omega) (by omega))
  have hx1 := Kd.C_max hr0
  have HD : Aside0 (dW l0 i k = apD (rd_L1 l0 (i : Int)) (rd_L1 l0 (k : Int)) (rd_L1 l0 (i : Int)).length) := ⟨rfl⟩
  clear hr0 hC1 hC2 g1 g2 he
  generalize dW l0 i k = r at *
  generalize apD (rd_L1 l0 (i : Int)) (rd_L1 l0 (k : Int)) (rd_L1 l0 (i : Int)).length = r2 at *
  generalize (rd_L1 l0 (i : Int)).length = n1 at *
  generalize (rd_L1 l0 (k : Int)).length = n2 at *
  go_enter Try.func77, Try.ntmps77
  go_wp2_with fail
  go_quiet (first | (go_at_call 56; refine (HM.out _).mono ?_; rintro e w' ⟨rfl, ⟨nd, rfl⟩⟩; (try first | exact ⟨rfl, _, World.drewN_drewN _ _ _⟩ | exact ⟨rfl, _, Eq.trans (World.drewN_drewN _ _ _) (congrArg (World.drewN _) (Nat.add_assoc _ _ _))⟩)))
  go_wp2_with fail
  go_ret
  exact ⟨by rw [HD.out]; rfl, pw_below_drewN (Below.refl _ _) _⟩
theorem results_tmp4 {fn : Func} {t u v x : Tmp} (h : fn.results = #[.tmp t, .tmp u, .tmp v, .tmp x]) (tmps : Array Value) (P : Program) (w : World) :
    (results fn tmps).run P w = .ok (.tuple #[tmps.getD t undef, tmps.getD u undef, tmps.getD v undef, tmps.getD x undef]) w := by
  simp [results, h]
set_option maxHeartbeats 4000000 in
set_option maxRecDepth 100000 in
theorem nearest_calls (f : FuncId) (hg : ∀ (a : Array Value) (W : World), (callFunc f a).run Try.prog W = .ok (.enter f a) W) (cap : Array Value) (l : List (List Int)) (w : World) (hl : l.length ≤ 60)
    (hf : ∀ (i k : Nat) (W : World), i < l.length → k < l.length → Below w.heap.size w W → Calls Try.prog f (#[.int .i64 i, .int .i64 k] ++ cap) W fun e W' => e = .returned (.int .i64 (dW l i k)) ∧ Below W.heap.size W W') :
    Calls Try.prog 76 #[.int .i64 l.length, .func (.func f) #[] cap] w fun e w' => ∃ a b : Int, e = .returned (.tuple #[.int .i64 a, .int .i64 b, .int .i64 (allM l l.length), .bool (decide (0 ≤ allM l l.length))]) ∧ Below w.heap.size w w' := by
  have HF := Aside0.mk hf
  clear hf
  go_enter Try.func76, Try.ntmps76
  go_wp2_with fail
  go_loopw [15, 8, 9, 10, 11, 12, 13] (fun v15 v8 v9 v10 _ _ _ wr => ∃ (i : Nat) (a b : Int), i ≤ l.length ∧ v15 = .int .i64 i ∧ v8 = .int .i64 a ∧ v9 = .int .i64 b ∧ Aside0 (v10 = .int .i64 (allM l i)) ∧ Aside0 (Below w.heap.size w wr)) (fun v15 _ _ _ _ _ _ _ => l.length - (intOf v15).toNat)
  case atStart => exact ⟨0, 0, 0, Nat.zero_le _, rfl, rfl, rfl, ⟨rfl⟩, ⟨Below.refl _ _⟩⟩
  case round =>
    obtain ⟨i, a, b, hi, rfl, rfl, rfl, ⟨hv10⟩, HB⟩ := hrel
    by_cases hlt : i < l.length
    · have HAI := Aside0.mk (show allM l (i + 1) = rowM l i (l.length - (i + 1)) (allM l i) from rfl)
      generalize allM l i = q0 at *
      subst hv10
      have hw0 : wrap64 ((i : Int) + 1) = (i : Int) + 1 := by unfold wrap64; omega
      go_wp2_with fail
      go_loopw [12, 8, 9, 10, 13] (fun v12 v8 v9 v10 _ wr => ∃ (d : Nat) (a b : Int), i + 1 + d ≤ l.length ∧ v12 = .int .i64 ((i : Int) + 1 + d) ∧ v8 = .int .i64 a ∧ v9 = .int .i64 b ∧ Aside0 (v10 = .int .i64 (rowM l i d q0)) ∧ Aside0 (Below w.heap.size w wr)) (fun v12 _ _ _ _ _ => l.length - (intOf v12).toNat)
      case atStart => exact ⟨0, a, b, by omega, by simp, rfl, rfl, ⟨rfl⟩, HB⟩
      case round =>
        clear HB
        obtain ⟨d, a, b, hd, rfl, rfl, rfl, ⟨hv10⟩, HB⟩ := hrel
        by_cases hlt2 : i + 1 + d < l.length
        · have HM := Aside0.mk (HF.out i (i + 1 + d) wr hlt hlt2 HB.out)
          have HR := Aside0.mk (show rowM l i (d + 1) q0 = lessI (rowM l i d q0) (dW l i (i + 1 + d)) from rfl)
          have HNX : Aside0 (wrap64 (((i : Int) + 1 + (d : Int)) + 1) = (i : Int) + 1 + ((d + 1 : Nat) : Int)) := ⟨by unfold wrap64; omega⟩
          have HLT := Aside0.mk hlt2
          have hlt3 : (i : Int) + 1 + (d : Int) < (l.length : Int) := by omega
          have HMS : Aside0 (l.length - (intOf (Value.int .i64 (wrap64 (((i : Int) + 1 + (d : Int)) + 1)))).toNat < l.length - (intOf (Value.int .i64 ((i : Int) + 1 + (d : Int)))).toNat) := ⟨by rw [show wrap64 (((i : Int) + 1 + (d : Int)) + 1) = (i : Int) + 1 + (d : Int) + 1 by unfold wrap64; omega]; simp only [intOf]; omega⟩
          have HC : Aside0 (((i + 1 + d : Nat) : Int) = (i : Int) + 1 + (d : Int)) := ⟨by omega⟩
          rw [HC.out] at HM
          generalize rowM l i d q0 = q at *
          generalize dW l i (i + 1 + d) = z at *
          subst hv10
          clear hlt2
          generalize hkk : (i : Int) + 1 + (d : Int) = kk at *
          have HKK := Aside0.mk hkk
          clear hkk
          by_cases h1 : q < 0
          · have h2 := decide_eq_true h1
            have HLI : Aside0 (lessI q z = z) := ⟨if_pos (Or.inl h1)⟩
            go_wp2_with (refine HM.out.mono ?_; rintro e w1 ⟨rfl, hb1⟩; have HB1 := Aside0.mk hb1; clear hb1)
            go_roundw
            case rel => exact ⟨d + 1, (i : Int), kk, by have := HLT.out; omega, by rw [HNX.out], rfl, rfl, ⟨by rw [HR.out, HLI.out]⟩, ⟨below_then HB.out HB.out.size HB1.out⟩⟩
            case measure => exact HMS.out
          · by_cases h3 : z < q
            · have h2 := decide_eq_false h1
              have h4 := decide_eq_true h3
              have HLI : Aside0 (lessI q z = z) := ⟨if_pos (Or.inr h3)⟩
              go_wp2_with (refine HM.out.mono ?_; rintro e w1 ⟨rfl, hb1⟩; have HB1 := Aside0.mk hb1; clear hb1)
              go_roundw
              case rel => exact ⟨d + 1, (i : Int), kk, by have := HLT.out; omega, by rw [HNX.out], rfl, rfl, ⟨by rw [HR.out, HLI.out]⟩, ⟨below_then HB.out HB.out.size HB1.out⟩⟩
              case measure => exact HMS.out
            · have h2 := decide_eq_false h1
              have h4 := decide_eq_false h3
              have HLI : Aside0 (lessI q z = q) := ⟨if_neg (by omega)⟩
              go_wp2_with (refine HM.out.mono ?_; rintro e w1 ⟨rfl, hb1⟩; have HB1 := Aside0.mk hb1; clear hb1)
              go_roundw
              case rel => exact ⟨d + 1, a, b, by have := HLT.out; omega, by rw [HNX.out], rfl, rfl, ⟨by rw [HR.out, HLI.out]⟩, ⟨below_then HB.out HB.out.size HB1.out⟩⟩
              case measure => exact HMS.out
        · have HE : Aside0 (rowM l i d q0 = allM l (i + 1)) := ⟨by rw [HAI.out, show l.length - (i + 1) = d by omega]⟩
          have hge : ¬ ((i : Int) + 1 + (d : Int) < (l.length : Int)) := by omega
          generalize rowM l i d q0 = q at *
          subst hv10
          go_wp2_with fail
          go_roundw
          case rel => exact ⟨i + 1, a, b, by omega, by go_num, rfl, rfl, ⟨by rw [HE.out]⟩, HB⟩
          case measure => simp [intOf]; omega
    · have hin : i = l.length := by omega
      have HIN := Aside0.mk hin
      generalize hq : allM l i = q at *
      have HQ := Aside0.mk hq
      subst hv10
      clear hq
      by_cases h0 : 0 ≤ q
      · have h1 := decide_eq_true h0
        have HQ0 := Aside0.mk h0
        go_wp2_with fail
        refine bodyPost_ret (results_tmp4 rfl _ _ _) rfl ?_
        first
          | exact ⟨a, b, by rw [← HIN.out, HQ.out, decide_eq_true HQ0.out]; rfl, HB.out⟩
          | exact ⟨⟨a, b, by rw [← HIN.out, HQ.out, decide_eq_true HQ0.out]; rfl⟩, HB.out⟩
      · have h1 := decide_eq_false h0
        have HQ0 := Aside0.mk h1
        go_wp2_with fail
        refine bodyPost_ret (results_tmp4 rfl _ _ _) rfl ?_
        first
          | exact ⟨a, b, by rw [← HIN.out, HQ.out, HQ0.out]; rfl, HB.out⟩
          | exact ⟨⟨a, b, by rw [← HIN.out, HQ.out, HQ0.out]; rfl⟩, HB.out⟩
def leastW (l : List (List Int)) : Int × Int := if codeW l [] = 0 then (if 0 ≤ allM l l.length then (allM l l.length, 0) else (0, 6)) else (0, codeW l [])
def impl_LeastApart.f (l0 : List (List Int)) : Option (Int × Int) := if l0.length ≤ 100000000 then some (leastW l0) else none
theorem codeW_zero {l l1 : List (List Int)} (h : codeW l l1 = 0) : areW (l ++ l1) 37 = true ∧ l.length ≤ 60 := by
  unfold codeW at h
  split at h
  · rename_i h1
    split at h
    · exact ⟨h1, by omega⟩
    · omega
  · omega
set_option maxHeartbeats 4000000 in
set_option maxRecDepth 100000 in
theorem impl_LeastApart.calls (A0 : Option Addr) (c0 : Nat) (l0 : List (List Int)) (r1 : Int) (r2 : Int) (w : World) (hr0 : Kd.C (Kd.slice 5 (Kd.int .u8)) w A0 l0.length l0) (hc0 : l0.length ≤ c0) (h : impl_LeastApart.f l0 = some (r1, r2)) :
    Calls Try.prog 41 #[.slice A0 l0.length c0] w fun e w' => e = .returned (.tuple #[.int .i64 r1, .int .i64 r2]) ∧ Below w.heap.size w w' := by
  unfold impl_LeastApart.f at h
  split at h
  · rename_i hlen
    have h := Option.some.inj h
    have HCODE := Aside0.mk (fun (W : World) (hW : Below w.heap.size w W) => wordsCode_calls A0 c0 l0 none 0 [] W (Kd.C_below hr0 hW) hc0 ⟨rfl, by simp, fun hn => by simp at hn⟩ (by simp) (by simp; omega))
    by_cases hk : codeW l0 [] = 0
    · have hk2 := codeW_zero hk
      rw [List.append_nil] at hk2
      have he : Even8 l0 := ⟨hk2.2, areW_even hk2.1⟩
      have HN : Aside0 (∀ (b : Nat) (W : World), Below w.heap.size w W → W.cell? ⟨b, 0, none⟩ = some (.slice A0 l0.length c0) → Calls Try.prog 76 #[.int .i64 l0.length, .func (.func 77) #[] #[.pointer (some ⟨b, 0, none⟩)]] W fun e w' => ∃ a b : Int, e = .returned (.tuple #[.int .i64 a, .int .i64 b, .int .i64 (allM l0 l0.length), .bool (decide (0 ≤ allM l0 l0.length))]) ∧ Below W.heap.size W w') := ⟨fun b W hW hb =>
        nearest_calls _ least1_enters _ l0 W hk2.2 fun i k W1 hi hk hB => least1_calls b A0 c0 l0 i k W1 (pw_cell_below hB hb) (Kd.C_below (Kd.C_below hr0 hW) hB) hi hk he⟩
      rw [hk] at HCODE
      unfold leastW at h
      rw [if_pos hk] at h
      clear hr0 hk hk2 he
      generalize allM l0 l0.length = q at *
      have harm : True := trivial
      by_cases h0 : 0 ≤ q
      · rw [if_pos h0] at h
        cases h
        rw [decide_eq_true h0] at HN
        clear h0
        go_enter Try.func41, Try.ntmps41
        go_wp2_with (first
          | (go_at_call 75; refine (HCODE.out _ (below_alloc (Below.refl _ _) _)).mono ?_; rintro e w1 ⟨rfl, hb1⟩; have HB1 := Aside0.mk (below_then (below_alloc (Below.refl w.heap.size w) _) (by simp) hb1); have hcl := pw_cell_below hb1 (box_cell w #[.slice A0 l0.length c0] 39 0); have HCL := Aside0.mk hcl; clear hb1)
          | (go_at_call 76; refine (HN.out _ _ HB1.out HCL.out).mono ?_; rintro e w2 ⟨a, b, rfl, hb2⟩; have HB2 := Aside0.mk (below_then HB1.out HB1.out.size hb2); clear hb2))
        go_ret2
        exact ⟨rfl, HB2.out⟩
      · rw [if_neg h0] at h
        cases h
        rw [decide_eq_false h0] at HN
        clear h0
        go_enter Try.func41, Try.ntmps41
        go_wp2_with (first
          | (go_at_call 75; refine (HCODE.out _ (below_alloc (Below.refl _ _) _)).mono ?_; rintro e w1 ⟨rfl, hb1⟩; have HB1 := Aside0.mk (below_then (below_alloc (Below.refl w.heap.size w) _) (by simp) hb1); have hcl := pw_cell_below hb1 (box_cell w #[.slice A0 l0.length c0] 39 0); have HCL := Aside0.mk hcl; clear hb1)
          | (go_at_call 76; refine (HN.out _ _ HB1.out HCL.out).mono ?_; rintro e w2 ⟨a, b, rfl, hb2⟩; have HB2 := Aside0.mk (below_then HB1.out HB1.out.size hb2); clear hb2))
        go_ret2
        exact ⟨rfl, HB2.out⟩
    · unfold leastW at h
      rw [if_neg hk] at h
      cases h
      have hk1 : (codeW l0 [] != 0) = true := by rw [bne_iff_ne]; exact hk
      clear hr0
      generalize codeW l0 [] = q at *
      go_enter Try.func41, Try.ntmps41
      go_wp2_with (go_at_call 75; refine (HCODE.out _ (below_alloc (Below.refl _ _) _)).mono ?_; rintro e w1 ⟨rfl, hb1⟩; have HB1 := Aside0.mk (below_then (below_alloc (Below.refl w.heap.size w) _) (by simp) hb1); clear hb1)
      go_ret2
      exact ⟨rfl, HB1.out⟩
  · cases h


/-! ### laws_FnExactLeastApart: function 12 -/
def laws_FnExactLeastApart.j0 : Nat → List (List Int) → List (List Int) → Bool → Option (Bool)
  | 0, _, _, _ => none
  | k + 1, x0, x6, x34 => if x34 = true then (some false) else ((laws_toWordS.f k x0).bind fun t178 => ((laws_eqWordS.f k x6 t178).bind fun t181 => (if t181 = true then (some true) else (some false))))
def laws_FnExactLeastApart.f (k : Nat) (l0 : List (List Int)) : Option (Bool) := (laws_szWordS.f k l0 1048576).bind fun t167 => (if t167 < 0 then (some true) else ((laws_toWordS.f k l0).bind fun t168 => ((spec_LeastApart.f k t168).bind fun bt171 => ((laws_toWordS.f k l0).bind fun t173 => ((impl_LeastApart.f t173).bind fun bt176 => (if bt176.1 = bt171.1 then (laws_FnExactLeastApart.j0 k l0 t173 (bt176.2 != bt171.2)) else (laws_FnExactLeastApart.j0 k l0 t173 true)))))))
theorem laws_FnExactLeastApart.mono_l : ∀ k, (∀ y0 y1 y2, LeO (laws_FnExactLeastApart.j0 k y0 y1 y2) (laws_FnExactLeastApart.j0 (k + 1) y0 y1 y2))
  | 0 => fun _ _ _ r h => by simp [laws_FnExactLeastApart.j0] at h
  | k + 1 => by
    have ih0 := laws_FnExactLeastApart.mono_l k
    · intro y0 y1 y2
      unfold laws_FnExactLeastApart.j0
      repeat' first
      | (with_reducible exact ih0 _ _ _)
      | (with_reducible exact laws_eqWordS.mono _ _ _)
      | (with_reducible exact laws_szWordS.mono _ _ _)
      | (with_reducible exact laws_toWordS.mono _ _)
      | (with_reducible exact spec_LeastApart.mono _ _)
      | (with_reducible exact LeO.refl _)
      | (with_reducible exact LeO.none _)
      | (with_reducible refine LeO.ite ?_ ?_)
      | (with_reducible refine LeO.bind ?_ (fun _ => ?_))
      | exact ih0 _ _ _
      | exact laws_eqWordS.mono _ _ _
      | exact laws_szWordS.mono _ _ _
      | exact laws_toWordS.mono _ _
      | exact spec_LeastApart.mono _ _
      | exact LeO.none _
      | refine LeO.ite ?_ ?_
      | refine LeO.bind ?_ (fun _ => ?_)
theorem laws_FnExactLeastApart.mono : ∀ a0 k, LeO (laws_FnExactLeastApart.f k a0) (laws_FnExactLeastApart.f (k + 1) a0) := by
  intro a0 k
  have ih0 := laws_FnExactLeastApart.mono_l k
  unfold laws_FnExactLeastApart.f
  repeat' first
      | (with_reducible exact ih0 _ _ _)
      | (with_reducible exact laws_eqWordS.mono _ _ _)
      | (with_reducible exact laws_szWordS.mono _ _ _)
      | (with_reducible exact laws_toWordS.mono _ _)
      | (with_reducible exact spec_LeastApart.mono _ _)
      | (with_reducible exact LeO.refl _)
      | (with_reducible exact LeO.none _)
      | (with_reducible refine LeO.ite ?_ ?_)
      | (with_reducible refine LeO.bind ?_ (fun _ => ?_))
      | exact ih0 _ _ _
      | exact laws_eqWordS.mono _ _ _
      | exact laws_szWordS.mono _ _ _
      | exact laws_toWordS.mono _ _
      | exact spec_LeastApart.mono _ _
      | exact LeO.none _
      | refine LeO.ite ?_ ?_
      | refine LeO.bind ?_ (fun _ => ?_)
set_option maxHeartbeats 8000000 in
set_option maxRecDepth 100000 in
theorem laws_FnExactLeastApart.calls (k : Nat) (A0 : Option Addr) (c0 : Nat) (l0 : List (List Int)) (r : Bool) (w : World) (hr0 : Kd.C (Kd.slice 5 (Kd.int .u8)) w A0 l0.length l0) (hc0 : l0.length ≤ c0) (h : laws_FnExactLeastApart.f k l0 = some r) :
    Calls Try.prog 12 #[.slice A0 l0.length c0] w fun e w' => e = .returned (.bool r) ∧ Below w.heap.size w w' := by
  have HR0 := Aside0.mk hr0
  have HC0 := Aside0.mk hc0
  clear hr0 hc0
  have HB := Aside0.mk (Below.refl w.heap.size w)
  have H : ((laws_szWordS.f k l0 1048576).bind fun t167 => (if t167 < 0 then (some true) else ((laws_toWordS.f k l0).bind fun t168 => ((spec_LeastApart.f k t168).bind fun bt171 => ((laws_toWordS.f k l0).bind fun t173 => ((impl_LeastApart.f t173).bind fun bt176 => (if bt176.1 = bt171.1 then (laws_FnExactLeastApart.j0 k l0 t173 (bt176.2 != bt171.2)) else (laws_FnExactLeastApart.j0 k l0 t173 true)))))))) = some r := h
  clear h
  replace H := Option.bind_eq_some_iff.mp H
  obtain ⟨t167, A20, H⟩ := H
  replace H : (if t167 < 0 then (some true) else ((laws_toWordS.f k l0).bind fun t168 => ((spec_LeastApart.f k t168).bind fun bt171 => ((laws_toWordS.f k l0).bind fun t173 => ((impl_LeastApart.f t173).bind fun bt176 => (if bt176.1 = bt171.1 then (laws_FnExactLeastApart.j0 k l0 t173 (bt176.2 != bt171.2)) else (laws_FnExactLeastApart.j0 k l0 t173 true))))))) = some r := H
  have A2 := Aside0.mk A20
  clear A20
  by_cases c3 : t167 < 0
  · rw [if_pos c3] at H
    have c3b0 : decide (t167 < 0) = true := decide_eq_true c3
    clear c3
    obtain rfl := Option.some.inj H
    go_enter Try.func12, Try.ntmps12
    go_wp2_with (first | ((with_reducible refine gate_callee (f := 27) rfl ?_); refine goesL_ (some 11) rfl rfl Try.func27 (by kernel_rfl) rfl #[.slice A0 l0.length c0, .int .i64 1048576] rfl (by (try simp only [List.map_toArray, List.map_cons, List.map_nil]); first | done | rfl | (simp only [List.length_drop, List.length_take]; rfl)) ?_; (with_reducible refine (laws_szWordS.calls k _ _ l0 1048576 t167 _ ?side1 ?side2 A2.out).mono ?_); (case side1 => repeat (first | exact HR0.out | (with_reducible refine Kd.C_alloc ?_ _) | (with_reducible refine Kd.C_drewN ?_ _) | (with_reducible refine Kd.C_drew ?_))); (case side2 => exact HC0.out); rintro e w' ⟨rfl, ⟨nd, rfl⟩⟩; refine ⟨_, rfl, ?_⟩))
    go_ret
    exact ⟨by first | rfl | (simp [errW_none, errW_some] <;> rfl) | (simp [*, errW_none, errW_some] <;> rfl), by repeat (first | (with_reducible first | exact HB.out | apply below_alloc | apply pw_below_drewN | apply below_drew1) | exact HB.out)⟩
  · rw [if_neg c3] at H
    have c3b0 : decide (t167 < 0) = false := decide_eq_false c3
    clear c3
    replace H := Option.bind_eq_some_iff.mp H
    obtain ⟨t168, A40, H⟩ := H
    replace H : ((spec_LeastApart.f k t168).bind fun bt171 => ((laws_toWordS.f k l0).bind fun t173 => ((impl_LeastApart.f t173).bind fun bt176 => (if bt176.1 = bt171.1 then (laws_FnExactLeastApart.j0 k l0 t173 (bt176.2 != bt171.2)) else (laws_FnExactLeastApart.j0 k l0 t173 true))))) = some r := H
    have A4 := Aside0.mk A40
    clear A40
    replace H := Option.bind_eq_some_iff.mp H
    obtain ⟨⟨t171, t172⟩, A50, H⟩ := H
    replace H : ((laws_toWordS.f k l0).bind fun t173 => ((impl_LeastApart.f t173).bind fun bt176 => (if bt176.1 = t171 then (laws_FnExactLeastApart.j0 k l0 t173 (bt176.2 != t172)) else (laws_FnExactLeastApart.j0 k l0 t173 true)))) = some r := H
    have A5 := Aside0.mk A50
    clear A50
    replace H := Option.bind_eq_some_iff.mp H
    obtain ⟨t173, A60, H⟩ := H
    replace H : ((impl_LeastApart.f t173).bind fun bt176 => (if bt176.1 = t171 then (laws_FnExactLeastApart.j0 k l0 t173 (bt176.2 != t172)) else (laws_FnExactLeastApart.j0 k l0 t173 true))) = some r := H
    have A6 := Aside0.mk A60
    clear A60
    replace H := Option.bind_eq_some_iff.mp H
    obtain ⟨⟨t176, t177⟩, A70, H⟩ := H
    replace H : (if t176 = t171 then (laws_FnExactLeastApart.j0 k l0 t173 (t177 != t172)) else (laws_FnExactLeastApart.j0 k l0 t173 true)) = some r := H
    have A7 := Aside0.mk A70
    clear A70
    have HC8 := Aside0.mk H
    clear H
    go_enter Try.func12, Try.ntmps12
    go_upto_region 8 with (first | ((with_reducible refine gate_callee (f := 27) rfl ?_); refine goesL_ (some 11) rfl rfl Try.func27 (by kernel_rfl) rfl #[.slice A0 l0.length c0, .int .i64 1048576] rfl (by (try simp only [List.map_toArray, List.map_cons, List.map_nil]); first | done | rfl | (simp only [List.length_drop, List.length_take]; rfl)) ?_; (with_reducible refine (laws_szWordS.calls k _ _ l0 1048576 t167 _ ?side1 ?side2 A2.out).mono ?_); (case side1 => repeat (first | exact HR0.out | (with_reducible refine Kd.C_alloc ?_ _) | (with_reducible refine Kd.C_drewN ?_ _) | (with_reducible refine Kd.C_drew ?_))); (case side2 => exact HC0.out); rintro e w' ⟨rfl, ⟨nd, rfl⟩⟩; refine ⟨_, rfl, ?_⟩) | ((with_reducible refine gate_callee (f := 29) rfl ?_); refine goesL_ (some 16) rfl rfl Try.func29 (by kernel_rfl) rfl #[.slice A0 l0.length c0] rfl (by (try simp only [List.map_toArray, List.map_cons, List.map_nil]); first | done | rfl | (simp only [List.length_drop, List.length_take]; rfl)) ?_; (with_reducible refine (laws_toWordS.calls k _ _ l0 t168 _ ?side1 ?side2 A4.out).mono ?_); (case side1 => repeat (first | exact HR0.out | (with_reducible refine Kd.C_alloc ?_ _) | (with_reducible refine Kd.C_drewN ?_ _) | (with_reducible refine Kd.C_drew ?_))); (case side2 => exact HC0.out); rintro e w9 ⟨v169, rfl, ho0, hb⟩; refine ⟨_, rfl, ?_⟩; have n0_ := Aside0.mk (Kd.S_lower ho0 (below_size (by repeat (first | (with_reducible first | exact HB.out | apply below_alloc | apply pw_below_drewN | apply below_drew1) | exact HB.out)))); have n1_ := Aside0.mk (below_step (by repeat (first | (with_reducible first | exact HB.out | apply below_alloc | apply pw_below_drewN | apply below_drew1) | exact HB.out)) hb); clear HB; have HO170 := n0_; have HB := n1_; clear n0_ n1_; (try clear hb); (try clear hb2); (try clear hk); (try clear hi); (try clear ho0); obtain ⟨Ao10, co10, eo10⟩ := Kd.S_slice HO170.out; subst eo10) | ((with_reducible refine gate_callee (f := 40) rfl ?_); refine goesL_ (some 17) rfl rfl Try.func40 (by kernel_rfl) rfl #[.slice Ao10 t168.length co10] rfl (by (try simp only [List.map_toArray, List.map_cons, List.map_nil]); first | done | rfl | (simp only [List.length_drop, List.length_take]; rfl)) ?_; (with_reducible refine (spec_LeastApart.calls k _ _ t168 t171 t172 _ ?side1 ?side2 A5.out).mono ?_); (case side1 => repeat (first | exact (Kd.S_reads' HO170.out).2.2 | (with_reducible refine Kd.C_alloc ?_ _) | (with_reducible refine Kd.C_drewN ?_ _) | (with_reducible refine Kd.C_drew ?_))); (case side2 => exact (Kd.S_reads' HO170.out).2.1); rintro e w' ⟨rfl, ⟨nd, rfl⟩⟩; refine ⟨_, rfl, ?_⟩) | ((with_reducible refine gate_callee (f := 29) rfl ?_); refine goesL_ (some 21) rfl rfl Try.func29 (by kernel_rfl) rfl #[.slice A0 l0.length c0] rfl (by (try simp only [List.map_toArray, List.map_cons, List.map_nil]); first | done | rfl | (simp only [List.length_drop, List.length_take]; rfl)) ?_; (with_reducible refine (laws_toWordS.calls k _ _ l0 t173 _ ?side1 ?side2 A6.out).mono ?_); (case side1 => repeat (first | exact (Kd.C_below HR0.out (by repeat (first | (with_reducible first | exact HB.out | apply below_alloc | apply pw_below_drewN | apply below_drew1) | exact HB.out))) | (with_reducible refine Kd.C_alloc ?_ _) | (with_reducible refine Kd.C_drewN ?_ _) | (with_reducible refine Kd.C_drew ?_))); (case side2 => exact HC0.out); rintro e w11 ⟨v174, rfl, ho0, hb⟩; refine ⟨_, rfl, ?_⟩; have n0_ := Aside0.mk (Kd.S_elder' (by (with_reducible repeat (first | apply Kd.S_alloc | apply Kd.S_drewN | apply Kd.S_drew)); exact HO170.out) (Kd.S_base ho0) hb); have n1_ := Aside0.mk (Kd.S_lower (Kd.S_new' ho0 (Kd.S_lt (by (with_reducible repeat (first | apply Kd.S_alloc | apply Kd.S_drewN | apply Kd.S_drew)); exact HO170.out))) (below_size (by repeat (first | (with_reducible first | exact HB.out | apply below_alloc | apply pw_below_drewN | apply below_drew1) | exact HB.out)))); have n2_ := Aside0.mk (below_step (by repeat (first | (with_reducible first | exact HB.out | apply below_alloc | apply pw_below_drewN | apply below_drew1) | exact HB.out)) hb); clear HO170; clear HB; have HO170 := n0_; have HO175 := n1_; have HB := n2_; clear n0_ n1_ n2_; (try clear hb); (try clear hb2); (try clear hk); (try clear hi); (try clear ho0); obtain ⟨Ao12, co12, eo12⟩ := Kd.S_slice HO175.out; subst eo12) | ((with_reducible refine gate_callee (f := 41) rfl ?_); refine goesL_ (some 24) rfl rfl Try.func41 (by kernel_rfl) rfl #[.slice Ao12 t173.length co12] rfl (by (try simp only [List.map_toArray, List.map_cons, List.map_nil]); first | done | rfl | (simp only [List.length_drop, List.length_take]; rfl)) ?_; (with_reducible refine (impl_LeastApart.calls _ _ t173 t176 t177 _ ?side1 ?side2 A7.out).mono ?_); (case side1 => repeat (first | exact (Kd.S_reads' HO175.out).2.2 | (with_reducible refine Kd.C_alloc ?_ _) | (with_reducible refine Kd.C_drewN ?_ _) | (with_reducible refine Kd.C_drew ?_))); (case side2 => exact (Kd.S_reads' HO175.out).2.1); rintro e w13 ⟨rfl, hb⟩; refine ⟨_, rfl, ?_⟩; have n0_ := Aside0.mk (Kd.S_below (by (with_reducible repeat (first | apply Kd.S_alloc | apply Kd.S_drewN | apply Kd.S_drew)); exact HO170.out) hb); have n1_ := Aside0.mk (Kd.S_below (by (with_reducible repeat (first | apply Kd.S_alloc | apply Kd.S_drewN | apply Kd.S_drew)); exact HO175.out) hb); have n2_ := Aside0.mk (below_step (by repeat (first | (with_reducible first | exact HB.out | apply below_alloc | apply pw_below_drewN | apply below_drew1) | exact HB.out)) hb); clear HO170; clear HO175; clear HB; have HO170 := n0_; have HO175 := n1_; have HB := n2_; clear n0_ n1_ n2_; (try clear hb); (try clear hb2); (try clear hk); (try clear hi)))
    (try simp only [Act.put, List.setIfInBounds_toArray, List.set_cons_zero, List.set_cons_succ])
    go_cut [34] (fun v34 wc => ∃ (kq : Nat) (x34_7 : Bool), v34 = .bool x34_7 ∧ Aside0 (laws_FnExactLeastApart.j0 kq l0 t173 x34_7 = some r) ∧ Aside0 (kq ≤ k) ∧ Aside0 (Kd.S (Kd.slice 5 (Kd.int .u8)) 27 wc w.heap.size (fun _ => True) (.slice Ao12 t173.length co12) t173) ∧ Aside0 (Below w.heap.size w wc))
    case first =>
      have H := HC8.out
      clear HC8
      by_cases c14 : t176 = t171
      · rw [if_pos c14] at H
        have c14b0 : (t176 == t171) = true := beq_iff_eq.mpr c14
        have c14b1 : (t176 != t171) = false := bne_eq_false_iff_eq.mpr c14
        clear c14
        (first | rw [c14b0] | (simp only [i64_w, i32_w]; rw [c14b0]) | skip)
        have H' := Aside0.mk H
        clear H
        go_wp2
        go_meet
        case rel => exact ⟨_, ((t177 != t172)), (by first | rfl | (simp; done) | (simp [*]; done)), H', ⟨by first | omega | exact Nat.le_refl _⟩, ⟨by (with_reducible repeat (first | apply Kd.S_alloc | apply Kd.S_drewN | apply Kd.S_drew)); exact Kd.S_mono HO175.out (fun _ hk => trivial)⟩, ⟨by repeat (first | (with_reducible first | exact HB.out | apply below_alloc | apply pw_below_drewN | apply below_drew1) | exact HB.out)⟩⟩
      · rw [if_neg c14] at H
        have c14b0 : (t176 == t171) = false := beq_eq_false_iff_ne.mpr c14
        have c14b1 : (t176 != t171) = true := bne_iff_ne.mpr c14
        (first | rw [c14b0] | (simp only [i64_w, i32_w]; rw [c14b0]) | skip)
        have H' := Aside0.mk H
        clear H
        go_wp2
        go_meet
        case rel => exact ⟨_, (true), (by first | rfl | (simp; done) | (simp [*]; done)), H', ⟨by first | omega | exact Nat.le_refl _⟩, ⟨by (with_reducible repeat (first | apply Kd.S_alloc | apply Kd.S_drewN | apply Kd.S_drew)); exact Kd.S_mono HO175.out (fun _ hk => trivial)⟩, ⟨by repeat (first | (with_reducible first | exact HB.out | apply below_alloc | apply pw_below_drewN | apply below_drew1) | exact HB.out)⟩⟩
    case rest =>
      clear HC8
      try clear c1
      try clear c2
      try clear p2
      try clear c3
      try clear c3b0
      try clear c4
      try clear c12
      try clear c14
      try clear c14b0
      try clear c14b1
      obtain ⟨kq, x34_7, rfl, HA, HJ7, HO_6, HB⟩ := hcut
      cases kq with
      | zero => exact absurd HA.out (by simp [laws_FnExactLeastApart.j0])
      | succ kj7 =>
        have H := HA.out
        clear HA
        simp only [laws_FnExactLeastApart.j0] at H
        by_cases c15 : x34_7 = true
        · subst c15
          have H1 : (some false) = some r := by rw [if_pos rfl] at H; exact H
          clear H
          have H := H1
          clear H1
          obtain rfl := Option.some.inj H
          go_wp2
          go_ret
          exact ⟨by first | rfl | (simp [errW_none, errW_some] <;> rfl) | (simp [*, errW_none, errW_some] <;> rfl), by repeat (first | (with_reducible first | exact HB.out | apply below_alloc | apply pw_below_drewN | apply below_drew1) | exact HB.out)⟩
        · replace c15 := Bool.eq_false_iff.mpr c15
          subst c15
          have H1 : ((laws_toWordS.f kj7 l0).bind fun t178 => ((laws_eqWordS.f kj7 t173 t178).bind fun t181 => (if t181 = true then (some true) else (some false)))) = some r := by rw [if_neg (show ¬ (false = true) by decide)] at H; exact H
          clear H
          have H := H1
          clear H1
          replace H := Option.bind_eq_some_iff.mp H
          obtain ⟨t178, A160, H⟩ := H
          replace H : ((laws_eqWordS.f kj7 t173 t178).bind fun t181 => (if t181 = true then (some true) else (some false))) = some r := H
          have A16 := Aside0.mk A160
          clear A160
          replace H := Option.bind_eq_some_iff.mp H
          obtain ⟨t181, A170, H⟩ := H
          replace H : (if t181 = true then (some true) else (some false)) = some r := H
          have A17 := Aside0.mk A170
          clear A170
          by_cases c18 : t181 = true
          · subst c18
            have H1 : (some true) = some r := by rw [if_pos rfl] at H; exact H
            clear H
            have H := H1
            clear H1
            obtain rfl := Option.some.inj H
            go_wp2_with (first | ((with_reducible refine gate_callee (f := 29) rfl ?_); refine goesL_ (some 37) rfl rfl Try.func29 (by kernel_rfl) rfl #[.slice A0 l0.length c0] rfl (by (try simp only [List.map_toArray, List.map_cons, List.map_nil]); first | done | rfl | (simp only [List.length_drop, List.length_take]; rfl)) ?_; (with_reducible refine (laws_toWordS.calls kj7 _ _ l0 t178 _ ?side1 ?side2 A16.out).mono ?_); (case side1 => repeat (first | exact (Kd.C_below HR0.out HB.out) | (with_reducible refine Kd.C_alloc ?_ _) | (with_reducible refine Kd.C_drewN ?_ _) | (with_reducible refine Kd.C_drew ?_))); (case side2 => exact HC0.out); rintro e w19 ⟨v179, rfl, ho0, hb⟩; refine ⟨_, rfl, ?_⟩; have n0_ := Aside0.mk (Kd.S_elder' (by (with_reducible repeat (first | apply Kd.S_alloc | apply Kd.S_drewN | apply Kd.S_drew)); exact HO_6.out) (Kd.S_base ho0) hb); have n1_ := Aside0.mk (Kd.S_lower (Kd.S_new' ho0 (Kd.S_lt (by (with_reducible repeat (first | apply Kd.S_alloc | apply Kd.S_drewN | apply Kd.S_drew)); exact HO_6.out))) (below_size (by repeat (first | (with_reducible first | exact HB.out | apply below_alloc | apply pw_below_drewN | apply below_drew1) | exact HB.out)))); have n2_ := Aside0.mk (below_step (by repeat (first | (with_reducible first | exact HB.out | apply below_alloc | apply pw_below_drewN | apply below_drew1) | exact HB.out)) hb); clear HO_6; clear HB; have HO_6 := n0_; have HO180 := n1_; have HB := n2_; clear n0_ n1_ n2_; (try clear hb); (try clear hb2); (try clear hk); (try clear hi); (try clear ho0); obtain ⟨Ao20, co20, eo20⟩ := Kd.S_slice HO180.out; subst eo20) | ((with_reducible refine gate_callee (f := 31) rfl ?_); refine goesL_ (some 38) rfl rfl Try.func31 (by kernel_rfl) rfl #[.slice Ao12 t173.length co12, .slice Ao20 t178.length co20] rfl (by (try simp only [List.map_toArray, List.map_cons, List.map_nil]); first | done | rfl | (simp only [List.length_drop, List.length_take]; rfl)) ?_; (with_reducible refine (laws_eqWordS.calls kj7 _ _ t173 _ _ t178 true _ ?side1 ?side2 ?side3 ?side4 A17.out).mono ?_); (case side1 => repeat (first | exact (Kd.S_reads' HO_6.out).2.2 | (with_reducible refine Kd.C_alloc ?_ _) | (with_reducible refine Kd.C_drewN ?_ _) | (with_reducible refine Kd.C_drew ?_))); (case side2 => exact (Kd.S_reads' HO_6.out).2.1); (case side3 => repeat (first | exact (Kd.S_reads' HO180.out).2.2 | (with_reducible refine Kd.C_alloc ?_ _) | (with_reducible refine Kd.C_drewN ?_ _) | (with_reducible refine Kd.C_drew ?_))); (case side4 => exact (Kd.S_reads' HO180.out).2.1); rintro e w' ⟨rfl, ⟨nd, rfl⟩⟩; refine ⟨_, rfl, ?_⟩))
            go_ret
            exact ⟨by first | rfl | (simp [errW_none, errW_some] <;> rfl) | (simp [*, errW_none, errW_some] <;> rfl), by repeat (first | (with_reducible first | exact HB.out | apply below_alloc | apply pw_below_drewN | apply below_drew1) | exact HB.out)⟩
          · replace c18 := Bool.eq_false_iff.mpr c18
            subst c18
            have H1 : (some false) = some r := by rw [if_neg (show ¬ (false = true) by decide)] at H; exact H
            clear H
            have H := H1
            clear H1
            obtain rfl := Option.some.inj H
            go_wp2_with (first | ((with_reducible refine gate_callee (f := 29) rfl ?_); refine goesL_ (some 37) rfl rfl Try.func29 (by kernel_rfl) rfl #[.slice A0 l0.length c0] rfl (by (try simp only [List.map_toArray, List.map_cons, List.map_nil]); first | done | rfl | (simp only [List.length_drop, List.length_take]; rfl)) ?_; (with_reducible refine (laws_toWordS.calls kj7 _ _ l0 t178 _ ?side1 ?side2 A16.out).mono ?_); (case side1 => repeat (first | exact (Kd.C_below HR0.out HB.out) | (with_reducible refine Kd.C_alloc ?_ _) | (with_reducible refine Kd.C_drewN ?_ _) | (with_reducible refine Kd.C_drew ?_))); (case side2 => exact HC0.out); rintro e w21 ⟨v179, rfl, ho0, hb⟩; refine ⟨_, rfl, ?_⟩; have n0_ := Aside0.mk (Kd.S_elder' (by (with_reducible repeat (first | apply Kd.S_alloc | apply Kd.S_drewN | apply Kd.S_drew)); exact HO_6.out) (Kd.S_base ho0) hb); have n1_ := Aside0.mk (Kd.S_lower (Kd.S_new' ho0 (Kd.S_lt (by (with_reducible repeat (first | apply Kd.S_alloc | apply Kd.S_drewN | apply Kd.S_drew)); exact HO_6.out))) (below_size (by repeat (first | (with_reducible first | exact HB.out | apply below_alloc | apply pw_below_drewN | apply below_drew1) | exact HB.out)))); have n2_ := Aside0.mk (below_step (by repeat (first | (with_reducible first | exact HB.out | apply below_alloc | apply pw_below_drewN | apply below_drew1) | exact HB.out)) hb); clear HO_6; clear HB; have HO_6 := n0_; have HO180 := n1_; have HB := n2_; clear n0_ n1_ n2_; (try clear hb); (try clear hb2); (try clear hk); (try clear hi); (try clear ho0); obtain ⟨Ao22, co22, eo22⟩ := Kd.S_slice HO180.out; subst eo22) | ((with_reducible refine gate_callee (f := 31) rfl ?_); refine goesL_ (some 38) rfl rfl Try.func31 (by kernel_rfl) rfl #[.slice Ao12 t173.length co12, .slice Ao22 t178.length co22] rfl (by (try simp only [List.map_toArray, List.map_cons, List.map_nil]); first | done | rfl | (simp only [List.length_drop, List.length_take]; rfl)) ?_; (with_reducible refine (laws_eqWordS.calls kj7 _ _ t173 _ _ t178 false _ ?side1 ?side2 ?side3 ?side4 A17.out).mono ?_); (case side1 => repeat (first | exact (Kd.S_reads' HO_6.out).2.2 | (with_reducible refine Kd.C_alloc ?_ _) | (with_reducible refine Kd.C_drewN ?_ _) | (with_reducible refine Kd.C_drew ?_))); (case side2 => exact (Kd.S_reads' HO_6.out).2.1); (case side3 => repeat (first | exact (Kd.S_reads' HO180.out).2.2 | (with_reducible refine Kd.C_alloc ?_ _) | (with_reducible refine Kd.C_drewN ?_ _) | (with_reducible refine Kd.C_drew ?_))); (case side4 => exact (Kd.S_reads' HO180.out).2.1); rintro e w' ⟨rfl, ⟨nd, rfl⟩⟩; refine ⟨_, rfl, ?_⟩))
            go_ret
            exact ⟨by first | rfl | (simp [errW_none, errW_some] <;> rfl) | (simp [*, errW_none, errW_some] <;> rfl), by repeat (first | (with_reducible first | exact HB.out | apply below_alloc | apply pw_below_drewN | apply below_drew1) | exact HB.out)⟩

end Go.Proofs.Ytpidpljngppmiaa.L
