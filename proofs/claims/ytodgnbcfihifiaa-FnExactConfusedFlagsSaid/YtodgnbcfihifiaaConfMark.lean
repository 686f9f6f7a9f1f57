/- What marks flags and numbers, for the law on confused flags. Condition: no list too long. -/
import Derived.Test.YtodgnbcfihifiaaConfImpl
import Derived.Test.YtodgnbcfihifiaaFlagTo
import Derived.Test.YtodgnbcfihifiaaPFx1
namespace Go.Proofs.Ytodgnbcfihifiaa.Arr
open Go.RowKit Go.Proofs.YtodgnbcfihifiaaW.PrintWords Go.Proofs.YtodgnbcfihifiaaW.PrintLast Go.Proofs.YtodgnbcfihifiaaW.PrintMore Go.Proofs.Ytodgnbcfihifiaa.U Go.Proofs.Ytodgnbcfihifiaa.F
set_option linter.unusedVariables false
set_option linter.unusedSimpArgs false

section
variable {P : Program} {o : Oper} {a : Act} {w : World}
theorem y_store1F {ty : TypeId} {x y : Operand} (ho : o.op = .store ty x y) {g i : Nat} {v u : Value} {cs : Array Value} {t : TypeId} (hx : a.eval x = .pointer (some ⟨g, i, none⟩)) (hy : a.eval y = v) (hc : w.heap[g]? = some (.cells cs t (0, 0))) (hi : cs[i]? = some u) (h1 : OneTy P ty) (hv : v.cells = #[v]) (hv1 : v.oneCell' = true) : (execOp a.eval o).run P w = .ok .skip (w.setCell ⟨g, i, none⟩ v) := by
  have hst : (storeVar ty ⟨g, i, none⟩ v).run P w = .ok () (w.setCell ⟨g, i, none⟩ v) := run_store1 h1.2 hv ((cell_of_row w g i cs t (0, 0) hc).trans hi) (frozen_of_row w g i cs t hc) hv1
  unfold execOp
  simp only [ho, hx, hy, Instr.storeAt, Instr.sureAddr, Sem.run_bind, Sem.run_pure, Result.andThen_ok, hst]
end
/-- A row of numbers that lies in a block of its own, or nowhere. -/
def IR (w : World) (base : Nat) (A : Option Addr) (c : Nat) (xs : List Int) : Prop :=
  xs.length ≤ c ∧ xs.length ≤ 9223372036854775807 ∧ ((A = none ∧ xs.length = 0) ∨ ∃ g cur, A = some ⟨g, 0, none⟩ ∧ base ≤ g ∧ w.heap[g]? = some (.cells cur 2 (0, 0)) ∧ ∀ j : Nat, j < xs.length → cur[j]? = some (.int .i64 (rd xs (j : Int))))
theorem IR.of {w : World} {base : Nat} {v : Value} {xs : List Int} {ok : Nat → Prop} (h : Kd.R (Kd.int .i64) 2 w base ok v xs) : ∃ A c, v = .slice A xs.length c ∧ IR w base A c xs := by
  obtain ⟨_, cs, ⟨hl, h1⟩, h2⟩ := h
  rcases h1 with ⟨rfl, h0⟩ | ⟨g, cap, cur, rfl, hb, hg, hnc, hcm, hsz, htake⟩
  · exact ⟨none, 0, by rw [h0], by omega, by omega, .inl ⟨rfl, h0⟩⟩
  · refine ⟨_, _, rfl, hnc, by simp only [maxLen] at hcm; omega, .inr ⟨g, cur, rfl, hb, hg, fun j hj => ?_⟩⟩
    have h3 := h2.2 j xs[j] (List.getElem?_eq_getElem hj)
    have h4 : List.take 1 (List.drop (j * 1) cs) = [.int .i64 xs[j]] := h3
    have h5 : cs[j]? = some (.int .i64 xs[j]) := by
      have : (List.take 1 (List.drop (j * 1) cs))[0]? = some (.int .i64 xs[j]) := by rw [h4]; rfl
      simpa using this
    have h6 : (cur.toList.take (xs.length * 1))[j]? = cs[j]? := by
      have : cur.toList.take (xs.length * 1) = cs := htake
      rw [this]
    rw [List.getElem?_take_of_lt (by omega), h5] at h6
    rw [rdA_get xs j hj]
    simpa using h6
theorem IR.C {w : World} {base : Nat} {A : Option Addr} {c : Nat} {xs : List Int} (h : IR w base A c xs) : Kd.C (Kd.int .i64) w A xs.length xs := by
  obtain ⟨_, hm, h⟩ := h
  refine ⟨rfl, hm, fun h0 => ?_⟩
  rcases h with ⟨_, h1⟩ | ⟨g, cur, rfl, _, hg, hc⟩
  · omega
  · refine ⟨_, rfl, fun j y hj => ?_⟩
    obtain ⟨hlt, rfl⟩ := List.getElem?_eq_some_iff.1 hj
    refine ⟨[.int .i64 xs[j]], rfl, rfl, fun i u hu => ?_⟩
    match i, hu with
    | 0, hu =>
      obtain rfl := Option.some.inj hu
      have := hc j hlt
      rw [rdA_get xs j hlt] at this
      have hadd : (⟨g, 0, none⟩ : Addr).add (j * 1 + 0) = ⟨g, j, none⟩ := by unfold Addr.add; split <;> simp_all
      show w.cell? ((⟨g, 0, none⟩ : Addr).add (j * 1 + 0)) = _
      rw [hadd, cell_of_row w g j _ _ (0, 0) hg, this]
    | i + 1, hu => simp at hu
theorem IR.lt {w : World} {base : Nat} {A : Option Addr} {c : Nat} {xs : List Int} (h : IR w base A c xs) {g : Nat} (e : A = some ⟨g, 0, none⟩) : base ≤ g ∧ g < w.heap.size := by
  rcases h.2.2 with ⟨h1, _⟩ | ⟨g', cur, h1, hb, hg, hc⟩
  · rw [e] at h1; cases h1
  · rw [e] at h1
    cases h1
    exact ⟨hb, lt_of_some hg⟩
theorem IR.keep {w w' : World} {base : Nat} {A : Option Addr} {c : Nat} {xs : List Int} (h : IR w base A c xs) (hk : ∀ g, A = some ⟨g, 0, none⟩ → w'.heap[g]? = w.heap[g]?) : IR w' base A c xs := by
  refine ⟨h.1, h.2.1, ?_⟩
  rcases h.2.2 with h1 | ⟨g', cur, h1, hb, hg, hc⟩
  · exact .inl h1
  · exact .inr ⟨g', cur, h1, hb, (hk g' h1).trans hg, hc⟩
theorem IR.below {w w' : World} {base : Nat} {A : Option Addr} {c : Nat} {xs : List Int} (h : IR w base A c xs) (hb : Below w.heap.size w w') : IR w' base A c xs := h.keep fun g e => hb.block g (h.lt e).2
/-- One block alone may have changed. -/
structure Upd (w w' : World) (g : Nat) : Prop where
  bel : ∀ B, B ≤ g → Below B w w'
  oth : ∀ k, k ≠ g → w'.heap[k]? = w.heap[k]?
theorem Upd.refl (w : World) (g : Nat) : Upd w w g := ⟨fun _ _ => Below.refl _ _, fun _ _ => rfl⟩
theorem Upd.set {w w' : World} {g : Nat} (h : Upd w w' g) (i : Nat) (v : Value) : Upd w (w'.setCell ⟨g, i, none⟩ v) g :=
  ⟨fun B hB => (h.bel B hB).setCell hB _, fun k hk => (Below.heap_setCell w' ⟨g, i, none⟩ v k hk).trans (h.oth k hk)⟩
theorem add_at (g i : Nat) : (⟨g, 0, none⟩ : Addr).add i = ⟨g, i, none⟩ := by unfold Addr.add; split <;> simp_all
theorem add_at2 (g i j : Nat) : (⟨g, i, none⟩ : Addr).add j = ⟨g, i + j, none⟩ := by unfold Addr.add; split <;> simp_all
def marksF (n : Nat) : List Int := (List.range n).map fun (j : Nat) => 1 + (j : Int)
theorem marksF_length (n : Nat) : (marksF n).length = n := by simp [marksF]
theorem marksF_rd (n j : Nat) (h : j < n) : rd (marksF n) (j : Int) = 1 + (j : Int) := by
  rw [rdA_get _ j (by rw [marksF_length]; exact h)]
  simp [marksF]
set_option maxHeartbeats 4000000 in
set_option maxRecDepth 100000 in
theorem markFlagS_calls (g n : Nat) (cs : Array Value) (w : World) (h : w.heap[g]? = some (.cells cs 67 (0, 0))) (hs : cs.size = n * 24) (hn : n ≤ 1048576) :
    Calls Try.prog 22 #[.slice (some ⟨g, 0, none⟩) n n, .int .i64 1] w fun e w' => e = .returned (.int .i64 (1 + 24 * (n : Int))) ∧ Upd w w' g := by
  have HC := Aside0.mk (show Upd w w g ∧ ∃ cs', w.heap[g]? = some (.cells cs' 67 (0, 0)) ∧ cs'.size = n * 24 from ⟨Upd.refl _ _, cs, h, hs⟩)
  clear h hs
  go_enter Try.func22, Try.ntmps22
  go_wp2_with fail
  go_loopw [5, 1] (fun v5 v1 wr => ∃ i : Nat, i ≤ n ∧ v5 = .int .i64 i ∧ v1 = .int .i64 (1 + 24 * (i : Int)) ∧ Aside0 (Upd w wr g ∧ ∃ cs', wr.heap[g]? = some (.cells cs' 67 (0, 0)) ∧ cs'.size = n * 24)) (fun v5 _ _ => n - (intOf v5).toNat)
  case atStart => exact ⟨0, by omega, rfl, rfl, HC⟩
  case round =>
    clear HC
    obtain ⟨i, hi, rfl, rfl, HU⟩ := hrel
    by_cases hlt : i < n
    · have hltI : (i : Int) < (n : Int) := by omega
      go_wp2_with fail
      go_loopw [6, 1] (fun v6 v1 wq => ∃ j : Nat, j ≤ 24 ∧ v6 = .int .i64 j ∧ v1 = .int .i64 (1 + 24 * (i : Int) + (j : Int)) ∧ Aside0 (Upd w wq g ∧ ∃ cs', wq.heap[g]? = some (.cells cs' 67 (0, 0)) ∧ cs'.size = n * 24)) (fun v6 _ _ => 24 - (intOf v6).toNat)
      case atStart => exact ⟨0, by omega, rfl, by simp, HU⟩
      case round =>
        clear HU
        obtain ⟨j, hj, rfl, rfl, HU⟩ := hrel
        by_cases hjt : j < 24
        · have hjI : (j : Int) < 24 := by omega
          obtain ⟨hu, cs1, hg, hsz⟩ := HU.out
          have HG := Aside0.mk hg
          have hu' := Aside0.mk hu
          have HI := Aside0.mk (show cs1[i * 24 + j]? = some (cs1[i * 24 + j]'(by omega)) from Array.getElem?_eq_getElem _)
          have HSZ := Aside0.mk hsz
          generalize cs1[i * 24 + j]'(by omega) = u at HI
          clear hu hg hsz HU
          have hw : wrap64 (1 + 24 * (i : Int) + (j : Int) + 1) = 1 + 24 * (i : Int) + ((j + 1 : Nat) : Int) := by rw [w64 (by omega) (by omega)]; omega
          have HN := Aside0.mk (show Upd w (wr.setCell ⟨g, i * 24 + j, none⟩ (.int .u8 ((1 + 24 * (i : Int) + (j : Int)) % 256))) g ∧ ∃ cs', (wr.setCell ⟨g, i * 24 + j, none⟩ (.int .u8 ((1 + 24 * (i : Int) + (j : Int)) % 256))).heap[g]? = some (.cells cs' 67 (0, 0)) ∧ cs'.size = n * 24 from ⟨hu'.out.set _ _, _, blk_put HG.out _ _ rfl, by rw [Array.size_setIfInBounds]; exact HSZ.out⟩)
          clear hu' HSZ
          go_wp2_with ((with_reducible refine gt_store 5 ?_); refine store_event rfl rfl rfl (y_store1F rfl (g := g) (i := i * 24 + j) (v := .int .u8 ((1 + 24 * (i : Int) + (j : Int)) % 256)) rfl rfl HG.out HI.out one5 rfl rfl) ?_; rintro _ rfl)
          go_roundw
          case rel => exact ⟨j + 1, by omega, by go_num, by congr 1, HN⟩
          case measure => simp [intOf]; omega
        · have HJ := Aside0.mk (show j = 24 by omega)
          go_wp2_with fail
          go_roundw
          case rel => exact ⟨i + 1, by omega, by go_num, by rw [HJ.out]; congr 1, HU⟩
          case measure => simp [intOf]; omega
    · obtain rfl : i = n := by omega
      go_wp2_with fail
      go_ret
      exact ⟨rfl, HU.out.1⟩
set_option maxHeartbeats 4000000 in
set_option maxRecDepth 100000 in
theorem markInt64S_calls (base : Nat) (A : Option Addr) (c : Nat) (xs : List Int) (w : World) (h : IR w base A c xs) (hn : xs.length ≤ 1048576) :
    Calls Try.prog 23 #[.slice A xs.length c, .int .i64 1] w fun e w' => e = .returned (.int .i64 (1 + (xs.length : Int))) ∧ IR w' base A c (marksF xs.length) ∧ Below base w w' ∧ ∀ k, A ≠ some ⟨k, 0, none⟩ → w'.heap[k]? = w.heap[k]? := by
  obtain ⟨h1, h2, h3⟩ := h
  rcases h3 with ⟨rfl, h0⟩ | ⟨g, cur, rfl, hb, hg, hc⟩
  · rw [h0] at h1 ⊢
    clear h0 hn h2
    go_enter Try.func23, Try.ntmps23
    go_wp2_with fail
    go_loopw [5, 1] (fun v5 v1 wr => v5 = .int .i64 0 ∧ v1 = .int .i64 1 ∧ wr = w) (fun v5 _ _ => 0)
    case atStart => exact ⟨rfl, rfl, rfl⟩
    case round =>
      obtain ⟨rfl, rfl, rfl⟩ := hrel
      go_wp2_with fail
      go_ret
      exact ⟨rfl, ⟨h1, by decide, .inl ⟨rfl, rfl⟩⟩, Below.refl _ _, fun _ _ => rfl⟩
  · have HH := Aside0.mk (show xs.length ≤ c ∧ xs.length ≤ 9223372036854775807 ∧ base ≤ g from ⟨h1, h2, hb⟩)
    have HS := Aside0.mk (show ∀ j : Nat, j < xs.length → j < cur.size from fun j hj => (Array.getElem?_eq_some_iff.1 (hc j hj)).1)
    have HC := Aside0.mk (show Upd w w g ∧ ∃ cs, w.heap[g]? = some (.cells cs 2 (0, 0)) ∧ cs.size = cur.size ∧ ∀ j : Nat, j < 0 → cs[j]? = some (.int .i64 (1 + (j : Int))) from ⟨Upd.refl _ _, cur, hg, rfl, fun j hj => absurd hj (by omega)⟩)
    clear h1 h2 hb hg hc
    generalize xs.length = n at *
    go_enter Try.func23, Try.ntmps23
    go_wp2_with fail
    go_loopw [5, 1] (fun v5 v1 wr => ∃ i : Nat, i ≤ n ∧ v5 = .int .i64 i ∧ v1 = .int .i64 (1 + (i : Int)) ∧ Aside0 (Upd w wr g ∧ ∃ cs, wr.heap[g]? = some (.cells cs 2 (0, 0)) ∧ cs.size = cur.size ∧ ∀ j : Nat, j < i → cs[j]? = some (.int .i64 (1 + (j : Int))))) (fun v5 _ _ => n - (intOf v5).toNat)
    case atStart => exact ⟨0, by omega, rfl, rfl, HC⟩
    case round =>
      clear HC
      obtain ⟨i, hi, rfl, rfl, HU⟩ := hrel
      by_cases hlt : i < n
      · have hltI : (i : Int) < (n : Int) := by omega
        obtain ⟨hu, cs1, hg, hsz, hq⟩ := HU.out
        have HG := Aside0.mk hg
        have HI := Aside0.mk (show cs1[i]? = some (cs1[i]'(by rw [hsz]; exact HS.out i hlt)) from Array.getElem?_eq_getElem _)
        generalize cs1[i]'(by rw [hsz]; exact HS.out i hlt) = u at HI
        have HN := Aside0.mk (show Upd w (wr.setCell ⟨g, i, none⟩ (.int .i64 (1 + (i : Int)))) g ∧ ∃ cs, (wr.setCell ⟨g, i, none⟩ (.int .i64 (1 + (i : Int)))).heap[g]? = some (.cells cs 2 (0, 0)) ∧ cs.size = cur.size ∧ ∀ j : Nat, j < i + 1 → cs[j]? = some (.int .i64 (1 + (j : Int))) from ⟨hu.set _ _, _, blk_put hg _ _ rfl, by rw [Array.size_setIfInBounds]; exact hsz, fun j hj => by
          rcases Nat.lt_or_ge j i with h | h
          · rw [Array.getElem?_setIfInBounds_ne (by omega)]
            exact hq j h
          · obtain rfl : j = i := by omega
            rw [Array.getElem?_setIfInBounds_self, if_pos (by rw [hsz]; exact HS.out j hlt)]⟩)
        clear hu hg hsz hq HU
        have hw : wrap64 (1 + (i : Int) + 1) = 1 + ((i + 1 : Nat) : Int) := by rw [w64 (by omega) (by omega)]; omega
        go_wp2_with ((with_reducible refine gt_store 2 ?_); refine store_event rfl rfl rfl (y_store1F rfl (g := g) (i := i) (v := .int .i64 (1 + (i : Int))) rfl rfl HG.out HI.out one2 rfl rfl) ?_; rintro _ rfl)
        go_roundw
        case rel => exact ⟨i + 1, by omega, by go_num, by congr 1, HN⟩
        case measure => simp [intOf]; omega
      · obtain rfl : i = n := by omega
        have HF := Aside0.mk (show (marksF i).length ≤ c ∧ (marksF i).length ≤ 9223372036854775807 by rw [marksF_length]; exact ⟨HH.out.1, HH.out.2.1⟩)
        go_wp2_with fail
        go_ret
        obtain ⟨hu, cs1, hg, hsz, hq⟩ := HU.out
        exact ⟨rfl, ⟨HF.out.1, HF.out.2, .inr ⟨g, cs1, rfl, HH.out.2.2, hg, fun j hj => by rw [marksF_length] at hj; rw [marksF_rd i j hj]; exact hq j hj⟩⟩, hu.bel _ HH.out.2.2, fun k hk => hu.oth k (fun e => hk (by rw [e]))⟩
theorem heldF_l0 (n : Nat) (hb : n ≤ 1048576) : ∀ (d i : Nat), i + d = n → Ev (fun k => laws_heldInt64S.l0 k (marksF n) (1 + i) (i : Int)) (1 + n) := by
  intro d
  induction d with
  | zero =>
    intro i hi
    obtain rfl : i = n := by omega
    exact Ev.step (f := fun _ => some (1 + (i : Int))) (fun k => by simp only [laws_heldInt64S.l0]; rw [marksF_length, if_neg (by omega)]) (cons rfl)
  | succ d ih =>
    intro i hi
    refine Ev.step (f := fun k => laws_heldInt64S.l0 k (marksF n) (1 + ((i + 1 : Nat) : Int)) ((i + 1 : Nat) : Int)) (fun k => ?_) (ih (i + 1) (by omega))
    have hr := marksF_rd n i (by omega)
    simp only [laws_heldInt64S.l0]; rw [marksF_length, if_pos (by omega), if_pos (by omega), if_pos hr, w64 (by omega) (by omega), w64 (by omega) (by omega), show 1 + (i : Int) + 1 = 1 + ((i + 1 : Nat) : Int) by omega]; rfl
theorem heldF_calls (base : Nat) (A : Option Addr) (c n : Nat) (w : World) (h : IR w base A c (marksF n)) (hn : n ≤ 1048576) :
    Calls Try.prog 24 #[.slice A n c, .int .i64 1] w fun e w' => e = .returned (.int .i64 (1 + (n : Int))) ∧ Below w.heap.size w w' := by
  obtain ⟨k, hk⟩ := (show Ev (fun k => laws_heldInt64S.f k (marksF n) 1) (1 + n) by have := heldF_l0 n hn n 0 (by omega); simpa [laws_heldInt64S.f] using this).rounds
  have h2 := laws_heldInt64S.calls k A c (marksF n) 1 (1 + n) w h.C h.1 hk
  rw [marksF_length] at h2
  refine h2.mono ?_
  rintro e w' ⟨rfl, h⟩
  exact ⟨rfl, h.below⟩
theorem eqF_l0 (l : List Int) (hn : l.length ≤ 1048576) : ∀ (d i : Nat), i + d = l.length → Ev (fun k => laws_eqInt64S.l0 k l l (i : Int)) true := by
  intro d
  induction d with
  | zero =>
    intro i hi
    refine Ev.step (f := fun _ => some true) (fun k => ?_) (cons rfl)
    simp only [laws_eqInt64S.l0]; rw [if_neg (by omega)]
  | succ d ih =>
    intro i hi
    refine Ev.step (f := fun k => laws_eqInt64S.l0 k l l ((i + 1 : Nat) : Int)) (fun k => ?_) (ih (i + 1) (by omega))
    simp only [laws_eqInt64S.l0]; rw [if_pos (by omega), if_pos (by omega), if_pos (by omega), if_pos trivial, w64 (by omega) (by omega)]; rfl
theorem eqF_calls (b1 : Nat) (A1 : Option Addr) (c1 : Nat) (b2 : Nat) (A2 : Option Addr) (c2 : Nat) (l : List Int) (w : World) (h1 : IR w b1 A1 c1 l) (h2 : IR w b2 A2 c2 l) (hn : l.length ≤ 1048576) :
    Calls Try.prog 20 #[.slice A1 l.length c1, .slice A2 l.length c2] w fun e w' => e = .returned (.bool true) ∧ Below w.heap.size w w' := by
  obtain ⟨k, hk⟩ := (show Ev (fun k => laws_eqInt64S.f k l l) true by unfold laws_eqInt64S.f; exact pos rfl (eqF_l0 l hn l.length 0 (by omega))).rounds
  refine (laws_eqInt64S.calls k A1 c1 l A2 c2 l true w h1.C h1.1 h2.C h2.1 hk).mono ?_
  rintro e w' ⟨rfl, h⟩
  exact ⟨rfl, h.below⟩
end Go.Proofs.Ytodgnbcfihifiaa.Arr
