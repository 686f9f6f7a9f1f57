/- The program's SightDistance. Condition: no list too long. -/
import Derived.Test.YtodgnbcfihifiaaSightSeen
import Derived.BigQuiet
import Derived.Test.YtodgnbcfihifiaaPFx1
namespace Go.Proofs.Ytodgnbcfihifiaa.Arr
open Go.RowKit Go.Proofs.YtodgnbcfihifiaaW.PrintWords Go.Proofs.YtodgnbcfihifiaaW.PrintLast Go.Proofs.YtodgnbcfihifiaaW.PrintMore Go.Proofs.Ytodgnbcfihifiaa.U Go.Proofs.Ytodgnbcfihifiaa.F
set_option linter.unusedVariables false
set_option linter.unusedSimpArgs false

/-- The first place where a test holds, -1 where there is none. -/
def ixn (p : Nat → Bool) (n : Nat) : Int := match (List.range n).findIdx? p with | some i => (i : Int) | none => -1
theorem ixn_found (p : Nat → Bool) (n i : Nat) (hi : i < n) (h : ∀ j, j < i → p j = false) (hp : p i = true) : ixn p n = i := by
  unfold ixn
  have : (List.range n).findIdx? p = some i := by
    rw [List.findIdx?_eq_some_iff_getElem]
    refine ⟨by simpa using hi, by simpa using hp, fun j hj => ?_⟩
    simp [h j hj]
  rw [this]
theorem ixn_none (p : Nat → Bool) (n : Nat) (h : ∀ j, j < n → p j = false) : ixn p n = -1 := by
  unfold ixn
  have : (List.range n).findIdx? p = none := by
    rw [List.findIdx?_eq_none_iff]
    intro x hx
    exact h x (List.mem_range.1 hx)
  rw [this]
theorem ixn_any (p : Nat → Bool) (n : Nat) : decide (0 ≤ ixn p n) = !decide (∀ j : Nat, j < n → p j = false) := by
  unfold ixn
  cases h : (List.range n).findIdx? p with
  | none =>
    rw [List.findIdx?_eq_none_iff] at h
    rw [decide_eq_true (p := ∀ j : Nat, j < n → p j = false) (fun j hj => h j (List.mem_range.2 hj))]
    rfl
  | some i =>
    rw [List.findIdx?_eq_some_iff_getElem] at h
    obtain ⟨hi, hp, _⟩ := h
    have hi' : i < n := by simpa using hi
    rw [decide_eq_false (p := ∀ j : Nat, j < n → p j = false) (fun hh => by have := hh i hi'; simp [this] at hp)]
    simp
theorem below_then {w w1 w2 : World} (h1 : Below w.heap.size w w1) (h2 : Below w1.heap.size w1 w2) : Below w.heap.size w w2 := h1.trans (h2.mono h1.size)
/-- A row of numbers that lies in cells. -/
theorem C_of_cells {w : World} {p : Addr} {k : IntKind} {x : List Int} (hm : x.length ≤ 1000000) (h : ∀ j : Nat, j < x.length → w.cell? (p.add j) = some (.int k (rd x (j : Int)))) : Kd.C (Kd.int k) w (some p) x.length x := by
  refine ⟨rfl, by omega, fun _ => ⟨p, rfl, fun j y hj => ?_⟩⟩
  have hj' := (List.getElem?_eq_some_iff.1 hj)
  obtain ⟨hlt, rfl⟩ := hj'
  refine ⟨[.int k x[j]], rfl, rfl, fun i u hu => ?_⟩
  match i, hu with
  | 0, hu =>
    obtain rfl := Option.some.inj hu
    have := h j hlt
    rw [rdA_get x j hlt] at this
    simpa [Kd.int, Kd.scalar] using this
  | i + 1, hu => simp at hu
theorem cells_row {w : World} {g : Nat} {k : IntKind} {x : List Int} {t : TypeId} (h : w.heap[g]? = some (.cells (vals k x) t (0, 0))) : ∀ j : Nat, j < x.length → w.cell? ((⟨g, 0, none⟩ : Addr).add j) = some (.int k (rd x (j : Int))) := by
  intro j hj
  have hadd : (⟨g, 0, none⟩ : Addr).add j = ⟨g, j, none⟩ := by unfold Addr.add; split <;> simp_all
  rw [hadd, cell_of_row w g j _ t (0, 0) h, rdA_get x j hj]
  simp [vals, List.getElem?_eq_getElem hj]
theorem seen2_enters (a : Array Value) (W : World) : (callFunc 50 a).run Try.prog W = .ok (.enter 50 a) W := by kernel_rfl
theorem seen1_enters (a : Array Value) (W : World) : (callFunc 48 a).run Try.prog W = .ok (.enter 48 a) W := by kernel_rfl
set_option maxHeartbeats 1000000 in
set_option maxRecDepth 100000 in
theorem seen2_calls (x : Int) (w : World) : Calls Try.prog 50 #[.int .u8 x] w fun e w' => e = .returned (.bool (decide (6 ≤ x))) ∧ Below w.heap.size w w' := by
  go_enter Try.func50, Try.ntmps50
  go_wp2_with fail
  go_ret
  exact ⟨rfl, Below.refl _ _⟩
set_option maxHeartbeats 1000000 in
set_option maxRecDepth 100000 in
theorem indexFunc_b (A0 : Option Addr) (c0 : Nat) (x : List Int) (w : World) (hr0 : Kd.C (Kd.int .u8) w A0 x.length x) (hn : x.length ≤ 1000000) :
    Calls Try.prog 66 #[.slice A0 x.length c0, .func (.func 50) #[] #[]] w fun e w' => e = .returned (.int .i64 (ixn (fun j => decide (6 ≤ rd x (j : Int))) x.length)) ∧ Below w.heap.size w w' := by
  have hg := seen2_enters
  have HR0 := Aside0.mk hr0
  clear hr0
  go_enter Try.func66, Try.ntmps66
  go_wp2_with fail
  go_loopw [8, 5] (fun v8 v5 wr => ∃ i : Nat, i ≤ x.length ∧ v8 = .int .i64 i ∧ Aside0 (Below w.heap.size w wr) ∧ Aside0 (∀ j : Nat, j < i → decide (6 ≤ rd x (j : Int)) = false)) (fun v8 _ _ => x.length - (intOf v8).toNat)
  case atStart => exact ⟨0, Nat.zero_le _, rfl, ⟨Below.refl _ _⟩, ⟨fun j hj => absurd hj (by omega)⟩⟩
  case round =>
    obtain ⟨i, hi, rfl, HB, HP⟩ := hrel
    by_cases hlt : i < x.length
    · obtain ⟨ad, rfl, hcell⟩ := Kd.at_int (Kd.C_below HR0.out HB.out) (i : Int) (by omega) (by omega)
      rw [Int.toNat_natCast] at hcell
      have HM := Aside0.mk (seen2_calls (rd x (i : Int)) wr)
      cases hp : decide (6 ≤ rd x (i : Int)) with
      | true =>
        have HX := Aside0.mk (ixn_found (fun j => decide (6 ≤ rd x (j : Int))) x.length i hlt HP.out hp)
        rw [hp] at HM
        clear hp
        go_wp2_with (refine HM.out.mono ?_; rintro e w1 ⟨rfl, hb1⟩; have HB1 := Aside0.mk hb1; clear hb1)
        go_ret
        exact ⟨by rw [HX.out]; rfl, below_then HB.out HB1.out⟩
      | false =>
        have HPX := Aside0.mk hp
        rw [hp] at HM
        clear hp
        go_wp2_with (refine HM.out.mono ?_; rintro e w1 ⟨rfl, hb1⟩; have HB1 := Aside0.mk hb1; clear hb1)
        go_roundw
        case rel => exact ⟨i + 1, by omega, by go_num, ⟨below_then HB.out HB1.out⟩, ⟨fun j hj => by
          rcases Nat.lt_or_ge j i with h | h
          · exact HP.out j h
          · obtain rfl : j = i := by omega
            exact HPX.out⟩⟩
        case measure => simp [intOf]; omega
    · obtain rfl : i = x.length := by omega
      have HX := Aside0.mk (ixn_none (fun j => decide (6 ≤ rd x (j : Int))) x.length HP.out)
      go_wp2_with fail
      go_ret
      exact ⟨by rw [HX.out]; rfl, HB.out⟩
set_option maxHeartbeats 1000000 in
set_option maxRecDepth 100000 in
theorem containsFunc_b (A0 : Option Addr) (c0 : Nat) (x : List Int) (w : World) (hr0 : Kd.C (Kd.int .u8) w A0 x.length x) (hx : x.length = 6) :
    Calls Try.prog 49 #[.slice A0 x.length c0, .func (.func 50) #[] #[]] w fun e w' => e = .returned (.bool (!okS x)) ∧ Below w.heap.size w w' := by
  have HM := Aside0.mk (indexFunc_b A0 c0 x w hr0 (by omega))
  have HA := Aside0.mk (ixn_any (fun j => decide (6 ≤ rd x (j : Int))) x.length)
  have HO := Aside0.mk (show okS x = decide (∀ j : Nat, j < x.length → decide (6 ≤ rd x (j : Int)) = false) by
    unfold okS
    rw [hx]
    congr 1
    apply propext
    exact ⟨fun h j hj => decide_eq_false (by have := h j hj; omega), fun h j hj => by have := of_decide_eq_false (h j hj); omega⟩)
  clear hr0 hx
  rw [HO.out]
  generalize ixn (fun j => decide (6 ≤ rd x (j : Int))) x.length = n at *
  generalize decide (∀ j : Nat, j < x.length → decide (6 ≤ rd x (j : Int)) = false) = b at *
  go_enter Try.func49, Try.ntmps49
  go_wp2_with (go_at_call 66; refine HM.out.mono ?_; rintro e w1 ⟨rfl, hb1⟩; have HB1 := Aside0.mk hb1; clear hb1)
  go_ret
  exact ⟨by rw [← HA.out]; rfl, HB1.out⟩
set_option maxHeartbeats 1000000 in
set_option maxRecDepth 100000 in
theorem seen1_calls (x : List Int) (w : World) (hx : x.length = 6) : Calls Try.prog 48 #[.agg (vals .u8 x)] w fun e w' => e = .returned (.bool (!okS x)) ∧ Below w.heap.size w w' := by
  have hm := Mem.start w
  have HCF : Aside0 (∀ g W, W.heap[g]? = some (.cells (vals .u8 x) 56 (0, 0)) → Calls Try.prog 49 #[.slice (some ⟨g, 0, none⟩) 6 6, .func (.func 50) #[] #[]] W fun e w' => e = .returned (.bool (!okS x)) ∧ Below W.heap.size W w') := ⟨fun g W h => by
    have := containsFunc_b (some ⟨g, 0, none⟩) 6 x W (C_of_cells (by omega) (cells_row h)) hx
    rw [hx] at this
    exact this⟩
  clear hx
  go_enter Try.func48, Try.ntmps48
  go_wp2_with (first
    | ((with_reducible refine gt_box 1 56 ?_); refine st_box rfl 1 rfl 56 _ rfl hm rfl (cs := vals .u8 x) rfl ?_; clear hm; intro g w1 hm; have HG := Aside0.mk (hm.mem (n := 0) rfl); have HB := Aside0.mk (hm.done rfl); clear hm)
    | (go_at_call 49; refine (HCF.out g _ HG.out).mono ?_; rintro e w2 ⟨rfl, hb2⟩; have HB2 := Aside0.mk hb2; clear hb2))
  go_ret
  exact ⟨rfl, below_then HB.out HB2.out⟩
end Go.Proofs.Ytodgnbcfihifiaa.Arr
