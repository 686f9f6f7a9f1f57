/- Lists asked by a function: the first place where a test holds; one element of a row of one cell each. No condition. -/
import Derived.Test.YtmpkgdgbjhegnaaProg
import Derived.Below
import Derived.Deep.Draws
import Derived.Deep.AppendLies
import Derived.Maps.AppendAt
import Derived.OwnWalk
import Derived.Laws.BytesArg
import Derived.Laws.MakeOwn
import Derived.Laws.OwnMore
import Derived.Deep.OwnRows
import Derived.Tactics
import Derived.Lib.ConvBytes
import Derived.Laws.Slices
import Derived.WalkKit
import Derived.KernelRfl
import Derived.RowKit3
import Derived.Deep.LoopGhost
import Derived.Deep.QuietTactic
import Derived.BigQuiet
import Derived.WideLaws
import Derived.Deep.DeepCutAuto
import Derived.Deep.CutBlock
import Derived.Deep.RegionHeld3
import Derived.Laws.Rows
import Derived.Lib.AppendStr
import Derived.ArgAppend
import Derived.Laws.IdiomCopy
import Derived.OrdersHeld
import Derived.Laws.BitsLemmas
import Derived.RowKit
import Derived.WalkSpells
import Derived.Test.YtmpkgdgbjhegnaaWWords
import Derived.Test.YtmpkgdgbjhegnaaWLast
import Derived.Test.YtmpkgdgbjhegnaaWTab
import Derived.Test.YtmpkgdgbjhegnaaWFour
import Derived.Test.YtmpkgdgbjhegnaaWQPut
import Derived.Test.YtmpkgdgbjhegnaaWApart
import Derived.Test.YtmpkgdgbjhegnaaWArr
import Derived.Test.YtmpkgdgbjhegnaaWZeros
import Derived.Test.YtmpkgdgbjhegnaaWFoot
import Derived.Test.YtmpkgdgbjhegnaaWKept
import Derived.Test.YtmpkgdgbjhegnaaWShare
import Derived.Test.YtmpkgdgbjhegnaaWN
import Derived.Test.YtmpkgdgbjhegnaaWFootNe
import Derived.Test.YtmpkgdgbjhegnaaWAt
import Derived.Test.YtmpkgdgbjhegnaaWEqStruct
import Derived.Test.YtmpkgdgbjhegnaaWRepsOne
import Derived.Test.YtmpkgdgbjhegnaaWInv
import Derived.Test.YtmpkgdgbjhegnaaWInvWords
import Derived.Test.YtmpkgdgbjhegnaaWGuard
import Derived.Test.YtmpkgdgbjhegnaaWNEv
import Derived.Test.YtmpkgdgbjhegnaaWMore
import Derived.Test.YtmpkgdgbjhegnaaU
import Derived.Test.YtmpkgdgbjhegnaaArr
import Derived.Test.YtmpkgdgbjhegnaaArrF
namespace Go.Proofs.Ytmpkgdgbjhegnaa.Arr
open Go.RowKit Go.Proofs.YtmpkgdgbjhegnaaW.PrintWords Go.Proofs.YtmpkgdgbjhegnaaW.PrintLast Go.Proofs.YtmpkgdgbjhegnaaW.PrintMore Go.Proofs.Ytmpkgdgbjhegnaa.U
set_option linter.unusedVariables false
set_option linter.unusedSimpArgs false
/-- The first place where a test holds, -1 where there is none. -/
def ixa {α : Type} (p : α → Bool) (l : List α) : Int := match l.findIdx? p with | some i => (i : Int) | none => -1
theorem ixa_found {α : Type} (p : α → Bool) (l : List α) (i : Nat) (x : α) (hi : l[i]? = some x) (h : ∀ j, j < i → ∀ y, l[j]? = some y → p y = false) (hp : p x = true) : ixa p l = i := by
  unfold ixa
  have hl := (List.getElem?_eq_some_iff.1 hi).1
  have hx := (List.getElem?_eq_some_iff.1 hi).2
  have : l.findIdx? p = some i := by
    rw [List.findIdx?_eq_some_iff_getElem]
    refine ⟨hl, by rw [hx]; exact hp, fun j hj => ?_⟩
    simp [h j hj _ (List.getElem?_eq_getElem (by omega))]
  rw [this]
theorem ixa_none {α : Type} (p : α → Bool) (l : List α) (h : ∀ j, j < l.length → ∀ y, l[j]? = some y → p y = false) : ixa p l = -1 := by
  unfold ixa
  have : l.findIdx? p = none := by
    rw [List.findIdx?_eq_none_iff]
    intro x hx
    obtain ⟨j, hj, rfl⟩ := List.getElem_of_mem hx
    exact h j hj _ (List.getElem?_eq_getElem hj)
  rw [this]
theorem ixa_any {α : Type} (p : α → Bool) (l : List α) : decide (0 ≤ ixa p l) = l.any p := by
  unfold ixa
  cases h : l.findIdx? p with
  | none =>
    rw [List.findIdx?_eq_none_iff] at h
    have : l.any p = false := by rw [List.any_eq_false]; intro x hx; simp [h x hx]
    rw [this]; rfl
  | some i =>
    rw [List.findIdx?_eq_some_iff_getElem] at h
    obtain ⟨hi, hp, _⟩ := h
    have : l.any p = true := List.any_eq_true.2 ⟨_, List.getElem_mem hi, hp⟩
    rw [this]; simp
theorem at_scalar {α : Type} {enc : α → Value} {h1 : ∀ x, (enc x).oneCell' = true} {w : World} {A : Option Addr} {n : Nat} {xs : List α} (h : Kd.C (Kd.scalar enc h1) w A n xs) (i : Nat) (x : α) (hx : xs[i]? = some x) (hi : i < n) :
    ∃ ad, A = some ad ∧ w.cell? (ad.add i) = some (enc x) := by
  obtain ⟨ad, c, e, _, hK, hc⟩ := Kd.C_get h x (i : Int) (by omega) (by omega)
  refine ⟨ad, e, ?_⟩
  rw [Int.toNat_natCast, List.getD_eq_getElem?_getD, hx] at hK
  have hK' : c = [enc x] := hK
  have := hc 0 (enc x) (by rw [hK']; rfl)
  rwa [Int.toNat_natCast, Nat.add_zero, show (Kd.scalar enc h1).sz = 1 from rfl, Nat.mul_one] at this
/-- A row of places in one block. -/
def ptrk (g : Nat) : Kd Nat := Kd.scalar (fun i : Nat => .pointer (some ⟨g, i, none⟩)) (fun _ => rfl)
theorem below_then {w w1 w2 : World} (h1 : Below w.heap.size w w1) (h2 : Below w1.heap.size w1 w2) : Below w.heap.size w w2 := h1.trans (h2.mono h1.size)

set_option maxHeartbeats 4000000 in
set_option maxRecDepth 100000 in
theorem indexFunc_ptr (g : FuncId) (hg : ∀ (a : Array Value) (W : World), (callFunc g a).run Try.prog W = .ok (.enter g a) W) (cap : Array Value) (b : Nat) (p : Nat → Bool) (A0 : Option Addr) (c0 : Nat) (l0 : List Nat) (w : World) (hr0 : Kd.C (ptrk b) w A0 l0.length l0) (hc0 : l0.length ≤ c0)
   (hf : ∀ x ∈ l0, ∀ W, Below w.heap.size w W → Calls Try.prog g (#[.pointer (some ⟨b, x, none⟩)] ++ cap) W fun e W' => e = .returned (.bool (p x)) ∧ Below W.heap.size W W') :
   Calls Try.prog 83 #[.slice A0 l0.length c0, .func (.func g) #[] cap] w fun e w' => e = .returned (.int .i64 (ixa p l0)) ∧ Below w.heap.size w w' := by
  have HF := Aside0.mk hf
  have HR0 := Aside0.mk hr0
  have hmx := Kd.C_max hr0
  clear hf hr0
  go_enter Try.func83, Try.ntmps83
  go_wp2_with fail
  go_loopw [8, 5] (fun v8 v5 wr => ∃ i : Nat, i ≤ l0.length ∧ v8 = .int .i64 i ∧ Aside0 (Below w.heap.size w wr) ∧ Aside0 (∀ j, j < i → ∀ y, l0[j]? = some y → p y = false)) (fun v8 _ _ => l0.length - (intOf v8).toNat)
  case atStart => exact ⟨0, Nat.zero_le _, rfl, ⟨Below.refl _ _⟩, ⟨fun j hj => absurd hj (by omega)⟩⟩
  case round =>
    obtain ⟨i, hi, rfl, HB, HP⟩ := hrel
    by_cases hlt : i < l0.length
    · obtain ⟨x, hx⟩ : ∃ x, l0[i]? = some x := ⟨_, List.getElem?_eq_getElem hlt⟩
      obtain ⟨ad, rfl, hcell⟩ := at_scalar (Kd.C_below HR0.out HB.out) i x hx hlt
      have HM := Aside0.mk (HF.out x (List.mem_of_getElem? hx) _ HB.out)
      have HX := Aside0.mk hx
      clear hx
      cases hp : p x with
      | true =>
        have HPX := Aside0.mk hp
        rw [hp] at HM
        clear hp
        go_wp2_with (refine HM.out.mono ?_; rintro e w1 ⟨rfl, hb1⟩; have HB1 := Aside0.mk hb1; clear hb1)
        go_ret
        exact ⟨by rw [ixa_found p l0 i x HX.out HP.out HPX.out]; rfl, below_then HB.out HB1.out⟩
      | false =>
        have HPX := Aside0.mk hp
        rw [hp] at HM
        clear hp
        go_wp2_with (refine HM.out.mono ?_; rintro e w1 ⟨rfl, hb1⟩; have HB1 := Aside0.mk hb1; clear hb1)
        go_roundw
        case rel => exact ⟨i + 1, by omega, by go_num, ⟨below_then HB.out HB1.out⟩, ⟨fun j hj y hy => by
          rcases Nat.lt_or_ge j i with h | h
          · exact HP.out j h y hy
          · obtain rfl : j = i := by omega
            rw [HX.out] at hy
            rw [← Option.some.inj hy]; exact HPX.out⟩⟩
        case measure => simp [intOf]; omega
    · have HI := Aside0.mk (show i = l0.length by omega)
      go_wp2_with fail
      go_ret
      exact ⟨by rw [ixa_none p l0 (fun j hj => HP.out j (by rw [HI.out]; exact hj))]; rfl, HB.out⟩

set_option maxHeartbeats 4000000 in
set_option maxRecDepth 100000 in
theorem containsFunc_ptr (g : FuncId) (hg : ∀ (a : Array Value) (W : World), (callFunc g a).run Try.prog W = .ok (.enter g a) W) (cap : Array Value) (b : Nat) (p : Nat → Bool) (A0 : Option Addr) (c0 : Nat) (l0 : List Nat) (w : World) (hr0 : Kd.C (ptrk b) w A0 l0.length l0) (hc0 : l0.length ≤ c0)
   (hf : ∀ x ∈ l0, ∀ W, Below w.heap.size w W → Calls Try.prog g (#[.pointer (some ⟨b, x, none⟩)] ++ cap) W fun e W' => e = .returned (.bool (p x)) ∧ Below W.heap.size W W') :
   Calls Try.prog 58 #[.slice A0 l0.length c0, .func (.func g) #[] cap] w fun e w' => e = .returned (.bool (l0.any p)) ∧ Below w.heap.size w w' := by
  have HM := Aside0.mk (indexFunc_ptr g hg cap b p A0 c0 l0 w hr0 hc0 hf)
  have HA := Aside0.mk (ixa_any p l0)
  clear hf hr0 hg hc0
  generalize ixa p l0 = n at *
  generalize l0.any p = b at *
  go_enter Try.func58, Try.ntmps58
  go_wp2_with (go_at_call 83; refine HM.out.mono ?_; rintro e w1 ⟨rfl, hb1⟩; have HB1 := Aside0.mk hb1; clear hb1)
  go_ret
  exact ⟨by rw [← HA.out]; rfl, HB1.out⟩

end Go.Proofs.Ytmpkgdgbjhegnaa.Arr
