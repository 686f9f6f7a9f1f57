/- The texts that the statement FnHoisted needs, part 3: contracts of the program's functions and plain laws, without what it does not reach. No condition beyond what each theorem says. -/
import Derived.Below
import Derived.Deep.Draws
import Derived.Deep.AppendLies
import Derived.Maps.AppendAt
import Derived.OwnWalk
import Derived.Laws.BytesArg
import Derived.Laws.MakeOwn
import Derived.Laws.OwnMore
import Derived.Deep.OwnRows
import Derived.Tactics
import Derived.Lib.ConvBytes
import Derived.Laws.Slices
import Derived.WalkKit
import Derived.KernelRfl
import Derived.RowKit3
import Derived.Deep.LoopGhost
import Derived.Deep.QuietTactic
import Derived.BigQuiet
import Derived.WideLaws
import Derived.Deep.DeepCutAuto
import Derived.Deep.CutBlock
import Derived.Deep.RegionHeld3
import Derived.Laws.Rows
import Derived.Lib.AppendStr
import Derived.ArgAppend
import Derived.Laws.IdiomCopy
import Derived.RowKit
import Derived.Laws.Tables
import Derived.BigFrame
import Derived.Laws.CopyRow
import Derived.Laws.ResultCell
import Derived.OrdersHeld
import Derived.Laws.BitsLemmas
import Derived.Laws.StructEq
import Derived.Test.YtfdjgomocbniaaaProg
import Derived.WalkSpells
import Derived.StillTailTactics
import Derived.Laws.BitsAllLaws
import Derived.ProofKit
import Derived.OpenShut
import Derived.Deep.Slices
import Derived.Lib.SmallJoins
import Derived.ChangeSame
import Derived.Test.YtfdjgomocbniaaaRows
import Derived.ShutString
import Derived.ChangeOld
import Derived.SizedLaws
import Derived.Test.YtfdjgomocbniaaaZFnHoisted2
namespace Go.Proofs.Ytfdjgomocbniaaa.Arr
open Go.RowKit Go.Proofs.YtfdjgomocbniaaaW.PrintWords Go.Proofs.YtfdjgomocbniaaaW.PrintLast Go.Proofs.YtfdjgomocbniaaaW.PrintMore Go.Proofs.Ytfdjgomocbniaaa.U Go.Proofs.Ytfdjgomocbniaaa.K
set_option linter.unusedVariables false
set_option linter.unusedSimpArgs false
set_option maxHeartbeats 1000000 in
set_option maxRecDepth 100000 in
theorem indexFunc_i8 (g : FuncId) (hg : ∀ (a : Array Value) (W : World), (callFunc g a).run Try.prog W = .ok (.enter g a) W) (cap : Array Value) (p : Int → Bool) (A0 : Option Addr) (c0 : Nat) (l0 : List Int) (w : World) (hr0 : Kd.C (Kd.int .i8) w A0 l0.length l0) (hc0 : l0.length ≤ c0)
  (hf : ∀ x ∈ l0, ∀ W, Below w.heap.size w W → Calls Try.prog g (#[.int .i8 x] ++ cap) W fun e W' => e = .returned (.bool (p x)) ∧ Below W.heap.size W W') :
  Calls Try.prog 51 #[.slice A0 l0.length c0, .func (.func g) #[] cap] w fun e w' => e = .returned (.int .i64 (ixa p l0)) ∧ Below w.heap.size w w' := by
 have HF := Aside0.mk hf
 have HR0 := Aside0.mk hr0
 have hm := Kd.C_max hr0
 clear hf hr0
 go_enter Try.func51, Try.ntmps51
 go_wp2_with fail
 go_loopw [8, 5] (fun v8 v5 wr => ∃ i : Nat, i ≤ l0.length ∧ v8 = .int .i64 i ∧ Aside0 (Below w.heap.size w wr) ∧ Aside0 (∀ j, j < i → ∀ y, l0[j]? = some y → p y = false)) (fun v8 _ _ => l0.length - (intOf v8).toNat)
 case atStart => exact ⟨0, Nat.zero_le _, rfl, ⟨Below.refl _ _⟩, ⟨fun j hj => absurd hj (by omega)⟩⟩
 case round =>
  obtain ⟨i, hi, rfl, HB, HP⟩ := hrel
  by_cases hlt : i < l0.length
  ·obtain ⟨ad, rfl, hcell⟩ := Kd.at_int (Kd.C_below HR0.out HB.out) (i : Int) (by omega) (by omega)
   rw [Int.toNat_natCast] at hcell
   have HM := Aside0.mk (HF.out (rd l0 (i : Int)) (by rw [rd_get l0 i hlt]; exact List.getElem_mem hlt) wr HB.out)
   have HX : Aside0 (l0[i]? = some (rd l0 (i : Int))) := ⟨by rw [rd_get l0 i hlt, List.getElem?_eq_getElem hlt]⟩
   generalize rd l0 (i : Int) = x at *
   cases hp : p x with
   | true =>
    have HPX := Aside0.mk hp
    rw [hp] at HM
    clear hp
    go_wp2_with (refine HM.out.mono ?_; rintro e w1 ⟨rfl, hb1⟩; have HB1 := Aside0.mk hb1; clear hb1)
    go_ret
    exact ⟨by rw [ixa_found p l0 i x HX.out HP.out HPX.out]; rfl, below_then HB.out HB1.out⟩
   | false =>
    have HPX := Aside0.mk hp
    rw [hp] at HM
    clear hp
    go_wp2_with (refine HM.out.mono ?_; rintro e w1 ⟨rfl, hb1⟩; have HB1 := Aside0.mk hb1; clear hb1)
    go_roundw
    case rel => exact ⟨i + 1, by omega, by go_num, ⟨HB.out.trans (HB1.out.mono HB.out.size)⟩, ⟨fun j hj y hy => by
     rcases Nat.lt_or_ge j i with h | h
     ·exact HP.out j h y hy
     ·obtain rfl : j = i := by omega
      rw [HX.out] at hy
      rw [← Option.some.inj hy]; exact HPX.out⟩⟩
    case measure => simp [intOf]; omega
  ·have HI := Aside0.mk (show i = l0.length by omega)
   go_wp2_with fail
   go_ret
   exact ⟨by rw [ixa_none p l0 (fun j hj => HP.out j (by rw [HI.out]; exact hj))]; rfl, HB.out⟩
set_option maxHeartbeats 1000000 in
set_option maxRecDepth 100000 in
theorem containsFunc_i8 (g : FuncId) (hg : ∀ (a : Array Value) (W : World), (callFunc g a).run Try.prog W = .ok (.enter g a) W) (cap : Array Value) (p : Int → Bool) (A0 : Option Addr) (c0 : Nat) (l0 : List Int) (w : World) (hr0 : Kd.C (Kd.int .i8) w A0 l0.length l0) (hc0 : l0.length ≤ c0)
  (hf : ∀ x ∈ l0, ∀ W, Below w.heap.size w W → Calls Try.prog g (#[.int .i8 x] ++ cap) W fun e W' => e = .returned (.bool (p x)) ∧ Below W.heap.size W W') :
  Calls Try.prog 47 #[.slice A0 l0.length c0, .func (.func g) #[] cap] w fun e w' => e = .returned (.bool (l0.any p)) ∧ Below w.heap.size w w' := by
 have HM := Aside0.mk (indexFunc_i8 g hg cap p A0 c0 l0 w hr0 hc0 hf)
 have HA := Aside0.mk (ixa_any p l0)
 clear hf hr0 hg hc0
 generalize ixa p l0 = n at *
 generalize l0.any p = b at *
 go_enter Try.func47, Try.ntmps47
 go_wp2_with (go_at_call 51; refine HM.out.mono ?_; rintro e w1 ⟨rfl, hb1⟩; have HB1 := Aside0.mk hb1; clear hb1)
 go_ret
 exact ⟨by rw [← HA.out]; rfl, HB1.out⟩
def oddM (n : Int) : Bool := decide (n < 0) && decide (n ≠ -10)
def plainM (m : List Int) : Bool := okH m && !m.any oddM
theorem plainM_N {m : List Int} (h : plainM m = true) : (∀ x ∈ m, PlainN x) ∧ 1 ≤ m.length ∧ m.length ≤ 8 := by
 unfold plainM at h
 rw [Bool.and_eq_true, Bool.not_eq_true', List.any_eq_false] at h
 refine ⟨fun x hx => ?_, (okH_len h.1).1, (okH_len h.1).2⟩
 have h1 := okH_num h.1 x hx
 have h2 := h.2 x hx
 unfold oddM at h2
 rw [Bool.and_eq_true, decide_eq_true_eq, decide_eq_true_eq] at h2
 unfold PlainN
 omega
set_option maxHeartbeats 1000000 in
set_option maxRecDepth 100000 in
theorem validMeaning1 (x : Int) (w : World) : Calls Try.prog 48 (#[.int .i8 x] ++ #[]) w fun e w' => e = .returned (.bool (oddM x)) ∧ Below w.heap.size w w' := by
 show Calls Try.prog 48 #[.int .i8 x] w _
 by_cases h0 : x < 0
 ·by_cases h1 : x = -10
  ·subst h1
   rw [show oddM (-10) = false from rfl]
   go_enter Try.func48, Try.ntmps48
   go_wp2
   go_ret
   exact ⟨rfl, Below.refl _ _⟩
  ·have h2 : (x != -10) = true := by rw [bne_iff_ne]; exact h1
   rw [show oddM x = true by unfold oddM; rw [decide_eq_true h0, decide_eq_true h1]; rfl]
   clear h1
   go_enter Try.func48, Try.ntmps48
   go_wp2
   go_ret
   exact ⟨rfl, Below.refl _ _⟩
 ·rw [show oddM x = false by unfold oddM; rw [decide_eq_false h0]; rfl]
  go_enter Try.func48, Try.ntmps48
  go_wp2
  go_ret
  exact ⟨rfl, Below.refl _ _⟩
theorem validMeaning1_enters (a : Array Value) (W : World) : (callFunc 48 a).run Try.prog W = .ok (.enter 48 a) W := by kernel_rfl
set_option maxHeartbeats 2000000 in
set_option maxRecDepth 100000 in
theorem validMeaning_calls (A0 : Option Addr) (c0 : Nat) (m : List Int) (w : World) (hr : Kd.C (Kd.int .i8) w A0 m.length m) (hc : m.length ≤ c0) (hs : Small8 m) :
  Calls Try.prog 33 #[.slice A0 m.length c0] w fun e w' => e = .returned (.bool (plainM m)) ∧ Below w.heap.size w w' := by
 have HV := Aside0.mk (validHoist_calls A0 c0 m w hr hc hs.1 hs.2)
 have HCF : Aside0 (∀ W, Below w.heap.size w W → Calls Try.prog 47 #[.slice A0 m.length c0, .func (.func 48) #[] #[]] W fun e w' => e = .returned (.bool (m.any oddM)) ∧ Below W.heap.size W w') := ⟨fun W hW =>
  containsFunc_i8 _ validMeaning1_enters #[] oddM A0 c0 m W (Kd.C_below hr hW) hc fun x _ W1 _ => validMeaning1 x W1⟩
 unfold plainM
 clear hr hs
 generalize m.any oddM = b2 at *
 generalize okH m = b1 at *
 cases b1
 ·go_enter Try.func33, Try.ntmps33
  go_wp2_with (go_at_call 27; refine HV.out.mono ?_; rintro e w1 ⟨rfl, hb1⟩; have HB1 := Aside0.mk hb1; clear hb1)
  go_ret
  exact ⟨rfl, HB1.out⟩
 ·go_enter Try.func33, Try.ntmps33
  go_wp2_with (first
   | (go_at_call 27; refine HV.out.mono ?_; rintro e w1 ⟨rfl, hb1⟩; have HB1 := Aside0.mk hb1; clear hb1)
   | (go_at_call 47; refine (HCF.out _ HB1.out).mono ?_; rintro e w2 ⟨rfl, hb2⟩; have HB2 := Aside0.mk hb2; clear hb2))
  go_ret
  exact ⟨rfl, HB1.out.trans (HB2.out.mono HB1.out.size)⟩
def codeM (m : List Int) (sets subs : Int) : Int := if plainM m = true then (if (1 ≤ sets ∧ sets ≤ 8) ∧ (0 ≤ subs ∧ subs ≤ 4) then 0 else 2) else 1
theorem unless_ev' (b : Bool) (a : Int) : impl_unless.f b a = some (if b = true then 0 else a) := by
 unfold impl_unless.f; cases b <;> rfl
set_option maxHeartbeats 2000000 in
set_option maxRecDepth 100000 in
theorem hoistCode_calls (A0 : Option Addr) (c0 : Nat) (m : List Int) (sets subs : Int) (w : World) (hr : Kd.C (Kd.int .i8) w A0 m.length m) (hc : m.length ≤ c0) (hs : Small8 m) :
  Calls Try.prog 18 #[.slice A0 m.length c0, .int .i64 sets, .int .i64 subs] w fun e w' => e = .returned (.int .i64 (codeM m sets subs)) ∧ Below w.heap.size w w' := by
 have HV := Aside0.mk (validMeaning_calls A0 c0 m w hr hc hs)
 unfold codeM
 clear hr hs
 generalize plainM m = b1 at *
 cases b1
 ·go_enter Try.func18, Try.ntmps18
  go_wp2_with (go_at_call 33; refine HV.out.mono ?_; rintro e w1 ⟨rfl, hb1⟩; have HB1 := Aside0.mk hb1; clear hb1)
  go_ret
  exact ⟨rfl, HB1.out⟩
 ·rw [if_pos rfl]
  by_cases h1 : 1 ≤ sets ∧ sets ≤ 8
  ·have HW1 := Aside0.mk (show impl_within.f sets 1 8 = some true by rw [within_ev', decide_eq_true h1])
   have HW2 := Aside0.mk (within_ev' subs 0 4)
   have HU := Aside0.mk (fun b => unless_ev' b 2)
   have HE := Aside0.mk (show (if (1 ≤ sets ∧ sets ≤ 8) ∧ (0 ≤ subs ∧ subs ≤ 4) then (0 : Int) else 2) = if (decide (0 ≤ subs ∧ subs ≤ 4)) = true then 0 else 2 by
    by_cases h2 : 0 ≤ subs ∧ subs ≤ 4
    ·rw [if_pos ⟨h1, h2⟩, decide_eq_true h2, if_pos rfl]
    ·rw [if_neg (fun h => h2 h.2), decide_eq_false h2, if_neg (by decide)])
   rw [HE.out]
   clear h1 HE
   generalize decide (0 ≤ subs ∧ subs ≤ 4) = b2 at *
   go_enter Try.func18, Try.ntmps18
   go_wp2_with (first
    | (go_at_call 33; refine HV.out.mono ?_; rintro e w1 ⟨rfl, hb1⟩; have HB1 := Aside0.mk hb1; clear hb1)
    | (go_at_call 35; ((with_reducible refine (impl_within.calls sets 1 8 true _ HW1.out).mono ?_); rintro e w2 ⟨rfl, ⟨n2, rfl⟩⟩))
    | (go_at_call 35; ((with_reducible refine (impl_within.calls subs 0 4 b2 _ HW2.out).mono ?_); rintro e w2 ⟨rfl, ⟨n2, rfl⟩⟩))
    | (go_at_call 34; refine (impl_unless.calls _ _ _ _ (HU.out _)).mono ?_; rintro e w3 ⟨rfl, ⟨n3, rfl⟩⟩))
   all_goals
    go_ret
    exact ⟨rfl, pw_below_drewN HB1.out _⟩
  ·have HW1 := Aside0.mk (show impl_within.f sets 1 8 = some false by rw [within_ev', decide_eq_false h1])
   have HU := Aside0.mk (fun b => unless_ev' b 2)
   have HE := Aside0.mk (show (if (1 ≤ sets ∧ sets ≤ 8) ∧ (0 ≤ subs ∧ subs ≤ 4) then (0 : Int) else 2) = 2 from if_neg (fun h => h1 h.1))
   rw [HE.out]
   clear h1 HE
   go_enter Try.func18, Try.ntmps18
   go_wp2_with (first
    | (go_at_call 33; refine HV.out.mono ?_; rintro e w1 ⟨rfl, hb1⟩; have HB1 := Aside0.mk hb1; clear hb1)
    | (go_at_call 35; refine (impl_within.calls _ _ _ _ _ HW1.out).mono ?_; rintro e w2 ⟨rfl, ⟨n2, rfl⟩⟩)
    | (go_at_call 34; refine (impl_unless.calls _ _ _ _ (HU.out _)).mono ?_; rintro e w3 ⟨rfl, ⟨n3, rfl⟩⟩))
   go_ret
   exact ⟨rfl, pw_below_drewN HB1.out _⟩
def evenL (sets subs : Int) : List Int := fillTo (fillTo (zs 44) 0 40 sets) 40 subs.toNat sets
theorem evenL_length (sets subs : Int) (h : subs ≤ 4) : (evenL sets subs).length = 44 := by
 have h40 : (fillTo (zs 44) 0 40 sets).length = 44 := (fillTo_length (zs 44) 0 40 sets (by rw [zs_length]; omega)).trans zs_length
 exact (fillTo_length _ 40 subs.toNat sets (by omega)).trans h40
theorem rd_evenL (sets subs : Int) (h : subs ≤ 4) (j : Nat) (hj : j < 44) : rd (evenL sets subs) (j : Int) = if j < 40 + subs.toNat then sets else 0 := by
 have h40 : (fillTo (zs 44) 0 40 sets).length = 44 := (fillTo_length (zs 44) 0 40 sets (by rw [zs_length]; omega)).trans zs_length
 have hg : (evenL sets subs)[j]? = some (if j < 40 + subs.toNat then sets else 0) := by
  unfold evenL
  rw [fillTo_get _ 40 subs.toNat sets (by omega), fillTo_get (zs 44) 0 40 sets (by rw [zs_length]; omega)]
  have hz : (zs 44)[j]? = some 0 := by unfold zs; rw [List.getElem?_replicate, if_pos hj]
  rw [hz]
  by_cases h1 : 40 ≤ j
  ·by_cases h2 : j < 40 + subs.toNat
   ·rw [if_pos ⟨h1, h2⟩, if_pos h2]
   ·rw [if_neg (fun h => h2 h.2), if_neg (by omega), if_neg h2]
  ·rw [if_neg (fun h => h1 h.1), if_pos (by omega), if_pos (by omega)]
 rw [rd_get _ j (by rw [evenL_length sets subs h]; exact hj)]
 rw [List.getElem?_eq_getElem (by rw [evenL_length sets subs h]; exact hj)] at hg
 exact Option.some.inj hg
theorem evenL_even (sets subs : Int) (h0 : 0 ≤ subs) (h : subs ≤ 4) : Even (evenL sets subs) sets subs.toNat := by
 refine ⟨evenL_length sets subs h, fun j hj => ?_, fun j hj => ?_, fun j hj hj2 => ?_, by omega⟩
 ·rw [rd_evenL sets subs h j (by omega), if_pos (by omega)]
 ·rw [rd_evenL sets subs h (40 + j) (by omega), if_pos (by omega)]
 ·rw [rd_evenL sets subs h (40 + j) (by omega), if_neg (by omega)]
theorem evenL_b (sets subs : Int) (h : subs ≤ 4) (h0 : 0 ≤ sets) (h1 : sets ≤ 1000000) : ∀ j : Nat, j < 44 → 0 ≤ rd (evenL sets subs) (j : Int) ∧ rd (evenL sets subs) (j : Int) ≤ 1000000 := fun j hj => by
 rw [rd_evenL sets subs h j hj]; split <;> omega
theorem far_nil (sets : Int) (h0 : 0 ≤ sets) (subs : Nat) : Far sets subs [] := ⟨fun x hx => absurd hx (by simp), fun j hj => by
 show rd (zs 44) (j : Int) ≤ sets
 rw [rd_zs]; exact h0⟩
theorem find_even {m : List Int} (hm : ∀ x ∈ m, PlainN x) (sets subs : Int) (hs : 0 < sets) (h0 : 0 ≤ subs) (h : subs ≤ 4) : leaves m 4 (enough (evenL sets subs)) m.length [] 0 = findL m sets subs.toNat :=
 leaves_even hm (evenL_even sets subs h0 h) hs m.length [] 0 (by simp) (far_nil sets (by omega) _)
def hoistW (m : List Int) (sets subs : Int) : List Int × Int := if codeM m sets subs = 0 then (match (findL m sets subs.toNat).head? with | some h => (h, 0) | none => ([], 6)) else ([], codeM m sets subs)
theorem codeM_zero {m : List Int} {sets subs : Int} (h : codeM m sets subs = 0) : plainM m = true ∧ (1 ≤ sets ∧ sets ≤ 8) ∧ (0 ≤ subs ∧ subs ≤ 4) := by
 unfold codeM at h
 split at h
 ·split at h
  ·rename_i h1 h2; exact ⟨h1, h2⟩
  ·cases h
 ·cases h
set_option maxHeartbeats 2000000 in
set_option maxRecDepth 100000 in
theorem implHoistFor_calls (A0 : Option Addr) (c0 : Nat) (m : List Int) (sets subs : Int) (w : World) (hr : Kd.C (Kd.int .i8) w A0 m.length m) (hc : m.length ≤ c0) (hs : Small8 m) :
  Calls Try.prog 7 #[.slice A0 m.length c0, .int .i64 sets, .int .i64 subs] w fun e w' => ∃ v, e = .returned (.tuple #[v, .int .i64 (hoistW m sets subs).2]) ∧ Own w.heap.size w' v (hoistW m sets subs).1 ∧ Below w.heap.size w w' := by
 have HCO := Aside0.mk (hoistCode_calls A0 c0 m sets subs w hr hc hs)
 by_cases hk : codeM m sets subs = 0
 ·obtain ⟨hp, hse, hsu⟩ := codeM_zero hk
  obtain ⟨hN, _, hl⟩ := plainM_N hp
  have HEV := Aside0.mk (fun W => even_calls sets subs W hsu.2 hsu.1)
  have HFI : Aside0 (∀ W, Below w.heap.size w W → Calls Try.prog 19 #[.slice A0 m.length c0, .agg (vals .i64 (fillTo (fillTo (zs 44) 0 40 sets) 40 subs.toNat sets))] W fun e w' => ∃ (v : Value) (b : Bool), e = .returned (.tuple #[v, .bool b]) ∧
    FirstRes W.heap.size (findL m sets subs.toNat).head? v b w' ∧ Below W.heap.size W w') := ⟨fun W hW => by
   rw [← find_even hN sets subs (by omega) hsu.1 hsu.2]
   exact first_calls A0 c0 m (evenL sets subs) W (Kd.C_below hr hW) hc hN (by omega) (evenL_length sets subs hsu.2) (evenL_b sets subs hsu.2 (by omega) (by omega))⟩
  have HRES := Aside0.mk (show hoistW m sets subs = match (findL m sets subs.toNat).head? with | some h => (h, 0) | none => ([], 6) from if_pos hk)
  rw [HRES.out]
  rw [hk] at HCO
  clear hk hp hN hr hs hsu hse HRES
  generalize (findL m sets subs.toNat).head? = s at *
  generalize fillTo (fillTo (zs 44) 0 40 sets) 40 subs.toNat sets = H at *
  cases s with
  | none =>
   go_enter Try.func7, Try.ntmps7
   go_wp2_with (first
    | (go_at_call 18; refine HCO.out.mono ?_; rintro e w1 ⟨rfl, hb1⟩; have HB1 := Aside0.mk hb1; clear hb1)
    | (go_at_call 20; refine (HEV.out _).mono ?_; rintro e w2 ⟨rfl, hb2⟩; have HB2 := Aside0.mk (HB1.out.trans (hb2.mono HB1.out.size)); clear hb2)
    | (go_at_call 19; refine (HFI.out _ HB2.out).mono ?_; rintro e w3 ⟨v, b, rfl, ⟨rfl, rfl⟩, hb3⟩; have HB3 := Aside0.mk (HB2.out.trans (hb3.mono HB2.out.size)); clear hb3))
   go_ret2
   exact ⟨_, rfl, Kd.R_nil _ _ _ _ _, HB3.out⟩
  | some h =>
   go_enter Try.func7, Try.ntmps7
   go_wp2_with (first
    | (go_at_call 18; refine HCO.out.mono ?_; rintro e w1 ⟨rfl, hb1⟩; have HB1 := Aside0.mk hb1; clear hb1)
    | (go_at_call 20; refine (HEV.out _).mono ?_; rintro e w2 ⟨rfl, hb2⟩; have HB2 := Aside0.mk (HB1.out.trans (hb2.mono HB1.out.size)); clear hb2)
    | (go_at_call 19; refine (HFI.out _ HB2.out).mono ?_; rintro e w3 ⟨v, b, rfl, ⟨rfl, ho⟩, hb3⟩; have HB3 := Aside0.mk (HB2.out.trans (hb3.mono HB2.out.size)); have HO := Aside0.mk (own_lower ho HB2.out.size); clear hb3 ho))
   go_ret2
   exact ⟨v, rfl, HO.out, HB3.out⟩
 ·have HRES := Aside0.mk (show hoistW m sets subs = ([], codeM m sets subs) from if_neg hk)
  rw [HRES.out]
  have hk1 : (codeM m sets subs != 0) = true := by rw [bne_iff_ne]; exact hk
  clear hk hr hs HRES
  generalize codeM m sets subs = q at *
  go_enter Try.func7, Try.ntmps7
  go_wp2_with (go_at_call 18; refine HCO.out.mono ?_; rintro e w1 ⟨rfl, hb1⟩; have HB1 := Aside0.mk hb1; clear hb1)
  go_ret2
  exact ⟨_, rfl, Kd.R_nil _ _ _ _ _, HB1.out⟩
theorem l02Plain_ev (m : List Int) (hs : Small8 m) : Ev (fun k => spec_l02Plain.f k m) (plainM m) := by
 unfold spec_l02Plain.f
 have hok : ∀ r, okH m = r → Ev (fun k => (spec_l02Ok.f k m).bind fun t => some t) r := fun r hr => by
  refine Ev.bind (a := r) ?_ (cons rfl)
  subst hr
  unfold spec_l02Ok.f
  refine Ev.bind (l02Read_ev m hs.1 hs.2) (cons ?_)
  unfold okH
  cases readH m <;> rfl
 have hany : ∀ i : Nat, i < m.length → oddM (rd m (i : Int)) = true → plainM m = false := fun i hi ho => by
  unfold plainM
  rw [List.any_eq_true.2 ⟨rd m (i : Int), by rw [rd_get m i hi]; exact List.getElem_mem hi, ho⟩]
  simp
 refine iter (F := fun k (s : Int) => spec_l02Plain.l0 k m s) (fun i s => s = (i : Int) ∧ ∀ j, j < i → oddM (rd m (j : Int)) = false) _ m.length ?_ ?_ 0 0 (by omega) ⟨rfl, fun j hj => absurd hj (by omega)⟩
 ·rintro i s hi ⟨rfl, hP⟩
  have hl := hs.1
  cases ho : oddM (rd m (i : Int)) with
  | true =>
   refine .inr ?_
   rw [hany i hi ho]
   unfold oddM at ho
   rw [Bool.and_eq_true, decide_eq_true_eq, decide_eq_true_eq] at ho
   refine Ev.step (fun k => by rw [spec_l02Plain.l0]) ?_
   exact pos (by omega) (pos (by omega) (pos ho.1 (neg ho.2 (cons rfl))))
  | false =>
   refine .inl ⟨((i + 1 : Nat) : Int), ⟨rfl, fun j hj => ?_⟩, fun hgo => ?_⟩
   ·rcases Nat.lt_or_ge j i with h | h
    ·exact hP j h
    ·obtain rfl : j = i := by omega
     exact ho
   ·have hgo2 : Ev (fun k => spec_l02Plain.l0 k m (wrap64 ((i : Int) + 1))) (plainM m) := by rw [w64 (by omega) (by omega)]; exact hgo
    refine Ev.step (fun k => by rw [spec_l02Plain.l0]) ?_
    refine pos (by omega) (pos (by omega) ?_)
    by_cases h0 : rd m (i : Int) < 0
    ·refine pos h0 (pos ?_ hgo2)
     unfold oddM at ho
     rw [decide_eq_true h0, Bool.true_and, decide_eq_false_iff_not] at ho
     omega
    ·exact neg h0 hgo2
 ·rintro s ⟨rfl, hP⟩
  refine Ev.step (fun k => by rw [spec_l02Plain.l0]) ?_
  refine neg (by omega) (hok _ ?_)
  unfold plainM
  have : m.any oddM = false := by
   rw [List.any_eq_false]
   intro x hx
   obtain ⟨j, hj, rfl⟩ := List.getElem_of_mem hx
   have := hP j hj
   rw [rd_get m j hj] at this
   simp [this]
  rw [this]; simp
theorem l02Asked_ev (m : List Int) (sets subs : Int) (hs : Small8 m) : Ev (fun k => spec_l02Asked.f k m sets subs) (codeM m sets subs) := by
 unfold spec_l02Asked.f codeM
 refine Ev.bind (l02Plain_ev m hs) ?_
 generalize plainM m = b
 cases b with
 | false => exact neg (show ¬ (false = true) by decide) (cons rfl)
 | true =>
  simp only [if_true]
  refine bindc (in_ev' sets 1 8) ?_
  by_cases h1 : 1 ≤ sets ∧ sets ≤ 8
  ·rw [decide_eq_true h1]
   refine pos rfl (bindc (in_ev' subs 0 4) ?_)
   by_cases h2 : 0 ≤ subs ∧ subs ≤ 4
   ·rw [decide_eq_true h2]; exact pos rfl (cons (if_pos ⟨h1, h2⟩).symm)
   ·rw [decide_eq_false h2]; exact neg (by decide) (cons (if_neg (fun h => h2 h.2)).symm)
  ·rw [decide_eq_false h1]; exact neg (by decide) (cons (if_neg (fun h => h1 h.1)).symm)
theorem l02Asked_calls (A0 : Option Addr) (c0 : Nat) (m : List Int) (sets subs : Int) (w : World) (hr : Kd.C (Kd.int .i8) w A0 m.length m) (hc : m.length ≤ c0) (hs : Small8 m) :
  Calls Try.prog 21 #[.slice A0 m.length c0, .int .i64 sets, .int .i64 subs] w fun e w' => e = .returned (.int .i64 (codeM m sets subs)) ∧ Below w.heap.size w w' := by
 obtain ⟨k, hk⟩ := (l02Asked_ev m sets subs hs).rounds
 exact spec_l02Asked.calls k A0 c0 m sets subs _ w hr hc hk
set_option maxHeartbeats 4000000 in
set_option maxRecDepth 100000 in
theorem specHoistFor_calls (A0 : Option Addr) (c0 : Nat) (m : List Int) (sets subs : Int) (w : World) (hr : Kd.C (Kd.int .i8) w A0 m.length m) (hc : m.length ≤ c0) (hs : Small8 m) :
  Calls Try.prog 8 #[.slice A0 m.length c0, .int .i64 sets, .int .i64 subs] w fun e w' => ∃ v, e = .returned (.tuple #[v, .int .i64 (hoistW m sets subs).2]) ∧ Own w.heap.size w' v (hoistW m sets subs).1 ∧ Below w.heap.size w w' := by
 have HCO := Aside0.mk (l02Asked_calls A0 c0 m sets subs w hr hc hs)
 have hown : ∀ W, Below w.heap.size w W → Own w.heap.size (W.alloc (.cells #[] 64)) (.slice (some ⟨W.heap.size, 0, none⟩) 0 0) [] := fun W hW => own_lit0 W w.heap.size hW.size
 have HOW := Aside0.mk hown
 clear hown
 by_cases hk : codeM m sets subs = 0
 ·obtain ⟨hp, hse, hsu⟩ := codeM_zero hk
  obtain ⟨hN, _, hl⟩ := plainM_N hp
  have HFI : Aside0 (∀ W, Below w.heap.size w W → Calls Try.prog 22 #[.slice A0 m.length c0, .int .i64 sets, .int .i64 subs] W fun e w' => ∃ (g : Nat) (vf : Value), e = .returned (.pointer (some ⟨g, 0, none⟩)) ∧
    w'.heap[g]? = some (.cells (cs5 A0 c0 m sets subs ((findL m sets subs.toNat).length : Int) vf) 55 (0, 0)) ∧ (∀ x, (findL m sets subs.toNat).head? = some x → Own W.heap.size w' vf x) ∧ Below W.heap.size W w') := ⟨fun W hW => by
   have := l02Find_calls A0 c0 m sets subs.toNat W (Kd.C_below hr hW) hc hN hl (by omega)
   rw [Int.toNat_of_nonneg hsu.1] at this
   exact this⟩
  have HRES := Aside0.mk (show hoistW m sets subs = match (findL m sets subs.toNat).head? with | some h => (h, 0) | none => ([], 6) from if_pos hk)
  rw [HRES.out]
  rw [hk] at HCO
  clear hk hp hN hr hs hsu hse HRES
  generalize findL m sets subs.toNat = L at *
  cases L with
  | nil =>
   go_enter Try.func8, Try.ntmps8
   go_wp2_with (first
    | (go_at_call 21; refine HCO.out.mono ?_; rintro e w1 ⟨rfl, hb1⟩; have HB1 := Aside0.mk hb1; clear hb1)
    | (go_at_call 22; refine (HFI.out _ HB1.out).mono ?_; rintro e w2 ⟨g, vf, rfl, hg, ho, hb2⟩; have hc3 := cell_of_row w2 g 3 _ 55 (0, 0) hg; simp [cs5] at hc3; have HB2 := Aside0.mk (HB1.out.trans (hb2.mono HB1.out.size)); clear hb2 ho hg))
   go_ret2
   exact ⟨_, rfl, HOW.out _ HB2.out, below_alloc HB2.out _⟩
  | cons h r =>
   have hn0 : (((h :: r).length : Int) == 0) = false := by rw [beq_eq_false_iff_ne]; simp; omega
   have HHD := Aside0.mk (show (h :: r).head? = some h from rfl)
   have HFI2 : Aside0 (∀ W, Below w.heap.size w W → Calls Try.prog 22 #[.slice A0 m.length c0, .int .i64 sets, .int .i64 subs] W fun e w' => ∃ (g : Nat) (vf : Value), e = .returned (.pointer (some ⟨g, 0, none⟩)) ∧
    w'.heap[g]? = some (.cells (cs5 A0 c0 m sets subs ((h :: r).length : Int) vf) 55 (0, 0)) ∧ Own W.heap.size w' vf h ∧ Below W.heap.size W w') := ⟨fun W hW => (HFI.out W hW).mono fun e w' ⟨g, vf, h1, h2, h3, h4⟩ => ⟨g, vf, h1, h2, h3 h rfl, h4⟩⟩
   show Calls _ _ _ _ (fun e w' => ∃ v, e = .returned (.tuple #[v, .int .i64 0]) ∧ Own w.heap.size w' v h ∧ Below w.heap.size w w')
   clear HFI HHD
   generalize (h :: r).length = n at *
   go_enter Try.func8, Try.ntmps8
   go_wp2_with (first
    | (go_at_call 21; refine HCO.out.mono ?_; rintro e w1 ⟨rfl, hb1⟩; have HB1 := Aside0.mk hb1; clear hb1)
    | (go_at_call 22; refine (HFI2.out _ HB1.out).mono ?_; rintro e w2 ⟨g, vf, rfl, hg, ho, hb2⟩; have hc3 := cell_of_row w2 g 3 _ 55 (0, 0) hg; have hc4 := cell_of_row w2 g 4 _ 55 (0, 0) hg; simp [cs5] at hc3 hc4; have HB2 := Aside0.mk (HB1.out.trans (hb2.mono HB1.out.size)); have HO := Aside0.mk (own_lower ho HB1.out.size); clear hb2 ho hg))
   go_ret2
   exact ⟨vf, rfl, HO.out, HB2.out⟩
 ·have HRES := Aside0.mk (show hoistW m sets subs = ([], codeM m sets subs) from if_neg hk)
  rw [HRES.out]
  have hk1 : (codeM m sets subs != 0) = true := by rw [bne_iff_ne]; exact hk
  clear hk hr hs HRES
  generalize codeM m sets subs = q at *
  go_enter Try.func8, Try.ntmps8
  go_wp2_with (go_at_call 21; refine HCO.out.mono ?_; rintro e w1 ⟨rfl, hb1⟩; have HB1 := Aside0.mk hb1; clear hb1)
  go_ret2
  exact ⟨_, rfl, HOW.out _ HB1.out, below_alloc HB1.out _⟩
end Go.Proofs.Ytfdjgomocbniaaa.Arr
namespace Go.Proofs.Ytfdjgomocbniaaa.Arr
open Go.RowKit Go.Proofs.YtfdjgomocbniaaaW.PrintWords Go.Proofs.YtfdjgomocbniaaaW.PrintLast Go.Proofs.YtfdjgomocbniaaaW.PrintMore Go.Proofs.Ytfdjgomocbniaaa.U Go.Proofs.Ytfdjgomocbniaaa.K
set_option linter.unusedVariables false
set_option linter.unusedSimpArgs false
theorem within_eight {h : List Int} {n : Int} (hl : (h ++ [n]).length ≤ 8) : within 8 h n = true := by
 unfold within
 refine decide_eq_true fun j hj => ?_
 have := (pile_small (h ++ [n]) (h ++ [n]).length j hj).2
 omega
theorem leaves_eight (m : List Int) (top : Nat) (hl : m.length ≤ 8) : ∀ (d : Nat) (h : List Int) (g : Int), h.length + d = m.length → leaves m top (within 8) d h g ≠ []
 | 0, h, g, _ => by simp [leaves]
 | d + 1, h, g, hd => by
  rw [leaves]
  split
  ·exact leaves_eight m top hl d _ _ (by simp; omega)
  ·intro he
   rw [List.flatMap_eq_nil_iff] at he
   have := he (rd m (h.length : Int)) (by unfold opts; simp)
   rw [if_pos (within_eight (by simp; omega))] at this
   exact leaves_eight m top hl d _ _ (by simp; omega) this
theorem findL_eight {m : List Int} (subs : Nat) (hl : m.length ≤ 8) : findL m 8 subs ≠ [] := leaves_eight m subs hl m.length [] 0 (by simp)
def leastN (m : List Int) (subs : Nat) : Nat := ((List.range 7).find? fun k : Nat => !(findL m ((k : Int) + 1) subs).isEmpty).getD 7 + 1
theorem leastN_spec {m : List Int} (subs : Nat) (hl : m.length ≤ 8) : (1 ≤ leastN m subs ∧ leastN m subs ≤ 8) ∧ findL m (leastN m subs : Int) subs ≠ [] ∧ ∀ j : Nat, 1 ≤ j → j < leastN m subs → findL m (j : Int) subs = [] := by
 unfold leastN
 cases hf : (List.range 7).find? fun k : Nat => !(findL m ((k : Int) + 1) subs).isEmpty with
 | none =>
  rw [Option.getD_none]
  refine ⟨by omega, findL_eight subs hl, fun j h1 h2 => ?_⟩
  have := List.find?_eq_none.1 hf (j - 1) (by simp; omega)
  simp only [Bool.not_eq_true', Bool.not_eq_false, List.isEmpty_iff] at this
  rw [show (((j - 1 : Nat) : Int) + 1) = (j : Int) by omega] at this
  exact this
 | some k =>
  rw [Option.getD_some]
  have h1 := List.find?_some hf
  have h2 := List.mem_of_find?_eq_some hf
  simp only [List.mem_range] at h2
  simp only [Bool.not_eq_true', List.isEmpty_eq_false_iff] at h1
  refine ⟨by omega, by rw [show ((k + 1 : Nat) : Int) = (k : Int) + 1 by omega]; exact h1, fun j h3 h4 => ?_⟩
  obtain ⟨_, i, hi, h8, h9⟩ := List.find?_eq_some_iff_getElem.1 hf
  have h10 : i = k := by simpa using h8
  subst h10
  have h5 := h9 (j - 1) (by omega)
  simp only [List.getElem_range, Bool.not_not, List.isEmpty_iff] at h5
  rw [show (((j - 1 : Nat) : Int) + 1) = (j : Int) by omega] at h5
  exact h5
def leastW (m : List Int) (subs : Int) : Int × Int := if codeM m 1 subs = 0 then ((leastN m subs.toNat : Int), 0) else (0, codeM m 1 subs)
set_option maxHeartbeats 4000000 in
set_option maxRecDepth 100000 in
theorem implLeast_calls (A0 : Option Addr) (c0 : Nat) (m : List Int) (subs : Int) (w : World) (hr : Kd.C (Kd.int .i8) w A0 m.length m) (hc : m.length ≤ c0) (hs : Small8 m) :
  Calls Try.prog 10 #[.slice A0 m.length c0, .int .i64 subs] w fun e w' => e = .returned (.tuple #[.int .i64 (leastW m subs).1, .int .i64 (leastW m subs).2]) ∧ Below w.heap.size w w' := by
 have HCO := Aside0.mk (hoistCode_calls A0 c0 m 1 subs w hr hc hs)
 by_cases hk : codeM m 1 subs = 0
 ·obtain ⟨hp, hse, hsu⟩ := codeM_zero hk
  obtain ⟨hN, _, hl⟩ := plainM_N hp
  have HRES := Aside0.mk (show leastW m subs = ((leastN m subs.toNat : Int), 0) from if_pos hk)
  obtain ⟨hb, h1, h2⟩ := leastN_spec (m := m) subs.toNat hl
  have HEV := Aside0.mk (fun (sets : Int) W => even_calls sets subs W hsu.2 hsu.1)
  have HFI : Aside0 (∀ (i : Nat) W, 1 ≤ i → i ≤ 8 → Below w.heap.size w W → Calls Try.prog 19 #[.slice A0 m.length c0, .agg (vals .i64 (fillTo (fillTo (zs 44) 0 40 (i : Int)) 40 subs.toNat (i : Int)))] W fun e w' => ∃ (v : Value) (b : Bool), e = .returned (.tuple #[v, .bool b]) ∧
    b = !(findL m (i : Int) subs.toNat).isEmpty ∧ Below W.heap.size W w') := ⟨fun i W hi1 hi8 hW => by
   have := first_calls A0 c0 m (evenL (i : Int) subs) W (Kd.C_below hr hW) hc hN (by omega) (evenL_length (i : Int) subs hsu.2) (evenL_b (i : Int) subs hsu.2 (by omega) (by omega))
   rw [find_even hN (i : Int) subs (by omega) hsu.1 hsu.2] at this
   refine this.mono ?_
   rintro e w' ⟨v, b, rfl, hf, hbb⟩
   refine ⟨v, b, rfl, ?_, hbb⟩
   cases hL : findL m (i : Int) subs.toNat with
   | nil => rw [hL] at hf; exact hf.2
   | cons x r => rw [hL] at hf; exact hf.1⟩
  have HN := Aside0.mk h1
  have HN2 := Aside0.mk h2
  rw [HRES.out]
  rw [hk] at HCO
  clear hk hp hN hr hs hsu hse HRES h1 h2
  generalize leastN m subs.toNat = n at *
  go_enter Try.func10, Try.ntmps10
  go_wp2_with (go_at_call 18; refine HCO.out.mono ?_; rintro e w1 ⟨rfl, hb1⟩; have HB1 := Aside0.mk hb1; clear hb1)
  go_loopw [7] (fun v7 wr => ∃ i : Nat, (1 ≤ i ∧ i ≤ n) ∧ v7 = .int .i64 i ∧ Aside0 (Below w.heap.size w wr)) (fun v7 _ => n - (intOf v7).toNat)
  case atStart => exact ⟨1, by omega, rfl, HB1⟩
  case round =>
   clear HB1
   obtain ⟨i, hi, rfl, HB⟩ := hrel
   by_cases hin : i = n
   ·have HI := Aside0.mk hin
    have hz : (!(findL m (i : Int) subs.toNat).isEmpty) = true := by rw [hin, List.isEmpty_eq_false_iff.2 HN.out]; rfl
    have HFI2 := Aside0.mk (fun W => HFI.out i W hi.1 (by omega))
    rw [hz] at HFI2
    clear hin hz
    go_wp2_with (first
     | (go_at_call 20; refine (HEV.out _ _).mono ?_; rintro e w2 ⟨rfl, hb2⟩; have HB2 := Aside0.mk (HB.out.trans (hb2.mono HB.out.size)); clear hb2)
     | (go_at_call 19; refine (HFI2.out _ HB2.out).mono ?_; rintro e w3 ⟨v, b, rfl, rfl, hb3⟩; have HB3 := Aside0.mk (HB2.out.trans (hb3.mono HB2.out.size)); clear hb3))
    go_ret2
    exact ⟨by rw [HI.out]; rfl, HB3.out⟩
   ·have hz : (!(findL m (i : Int) subs.toNat).isEmpty) = false := by rw [HN2.out i hi.1 (by omega)]; rfl
    have HFI2 := Aside0.mk (fun W => HFI.out i W hi.1 (by omega))
    rw [hz] at HFI2
    clear hz
    go_wp2_with (first
     | (go_at_call 20; refine (HEV.out _ _).mono ?_; rintro e w2 ⟨rfl, hb2⟩; have HB2 := Aside0.mk (HB.out.trans (hb2.mono HB.out.size)); clear hb2)
     | (go_at_call 19; refine (HFI2.out _ HB2.out).mono ?_; rintro e w3 ⟨v, b, rfl, rfl, hb3⟩; have HB3 := Aside0.mk (HB2.out.trans (hb3.mono HB2.out.size)); clear hb3))
    go_roundw
    case rel => exact ⟨i + 1, by omega, by go_num, HB3⟩
    case measure => simp [intOf]; omega
 ·have HRES := Aside0.mk (show leastW m subs = (0, codeM m 1 subs) from if_neg hk)
  rw [HRES.out]
  have hk1 : (codeM m 1 subs != 0) = true := by rw [bne_iff_ne]; exact hk
  clear hk hr hs HRES
  generalize codeM m 1 subs = q at *
  go_enter Try.func10, Try.ntmps10
  go_wp2_with (go_at_call 18; refine HCO.out.mono ?_; rintro e w1 ⟨rfl, hb1⟩; have HB1 := Aside0.mk hb1; clear hb1)
  go_ret2
  exact ⟨rfl, HB1.out⟩
set_option maxHeartbeats 4000000 in
set_option maxRecDepth 100000 in
theorem specLeast_calls (A0 : Option Addr) (c0 : Nat) (m : List Int) (subs : Int) (w : World) (hr : Kd.C (Kd.int .i8) w A0 m.length m) (hc : m.length ≤ c0) (hs : Small8 m) :
  Calls Try.prog 11 #[.slice A0 m.length c0, .int .i64 subs] w fun e w' => e = .returned (.tuple #[.int .i64 (leastW m subs).1, .int .i64 (leastW m subs).2]) ∧ Below w.heap.size w w' := by
 have HCO := Aside0.mk (l02Asked_calls A0 c0 m 1 subs w hr hc hs)
 by_cases hk : codeM m 1 subs = 0
 ·obtain ⟨hp, hse, hsu⟩ := codeM_zero hk
  obtain ⟨hN, _, hl⟩ := plainM_N hp
  have HRES := Aside0.mk (show leastW m subs = ((leastN m subs.toNat : Int), 0) from if_pos hk)
  obtain ⟨hb, h1, h2⟩ := leastN_spec (m := m) subs.toNat hl
  have HFI : Aside0 (∀ (i : Nat) W, Below w.heap.size w W → Calls Try.prog 22 #[.slice A0 m.length c0, .int .i64 (i : Int), .int .i64 subs] W fun e w' => ∃ (g : Nat), e = .returned (.pointer (some ⟨g, 0, none⟩)) ∧
    w'.cell? ⟨g, 3, none⟩ = some (.int .i64 ((findL m (i : Int) subs.toNat).length : Int)) ∧ Below W.heap.size W w') := ⟨fun i W hW => by
   have := l02Find_calls A0 c0 m (i : Int) subs.toNat W (Kd.C_below hr hW) hc hN hl (by omega)
   rw [Int.toNat_of_nonneg hsu.1] at this
   refine this.mono ?_
   rintro e w' ⟨g, vf, rfl, hg, _, hb⟩
   refine ⟨g, rfl, ?_, hb⟩
   have hc3 := cell_of_row w' g 3 _ 55 (0, 0) hg
   simpa [cs5] using hc3⟩
  have HN := Aside0.mk h1
  have HN2 := Aside0.mk h2
  rw [HRES.out]
  rw [hk] at HCO
  clear hk hp hN hr hs hsu hse HRES h1 h2
  generalize leastN m subs.toNat = n at *
  go_enter Try.func11, Try.ntmps11
  go_wp2_with (go_at_call 21; refine HCO.out.mono ?_; rintro e w1 ⟨rfl, hb1⟩; have HB1 := Aside0.mk hb1; clear hb1)
  go_loopw [7] (fun v7 wr => ∃ i : Nat, (1 ≤ i ∧ i ≤ n) ∧ v7 = .int .i64 i ∧ Aside0 (Below w.heap.size w wr)) (fun v7 _ => n - (intOf v7).toNat)
  case atStart => exact ⟨1, by omega, rfl, HB1⟩
  case round =>
   clear HB1
   obtain ⟨i, hi, rfl, HB⟩ := hrel
   have HFI2 := Aside0.mk (fun W => HFI.out i W)
   by_cases hin : i = n
   ·have HI := Aside0.mk hin
    have hz : (((findL m (i : Int) subs.toNat).length : Int) == 0) = false := by
     rw [beq_eq_false_iff_ne, hin]
     have := List.length_pos_iff.2 HN.out
     omega
    generalize ((findL m (i : Int) subs.toNat).length : Int) = z at *
    clear hin
    go_wp2_with (go_at_call 22; refine (HFI2.out _ HB.out).mono ?_; rintro e w3 ⟨g, rfl, hc3, hb3⟩; have HB3 := Aside0.mk (HB.out.trans (hb3.mono HB.out.size)); clear hb3)
    go_ret2
    exact ⟨by rw [HI.out]; rfl, HB3.out⟩
   ·have hz : (findL m (i : Int) subs.toNat).length = 0 := by rw [HN2.out i hi.1 (by omega)]; rfl
    rw [hz] at HFI2
    clear hz
    go_wp2_with (go_at_call 22; refine (HFI2.out _ HB.out).mono ?_; rintro e w3 ⟨g, rfl, hc3, hb3⟩; have HB3 := Aside0.mk (HB.out.trans (hb3.mono HB.out.size)); clear hb3)
    go_roundw
    case rel => exact ⟨i + 1, by omega, by go_num, HB3⟩
    case measure => simp [intOf]; omega
 ·have HRES := Aside0.mk (show leastW m subs = (0, codeM m 1 subs) from if_neg hk)
  rw [HRES.out]
  have hk1 : (codeM m 1 subs != 0) = true := by rw [bne_iff_ne]; exact hk
  clear hk hr hs HRES
  generalize codeM m 1 subs = q at *
  go_enter Try.func11, Try.ntmps11
  go_wp2_with (go_at_call 21; refine HCO.out.mono ?_; rintro e w1 ⟨rfl, hb1⟩; have HB1 := Aside0.mk hb1; clear hb1)
  go_ret2
  exact ⟨rfl, HB1.out⟩
end Go.Proofs.Ytfdjgomocbniaaa.Arr
namespace Go.Proofs.Ytfdjgomocbniaaa.Arr
open Go.RowKit Go.Proofs.YtfdjgomocbniaaaW.PrintWords Go.Proofs.YtfdjgomocbniaaaW.PrintLast Go.Proofs.YtfdjgomocbniaaaW.PrintMore Go.Proofs.Ytfdjgomocbniaaa.U Go.Proofs.Ytfdjgomocbniaaa.K
set_option linter.unusedVariables false
set_option linter.unusedSimpArgs false
theorem runH_left (h : List Int) (x : Int) : ∀ i, i ≤ h.length → runH (h ++ [x]) i = runH h i
 | 0, _ => rfl
 | i + 1, hi => by
  rw [runH, runH, runH_left h x i (by omega), rd_app_left h [x] i (by omega)]
theorem runH_snoc (h : List Int) (x : Int) : runH (h ++ [x]) (h ++ [x]).length = (runH h h.length).bind fun st => stepH st x := by
 rw [List.length_append, List.length_singleton, runH, runH_left h x h.length (Nat.le_refl _), rd_app_end]
theorem rd_takeH (m : List Int) (k j : Nat) (hj : j < k) (hk : k ≤ m.length) : rd (m.take k) (j : Int) = rd m (j : Int) := by
 rw [rd_get _ j (by rw [List.length_take]; omega), rd_get m j (by omega), List.getElem_take]
theorem take_step (m : List Int) (k : Nat) (hk : k < m.length) : m.take (k + 1) = m.take k ++ [rd m (k : Int)] := by
 rw [rd_get m k hk, List.take_succ_eq_append_getElem hk]
theorem runH_plain {m : List Int} (hp : ∀ x ∈ m, PlainN x) (ho : okH m = true) : ∀ i, i ≤ m.length → ∃ s, runH m i = some (m.take i, s) ∧ s ≤ i
 | 0, _ => ⟨0, by simp [runH], Nat.le_refl _⟩
 | i + 1, hi => by
  obtain ⟨s, hs, hle⟩ := runH_plain hp ho i (by omega)
  have hnn : runH m (i + 1) ≠ none := fun e => by
   rw [okH_none (i := i + 1) hi e] at ho
   cases ho
  have hx := hp (rd m (i : Int)) (by rw [rd_get m i (by omega)]; exact List.getElem_mem _)
  have hl : (m.take i).length = i := by rw [List.length_take]; omega
  rw [runH, hs, Option.bind_some] at hnn ⊢
  rw [take_step m i (by omega)]
  unfold stepH at hnn ⊢
  dsimp only at hnn ⊢
  by_cases h10 : rd m (i : Int) = -10
  ·rw [if_pos h10] at hnn ⊢
   rw [hl] at hnn ⊢
   by_cases he : s = i
   ·rw [if_pos he] at hnn; exact absurd rfl hnn
   ·rw [if_neg he]; exact ⟨i + 1, rfl, Nat.le_refl _⟩
  ·rw [if_neg h10, if_pos (by rcases hx with hx | hx; exact absurd hx h10; exact hx)]
   exact ⟨s, rfl, by omega⟩
theorem plainM_read {m : List Int} (hp : plainM m = true) : ∃ s, runH m m.length = some (m, s) ∧ s < m.length ∧ readH m = some m := by
 obtain ⟨hN, h1, h8⟩ := plainM_N hp
 have ho : okH m = true := by
  unfold plainM at hp
  rw [Bool.and_eq_true] at hp
  exact hp.1
 obtain ⟨s, hs, hle⟩ := runH_plain hN ho m.length (Nat.le_refl _)
 rw [List.take_length] at hs
 have ho2 := ho
 unfold okH readH at ho2
 rw [if_pos ⟨h1, h8⟩, hs] at ho2
 dsimp only at ho2
 by_cases h : s < m.length
 ·refine ⟨s, hs, h, ?_⟩
  unfold readH
  rw [if_pos ⟨h1, h8⟩, hs]
  dsimp only
  rw [if_pos h]
 ·rw [if_neg h] at ho2
  cases ho2
theorem step_opt {m : List Int} (hp : ∀ x ∈ m, PlainN x) {k : Nat} (hk : k < m.length) (hb : rd m (k : Int) ≠ -10) {g : Nat} {top : Nat} (ht : top ≤ 4) {n : Int} (hn : n ∈ opts m k (g : Int) top) : stepH (m.take k, g) n = some (m.take (k + 1), g) := by
 have hx := hp (rd m (k : Int)) (by rw [rd_get m k hk]; exact List.getElem_mem _)
 have hx2 : 0 ≤ rd m (k : Int) ∧ rd m (k : Int) ≤ 39 := by rcases hx with hx | hx; exact absurd hx hb; exact hx
 have hl : (m.take k).length = k := by rw [List.length_take]; omega
 rw [take_step m k hk]
 unfold stepH
 dsimp only
 unfold opts at hn
 rcases List.mem_append.1 hn with hn | hn
 ·obtain ⟨h1, h2, h3⟩ := subsTo_in hn
  unfold subOk at h3
  rw [decide_eq_true_eq] at h3
  rw [if_neg (by omega), if_neg (by omega), if_pos (by omega), hl, if_pos (by omega)]
  have e : rd (m.take k) ((g : Int) + -n - 1) = rd m (k : Int) := by
   obtain ⟨q, hq⟩ := Int.eq_ofNat_of_zero_le (show 0 ≤ (g : Int) - n - 1 by omega)
   rw [← h3.2, hq, show (g : Int) + -n - 1 = (q : Int) by omega]
   exact rd_takeH m k q (by omega) (by omega)
  rw [e]
 ·simp only [List.mem_singleton] at hn
  subst hn
  rw [if_neg hb, if_pos hx2]
theorem leaves_read {m : List Int} (hp : plainM m = true) (top : Nat) (ht : top ≤ 4) (ok : List Int → Int → Bool) : ∀ (d : Nat) (h : List Int) (g : Nat), h.length + d = m.length → runH h h.length = some (m.take h.length, g) → runH m h.length = some (m.take h.length, g) →
  ∀ x ∈ leaves m top ok d h (g : Int), readH x = some m
 | 0, h, g, hd, hr, hm, x, hx => by
  rw [leaves, List.mem_singleton] at hx
  subst hx
  obtain ⟨s, h1, h2, _⟩ := plainM_read hp
  obtain ⟨_, h3, h4⟩ := plainM_N hp
  have hl : x.length = m.length := by omega
  rw [hl] at hr hm
  rw [hm] at h1
  simp only [Option.some.injEq, Prod.mk.injEq] at h1
  unfold readH
  rw [if_pos (by omega), hl, hr]
  dsimp only
  rw [List.take_length] at *
  rw [if_pos (by omega)]
 | d + 1, h, g, hd, hr, hm, x, hx => by
  obtain ⟨hN, _, _⟩ := plainM_N hp
  have hk : h.length < m.length := by omega
  rw [leaves] at hx
  split at hx
  ·rename_i h10
   have hs : ∃ s, stepH (m.take h.length, g) (-10) = some (m.take (h.length + 1), s) ∧ s = h.length + 1 := by
    obtain ⟨s, hs, _⟩ := runH_plain hN (by unfold plainM at hp; rw [Bool.and_eq_true] at hp; exact hp.1) (h.length + 1) (by omega)
    rw [runH, hm, Option.bind_some, h10] at hs
    refine ⟨s, hs, ?_⟩
    unfold stepH at hs
    dsimp only at hs
    rw [if_pos rfl] at hs
    split at hs
    ·cases hs
    ·simp only [Option.some.injEq, Prod.mk.injEq] at hs
     rw [← hs.2, List.length_take]
     omega
   obtain ⟨s, hs, rfl⟩ := hs
   have e1 : runH (h ++ [-10]) (h ++ [-10]).length = some (m.take (h ++ [-10]).length, h.length + 1) := by
    rw [runH_snoc, hr, Option.bind_some, hs]; simp
   have e2 : runH m (h ++ [-10]).length = some (m.take (h ++ [-10]).length, h.length + 1) := by
    rw [List.length_append, List.length_singleton, runH, hm, Option.bind_some, h10, hs]
   exact leaves_read hp top ht ok d (h ++ [-10]) (h.length + 1) (by simp; omega) e1 e2 x (by simpa using hx)
  ·rename_i h10
   obtain ⟨n, hn, hx2⟩ := List.mem_flatMap.1 hx
   split at hx2
   ·have hs := step_opt hN hk h10 ht hn
    have hs2 := step_opt (n := rd m (h.length : Int)) hN hk h10 ht (g := g) (top := top) (by unfold opts; simp)
    have e1 : runH (h ++ [n]) (h ++ [n]).length = some (m.take (h ++ [n]).length, g) := by
     rw [runH_snoc, hr, Option.bind_some, hs]; simp
    have e2 : runH m (h ++ [n]).length = some (m.take (h ++ [n]).length, g) := by
     rw [List.length_append, List.length_singleton, runH, hm, Option.bind_some, hs2]
    exact leaves_read hp top ht ok d (h ++ [n]) g (by simp; omega) e1 e2 x hx2
   ·cases hx2
theorem findL_read {m : List Int} (hp : plainM m = true) (sets : Int) (subs : Nat) (h4 : subs ≤ 4) {x : List Int} (hx : x ∈ findL m sets subs) : readH x = some m :=
 leaves_read hp subs h4 (within sets) m.length [] 0 (by simp) (by simp [runH]) (by simp [runH]) x hx
theorem within_mono {a b : Int} (hab : a ≤ b) {h : List Int} {n : Int} (hw : within a h n = true) : within b h n = true := by
 unfold within at hw ⊢
 rw [decide_eq_true_eq] at hw
 exact decide_eq_true fun j hj => Int.le_trans (hw j hj) hab
theorem leaves_mono (m : List Int) (top : Nat) {ok ok' : List Int → Int → Bool} (hok : ∀ h n, ok h n = true → ok' h n = true) : ∀ (d : Nat) (h : List Int) (g : Int), (leaves m top ok d h g).Sublist (leaves m top ok' d h g)
 | 0, h, g => List.Sublist.refl _
 | d + 1, h, g => by
  rw [leaves, leaves]
  split
  ·exact leaves_mono m top hok d _ _
  ·have key : ∀ l : List Int, (l.flatMap fun n => if ok h n = true then leaves m top ok d (h ++ [n]) g else []).Sublist (l.flatMap fun n => if ok' h n = true then leaves m top ok' d (h ++ [n]) g else []) := by
    intro l
    induction l with
    | nil => simp
    | cons n r ih =>
     rw [List.flatMap_cons, List.flatMap_cons]
     refine List.Sublist.append ?_ ih
     by_cases hn : ok h n = true
     ·rw [if_pos hn, if_pos (hok h n hn)]
      exact leaves_mono m top hok d _ _
     ·rw [if_neg hn]
      exact List.nil_sublist _
   exact key _
theorem findL_mono (m : List Int) {a b : Int} (hab : a ≤ b) (subs : Nat) : (findL m a subs).Sublist (findL m b subs) := leaves_mono m subs (fun h n hw => within_mono hab hw) m.length [] 0
theorem findL_least {m : List Int} (subs : Nat) (hl : m.length ≤ 8) (sets : Nat) (h1 : 1 ≤ sets) : findL m (sets : Int) subs ≠ [] ↔ leastN m subs ≤ sets := by
 obtain ⟨hb, h2, h3⟩ := leastN_spec subs hl
 constructor
 ·intro h
  rcases Nat.lt_or_ge sets (leastN m subs) with hlt | hge
  ·exact absurd (h3 sets h1 hlt) h
  ·exact hge
 ·intro h he
  have := findL_mono m (show (leastN m subs : Int) ≤ (sets : Int) by omega) subs
  rw [he] at this
  exact h2 (List.sublist_nil.1 this)
theorem leaves_sets {m : List Int} (top : Nat) (sets : Int) : ∀ (d : Nat) (h : List Int) (g : Int), ∀ x ∈ leaves m top (within sets) d h g, (∀ j : Nat, j < 44 → rd (pile (zs 44) h 1 h.length) (j : Int) ≤ sets) → (∀ j : Nat, j < 44 → rd (pile (zs 44) x 1 x.length) (j : Int) ≤ sets)
 | 0, h, g, x, hx, hs => by
  rw [leaves, List.mem_singleton] at hx
  subst hx
  exact hs
 | d + 1, h, g, x, hx, hs => by
  rw [leaves] at hx
  split at hx
  ·refine leaves_sets top sets d _ _ x hx fun j hj => ?_
   rw [pile_snoc, rd_bump _ _ _ j (by rw [pile_length, zs_length]; exact hj), if_neg (by simp), Int.add_zero]
   exact hs j hj
  ·obtain ⟨n, hn, hx2⟩ := List.mem_flatMap.1 hx
   split at hx2
   ·rename_i hw
    unfold within at hw
    rw [decide_eq_true_eq] at hw
    exact leaves_sets top sets d _ _ x hx2 hw
   ·cases hx2
theorem findL_sets {m : List Int} (sets : Int) (h0 : 0 ≤ sets) (subs : Nat) {x : List Int} (hx : x ∈ findL m sets subs) : setsH x ≤ sets := by
 rw [setsH_le]
 exact leaves_sets subs sets m.length [] 0 x hx (fun j hj => by simp only [pile, List.length_nil]; rw [rd_zs]; exact h0)
theorem pile_up (x : List Int) (y : Int) (j : Nat) (hj : j < 44) : rd (pile (zs 44) x 1 x.length) (j : Int) ≤ rd (pile (zs 44) (x ++ [y]) 1 (x ++ [y]).length) (j : Int) := by
 rw [pile_snoc, rd_bump _ _ _ j (by rw [pile_length, zs_length]; exact hj)]
 split <;> omega
theorem leaves_own {m : List Int} (top : Nat) (ok : List Int → Int → Bool) : ∀ (d : Nat) (h : List Int) (g : Int), ∀ x ∈ leaves m top ok d h g, (∀ j : Nat, j < 44 → rd (pile (zs 44) h 1 h.length) (j : Int) ≤ rd (pile (zs 44) x 1 x.length) (j : Int)) ∧ x ∈ leaves m top (within (setsH x)) d h g
 | 0, h, g, x, hx => by
  rw [leaves, List.mem_singleton] at hx
  subst hx
  exact ⟨fun j hj => Int.le_refl _, by simp [leaves]⟩
 | d + 1, h, g, x, hx => by
  rw [leaves] at hx
  rw [leaves]
  split at hx
  ·rename_i h10
   obtain ⟨h1, h2⟩ := leaves_own top ok d _ _ x hx
   rw [if_pos h10]
   exact ⟨fun j hj => Int.le_trans (pile_up h (-10) j hj) (h1 j hj), h2⟩
  ·rename_i h10
   rw [if_neg h10]
   obtain ⟨n, hn, hx2⟩ := List.mem_flatMap.1 hx
   split at hx2
   ·obtain ⟨h1, h2⟩ := leaves_own top ok d _ _ x hx2
    refine ⟨fun j hj => Int.le_trans (pile_up h n j hj) (h1 j hj), List.mem_flatMap.2 ⟨n, hn, ?_⟩⟩
    rw [if_pos]
    ·exact h2
    ·unfold within
     exact decide_eq_true fun j hj => Int.le_trans (h1 j hj) ((setsH_le x (setsH x)).1 (Int.le_refl _) j hj)
   ·cases hx2
theorem findL_own {m : List Int} (sets : Int) (subs : Nat) {x : List Int} (hx : x ∈ findL m sets subs) : x ∈ findL m (setsH x) subs := (leaves_own subs (within sets) m.length [] 0 x hx).2
theorem leaves_subs {m : List Int} (hp : ∀ x ∈ m, PlainN x) (top : Nat) (ok : List Int → Int → Bool) : ∀ (d : Nat) (h : List Int) (g : Int), h.length + d = m.length → (∀ y ∈ h, y = -10 ∨ -(top : Int) ≤ y) → ∀ x ∈ leaves m top ok d h g, ∀ y ∈ x, y = -10 ∨ -(top : Int) ≤ y
 | 0, h, g, hd, hh, x, hx => by
  rw [leaves, List.mem_singleton] at hx
  subst hx
  exact hh
 | d + 1, h, g, hd, hh, x, hx => by
  rw [leaves] at hx
  split at hx
  ·refine leaves_subs hp top ok d _ _ (by simp; omega) (fun y hy => ?_) x hx
   rcases List.mem_append.1 hy with hy | hy
   ·exact hh y hy
   ·simp at hy; exact Or.inl hy
  ·rename_i h10
   obtain ⟨n, hn, hx2⟩ := List.mem_flatMap.1 hx
   split at hx2
   ·refine leaves_subs hp top ok d _ _ (by simp; omega) (fun y hy => ?_) x hx2
    rcases List.mem_append.1 hy with hy | hy
    ·exact hh y hy
    ·simp only [List.mem_singleton] at hy
     subst hy
     unfold opts at hn
     rcases List.mem_append.1 hn with hn | hn
     ·exact Or.inr (subsTo_in hn).1
     ·simp only [List.mem_singleton] at hn
      have hk : h.length < m.length := by omega
      have := hp (rd m (h.length : Int)) (by rw [rd_get m h.length hk]; exact List.getElem_mem _)
      rw [hn]
      rcases this with this | this
      ·exact absurd this h10
      ·right; omega
   ·cases hx2
theorem findL_subs {m : List Int} (hp : plainM m = true) (sets : Int) (subs : Nat) {x : List Int} (hx : x ∈ findL m sets subs) (j : Nat) (hj : subs ≤ j) (h4 : j < 4) : rd (pile (zs 44) x 1 x.length) ((40 + j : Nat) : Int) = 0 := by
 have h := leaves_subs (plainM_N hp).1 subs (within sets) m.length [] 0 (by simp) (by simp) x hx
 refine pile_none x (40 + j) (by omega) (fun y hy => ?_) x.length (Nat.le_refl _)
 rcases h y hy with h | h
 ·exact Or.inl h
 ·right
  by_cases h0 : 0 ≤ y
  ·rw [slot_flag h0]
   intro e
   have hr := okH_num (h := x) (by unfold okH; rw [findL_read hp sets subs (by omega) hx]; rfl) y hy
   omega
  ·rw [slot_sub (by omega)]
   omega
theorem leaves_plain (m : List Int) (hl : m.length ≤ 8) : ∀ (d : Nat) (h : List Int) (g : Int), h.length + d = m.length → (leaves m 0 (within 8) d h g).length = 1
 | 0, h, g, _ => by simp [leaves]
 | d + 1, h, g, hd => by
  rw [leaves]
  split
  ·exact leaves_plain m hl d _ _ (by simp; omega)
  ·unfold opts subsTo
   rw [List.nil_append, List.flatMap_cons, List.flatMap_nil, List.append_nil, if_pos (within_eight (by simp; omega))]
   exact leaves_plain m hl d _ _ (by simp; omega)
theorem findL_plain {m : List Int} (hl : m.length ≤ 8) : (findL m 8 0).length = 1 := leaves_plain m hl m.length [] 0 (by simp)
theorem sets_pos {x m : List Int} (h : readH x = some m) : 1 ≤ setsH x := by
 rcases Int.lt_or_le 0 (setsH x) with h0 | h0
 ·omega
 ·exfalso
  have h1 := (setsH_le x 0).1 h0
  have hk : okH x = true := by unfold okH; rw [h]; rfl
  have hn := okH_num hk
  obtain ⟨hl1, hl8⟩ := okH_len hk
  have : ∃ y ∈ x, y ≠ -10 := by
   refine Classical.byContradiction fun hne => ?_
   have hall : ∀ y ∈ x, y = -10 := fun y hy => Classical.byContradiction fun h => hne ⟨y, hy, h⟩
   have h10 : rd x (0 : Int) = -10 := by
    have := rd_get x 0 (by omega)
    rw [show ((0 : Nat) : Int) = 0 from rfl] at this
    rw [this]
    exact hall _ (List.getElem_mem _)
   have : runH x 1 = none := by
    have e : runH x 1 = (runH x 0).bind fun st => stepH st (rd x ((0 : Nat) : Int)) := rfl
    rw [e]
    show stepH ([], 0) (rd x ((0 : Nat) : Int)) = none
    rw [show ((0 : Nat) : Int) = 0 from rfl, h10]
    rfl
   rw [okH_none hl1 this] at hk
   cases hk
  obtain ⟨y, hy, h10⟩ := this
  obtain ⟨i, hi, rfl⟩ := List.getElem_of_mem hy
  have hs : slot x[i] < 44 := by
   have := hn x[i] hy
   exact slot_lt (by unfold NumH; exact this) h10
  have key : ∀ n : Nat, i < n → n ≤ x.length → 1 ≤ rd (pile (zs 44) x 1 n) (slot x[i] : Int) := by
   intro n
   induction n with
   | zero => intro h; omega
   | succ n ih =>
    intro hin hnl
    rw [pile, rd_bump _ _ _ _ (by rw [pile_length, zs_length]; exact hs)]
    have hsm := (pile_small x n (slot x[i]) hs).1
    by_cases he : i = n
    ·subst he
     rw [rd_get x i hi, if_pos ⟨h10, rfl⟩]
     omega
    ·have := ih (by omega) (by omega)
     split <;> omega
  have := key x.length hi (Nat.le_refl _)
  have := h1 (slot x[i]) hs
  omega
end Go.Proofs.Ytfdjgomocbniaaa.Arr
namespace Go.Proofs.Ytfdjgomocbniaaa.Arr
open Go.RowKit Go.Proofs.YtfdjgomocbniaaaW.PrintWords Go.Proofs.YtfdjgomocbniaaaW.PrintLast Go.Proofs.YtfdjgomocbniaaaW.PrintMore Go.Proofs.Ytfdjgomocbniaaa.U Go.Proofs.Ytfdjgomocbniaaa.K
set_option linter.unusedVariables false
set_option linter.unusedSimpArgs false
theorem leaves_len (m : List Int) (top : Nat) (ht : top ≤ 4) (ok : List Int → Int → Bool) : ∀ (d : Nat) (h : List Int) (g : Int), (leaves m top ok d h g).length ≤ 5 ^ d
 | 0, h, g => by simp [leaves]
 | d + 1, h, g => by
  have h5 : 5 ^ (d + 1) = 5 * 5 ^ d := by rw [Nat.pow_succ]; omega
  rw [leaves]
  split
  ·have := leaves_len m top ht ok d (h ++ [-10]) ((h.length : Int) + 1)
   omega
  ·have key : ∀ l : List Int, (l.flatMap fun n => if ok h n = true then leaves m top ok d (h ++ [n]) g else []).length ≤ l.length * 5 ^ d := by
    intro l
    induction l with
    | nil => simp
    | cons n r ih =>
     rw [List.flatMap_cons, List.length_append, List.length_cons, Nat.add_mul, Nat.one_mul]
     have : (if ok h n = true then leaves m top ok d (h ++ [n]) g else []).length ≤ 5 ^ d := by
      split
      ·exact leaves_len m top ht ok d _ _
      ·simp
     omega
   refine Nat.le_trans (key _) ?_
   rw [h5]
   refine Nat.mul_le_mul_right _ ?_
   unfold opts
   have := subsTo_len m h.length g top
   rw [List.length_append, List.length_singleton]
   omega
theorem findL_len {m : List Int} (hl : m.length ≤ 8) (sets : Int) (subs : Nat) (h4 : subs ≤ 4) : (findL m sets subs).length ≤ 390625 := by
 refine Nat.le_trans (leaves_len m subs h4 (within sets) m.length [] 0) ?_
 exact Nat.le_trans (Nat.pow_le_pow_right (by omega) hl) (by decide)
def manyStep (s : Nat) (_ : List Int) : Nat × Bool := (s + 1, true)
theorem runL_many (l : List (List Int)) : ∀ s, runL manyStep s l = (s + l.length, true) := by
 induction l with
 | nil => intro s; rfl
 | cons x r ih =>
  intro s
  show (if (manyStep s x).2 = true then runL manyStep (manyStep s x).1 r else ((manyStep s x).1, false)) = _
  rw [show (manyStep s x).2 = true from rfl, if_pos rfl, show (manyStep s x).1 = s + 1 from rfl, ih, List.length_cons]
  congr 1; omega
theorem oneI64 : OneTy Try.prog 2 := ⟨by kernel_rfl, by kernel_rfl⟩
theorem zeroI64 : ZeroTy Try.prog 2 #[.int .i64 0] := ⟨.int .i64 0, by kernel_rfl, rfl⟩
def ManyI (g : Nat) (base : Nat) (s : Nat) (w : World) : Prop := w.heap[g]? = some (.cells #[.int .i64 (wrap64 (s : Int))] 2 (0, 0))
theorem many1_enters (a : Array Value) (W : World) : (callFunc 24 a).run Try.prog W = .ok (.enter 24 a) W := by kernel_rfl
theorem wrap64_add1 (x : Int) : wrap64 (wrap64 x + 1) = wrap64 (x + 1) := by unfold wrap64; omega
set_option maxHeartbeats 4000000 in
set_option maxRecDepth 100000 in
theorem many1_calls (g base : Nat) (s : Nat) (h : List Int) (v : Value) (w : World) (hI : ManyI g base s w) (ho : Own base w v h) :
  Calls Try.prog 24 (#[v] ++ #[.pointer (some ⟨g, 0, none⟩)]) w fun e w' => e = .returned (.bool (manyStep s h).2) ∧ ManyI g base (manyStep s h).1 w' ∧ FrB [g] w w' := by
 have hm := Mem.given hI
 obtain ⟨A, c, rfl⟩ := Kd.R_slice ho
 clear ho hI
 show Calls Try.prog 24 #[.slice A h.length c, .pointer (some ⟨g, 0, none⟩)] w _
 unfold ManyI manyStep
 go_enter Try.func24, Try.ntmps24
 go_wp2_with (first
  | ((with_reducible refine gt_load 2 ?_); refine st_cell rfl 2 _ rfl hm rfl 0 rfl oneI64 ?_)
  | ((with_reducible refine gt_store 2 ?_); refine st_one rfl 2 _ _ rfl hm rfl rfl 0 rfl oneI64 rfl rfl ?_; clear hm; intro w1 hm; simp only [List.set_cons_zero, List.set_cons_succ] at hm))
 go_ret
 refine ⟨rfl, ?_, hm.frB⟩
 have h := hm.mem (n := 0) rfl
 refine h.trans ?_
 show some (Obj.cells #[Value.int .i64 (wrap64 (wrap64 (s : Int) + 1))] 2 (0, 0)) = some (Obj.cells #[Value.int .i64 (wrap64 ((s + 1 : Nat) : Int))] 2 (0, 0))
 rw [wrap64_add1, show ((s + 1 : Nat) : Int) = (s : Int) + 1 by omega]
def waysW (m : List Int) (sets subs : Int) : Int × Int := if codeM m sets subs = 0 then (((findL m sets subs.toNat).length : Int), 0) else (0, codeM m sets subs)
set_option maxHeartbeats 8000000 in
set_option maxRecDepth 100000 in
theorem implWays_calls (A0 : Option Addr) (c0 : Nat) (m : List Int) (sets subs : Int) (w : World) (hr : Kd.C (Kd.int .i8) w A0 m.length m) (hc : m.length ≤ c0) (hs : Small8 m) :
  Calls Try.prog 9 #[.slice A0 m.length c0, .int .i64 sets, .int .i64 subs] w fun e w' => e = .returned (.tuple #[.int .i64 (waysW m sets subs).1, .int .i64 (waysW m sets subs).2]) ∧ Below w.heap.size w w' := by
 have HCO := Aside0.mk (hoistCode_calls A0 c0 m sets subs w hr hc hs)
 by_cases hk : codeM m sets subs = 0
 ·obtain ⟨hp, hse, hsu⟩ := codeM_zero hk
  obtain ⟨hN, _, hl⟩ := plainM_N hp
  have HEV := Aside0.mk (fun W => even_calls sets subs W hsu.2 hsu.1)
  have HR := Aside0.mk hr
  have HP := Aside0.mk hN
  have HLN := Aside0.mk (findL_len hl sets subs.toNat (by omega))
  have HFE := Aside0.mk (find_even hN sets subs (by omega) hsu.1 hsu.2)
  have HLE := Aside0.mk (evenL_length sets subs hsu.2)
  have HBE := Aside0.mk (evenL_b sets subs hsu.2 (by omega) (by omega))
  have HRES := Aside0.mk (show waysW m sets subs = (((findL m sets subs.toNat).length : Int), 0) from if_pos hk)
  rw [HRES.out]
  rw [hk] at HCO
  have hm := Mem.start w
  clear hk hp hN hr hs hsu hse HRES
  generalize hq : findL m sets subs.toNat = q at *
  clear hq
  go_enter Try.func9, Try.ntmps9
  go_wp2_with (first
   | (go_at_call 18; refine HCO.out.mono ?_; rintro e w1 ⟨rfl, hb1⟩; replace hm := hm.after hb1; clear hb1)
   | ((with_reducible refine gt_alloc 9 2 ?_); refine st_alloc rfl 9 rfl 2 rfl hm zeroI64 ?_; clear hm; intro g5 w5 hm)
   | ((with_reducible refine gt_store 2 ?_); refine st_one rfl 2 _ _ rfl hm rfl rfl 0 rfl oneI64 rfl rfl ?_; clear hm; intro w1 hm; simp only [List.set_cons_zero, List.set_cons_succ] at hm)
   | (go_at_call 20; refine (HEV.out _).mono ?_; rintro e w2 ⟨rfl, hb2⟩; replace hm := hm.after hb2; clear hb2))
  replace hm : Mem w w2 [⟨g5, #[.int .i64 0], 2, true⟩] := hm
  have o5 := hm.own_ge 0 rfl
  have h5 := hm.mem (n := 0) rfl
  have l5 := lt_of_some h5
  have hf0 : FrB [] w w2 := FrB.below (hm.done rfl)
  have hpast : ∀ W, FrB [g5] w2 W → FrB [] w W := fun W hW => hf0.past hW (fun b hb => by
   rw [List.mem_singleton.1 hb]; exact o5)
  refine (hoists_calls manyStep (ManyI g5) 24 #[.pointer (some ⟨g5, 0, none⟩)] [g5] 0 A0 c0 m (evenL sets subs) w2 many1_enters
   (fun b hb => by rw [List.mem_singleton.1 hb]; exact l5) (fun W hW => Kd.C_below HR.out (hpast W hW).to_below) hc HP.out (by omega) HLE.out HBE.out
   (fun w1 hf => hf.row (by rw [show wrap64 ((0 : Nat) : Int) = 0 from w64 (by decide) (by decide)]; exact h5) (by simp))
   (fun base s h v w1 hI ho hB _ _ => many1_calls g5 base s h v w1 hI ho)
   (fun base s gh w1 w3 hI hlt hni hge hf => hf.row hI (by simp at hni ⊢; omega))).mono ?_
  rintro e wh ⟨base, s', on, rfl, hrun, hb0, hb1, hI6, hf6⟩
  rw [runL_many, HFE.out] at hrun
  injection hrun with hs hon
  have HFW := Aside0.mk (hpast wh hf6)
  have HC := Aside0.mk (cell1 hI6)
  have HW := Aside0.mk (show wrap64 (s' : Int) = (q.length : Int) by
   have := HLN.out
   unfold wrap64; omega)
  clear hs hf6 hm hpast hf0 h5
  go_wp2_with ((with_reducible refine gt_load 2 ?_); refine wpList_plain rfl (fun K hK => ?_); unfold Oper.wp; rw [y_cell rfl rfl oneI64 HC.out]; refine hK _ _ ?_; clear hK)
  go_ret2
  exact ⟨by rw [HW.out]; rfl, HFW.out.to_below⟩
 ·have HRES := Aside0.mk (show waysW m sets subs = (0, codeM m sets subs) from if_neg hk)
  rw [HRES.out]
  have hk1 : (codeM m sets subs != 0) = true := by rw [bne_iff_ne]; exact hk
  clear hk HRES hr hs
  generalize codeM m sets subs = q at *
  go_enter Try.func9, Try.ntmps9
  go_wp2_with (go_at_call 18; refine HCO.out.mono ?_; rintro e w1 ⟨rfl, hb1⟩; have HB1 := Aside0.mk hb1; clear hb1)
  go_ret2
  exact ⟨rfl, HB1.out⟩
end Go.Proofs.Ytfdjgomocbniaaa.Arr
namespace Go.Proofs.Ytfdjgomocbniaaa.K
open Go.RowKit Go.Proofs.YtfdjgomocbniaaaW.PrintWords Go.Proofs.YtfdjgomocbniaaaW.PrintLast Go.Proofs.YtfdjgomocbniaaaW.PrintMore
attribute [local go_sem] max2_int min2_int max_two min_two max_three min_three max_four min_four
set_option linter.unusedVariables false
set_option linter.unusedSimpArgs false
def IsS70 (w0 W : World) (g : Nat) (f0 : List Int) (f1 : Int) (f2 : Int) : Prop := ∃ A0 c0, W.heap[g]? = some (.cells #[.slice A0 f0.length c0, .int .i64 f1, .int .u64 f2] 70 (0, 0)) ∧ w0.heap.size ≤ g ∧ Kd.C (Kd.int .u8) w0 A0 f0.length f0
theorem IsS70.grown {w0 W : World} {g : Nat} {f0 : List Int} {f1 : Int} {f2 : Int} {W1 : World} {row : Option Nat} (h : IsS70 w0 W g f0 f1 f2) (hw : W.grownBy W1 row) (hne : some g ≠ row) : IsS70 w0 W1 g f0 f1 f2 := by
 obtain ⟨A0, c0, hb, hg, hr0⟩ := h
 exact ⟨A0, c0, blk_grown hb hw hne, hg, hr0⟩
theorem IsS70.below {w0 W : World} {g : Nat} {f0 : List Int} {f1 : Int} {f2 : Int} {W1 : World} (h : IsS70 w0 W g f0 f1 f2) (hw : Below W.heap.size W W1) : IsS70 w0 W1 g f0 f1 f2 := h.grown (grown_of_below hw none) (by simp)
theorem IsS70.drewN {w0 W : World} {g : Nat} {f0 : List Int} {f1 : Int} {f2 : Int} (h : IsS70 w0 W g f0 f1 f2) (m : Nat) : IsS70 w0 (W.drewN m) g f0 f1 f2 := h
theorem IsS70.apart {w0 W : World} {g : Nat} {f0 : List Int} {f1 : Int} {f2 : Int} {α : Type} {d : Kd α} {e : Nat} {base : Nat} {ok : Nat → Prop} {v : Value} {xs : List α} (h : IsS70 w0 W g f0 f1 f2) (ho : d.R e W base ok v xs) (ht : ∀ q, q ∈ e :: d.E → q ≠ 70) : d.R e W base (fun k => ok k ∧ k ≠ g) v xs := by
 obtain ⟨A0, c0, hb, hg, hr0⟩ := h
 exact Kd.R_types ho hb ht
theorem IsS70.own_ne {w0 W : World} {g : Nat} {f0 : List Int} {f1 : Int} {f2 : Int} {α : Type} {d : Kd α} {e : Nat} {base : Nat} {ok : Nat → Prop} {v : Value} {xs : List α} (h : IsS70 w0 W g f0 f1 f2) (ho : d.R e W base ok v xs) (ht : e ≠ 70) : some g ≠ v.ownBlock := by
 obtain ⟨A0, c0, hb, hg, hr0⟩ := h
 exact Kd.R_ne ho hb ht
theorem IsS70.ge {w0 W : World} {g : Nat} {f0 : List Int} {f1 : Int} {f2 : Int} (h : IsS70 w0 W g f0 f1 f2) : w0.heap.size ≤ g := by
 obtain ⟨A0, c0, hb, hg, hr0⟩ := h
 exact hg
theorem cellS70_0 {W : World} {g : Nat} {A0 : Option Addr} {c0 : Nat} {f0 : List Int} {f1 : Int} {f2 : Int} (h : W.heap[g]? = some (.cells #[.slice A0 f0.length c0, .int .i64 f1, .int .u64 f2] 70 (0, 0))) : W.cell? ⟨g, 0, none⟩ = some (.slice A0 f0.length c0) := (blk_cell h 0).trans rfl
theorem cellS70_1 {W : World} {g : Nat} {A0 : Option Addr} {c0 : Nat} {f0 : List Int} {f1 : Int} {f2 : Int} (h : W.heap[g]? = some (.cells #[.slice A0 f0.length c0, .int .i64 f1, .int .u64 f2] 70 (0, 0))) : W.cell? ⟨g, 1, none⟩ = some (.int .i64 f1) := (blk_cell h 1).trans rfl
theorem IsS70.set_1 {w0 W : World} {g : Nat} {f0 : List Int} {f1 : Int} {f2 : Int} (h : IsS70 w0 W g f0 f1 f2) (x : Int) : IsS70 w0 (W.setCell ⟨g, 1, none⟩ (.int .i64 x)) g f0 x f2 := by
 obtain ⟨A0, c0, hb, hg, hr0⟩ := h
 exact ⟨A0, c0, by simpa using blk_set hb 1 (.int .i64 x), hg, hr0⟩
theorem cellS70_2 {W : World} {g : Nat} {A0 : Option Addr} {c0 : Nat} {f0 : List Int} {f1 : Int} {f2 : Int} (h : W.heap[g]? = some (.cells #[.slice A0 f0.length c0, .int .i64 f1, .int .u64 f2] 70 (0, 0))) : W.cell? ⟨g, 2, none⟩ = some (.int .u64 f2) := (blk_cell h 2).trans rfl
theorem IsS70.set_2 {w0 W : World} {g : Nat} {f0 : List Int} {f1 : Int} {f2 : Int} (h : IsS70 w0 W g f0 f1 f2) (x : Int) : IsS70 w0 (W.setCell ⟨g, 2, none⟩ (.int .u64 x)) g f0 f1 x := by
 obtain ⟨A0, c0, hb, hg, hr0⟩ := h
 exact ⟨A0, c0, by simpa using blk_set hb 2 (.int .u64 x), hg, hr0⟩
def spec_l00Src_next.f (s0_0 : List Int) (s0_1 : Int) (s0_2 : Int) : Option (Int × Int × Int) := if s0_1 < (s0_0.length : Int) then (if 0 ≤ s0_1 then (if (wrap64 (s0_1 + 1)) ≤ (s0_0.length : Int) then (some (wrap64 (rd s0_0 s0_1), wrap64 (s0_1 + 1), IntKind.u64.wrap ((IntKind.u64.wrap ((IntKind.u64.wrap (s0_2 * 6364136223846793005)) + (IntKind.u64.wrap (wrap64 (rd s0_0 s0_1))))) + 1442695040888963407))) else (some (wrap64 (Go.bits .and .u64 ((IntKind.u64.wrap ((IntKind.u64.wrap ((IntKind.u64.wrap (s0_2 * 6364136223846793005)) + (IntKind.u64.wrap (wrap64 (rd s0_0 s0_1))))) + 1442695040888963407)) / 1099511627776) 255), wrap64 (s0_1 + 1), IntKind.u64.wrap ((IntKind.u64.wrap ((IntKind.u64.wrap (s0_2 * 6364136223846793005)) + (IntKind.u64.wrap (wrap64 (rd s0_0 s0_1))))) + 1442695040888963407)))) else (none)) else (if (wrap64 (s0_1 + 1)) ≤ (s0_0.length : Int) then (some (0, wrap64 (s0_1 + 1), IntKind.u64.wrap ((IntKind.u64.wrap ((IntKind.u64.wrap (s0_2 * 6364136223846793005)) + 0)) + 1442695040888963407))) else (some (wrap64 (Go.bits .and .u64 ((IntKind.u64.wrap ((IntKind.u64.wrap ((IntKind.u64.wrap (s0_2 * 6364136223846793005)) + 0)) + 1442695040888963407)) / 1099511627776) 255), wrap64 (s0_1 + 1), IntKind.u64.wrap ((IntKind.u64.wrap ((IntKind.u64.wrap (s0_2 * 6364136223846793005)) + 0)) + 1442695040888963407))))
set_option maxHeartbeats 8000000 in
set_option maxRecDepth 100000 in
theorem spec_l00Src_next.calls (g : Nat) (s0_0 : List Int) (s0_1 : Int) (s0_2 : Int) (r1 : Int) (r2 : Int) (r3 : Int) (w0 w : World) (hI : IsS70 w0 w g s0_0 s0_1 s0_2) (hB : Below w0.heap.size w0 w) (h : spec_l00Src_next.f s0_0 s0_1 s0_2 = some (r1, r2, r3)) :
  Calls Try.prog 46 #[.pointer (some ⟨g, 0, none⟩)] w fun e w' => e = .returned (.int .i64 r1) ∧ IsS70 w0 w' g s0_0 r2 r3 ∧ Below w0.heap.size w0 w' ∧ KeepBut w w' g none := by
 have HI0 := Aside0.mk hI
 have HK := Aside0.mk (KeepBut.refl w g none)
 have HL := Aside0.mk hB.size
 clear hI
 have HW0 := Aside0.mk hB.size
 have HB := Aside0.mk hB
 clear hB
 have H : (if s0_1 < (s0_0.length : Int) then (if 0 ≤ s0_1 then (if (wrap64 (s0_1 + 1)) ≤ (s0_0.length : Int) then (some (wrap64 (rd s0_0 s0_1), wrap64 (s0_1 + 1), IntKind.u64.wrap ((IntKind.u64.wrap ((IntKind.u64.wrap (s0_2 * 6364136223846793005)) + (IntKind.u64.wrap (wrap64 (rd s0_0 s0_1))))) + 1442695040888963407))) else (some (wrap64 (Go.bits .and .u64 ((IntKind.u64.wrap ((IntKind.u64.wrap ((IntKind.u64.wrap (s0_2 * 6364136223846793005)) + (IntKind.u64.wrap (wrap64 (rd s0_0 s0_1))))) + 1442695040888963407)) / 1099511627776) 255), wrap64 (s0_1 + 1), IntKind.u64.wrap ((IntKind.u64.wrap ((IntKind.u64.wrap (s0_2 * 6364136223846793005)) + (IntKind.u64.wrap (wrap64 (rd s0_0 s0_1))))) + 1442695040888963407)))) else (none)) else (if (wrap64 (s0_1 + 1)) ≤ (s0_0.length : Int) then (some (0, wrap64 (s0_1 + 1), IntKind.u64.wrap ((IntKind.u64.wrap ((IntKind.u64.wrap (s0_2 * 6364136223846793005)) + 0)) + 1442695040888963407))) else (some (wrap64 (Go.bits .and .u64 ((IntKind.u64.wrap ((IntKind.u64.wrap ((IntKind.u64.wrap (s0_2 * 6364136223846793005)) + 0)) + 1442695040888963407)) / 1099511627776) 255), wrap64 (s0_1 + 1), IntKind.u64.wrap ((IntKind.u64.wrap ((IntKind.u64.wrap (s0_2 * 6364136223846793005)) + 0)) + 1442695040888963407))))) = some (r1, r2, r3) := h
 clear h
 by_cases c2 : s0_1 < (s0_0.length : Int)
 ·rw [if_pos c2] at H
  have c2b0 : decide (s0_1 < (s0_0.length : Int)) = true := decide_eq_true c2
  clear c2
  by_cases c3 : 0 ≤ s0_1
  ·rw [if_pos c3] at H
   have c3b0 : decide (0 ≤ s0_1) = true := decide_eq_true c3
   clear c3
   by_cases c4 : (wrap64 (s0_1 + 1)) ≤ (s0_0.length : Int)
   ·rw [if_pos c4] at H
    have c4b0 : decide ((wrap64 (s0_1 + 1)) ≤ (s0_0.length : Int)) = true := decide_eq_true c4
    clear c4
    simp only [Option.some.injEq, Prod.mk.injEq] at H
    obtain ⟨rfl, rfl, rfl⟩ := H
    obtain ⟨ASz5_0, cSz5_0, HGz5, hgz5, HSz5_0⟩ := HI0.out
    have hcz5_0 := cellS70_0 HGz5
    have hcz5_1 := cellS70_1 HGz5
    have hcz5_2 := cellS70_2 HGz5
    have hfz5_1 := blk_frozen HGz5 1
    have hfz5_2 := blk_frozen HGz5 2
    clear HGz5 hgz5
    have p165 : 0 ≤ (s0_1 : Int) := of_decide_eq_true (by first | (with_reducible assumption) | assumption)
    have q165 : s0_1 < (s0_0.length : Int) := of_decide_eq_true (by first | (with_reducible assumption) | assumption)
    obtain ⟨ad165, e165, hx165_0⟩ := Kd.at_int HSz5_0 s0_1 p165 q165
    cases e165
    replace hx165_0 := pw_cell_below HB.out hx165_0
    replace p165 := eq_true p165
    replace q165 := eq_true q165
    go_enter Try.func46, Try.ntmps46
    go_wp2
    repeat (go_quiet (fail); try go_wp2)
    go_ret
    exact ⟨by first | rfl | (simp [errW_none, errW_some] <;> rfl) | (simp [*, errW_none, errW_some] <;> rfl), by (try simp only [Int.add_zero]); repeat (first | (with_reducible first | exact HI0.out | apply IsS70.alloc | apply IsS70.drewN | apply IsS70.drew | apply IsS70.set_1 | apply IsS70.set_2) | exact HI0.out), by repeat (first | (with_reducible first | exact HB.out | apply below_alloc | apply pw_below_drewN | apply below_drew1 | refine below_set ?_ (IsS70.ge HI0.out)) | exact HB.out), by repeat (first | (with_reducible first | exact HK.out | apply KeepBut.set_ | apply keep_drewN | apply keep_drew | apply keep_alloc) | exact HK.out)⟩
   ·rw [if_neg c4] at H
    have c4b0 : decide ((wrap64 (s0_1 + 1)) ≤ (s0_0.length : Int)) = false := decide_eq_false c4
    clear c4
    simp only [Option.some.injEq, Prod.mk.injEq] at H
    obtain ⟨rfl, rfl, rfl⟩ := H
    obtain ⟨ASz6_0, cSz6_0, HGz6, hgz6, HSz6_0⟩ := HI0.out
    have hcz6_0 := cellS70_0 HGz6
    have hcz6_1 := cellS70_1 HGz6
    have hcz6_2 := cellS70_2 HGz6
    have hfz6_1 := blk_frozen HGz6 1
    have hfz6_2 := blk_frozen HGz6 2
    clear HGz6 hgz6
    have p165 : 0 ≤ (s0_1 : Int) := of_decide_eq_true (by first | (with_reducible assumption) | assumption)
    have q165 : s0_1 < (s0_0.length : Int) := of_decide_eq_true (by first | (with_reducible assumption) | assumption)
    obtain ⟨ad165, e165, hx165_0⟩ := Kd.at_int HSz6_0 s0_1 p165 q165
    cases e165
    replace hx165_0 := pw_cell_below HB.out hx165_0
    replace p165 := eq_true p165
    replace q165 := eq_true q165
    go_enter Try.func46, Try.ntmps46
    go_wp2
    repeat (go_quiet (fail); try go_wp2)
    go_ret
    exact ⟨by first | rfl | (simp [errW_none, errW_some] <;> rfl) | (simp [*, errW_none, errW_some] <;> rfl), by (try simp only [Int.add_zero]); repeat (first | (with_reducible first | exact HI0.out | apply IsS70.alloc | apply IsS70.drewN | apply IsS70.drew | apply IsS70.set_1 | apply IsS70.set_2) | exact HI0.out), by repeat (first | (with_reducible first | exact HB.out | apply below_alloc | apply pw_below_drewN | apply below_drew1 | refine below_set ?_ (IsS70.ge HI0.out)) | exact HB.out), by repeat (first | (with_reducible first | exact HK.out | apply KeepBut.set_ | apply keep_drewN | apply keep_drew | apply keep_alloc) | exact HK.out)⟩
  ·rw [if_neg c3] at H
   exact absurd H (by simp)
 ·rw [if_neg c2] at H
  have c2b0 : decide (s0_1 < (s0_0.length : Int)) = false := decide_eq_false c2
  clear c2
  by_cases c7 : (wrap64 (s0_1 + 1)) ≤ (s0_0.length : Int)
  ·rw [if_pos c7] at H
   have c7b0 : decide ((wrap64 (s0_1 + 1)) ≤ (s0_0.length : Int)) = true := decide_eq_true c7
   clear c7
   simp only [Option.some.injEq, Prod.mk.injEq] at H
   obtain ⟨rfl, rfl, rfl⟩ := H
   obtain ⟨ASz8_0, cSz8_0, HGz8, hgz8, HSz8_0⟩ := HI0.out
   have hcz8_0 := cellS70_0 HGz8
   have hcz8_1 := cellS70_1 HGz8
   have hcz8_2 := cellS70_2 HGz8
   have hfz8_1 := blk_frozen HGz8 1
   have hfz8_2 := blk_frozen HGz8 2
   clear HGz8 hgz8
   go_enter Try.func46, Try.ntmps46
   go_wp2
   repeat (go_quiet (fail); try go_wp2)
   go_ret
   exact ⟨by first | rfl | (simp [errW_none, errW_some] <;> rfl) | (simp [*, errW_none, errW_some] <;> rfl), by (try simp only [Int.add_zero]); repeat (first | (with_reducible first | exact HI0.out | apply IsS70.alloc | apply IsS70.drewN | apply IsS70.drew | apply IsS70.set_1 | apply IsS70.set_2) | exact HI0.out), by repeat (first | (with_reducible first | exact HB.out | apply below_alloc | apply pw_below_drewN | apply below_drew1 | refine below_set ?_ (IsS70.ge HI0.out)) | exact HB.out), by repeat (first | (with_reducible first | exact HK.out | apply KeepBut.set_ | apply keep_drewN | apply keep_drew | apply keep_alloc) | exact HK.out)⟩
  ·rw [if_neg c7] at H
   have c7b0 : decide ((wrap64 (s0_1 + 1)) ≤ (s0_0.length : Int)) = false := decide_eq_false c7
   clear c7
   simp only [Option.some.injEq, Prod.mk.injEq] at H
   obtain ⟨rfl, rfl, rfl⟩ := H
   obtain ⟨ASz9_0, cSz9_0, HGz9, hgz9, HSz9_0⟩ := HI0.out
   have hcz9_0 := cellS70_0 HGz9
   have hcz9_1 := cellS70_1 HGz9
   have hcz9_2 := cellS70_2 HGz9
   have hfz9_1 := blk_frozen HGz9 1
   have hfz9_2 := blk_frozen HGz9 2
   clear HGz9 hgz9
   go_enter Try.func46, Try.ntmps46
   go_wp2
   repeat (go_quiet (fail); try go_wp2)
   go_ret
   exact ⟨by first | rfl | (simp [errW_none, errW_some] <;> rfl) | (simp [*, errW_none, errW_some] <;> rfl), by (try simp only [Int.add_zero]); repeat (first | (with_reducible first | exact HI0.out | apply IsS70.alloc | apply IsS70.drewN | apply IsS70.drew | apply IsS70.set_1 | apply IsS70.set_2) | exact HI0.out), by repeat (first | (with_reducible first | exact HB.out | apply below_alloc | apply pw_below_drewN | apply below_drew1 | refine below_set ?_ (IsS70.ge HI0.out)) | exact HB.out), by repeat (first | (with_reducible first | exact HK.out | apply KeepBut.set_ | apply keep_drewN | apply keep_drew | apply keep_alloc) | exact HK.out)⟩
def spec_l00Src_pick.f (s0_0 : List Int) (s0_1 : Int) (s0_2 : Int) (a1 : Int) : Option (Int × Int × Int) := if a1 ≤ 1 then (some (0, s0_1, s0_2)) else ((spec_l00Src_next.f s0_0 s0_1 s0_2).bind fun bt166 => (if a1 > 200 then ((spec_l00Src_next.f s0_0 bt166.2.1 bt166.2.2).bind fun bt169 => (if a1 = 0 then (none) else (some (Int.tmod (wrap64 ((wrap64 (bt166.1 * 256)) + bt169.1)) a1, bt169.2.1, bt169.2.2)))) else (if a1 = 0 then (none) else (some (Int.tmod bt166.1 a1, bt166.2.1, bt166.2.2)))))
set_option maxHeartbeats 8000000 in
set_option maxRecDepth 100000 in
theorem spec_l00Src_pick.calls (g : Nat) (s0_0 : List Int) (s0_1 : Int) (s0_2 : Int) (a1 : Int) (r1 : Int) (r2 : Int) (r3 : Int) (w0 w : World) (hI : IsS70 w0 w g s0_0 s0_1 s0_2) (hB : Below w0.heap.size w0 w) (h : spec_l00Src_pick.f s0_0 s0_1 s0_2 a1 = some (r1, r2, r3)) :
  Calls Try.prog 30 #[.pointer (some ⟨g, 0, none⟩), .int .i64 a1] w fun e w' => e = .returned (.int .i64 r1) ∧ IsS70 w0 w' g s0_0 r2 r3 ∧ Below w0.heap.size w0 w' ∧ KeepBut w w' g none := by
 have HI0 := Aside0.mk hI
 have HK := Aside0.mk (KeepBut.refl w g none)
 have HL := Aside0.mk hB.size
 clear hI
 have HW0 := Aside0.mk hB.size
 have HB := Aside0.mk hB
 clear hB
 have H : (if a1 ≤ 1 then (some (0, s0_1, s0_2)) else ((spec_l00Src_next.f s0_0 s0_1 s0_2).bind fun bt166 => (if a1 > 200 then ((spec_l00Src_next.f s0_0 bt166.2.1 bt166.2.2).bind fun bt169 => (if a1 = 0 then (none) else (some (Int.tmod (wrap64 ((wrap64 (bt166.1 * 256)) + bt169.1)) a1, bt169.2.1, bt169.2.2)))) else (if a1 = 0 then (none) else (some (Int.tmod bt166.1 a1, bt166.2.1, bt166.2.2)))))) = some (r1, r2, r3) := h
 clear h
 by_cases c3 : a1 ≤ 1
 ·rw [if_pos c3] at H
  have c3b0 : decide (a1 ≤ 1) = true := decide_eq_true c3
  clear c3
  simp only [Option.some.injEq, Prod.mk.injEq] at H
  obtain ⟨rfl, rfl, rfl⟩ := H
  go_enter Try.func30, Try.ntmps30
  go_wp2
  go_ret
  exact ⟨by first | rfl | (simp [errW_none, errW_some] <;> rfl) | (simp [*, errW_none, errW_some] <;> rfl), by repeat (first | (with_reducible first | exact HI0.out | apply IsS70.alloc | apply IsS70.drewN | apply IsS70.drew | apply IsS70.set_1 | apply IsS70.set_2) | exact HI0.out), by repeat (first | (with_reducible first | exact HB.out | apply below_alloc | apply pw_below_drewN | apply below_drew1 | refine below_set ?_ (IsS70.ge HI0.out)) | exact HB.out), by repeat (first | (with_reducible first | exact HK.out | apply KeepBut.set_ | apply keep_drewN | apply keep_drew | apply keep_alloc) | exact HK.out)⟩
 ·rw [if_neg c3] at H
  have c3b0 : decide (a1 ≤ 1) = false := decide_eq_false c3
  clear c3
  replace H := Option.bind_eq_some_iff.mp H
  obtain ⟨⟨t166, t167, t168⟩, A40, H⟩ := H
  replace H : (if a1 > 200 then ((spec_l00Src_next.f s0_0 t167 t168).bind fun bt169 => (if a1 = 0 then (none) else (some (Int.tmod (wrap64 ((wrap64 (t166 * 256)) + bt169.1)) a1, bt169.2.1, bt169.2.2)))) else (if a1 = 0 then (none) else (some (Int.tmod t166 a1, t167, t168)))) = some (r1, r2, r3) := H
  have A4 := Aside0.mk A40
  clear A40
  by_cases c5 : a1 > 200
  ·rw [if_pos c5] at H
   have c5b0 : decide (200 < a1) = true := decide_eq_true c5
   clear c5
   replace H := Option.bind_eq_some_iff.mp H
   obtain ⟨⟨t169, t170, t171⟩, A60, H⟩ := H
   replace H : (if a1 = 0 then (none) else (some (Int.tmod (wrap64 ((wrap64 (t166 * 256)) + t169)) a1, t170, t171))) = some (r1, r2, r3) := H
   have A6 := Aside0.mk A60
   clear A60
   by_cases c7 : a1 = 0
   ·rw [if_pos c7] at H
    exact absurd H (by simp)
   ·rw [if_neg c7] at H
    have c7b0 : (a1 == 0) = false := beq_eq_false_iff_ne.mpr c7
    have c7b1 : (a1 != 0) = true := bne_iff_ne.mpr c7
    simp only [Option.some.injEq, Prod.mk.injEq] at H
    obtain ⟨rfl, rfl, rfl⟩ := H
    go_enter Try.func30, Try.ntmps30
    go_wp2_with (first | ((with_reducible refine gate_callee (f := 46) rfl ?_); refine goesL_ (some 9) rfl rfl Try.func46 (by kernel_rfl) rfl #[.pointer (some ⟨g, 0, none⟩)] rfl (by (try simp only [List.map_toArray, List.map_cons, List.map_nil]); first | done | rfl | (simp only [List.length_drop, List.length_take]; rfl)) ?_; (with_reducible refine (spec_l00Src_next.calls g s0_0 s0_1 s0_2 t166 t167 t168 w0 _ ?side1 ?side2 A4.out).mono ?_); (case side1 => repeat (first | (with_reducible first | exact HI0.out | apply IsS70.alloc | apply IsS70.drewN | apply IsS70.drew | apply IsS70.set_1 | apply IsS70.set_2) | exact HI0.out)); (case side2 => repeat (first | (with_reducible first | exact HB.out | apply below_alloc | apply pw_below_drewN | apply below_drew1 | refine below_set ?_ (IsS70.ge HI0.out)) | exact HB.out)); rintro e w8 ⟨rfl, hi, hb, hk⟩; refine ⟨_, rfl, ?_⟩; have n0_ := Aside0.mk (KeepBut.trans (by repeat (first | (with_reducible first | exact HK.out | apply KeepBut.set_ | apply keep_drewN | apply keep_drew | apply keep_alloc) | exact HK.out)) hk (.inl rfl)); have n1_ := Aside0.mk (hb); have n2_ := Aside0.mk (hi); clear HK; clear HB; clear HI0; have HK := n0_; have HB := n1_; have HI0 := n2_; clear n0_ n1_ n2_; (try clear hb); (try clear hb2); (try clear hk); (try clear hi)) | ((with_reducible refine gate_callee (f := 46) rfl ?_); refine goesL_ (some 15) rfl rfl Try.func46 (by kernel_rfl) rfl #[.pointer (some ⟨g, 0, none⟩)] rfl (by (try simp only [List.map_toArray, List.map_cons, List.map_nil]); first | done | rfl | (simp only [List.length_drop, List.length_take]; rfl)) ?_; (with_reducible refine (spec_l00Src_next.calls g s0_0 t167 t168 t169 t170 t171 w0 _ ?side1 ?side2 A6.out).mono ?_); (case side1 => repeat (first | (with_reducible first | exact HI0.out | apply IsS70.alloc | apply IsS70.drewN | apply IsS70.drew | apply IsS70.set_1 | apply IsS70.set_2) | exact HI0.out)); (case side2 => repeat (first | (with_reducible first | exact HB.out | apply below_alloc | apply pw_below_drewN | apply below_drew1 | refine below_set ?_ (IsS70.ge HI0.out)) | exact HB.out)); rintro e w9 ⟨rfl, hi, hb, hk⟩; refine ⟨_, rfl, ?_⟩; have n0_ := Aside0.mk (KeepBut.trans (by repeat (first | (with_reducible first | exact HK.out | apply KeepBut.set_ | apply keep_drewN | apply keep_drew | apply keep_alloc) | exact HK.out)) hk (.inl rfl)); have n1_ := Aside0.mk (hb); have n2_ := Aside0.mk (hi); clear HK; clear HB; clear HI0; have HK := n0_; have HB := n1_; have HI0 := n2_; clear n0_ n1_ n2_; (try clear hb); (try clear hb2); (try clear hk); (try clear hi)))
    go_ret
    exact ⟨by first | rfl | (simp [errW_none, errW_some] <;> rfl) | (simp [*, errW_none, errW_some] <;> rfl), by repeat (first | (with_reducible first | exact HI0.out | apply IsS70.alloc | apply IsS70.drewN | apply IsS70.drew | apply IsS70.set_1 | apply IsS70.set_2) | exact HI0.out), by repeat (first | (with_reducible first | exact HB.out | apply below_alloc | apply pw_below_drewN | apply below_drew1 | refine below_set ?_ (IsS70.ge HI0.out)) | exact HB.out), by repeat (first | (with_reducible first | exact HK.out | apply KeepBut.set_ | apply keep_drewN | apply keep_drew | apply keep_alloc) | exact HK.out)⟩
  ·rw [if_neg c5] at H
   have c5b0 : decide (200 < a1) = false := decide_eq_false c5
   clear c5
   by_cases c10 : a1 = 0
   ·rw [if_pos c10] at H
    exact absurd H (by simp)
   ·rw [if_neg c10] at H
    have c10b0 : (a1 == 0) = false := beq_eq_false_iff_ne.mpr c10
    have c10b1 : (a1 != 0) = true := bne_iff_ne.mpr c10
    simp only [Option.some.injEq, Prod.mk.injEq] at H
    obtain ⟨rfl, rfl, rfl⟩ := H
    go_enter Try.func30, Try.ntmps30
    go_wp2_with (first | ((with_reducible refine gate_callee (f := 46) rfl ?_); refine goesL_ (some 9) rfl rfl Try.func46 (by kernel_rfl) rfl #[.pointer (some ⟨g, 0, none⟩)] rfl (by (try simp only [List.map_toArray, List.map_cons, List.map_nil]); first | done | rfl | (simp only [List.length_drop, List.length_take]; rfl)) ?_; (with_reducible refine (spec_l00Src_next.calls g s0_0 s0_1 s0_2 t166 t167 t168 w0 _ ?side1 ?side2 A4.out).mono ?_); (case side1 => repeat (first | (with_reducible first | exact HI0.out | apply IsS70.alloc | apply IsS70.drewN | apply IsS70.drew | apply IsS70.set_1 | apply IsS70.set_2) | exact HI0.out)); (case side2 => repeat (first | (with_reducible first | exact HB.out | apply below_alloc | apply pw_below_drewN | apply below_drew1 | refine below_set ?_ (IsS70.ge HI0.out)) | exact HB.out)); rintro e w11 ⟨rfl, hi, hb, hk⟩; refine ⟨_, rfl, ?_⟩; have n0_ := Aside0.mk (KeepBut.trans (by repeat (first | (with_reducible first | exact HK.out | apply KeepBut.set_ | apply keep_drewN | apply keep_drew | apply keep_alloc) | exact HK.out)) hk (.inl rfl)); have n1_ := Aside0.mk (hb); have n2_ := Aside0.mk (hi); clear HK; clear HB; clear HI0; have HK := n0_; have HB := n1_; have HI0 := n2_; clear n0_ n1_ n2_; (try clear hb); (try clear hb2); (try clear hk); (try clear hi)))
    go_ret
    exact ⟨by first | rfl | (simp [errW_none, errW_some] <;> rfl) | (simp [*, errW_none, errW_some] <;> rfl), by repeat (first | (with_reducible first | exact HI0.out | apply IsS70.alloc | apply IsS70.drewN | apply IsS70.drew | apply IsS70.set_1 | apply IsS70.set_2) | exact HI0.out), by repeat (first | (with_reducible first | exact HB.out | apply below_alloc | apply pw_below_drewN | apply below_drew1 | refine below_set ?_ (IsS70.ge HI0.out)) | exact HB.out), by repeat (first | (with_reducible first | exact HK.out | apply KeepBut.set_ | apply keep_drewN | apply keep_drew | apply keep_alloc) | exact HK.out)⟩
def spec_l00Src_among.f (s0_0 : List Int) (s0_1 : Int) (s0_2 : Int) (l1 : List Int) : Option (Int × Int × Int) := (spec_l00Src_pick.f s0_0 s0_1 s0_2 (l1.length : Int)).bind fun bt172 => (if 0 ≤ bt172.1 then (if bt172.1 < (l1.length : Int) then (some (rd l1 bt172.1, bt172.2.1, bt172.2.2)) else (none)) else (none))
set_option maxHeartbeats 8000000 in
set_option maxRecDepth 100000 in
theorem spec_l00Src_among.calls (g : Nat) (s0_0 : List Int) (s0_1 : Int) (s0_2 : Int) (A1 : Option Addr) (c1 : Nat) (l1 : List Int) (r1 : Int) (r2 : Int) (r3 : Int) (w0 w : World) (hI : IsS70 w0 w g s0_0 s0_1 s0_2) (hB : Below w0.heap.size w0 w) (hr1 : Kd.C (Kd.int .i64) w A1 l1.length l1) (hc1 : l1.length ≤ c1) (hf1 : ∀ ad, A1 = some ad → 0 < l1.length → ad.block ≠ g) (h : spec_l00Src_among.f s0_0 s0_1 s0_2 l1 = some (r1, r2, r3)) :
  Calls Try.prog 31 #[.pointer (some ⟨g, 0, none⟩), .slice A1 l1.length c1] w fun e w' => e = .returned (.int .i64 r1) ∧ IsS70 w0 w' g s0_0 r2 r3 ∧ Below w0.heap.size w0 w' ∧ KeepBut w w' g none := by
 have HR1 := Aside0.mk hr1
 have HC1 := Aside0.mk hc1
 clear hr1 hc1
 have HI0 := Aside0.mk hI
 have HK := Aside0.mk (KeepBut.refl w g none)
 have HL := Aside0.mk hB.size
 clear hI
 have HW0 := Aside0.mk hB.size
 have HB := Aside0.mk hB
 clear hB
 have H : ((spec_l00Src_pick.f s0_0 s0_1 s0_2 (l1.length : Int)).bind fun bt172 => (if 0 ≤ bt172.1 then (if bt172.1 < (l1.length : Int) then (some (rd l1 bt172.1, bt172.2.1, bt172.2.2)) else (none)) else (none))) = some (r1, r2, r3) := h
 clear h
 replace H := Option.bind_eq_some_iff.mp H
 obtain ⟨⟨t172, t173, t174⟩, A30, H⟩ := H
 replace H : (if 0 ≤ t172 then (if t172 < (l1.length : Int) then (some (rd l1 t172, t173, t174)) else (none)) else (none)) = some (r1, r2, r3) := H
 have A3 := Aside0.mk A30
 clear A30
 by_cases c4 : 0 ≤ t172
 ·rw [if_pos c4] at H
  have c4b0 : decide (0 ≤ t172) = true := decide_eq_true c4
  clear c4
  by_cases c5 : t172 < (l1.length : Int)
  ·rw [if_pos c5] at H
   have c5b0 : decide (t172 < (l1.length : Int)) = true := decide_eq_true c5
   clear c5
   simp only [Option.some.injEq, Prod.mk.injEq] at H
   obtain ⟨rfl, rfl, rfl⟩ := H
   go_enter Try.func31, Try.ntmps31
   go_wp2_with (first | ((with_reducible refine gate_callee (f := 30) rfl ?_); refine goesL_ (some 9) rfl rfl Try.func30 (by kernel_rfl) rfl #[.pointer (some ⟨g, 0, none⟩), .int .i64 (l1.length : Int)] rfl (by (try simp only [List.map_toArray, List.map_cons, List.map_nil]); first | done | rfl | (simp only [List.length_drop, List.length_take]; rfl)) ?_; (with_reducible refine (spec_l00Src_pick.calls g s0_0 s0_1 s0_2 (l1.length : Int) t172 t173 t174 w0 _ ?side1 ?side2 A3.out).mono ?_); (case side1 => repeat (first | (with_reducible first | exact HI0.out | apply IsS70.alloc | apply IsS70.drewN | apply IsS70.drew | apply IsS70.set_1 | apply IsS70.set_2) | exact HI0.out)); (case side2 => repeat (first | (with_reducible first | exact HB.out | apply below_alloc | apply pw_below_drewN | apply below_drew1 | refine below_set ?_ (IsS70.ge HI0.out)) | exact HB.out)); rintro e w6 ⟨rfl, hi, hb, hk⟩; refine ⟨_, rfl, ?_⟩; have n0_ := Aside0.mk (KeepBut.trans (by repeat (first | (with_reducible first | exact HK.out | apply KeepBut.set_ | apply keep_drewN | apply keep_drew | apply keep_alloc) | exact HK.out)) hk (.inl rfl)); have n1_ := Aside0.mk (hb); have n2_ := Aside0.mk (hi); clear HK; clear HB; clear HI0; have HK := n0_; have HB := n1_; have HI0 := n2_; clear n0_ n1_ n2_; (try clear hb); (try clear hb2); (try clear hk); (try clear hi); have p175 : 0 ≤ (t172 : Int) := of_decide_eq_true (by first | (with_reducible assumption) | assumption); have q175 : t172 < (l1.length : Int) := of_decide_eq_true (by first | (with_reducible assumption) | assumption); obtain ⟨ad175, e175, hx175_0⟩ := Kd.at_int HR1.out t172 p175 q175; cases e175; replace hx175_0 := keep_cell HK.out hx175_0 (by first | (rw [add_block]; exact hf1 _ rfl (by omega)) | exact hf1 _ rfl (by omega) | exact hf1 ad175 rfl (by omega)); replace p175 := eq_true p175; replace q175 := eq_true q175))
   go_ret
   exact ⟨by first | rfl | (simp [errW_none, errW_some] <;> rfl) | (simp [*, errW_none, errW_some] <;> rfl), by repeat (first | (with_reducible first | exact HI0.out | apply IsS70.alloc | apply IsS70.drewN | apply IsS70.drew | apply IsS70.set_1 | apply IsS70.set_2) | exact HI0.out), by repeat (first | (with_reducible first | exact HB.out | apply below_alloc | apply pw_below_drewN | apply below_drew1 | refine below_set ?_ (IsS70.ge HI0.out)) | exact HB.out), by repeat (first | (with_reducible first | exact HK.out | apply KeepBut.set_ | apply keep_drewN | apply keep_drew | apply keep_alloc) | exact HK.out)⟩
  ·rw [if_neg c5] at H
   exact absurd H (by simp)
 ·rw [if_neg c4] at H
  exact absurd H (by simp)
def spec_l00Src_one.f (s0_0 : List Int) (s0_1 : Int) (s0_2 : Int) (a1 : Int) : Option (Bool × Int × Int) := (spec_l00Src_pick.f s0_0 s0_1 s0_2 a1).bind fun bt176 => (some ((bt176.1 == 0), bt176.2.1, bt176.2.2))
set_option maxHeartbeats 8000000 in
set_option maxRecDepth 100000 in
theorem spec_l00Src_one.calls (g : Nat) (s0_0 : List Int) (s0_1 : Int) (s0_2 : Int) (a1 : Int) (r1 : Bool) (r2 : Int) (r3 : Int) (w0 w : World) (hI : IsS70 w0 w g s0_0 s0_1 s0_2) (hB : Below w0.heap.size w0 w) (h : spec_l00Src_one.f s0_0 s0_1 s0_2 a1 = some (r1, r2, r3)) :
  Calls Try.prog 32 #[.pointer (some ⟨g, 0, none⟩), .int .i64 a1] w fun e w' => e = .returned (.bool r1) ∧ IsS70 w0 w' g s0_0 r2 r3 ∧ Below w0.heap.size w0 w' ∧ KeepBut w w' g none := by
 have HI0 := Aside0.mk hI
 have HK := Aside0.mk (KeepBut.refl w g none)
 have HL := Aside0.mk hB.size
 clear hI
 have HW0 := Aside0.mk hB.size
 have HB := Aside0.mk hB
 clear hB
 have H : ((spec_l00Src_pick.f s0_0 s0_1 s0_2 a1).bind fun bt176 => (some ((bt176.1 == 0), bt176.2.1, bt176.2.2))) = some (r1, r2, r3) := h
 clear h
 replace H := Option.bind_eq_some_iff.mp H
 obtain ⟨⟨t176, t177, t178⟩, A30, H⟩ := H
 replace H : (some ((t176 == 0), t177, t178)) = some (r1, r2, r3) := H
 have A3 := Aside0.mk A30
 clear A30
 simp only [Option.some.injEq, Prod.mk.injEq] at H
 obtain ⟨rfl, rfl, rfl⟩ := H
 go_enter Try.func32, Try.ntmps32
 go_wp2_with (first | ((with_reducible refine gate_callee (f := 30) rfl ?_); refine goesL_ (some 7) rfl rfl Try.func30 (by kernel_rfl) rfl #[.pointer (some ⟨g, 0, none⟩), .int .i64 a1] rfl (by (try simp only [List.map_toArray, List.map_cons, List.map_nil]); first | done | rfl | (simp only [List.length_drop, List.length_take]; rfl)) ?_; (with_reducible refine (spec_l00Src_pick.calls g s0_0 s0_1 s0_2 a1 t176 t177 t178 w0 _ ?side1 ?side2 A3.out).mono ?_); (case side1 => repeat (first | (with_reducible first | exact HI0.out | apply IsS70.alloc | apply IsS70.drewN | apply IsS70.drew | apply IsS70.set_1 | apply IsS70.set_2) | exact HI0.out)); (case side2 => repeat (first | (with_reducible first | exact HB.out | apply below_alloc | apply pw_below_drewN | apply below_drew1 | refine below_set ?_ (IsS70.ge HI0.out)) | exact HB.out)); rintro e w4 ⟨rfl, hi, hb, hk⟩; refine ⟨_, rfl, ?_⟩; have n0_ := Aside0.mk (KeepBut.trans (by repeat (first | (with_reducible first | exact HK.out | apply KeepBut.set_ | apply keep_drewN | apply keep_drew | apply keep_alloc) | exact HK.out)) hk (.inl rfl)); have n1_ := Aside0.mk (hb); have n2_ := Aside0.mk (hi); clear HK; clear HB; clear HI0; have HK := n0_; have HB := n1_; have HI0 := n2_; clear n0_ n1_ n2_; (try clear hb); (try clear hb2); (try clear hk); (try clear hi)))
 go_ret
 exact ⟨by first | rfl | (simp [errW_none, errW_some] <;> rfl) | (simp [*, errW_none, errW_some] <;> rfl), by repeat (first | (with_reducible first | exact HI0.out | apply IsS70.alloc | apply IsS70.drewN | apply IsS70.drew | apply IsS70.set_1 | apply IsS70.set_2) | exact HI0.out), by repeat (first | (with_reducible first | exact HB.out | apply below_alloc | apply pw_below_drewN | apply below_drew1 | refine below_set ?_ (IsS70.ge HI0.out)) | exact HB.out), by repeat (first | (with_reducible first | exact HK.out | apply KeepBut.set_ | apply keep_drewN | apply keep_drew | apply keep_alloc) | exact HK.out)⟩
def spec_l02Meant.l0 : Nat → List Int → Int → List Int → Int → Int → Option (List Int × Int × Int)
 | 0, _, _, _, _, _ => none
 | k + 1, x3, x4, x1000, x1001, x1002 => if x4 > 0 then ((spec_l00Src_among.f x1000 x1001 x1002 (([0, 1, 2, 3, 25, 39] : List Int))).bind fun bt188 => (if x3.length < 140737488355328 then ((some (x3 ++ [IntKind.i8.wrap (bt188.1)] : List Int)).bind fun y191 => ((spec_l00Src_one.f x1000 bt188.2.1 bt188.2.2 6).bind fun bt194 => (if bt194.1 = true then (if x4 > 1 then (if (y191.length : Int) < 6 then (if y191.length < 140737488355328 then (spec_l02Meant.l0 k (y191 ++ [(-10)]) (wrap64 (x4 - 1)) x1000 bt194.2.1 bt194.2.2) else (none)) else (spec_l02Meant.l0 k y191 (wrap64 (x4 - 1)) x1000 bt194.2.1 bt194.2.2)) else (spec_l02Meant.l0 k y191 (wrap64 (x4 - 1)) x1000 bt194.2.1 bt194.2.2)) else (spec_l02Meant.l0 k y191 (wrap64 (x4 - 1)) x1000 bt194.2.1 bt194.2.2)))) else (none))) else (if (x3.length : Int) > 8 then (if 8 ≤ (x3.length : Int) then ((some (x3.take (8 : Int).toNat : List Int)).bind fun y200 => (if 0 ≤ (wrap64 ((y200.length : Int) - 1)) then (if (wrap64 ((y200.length : Int) - 1)) < (y200.length : Int) then (if (rd y200 (wrap64 ((y200.length : Int) - 1))) = (-10) then (if (wrap64 ((y200.length : Int) - 1)) ≤ (y200.length : Int) then (some ((y200.take ((wrap64 ((y200.length : Int) - 1)) : Int).toNat), x1001, x1002)) else (none)) else (some (y200, x1001, x1002))) else (none)) else (none))) else (none)) else (if 0 ≤ (wrap64 ((x3.length : Int) - 1)) then (if (wrap64 ((x3.length : Int) - 1)) < (x3.length : Int) then (if (rd x3 (wrap64 ((x3.length : Int) - 1))) = (-10) then (if (wrap64 ((x3.length : Int) - 1)) ≤ (x3.length : Int) then (some ((x3.take ((wrap64 ((x3.length : Int) - 1)) : Int).toNat), x1001, x1002)) else (none)) else (some (x3, x1001, x1002))) else (none)) else (none)))
def spec_l02Meant.f (k : Nat) (s0_0 : List Int) (s0_1 : Int) (s0_2 : Int) : Option (List Int × Int × Int) := (spec_l00Src_pick.f s0_0 s0_1 s0_2 6).bind fun bt182 => (spec_l02Meant.l0 k (([] : List Int)) (wrap64 (1 + bt182.1)) s0_0 bt182.2.1 bt182.2.2)
set_option maxHeartbeats 8000000 in
set_option maxRecDepth 100000 in
theorem spec_l02Meant.calls (k : Nat) (g : Nat) (s0_0 : List Int) (s0_1 : Int) (s0_2 : Int) (r1 : List Int) (r2 : Int) (r3 : Int) (w0 w : World) (hI : IsS70 w0 w g s0_0 s0_1 s0_2) (hB : Below w0.heap.size w0 w) (h : spec_l02Meant.f k s0_0 s0_1 s0_2 = some (r1, r2, r3)) :
  Calls Try.prog 16 #[.pointer (some ⟨g, 0, none⟩)] w fun e w' => ∃ v0_ : Value, e = .returned (v0_) ∧ Kd.R (Kd.int .i8) 64 w' w.heap.size (fun _ => True) v0_ r1 ∧ IsS70 w0 w' g s0_0 r2 r3 ∧ Below w0.heap.size w0 w' ∧ KeepBut w w' g none := by
 have HI0 := Aside0.mk hI
 have HK := Aside0.mk (KeepBut.refl w g none)
 have HL := Aside0.mk hB.size
 clear hI
 have HW0 := Aside0.mk hB.size
 have HB := Aside0.mk hB
 clear hB
 have H : ((spec_l00Src_pick.f s0_0 s0_1 s0_2 6).bind fun bt182 => (spec_l02Meant.l0 k (([] : List Int)) (wrap64 (1 + bt182.1)) s0_0 bt182.2.1 bt182.2.2)) = some (r1, r2, r3) := h
 clear h
 obtain ⟨y179, hy179⟩ : ∃ y_ : List Int, y_ = (([] : List Int)) := ⟨_, rfl⟩
 replace H : ((spec_l00Src_pick.f s0_0 s0_1 s0_2 6).bind fun bt182 => (spec_l02Meant.l0 k y179 (wrap64 (1 + bt182.1)) s0_0 bt182.2.1 bt182.2.2)) = some (r1, r2, r3) := by first | (rw [hy179]; with_reducible exact H) | (have H2_ := (Option.bind_some _ _).symm.trans H; rw [hy179]; with_reducible exact H2_) | (have H2_ := (Option.bind_some _ _).symm.trans H; with_reducible exact H2_) | with_reducible exact H | (rw [hy179]; exact H) | exact H
 have Ny179 := Aside0.mk hy179
 clear hy179
 replace H := Option.bind_eq_some_iff.mp H
 obtain ⟨⟨t182, t183, t184⟩, A20, H⟩ := H
 replace H : (spec_l02Meant.l0 k y179 (wrap64 (1 + t182)) s0_0 t183 t184) = some (r1, r2, r3) := H
 have A2 := Aside0.mk A20
 clear A20
 have H' := Aside0.mk H
 clear H
 go_enter Try.func16, Try.ntmps16
 go_wp2_with (first | ((with_reducible refine gate_dst (N := 5) rfl ?_); (try (refine gate_guard (by rfl) ?_; dsimp only)); refine Kd.R_lit (Kd.int .i8) _ 64 ?hg (N := 5) ?hd (xs := ([] : List Int)) (inner := []) (ok := fun _ => True) (okp := fun _ => True) ?hr ?hp (fun _ hk => hk) trivial (Below.refl _ _) (Nat.le_refl _) (by simp) ?_; (case hd => rfl); (case hg => rfl); (case hr => first | (go_simp; done) | (go_simp; rfl)); (case hp => exact (Reps.none _ _)); intro v180 w3 ho4 hb hg_ hnew_; clear hg_ hnew_; (first | rw [← Ny179.out] at ho4 | (simp only [Int.reduceToNat] at ho4; rw [← Ny179.out] at ho4)); have n0_ := Aside0.mk (Kd.R_lower ho4 (keep_size (w := w) (g := g) (row := none) (by repeat (first | (with_reducible first | exact HK.out | apply KeepBut.set_ | apply keep_drewN | apply keep_drew | apply keep_alloc) | exact HK.out)))); have n1_ := Aside0.mk (IsS70.below (by repeat (first | (with_reducible first | exact HI0.out | apply IsS70.alloc | apply IsS70.drewN | apply IsS70.drew | apply IsS70.set_1 | apply IsS70.set_2) | exact HI0.out)) hb); have n2_ := Aside0.mk (KeepBut.trans (by repeat (first | (with_reducible first | exact HK.out | apply KeepBut.set_ | apply keep_drewN | apply keep_drew | apply keep_alloc) | exact HK.out)) (KeepBut.of_below hb g none) (.inl rfl)); have n3_ := Aside0.mk (below_step (by repeat (first | (with_reducible first | exact HB.out | apply below_alloc | apply pw_below_drewN | apply below_drew1 | refine below_set ?_ (IsS70.ge HI0.out)) | exact HB.out)) hb); clear HI0; clear HK; clear HB; have HO181 := n0_; have HI0 := n1_; have HK := n2_; have HB := n3_; clear n0_ n1_ n2_ n3_; clear hb ho4) | ((with_reducible refine gate_callee (f := 30) rfl ?_); refine goesL_ (some 7) rfl rfl Try.func30 (by kernel_rfl) rfl #[.pointer (some ⟨g, 0, none⟩), .int .i64 6] rfl (by (try simp only [List.map_toArray, List.map_cons, List.map_nil]); first | done | rfl | (simp only [List.length_drop, List.length_take]; rfl)) ?_; (with_reducible refine (spec_l00Src_pick.calls g s0_0 s0_1 s0_2 6 t182 t183 t184 w0 _ ?side1 ?side2 A2.out).mono ?_); (case side1 => repeat (first | (with_reducible first | exact HI0.out | apply IsS70.alloc | apply IsS70.drewN | apply IsS70.drew | apply IsS70.set_1 | apply IsS70.set_2) | exact HI0.out)); (case side2 => repeat (first | (with_reducible first | exact HB.out | apply below_alloc | apply pw_below_drewN | apply below_drew1 | refine below_set ?_ (IsS70.ge HI0.out)) | exact HB.out)); rintro e w5 ⟨rfl, hi, hb, hk⟩; refine ⟨_, rfl, ?_⟩; have n0_ := Aside0.mk (Kd.R_mono (Kd.R_keep (IsS70.apart (show IsS70 w0 _ g s0_0 s0_1 s0_2 from by repeat (first | (with_reducible first | exact HI0.out | apply IsS70.alloc | apply IsS70.drewN | apply IsS70.drew | apply IsS70.set_1 | apply IsS70.set_2) | exact HI0.out)) (by (with_reducible repeat (first | apply Kd.R_alloc | apply Kd.R_drewN | apply Kd.R_drew)); exact HO181.out) (by decide)) hk (fun _ h => h.2)) (fun _ h => h.1)); have n1_ := Aside0.mk (KeepBut.trans (by repeat (first | (with_reducible first | exact HK.out | apply KeepBut.set_ | apply keep_drewN | apply keep_drew | apply keep_alloc) | exact HK.out)) hk (.inl rfl)); have n2_ := Aside0.mk (hb); have n3_ := Aside0.mk (hi); clear HO181; clear HK; clear HB; clear HI0; have HO181 := n0_; have HK := n1_; have HB := n2_; have HI0 := n3_; clear n0_ n1_ n2_ n3_; (try clear hb); (try clear hb2); (try clear hk); (try clear hi)))
 go_loopg [3, 4] k (fun kq v3 v4 w' => ∃ (x3_1 : List Int) (x4_1 : Int) (x1001_1 : Int) (x1002_1 : Int), v4 = .int .i64 x4_1 ∧ Aside0 (spec_l02Meant.l0 kq x3_1 x4_1 s0_0 x1001_1 x1002_1 = some (r1, r2, r3)) ∧ Aside0 (kq ≤ k) ∧ Aside0 (Kd.R (Kd.int .i8) 64 w' w.heap.size (fun _ => True) v3 x3_1) ∧ Aside0 (IsS70 w0 w' g s0_0 x1001_1 x1002_1) ∧ Aside0 (KeepBut w w' g none) ∧ Aside0 (Below w0.heap.size w0 w'))
 case atStart => exact ⟨(y179), (wrap64 (1 + t182)), (t183), (t184), (by first | rfl | (simp; done) | (simp [*]; done)), H', ⟨Nat.le_refl _⟩, ⟨by (with_reducible repeat (first | apply Kd.R_alloc | apply Kd.R_drewN | apply Kd.R_drew)); exact HO181.out⟩, ⟨by repeat (first | (with_reducible first | exact HI0.out | apply IsS70.alloc | apply IsS70.drewN | apply IsS70.drew | apply IsS70.set_1 | apply IsS70.set_2) | exact HI0.out)⟩, ⟨by repeat (first | (with_reducible first | exact HK.out | apply KeepBut.set_ | apply keep_drewN | apply keep_drew | apply keep_alloc) | exact HK.out)⟩, ⟨by repeat (first | (with_reducible first | exact HB.out | apply below_alloc | apply pw_below_drewN | apply below_drew1 | refine below_set ?_ (IsS70.ge HI0.out)) | exact HB.out)⟩⟩
 case round =>
  clear H'
  try clear c1
  try clear p2
  try clear c3
  obtain ⟨x3_1, x4_1, x1001_1, x1002_1, rfl, HA, HK1, HO_3, HI0, HK, HB⟩ := hrel
  cases gk with
  | zero => exact absurd HA.out (by simp [spec_l02Meant.l0])
  | succ k1 =>
   have H := HA.out
   clear HA
   simp only [spec_l02Meant.l0] at H
   by_cases c6 : x4_1 > 0
   ·rw [if_pos c6] at H
    have c6b0 : decide (0 < x4_1) = true := decide_eq_true c6
    clear c6
    obtain ⟨y185, hy185⟩ : ∃ y_ : List Int, y_ = (([0, 1, 2, 3, 25, 39] : List Int)) := ⟨_, rfl⟩
    replace H : ((spec_l00Src_among.f s0_0 x1001_1 x1002_1 y185).bind fun bt188 => (if x3_1.length < 140737488355328 then ((some (x3_1 ++ [IntKind.i8.wrap (bt188.1)] : List Int)).bind fun y191 => ((spec_l00Src_one.f s0_0 bt188.2.1 bt188.2.2 6).bind fun bt194 => (if bt194.1 = true then (if x4_1 > 1 then (if (y191.length : Int) < 6 then (if y191.length < 140737488355328 then (spec_l02Meant.l0 k1 (y191 ++ [(-10)]) (wrap64 (x4_1 - 1)) s0_0 bt194.2.1 bt194.2.2) else (none)) else (spec_l02Meant.l0 k1 y191 (wrap64 (x4_1 - 1)) s0_0 bt194.2.1 bt194.2.2)) else (spec_l02Meant.l0 k1 y191 (wrap64 (x4_1 - 1)) s0_0 bt194.2.1 bt194.2.2)) else (spec_l02Meant.l0 k1 y191 (wrap64 (x4_1 - 1)) s0_0 bt194.2.1 bt194.2.2)))) else (none))) = some (r1, r2, r3) := by first | (rw [hy185]; with_reducible exact H) | (have H2_ := (Option.bind_some _ _).symm.trans H; rw [hy185]; with_reducible exact H2_) | (have H2_ := (Option.bind_some _ _).symm.trans H; with_reducible exact H2_) | with_reducible exact H | (rw [hy185]; exact H) | exact H
    have Ny185 := Aside0.mk hy185
    clear hy185
    replace H := Option.bind_eq_some_iff.mp H
    obtain ⟨⟨t188, t189, t190⟩, A70, H⟩ := H
    replace H : (if x3_1.length < 140737488355328 then ((some (x3_1 ++ [IntKind.i8.wrap (t188)] : List Int)).bind fun y191 => ((spec_l00Src_one.f s0_0 t189 t190 6).bind fun bt194 => (if bt194.1 = true then (if x4_1 > 1 then (if (y191.length : Int) < 6 then (if y191.length < 140737488355328 then (spec_l02Meant.l0 k1 (y191 ++ [(-10)]) (wrap64 (x4_1 - 1)) s0_0 bt194.2.1 bt194.2.2) else (none)) else (spec_l02Meant.l0 k1 y191 (wrap64 (x4_1 - 1)) s0_0 bt194.2.1 bt194.2.2)) else (spec_l02Meant.l0 k1 y191 (wrap64 (x4_1 - 1)) s0_0 bt194.2.1 bt194.2.2)) else (spec_l02Meant.l0 k1 y191 (wrap64 (x4_1 - 1)) s0_0 bt194.2.1 bt194.2.2)))) else (none)) = some (r1, r2, r3) := H
    have A7 := Aside0.mk A70
    clear A70
    by_cases c8 : x3_1.length < 140737488355328
    ·rw [if_pos c8] at H
     have LMc8 := Aside0.mk c8
     clear c8
     obtain ⟨y191, hy191⟩ : ∃ y_ : List Int, y_ = (x3_1 ++ [IntKind.i8.wrap (t188)]) := ⟨_, rfl⟩
     replace H : ((spec_l00Src_one.f s0_0 t189 t190 6).bind fun bt194 => (if bt194.1 = true then (if x4_1 > 1 then (if (y191.length : Int) < 6 then (if y191.length < 140737488355328 then (spec_l02Meant.l0 k1 (y191 ++ [(-10)]) (wrap64 (x4_1 - 1)) s0_0 bt194.2.1 bt194.2.2) else (none)) else (spec_l02Meant.l0 k1 y191 (wrap64 (x4_1 - 1)) s0_0 bt194.2.1 bt194.2.2)) else (spec_l02Meant.l0 k1 y191 (wrap64 (x4_1 - 1)) s0_0 bt194.2.1 bt194.2.2)) else (spec_l02Meant.l0 k1 y191 (wrap64 (x4_1 - 1)) s0_0 bt194.2.1 bt194.2.2))) = some (r1, r2, r3) := by first | (rw [hy191]; with_reducible exact H) | (have H2_ := (Option.bind_some _ _).symm.trans H; rw [hy191]; with_reducible exact H2_) | (have H2_ := (Option.bind_some _ _).symm.trans H; with_reducible exact H2_) | with_reducible exact H | (rw [hy191]; exact H) | exact H
     have Ny191 := Aside0.mk hy191
     clear hy191
     replace H := Option.bind_eq_some_iff.mp H
     obtain ⟨⟨t194, t195, t196⟩, A90, H⟩ := H
     replace H : (if t194 = true then (if x4_1 > 1 then (if (y191.length : Int) < 6 then (if y191.length < 140737488355328 then (spec_l02Meant.l0 k1 (y191 ++ [(-10)]) (wrap64 (x4_1 - 1)) s0_0 t195 t196) else (none)) else (spec_l02Meant.l0 k1 y191 (wrap64 (x4_1 - 1)) s0_0 t195 t196)) else (spec_l02Meant.l0 k1 y191 (wrap64 (x4_1 - 1)) s0_0 t195 t196)) else (spec_l02Meant.l0 k1 y191 (wrap64 (x4_1 - 1)) s0_0 t195 t196)) = some (r1, r2, r3) := H
     have A9 := Aside0.mk A90
     clear A90
     by_cases c10 : t194 = true
     ·subst c10
      have H1 : (if x4_1 > 1 then (if (y191.length : Int) < 6 then (if y191.length < 140737488355328 then (spec_l02Meant.l0 k1 (y191 ++ [(-10)]) (wrap64 (x4_1 - 1)) s0_0 t195 t196) else (none)) else (spec_l02Meant.l0 k1 y191 (wrap64 (x4_1 - 1)) s0_0 t195 t196)) else (spec_l02Meant.l0 k1 y191 (wrap64 (x4_1 - 1)) s0_0 t195 t196)) = some (r1, r2, r3) := by rw [if_pos rfl] at H; exact H
      clear H
      have H := H1
      clear H1
      by_cases c11 : x4_1 > 1
      ·rw [if_pos c11] at H
       have c11b0 : decide (1 < x4_1) = true := decide_eq_true c11
       clear c11
       by_cases c12 : (y191.length : Int) < 6
       ·rw [if_pos c12] at H
        have c12b0 : decide ((y191.length : Int) < 6) = true := decide_eq_true c12
        have c12b1 : decide (y191.length < 6) = true := decide_eq_true (by omega)
        clear c12
        by_cases c13 : y191.length < 140737488355328
        ·rw [if_pos c13] at H
         have LMc13 := Aside0.mk c13
         clear c13
         obtain ⟨y197, hy197⟩ : ∃ y_ : List Int, y_ = (y191 ++ [(-10)]) := ⟨_, rfl⟩
         replace H : (spec_l02Meant.l0 k1 y197 (wrap64 (x4_1 - 1)) s0_0 t195 t196) = some (r1, r2, r3) := by first | (rw [hy197]; with_reducible exact H) | (have H2_ := (Option.bind_some _ _).symm.trans H; rw [hy197]; with_reducible exact H2_) | (have H2_ := (Option.bind_some _ _).symm.trans H; with_reducible exact H2_) | with_reducible exact H | (rw [hy197]; exact H) | exact H
         have Ny197 := Aside0.mk hy197
         clear hy197
         have H' := Aside0.mk H
         clear H
         go_wp2_with (first | ((with_reducible refine gate_dst (N := 15) rfl ?_); (try (refine gate_guard (by rfl) ?_; dsimp only)); refine Kd.R_lit (Kd.int .i64) _ 2 ?hg (N := 15) ?hd (xs := ([0, 1, 2, 3, 25, 39] : List Int)) (inner := [.int .i64 0, .int .i64 1, .int .i64 2, .int .i64 3, .int .i64 25, .int .i64 39]) (ok := fun _ => True) (okp := fun _ => True) ?hr ?hp (fun _ hk => hk) trivial (Below.refl _ _) (Nat.le_refl _) (by simp) ?_; (case hd => rfl); (case hg => rfl); (case hr => first | (go_simp; done) | (go_simp; rfl)); (case hp => exact (Reps.one (show Kd.M (Kd.int .i64) _ _ _ 0 [.int .i64 0] from rfl) (Reps.one (show Kd.M (Kd.int .i64) _ _ _ 1 [.int .i64 1] from rfl) (Reps.one (show Kd.M (Kd.int .i64) _ _ _ 2 [.int .i64 2] from rfl) (Reps.one (show Kd.M (Kd.int .i64) _ _ _ 3 [.int .i64 3] from rfl) (Reps.one (show Kd.M (Kd.int .i64) _ _ _ 25 [.int .i64 25] from rfl) (Reps.one (show Kd.M (Kd.int .i64) _ _ _ 39 [.int .i64 39] from rfl) (Reps.none _ _)))))))); intro v186 w14 ho15 hb hg_ hnew_; clear hg_ hnew_; (first | rw [← Ny185.out] at ho15 | (simp only [Int.reduceToNat] at ho15; rw [← Ny185.out] at ho15)); have n0_ := Aside0.mk (Kd.R_below (by (with_reducible repeat (first | apply Kd.R_alloc | apply Kd.R_drewN | apply Kd.R_drew)); exact HO_3.out) hb); have n1_ := Aside0.mk (Kd.R_lower ho15 (keep_size (w := w) (g := g) (row := none) (by repeat (first | (with_reducible first | exact HK.out | apply KeepBut.set_ | apply keep_drewN | apply keep_drew | apply keep_alloc) | exact HK.out)))); have n2_ := Aside0.mk (IsS70.below (by repeat (first | (with_reducible first | exact HI0.out | apply IsS70.alloc | apply IsS70.drewN | apply IsS70.drew | apply IsS70.set_1 | apply IsS70.set_2) | exact HI0.out)) hb); have n3_ := Aside0.mk (KeepBut.trans (by repeat (first | (with_reducible first | exact HK.out | apply KeepBut.set_ | apply keep_drewN | apply keep_drew | apply keep_alloc) | exact HK.out)) (KeepBut.of_below hb g none) (.inl rfl)); have n4_ := Aside0.mk (below_step (by repeat (first | (with_reducible first | exact HB.out | apply below_alloc | apply pw_below_drewN | apply below_drew1 | refine below_set ?_ (IsS70.ge HI0.out)) | exact HB.out)) hb); clear HO_3; clear HI0; clear HK; clear HB; have HO_3 := n0_; have HO187 := n1_; have HI0 := n2_; have HK := n3_; have HB := n4_; clear n0_ n1_ n2_ n3_ n4_; clear hb ho15; obtain ⟨Ao16, co16, eo16⟩ := Kd.R_slice HO187.out; subst eo16) | ((with_reducible refine gate_callee (f := 31) rfl ?_); refine goesL_ (some 16) rfl rfl Try.func31 (by kernel_rfl) rfl #[.pointer (some ⟨g, 0, none⟩), .slice Ao16 y185.length co16] rfl (by (try simp only [List.map_toArray, List.map_cons, List.map_nil]); first | done | rfl | (simp only [List.length_drop, List.length_take]; rfl)) ?_; (with_reducible refine (spec_l00Src_among.calls g s0_0 x1001_1 x1002_1 _ _ y185 t188 t189 t190 w0 _ ?side1 ?side2 ?side3 ?side4 ?side5 A7.out).mono ?_); (case side1 => repeat (first | (with_reducible first | exact HI0.out | apply IsS70.alloc | apply IsS70.drewN | apply IsS70.drew | apply IsS70.set_1 | apply IsS70.set_2) | exact HI0.out)); (case side2 => repeat (first | (with_reducible first | exact HB.out | apply below_alloc | apply pw_below_drewN | apply below_drew1 | refine below_set ?_ (IsS70.ge HI0.out)) | exact HB.out)); (case side3 => repeat (first | exact (Kd.R_reads' HO187.out).2.2 | (with_reducible refine Kd.C_alloc ?_ _) | (with_reducible refine Kd.C_drewN ?_ _) | (with_reducible refine Kd.C_drew ?_))); (case side4 => exact (Kd.R_reads' HO187.out).2.1); (case side5 => exact far_slice (IsS70.own_ne HI0.out HO187.out (by decide))); rintro e w17 ⟨rfl, hi, hb, hk⟩; refine ⟨_, rfl, ?_⟩; have n0_ := Aside0.mk (Kd.R_mono (Kd.R_keep (IsS70.apart (show IsS70 w0 _ g s0_0 x1001_1 x1002_1 from by repeat (first | (with_reducible first | exact HI0.out | apply IsS70.alloc | apply IsS70.drewN | apply IsS70.drew | apply IsS70.set_1 | apply IsS70.set_2) | exact HI0.out)) (by (with_reducible repeat (first | apply Kd.R_alloc | apply Kd.R_drewN | apply Kd.R_drew)); exact HO_3.out) (by decide)) hk (fun _ h => h.2)) (fun _ h => h.1)); have n1_ := Aside0.mk (Kd.R_mono (Kd.R_keep (IsS70.apart (show IsS70 w0 _ g s0_0 x1001_1 x1002_1 from by repeat (first | (with_reducible first | exact HI0.out | apply IsS70.alloc | apply IsS70.drewN | apply IsS70.drew | apply IsS70.set_1 | apply IsS70.set_2) | exact HI0.out)) (by (with_reducible repeat (first | apply Kd.R_alloc | apply Kd.R_drewN | apply Kd.R_drew)); exact HO187.out) (by decide)) hk (fun _ h => h.2)) (fun _ h => h.1)); have n2_ := Aside0.mk (KeepBut.trans (by repeat (first | (with_reducible first | exact HK.out | apply KeepBut.set_ | apply keep_drewN | apply keep_drew | apply keep_alloc) | exact HK.out)) hk (.inl rfl)); have n3_ := Aside0.mk (hb); have n4_ := Aside0.mk (hi); clear HO_3; clear HO187; clear HK; clear HB; clear HI0; have HO_3 := n0_; have HO187 := n1_; have HK := n2_; have HB := n3_; have HI0 := n4_; clear n0_ n1_ n2_ n3_ n4_; (try clear hb); (try clear hb2); (try clear hk); (try clear hi)) | ((with_reducible refine gate_builtin (b := .append) (xs := #[.tmp 13, .tmp 18]) rfl ?_); (try (refine gate_guard (by rfl) ?_; dsimp only)); at_builtin; refine Kd.R_append (Kd.int .i8) w.heap.size rfl (.tmp 13) (.tmp 18) 25 64 (.int .i8 0) 1 rfl Try.underlying25 info64 rfl (by decide) (by omega) u3 x3_1 (IntKind.i8.wrap (t188)) [.int .i8 (IntKind.i8.wrap (t188))] (fun _ => True) (fun _ => False) rfl rfl ?aP (fun _ hk => hk.elim) ?aF ?aO (Below.refl _ _) ?aS ?aL ?_; (case aP => exact rfl); (case aF => exact (fun _ _ => trivial)); (case aO => exact (by (with_reducible repeat (first | apply Kd.R_alloc | apply Kd.R_drewN | apply Kd.R_drew)); exact HO_3.out)); (case aS => exact (keep_size (w := w) (g := g) (row := none) (by repeat (first | (with_reducible first | exact HK.out | apply KeepBut.set_ | apply keep_drewN | apply keep_drew | apply keep_alloc) | exact HK.out)))); (case aL => have := LMc8.out; omega); intro v192 w18 ho hb hg hat; rw [← Ny191.out] at ho; have n0_ := Aside0.mk (IsS70.grown (by repeat (first | (with_reducible first | exact HI0.out | apply IsS70.alloc | apply IsS70.drewN | apply IsS70.drew | apply IsS70.set_1 | apply IsS70.set_2) | exact HI0.out)) hg (IsS70.own_ne HI0.out HO_3.out (by decide))); have n1_ := Aside0.mk (Kd.R_over' (by (with_reducible repeat (first | apply Kd.R_alloc | apply Kd.R_drewN | apply Kd.R_drew)); exact HO187.out) (Kd.R_typed (by (with_reducible repeat (first | apply Kd.R_alloc | apply Kd.R_drewN | apply Kd.R_drew)); exact HO_3.out)) (by decide) hg); have n2_ := Aside0.mk (below_weaken (by repeat (first | (with_reducible first | exact HB.out | apply below_alloc | apply pw_below_drewN | apply below_drew1 | refine below_set ?_ (IsS70.ge HI0.out)) | exact HB.out)) HL.out hb); have n3_ := Aside0.mk (KeepBut.trans (by repeat (first | (with_reducible first | exact HK.out | apply KeepBut.set_ | apply keep_drewN | apply keep_drew | apply keep_alloc) | exact HK.out)) (KeepBut.of_grown hg g) (Kd.R_base2 HO_3.out)); have n4_ := Aside0.mk (ho); clear HI0; clear HO187; clear HB; clear HK; clear HO_3; have HI0 := n0_; have HO187 := n1_; have HB := n2_; have HK := n3_; have HO193 := n4_; clear n0_ n1_ n2_ n3_ n4_; clear ho hb hg hat) | ((with_reducible refine gate_callee (f := 32) rfl ?_); refine goesL_ (some 21) rfl rfl Try.func32 (by kernel_rfl) rfl #[.pointer (some ⟨g, 0, none⟩), .int .i64 6] rfl (by (try simp only [List.map_toArray, List.map_cons, List.map_nil]); first | done | rfl | (simp only [List.length_drop, List.length_take]; rfl)) ?_; (with_reducible refine (spec_l00Src_one.calls g s0_0 t189 t190 6 true t195 t196 w0 _ ?side1 ?side2 A9.out).mono ?_); (case side1 => repeat (first | (with_reducible first | exact HI0.out | apply IsS70.alloc | apply IsS70.drewN | apply IsS70.drew | apply IsS70.set_1 | apply IsS70.set_2) | exact HI0.out)); (case side2 => repeat (first | (with_reducible first | exact HB.out | apply below_alloc | apply pw_below_drewN | apply below_drew1 | refine below_set ?_ (IsS70.ge HI0.out)) | exact HB.out)); rintro e w19 ⟨rfl, hi, hb, hk⟩; refine ⟨_, rfl, ?_⟩; have n0_ := Aside0.mk (Kd.R_mono (Kd.R_keep (IsS70.apart (show IsS70 w0 _ g s0_0 t189 t190 from by repeat (first | (with_reducible first | exact HI0.out | apply IsS70.alloc | apply IsS70.drewN | apply IsS70.drew | apply IsS70.set_1 | apply IsS70.set_2) | exact HI0.out)) (by (with_reducible repeat (first | apply Kd.R_alloc | apply Kd.R_drewN | apply Kd.R_drew)); exact HO187.out) (by decide)) hk (fun _ h => h.2)) (fun _ h => h.1)); have n1_ := Aside0.mk (Kd.R_mono (Kd.R_keep (IsS70.apart (show IsS70 w0 _ g s0_0 t189 t190 from by repeat (first | (with_reducible first | exact HI0.out | apply IsS70.alloc | apply IsS70.drewN | apply IsS70.drew | apply IsS70.set_1 | apply IsS70.set_2) | exact HI0.out)) (by (with_reducible repeat (first | apply Kd.R_alloc | apply Kd.R_drewN | apply Kd.R_drew)); exact HO193.out) (by decide)) hk (fun _ h => h.2)) (fun _ h => h.1)); have n2_ := Aside0.mk (KeepBut.trans (by repeat (first | (with_reducible first | exact HK.out | apply KeepBut.set_ | apply keep_drewN | apply keep_drew | apply keep_alloc) | exact HK.out)) hk (.inl rfl)); have n3_ := Aside0.mk (hb); have n4_ := Aside0.mk (hi); clear HO187; clear HO193; clear HK; clear HB; clear HI0; have HO187 := n0_; have HO193 := n1_; have HK := n2_; have HB := n3_; have HI0 := n4_; clear n0_ n1_ n2_ n3_ n4_; (try clear hb); (try clear hb2); (try clear hk); (try clear hi); obtain ⟨Ao20, co20, eo20⟩ := Kd.R_slice HO193.out; subst eo20) | ((with_reducible refine gate_builtin (b := .append) (xs := #[.tmp 31, .tmp 32]) rfl ?_); (try (refine gate_guard (by rfl) ?_; dsimp only)); at_builtin; refine Kd.R_append (Kd.int .i8) w.heap.size rfl (.tmp 31) (.tmp 32) 25 64 (.int .i8 0) 1 rfl Try.underlying25 info64 rfl (by decide) (by omega) (.slice Ao20 y191.length co20) y191 (-10) [.int .i8 (-10)] (fun _ => True) (fun _ => False) rfl rfl ?aP (fun _ hk => hk.elim) ?aF ?aO (Below.refl _ _) ?aS ?aL ?_; (case aP => exact rfl); (case aF => exact (fun _ _ => trivial)); (case aO => exact (by (with_reducible repeat (first | apply Kd.R_alloc | apply Kd.R_drewN | apply Kd.R_drew)); exact HO193.out)); (case aS => exact (keep_size (w := w) (g := g) (row := none) (by repeat (first | (with_reducible first | exact HK.out | apply KeepBut.set_ | apply keep_drewN | apply keep_drew | apply keep_alloc) | exact HK.out)))); (case aL => have := LMc13.out; omega); intro v198 w21 ho hb hg hat; rw [← Ny197.out] at ho; have n0_ := Aside0.mk (IsS70.grown (by repeat (first | (with_reducible first | exact HI0.out | apply IsS70.alloc | apply IsS70.drewN | apply IsS70.drew | apply IsS70.set_1 | apply IsS70.set_2) | exact HI0.out)) hg (IsS70.own_ne HI0.out HO193.out (by decide))); have n1_ := Aside0.mk (Kd.R_over' (by (with_reducible repeat (first | apply Kd.R_alloc | apply Kd.R_drewN | apply Kd.R_drew)); exact HO187.out) (Kd.R_typed (by (with_reducible repeat (first | apply Kd.R_alloc | apply Kd.R_drewN | apply Kd.R_drew)); exact HO193.out)) (by decide) hg); have n2_ := Aside0.mk (below_weaken (by repeat (first | (with_reducible first | exact HB.out | apply below_alloc | apply pw_below_drewN | apply below_drew1 | refine below_set ?_ (IsS70.ge HI0.out)) | exact HB.out)) HL.out hb); have n3_ := Aside0.mk (KeepBut.trans (by repeat (first | (with_reducible first | exact HK.out | apply KeepBut.set_ | apply keep_drewN | apply keep_drew | apply keep_alloc) | exact HK.out)) (KeepBut.of_grown hg g) (Kd.R_base2 HO193.out)); have n4_ := Aside0.mk (ho); clear HI0; clear HO187; clear HB; clear HK; clear HO193; have HI0 := n0_; have HO187 := n1_; have HB := n2_; have HK := n3_; have HO199 := n4_; clear n0_ n1_ n2_ n3_ n4_; clear ho hb hg hat))
         go_roundg k1
         case measure => have := HK1.out; omega
         case rel => exact ⟨(y197), (wrap64 (x4_1 - 1)), (t195), (t196), (by first | rfl | (simp; done) | (simp [*]; done)), H', ⟨by have := HK1.out; omega⟩, ⟨by (with_reducible repeat (first | apply Kd.R_alloc | apply Kd.R_drewN | apply Kd.R_drew)); exact HO199.out⟩, ⟨by repeat (first | (with_reducible first | exact HI0.out | apply IsS70.alloc | apply IsS70.drewN | apply IsS70.drew | apply IsS70.set_1 | apply IsS70.set_2) | exact HI0.out)⟩, ⟨by repeat (first | (with_reducible first | exact HK.out | apply KeepBut.set_ | apply keep_drewN | apply keep_drew | apply keep_alloc) | exact HK.out)⟩, ⟨by repeat (first | (with_reducible first | exact HB.out | apply below_alloc | apply pw_below_drewN | apply below_drew1 | refine below_set ?_ (IsS70.ge HI0.out)) | exact HB.out)⟩⟩
        ·rw [if_neg c13] at H
         exact absurd H (by simp)
       ·rw [if_neg c12] at H
        have c12b0 : decide ((y191.length : Int) < 6) = false := decide_eq_false c12
        have c12b1 : decide (y191.length < 6) = false := decide_eq_false (by omega)
        clear c12
        have H' := Aside0.mk H
        clear H
        go_wp2_with (first | ((with_reducible refine gate_dst (N := 15) rfl ?_); (try (refine gate_guard (by rfl) ?_; dsimp only)); refine Kd.R_lit (Kd.int .i64) _ 2 ?hg (N := 15) ?hd (xs := ([0, 1, 2, 3, 25, 39] : List Int)) (inner := [.int .i64 0, .int .i64 1, .int .i64 2, .int .i64 3, .int .i64 25, .int .i64 39]) (ok := fun _ => True) (okp := fun _ => True) ?hr ?hp (fun _ hk => hk) trivial (Below.refl _ _) (Nat.le_refl _) (by simp) ?_; (case hd => rfl); (case hg => rfl); (case hr => first | (go_simp; done) | (go_simp; rfl)); (case hp => exact (Reps.one (show Kd.M (Kd.int .i64) _ _ _ 0 [.int .i64 0] from rfl) (Reps.one (show Kd.M (Kd.int .i64) _ _ _ 1 [.int .i64 1] from rfl) (Reps.one (show Kd.M (Kd.int .i64) _ _ _ 2 [.int .i64 2] from rfl) (Reps.one (show Kd.M (Kd.int .i64) _ _ _ 3 [.int .i64 3] from rfl) (Reps.one (show Kd.M (Kd.int .i64) _ _ _ 25 [.int .i64 25] from rfl) (Reps.one (show Kd.M (Kd.int .i64) _ _ _ 39 [.int .i64 39] from rfl) (Reps.none _ _)))))))); intro v186 w22 ho23 hb hg_ hnew_; clear hg_ hnew_; (first | rw [← Ny185.out] at ho23 | (simp only [Int.reduceToNat] at ho23; rw [← Ny185.out] at ho23)); have n0_ := Aside0.mk (Kd.R_below (by (with_reducible repeat (first | apply Kd.R_alloc | apply Kd.R_drewN | apply Kd.R_drew)); exact HO_3.out) hb); have n1_ := Aside0.mk (Kd.R_lower ho23 (keep_size (w := w) (g := g) (row := none) (by repeat (first | (with_reducible first | exact HK.out | apply KeepBut.set_ | apply keep_drewN | apply keep_drew | apply keep_alloc) | exact HK.out)))); have n2_ := Aside0.mk (IsS70.below (by repeat (first | (with_reducible first | exact HI0.out | apply IsS70.alloc | apply IsS70.drewN | apply IsS70.drew | apply IsS70.set_1 | apply IsS70.set_2) | exact HI0.out)) hb); have n3_ := Aside0.mk (KeepBut.trans (by repeat (first | (with_reducible first | exact HK.out | apply KeepBut.set_ | apply keep_drewN | apply keep_drew | apply keep_alloc) | exact HK.out)) (KeepBut.of_below hb g none) (.inl rfl)); have n4_ := Aside0.mk (below_step (by repeat (first | (with_reducible first | exact HB.out | apply below_alloc | apply pw_below_drewN | apply below_drew1 | refine below_set ?_ (IsS70.ge HI0.out)) | exact HB.out)) hb); clear HO_3; clear HI0; clear HK; clear HB; have HO_3 := n0_; have HO187 := n1_; have HI0 := n2_; have HK := n3_; have HB := n4_; clear n0_ n1_ n2_ n3_ n4_; clear hb ho23; obtain ⟨Ao24, co24, eo24⟩ := Kd.R_slice HO187.out; subst eo24) | ((with_reducible refine gate_callee (f := 31) rfl ?_); refine goesL_ (some 16) rfl rfl Try.func31 (by kernel_rfl) rfl #[.pointer (some ⟨g, 0, none⟩), .slice Ao24 y185.length co24] rfl (by (try simp only [List.map_toArray, List.map_cons, List.map_nil]); first | done | rfl | (simp only [List.length_drop, List.length_take]; rfl)) ?_; (with_reducible refine (spec_l00Src_among.calls g s0_0 x1001_1 x1002_1 _ _ y185 t188 t189 t190 w0 _ ?side1 ?side2 ?side3 ?side4 ?side5 A7.out).mono ?_); (case side1 => repeat (first | (with_reducible first | exact HI0.out | apply IsS70.alloc | apply IsS70.drewN | apply IsS70.drew | apply IsS70.set_1 | apply IsS70.set_2) | exact HI0.out)); (case side2 => repeat (first | (with_reducible first | exact HB.out | apply below_alloc | apply pw_below_drewN | apply below_drew1 | refine below_set ?_ (IsS70.ge HI0.out)) | exact HB.out)); (case side3 => repeat (first | exact (Kd.R_reads' HO187.out).2.2 | (with_reducible refine Kd.C_alloc ?_ _) | (with_reducible refine Kd.C_drewN ?_ _) | (with_reducible refine Kd.C_drew ?_))); (case side4 => exact (Kd.R_reads' HO187.out).2.1); (case side5 => exact far_slice (IsS70.own_ne HI0.out HO187.out (by decide))); rintro e w25 ⟨rfl, hi, hb, hk⟩; refine ⟨_, rfl, ?_⟩; have n0_ := Aside0.mk (Kd.R_mono (Kd.R_keep (IsS70.apart (show IsS70 w0 _ g s0_0 x1001_1 x1002_1 from by repeat (first | (with_reducible first | exact HI0.out | apply IsS70.alloc | apply IsS70.drewN | apply IsS70.drew | apply IsS70.set_1 | apply IsS70.set_2) | exact HI0.out)) (by (with_reducible repeat (first | apply Kd.R_alloc | apply Kd.R_drewN | apply Kd.R_drew)); exact HO_3.out) (by decide)) hk (fun _ h => h.2)) (fun _ h => h.1)); have n1_ := Aside0.mk (Kd.R_mono (Kd.R_keep (IsS70.apart (show IsS70 w0 _ g s0_0 x1001_1 x1002_1 from by repeat (first | (with_reducible first | exact HI0.out | apply IsS70.alloc | apply IsS70.drewN | apply IsS70.drew | apply IsS70.set_1 | apply IsS70.set_2) | exact HI0.out)) (by (with_reducible repeat (first | apply Kd.R_alloc | apply Kd.R_drewN | apply Kd.R_drew)); exact HO187.out) (by decide)) hk (fun _ h => h.2)) (fun _ h => h.1)); have n2_ := Aside0.mk (KeepBut.trans (by repeat (first | (with_reducible first | exact HK.out | apply KeepBut.set_ | apply keep_drewN | apply keep_drew | apply keep_alloc) | exact HK.out)) hk (.inl rfl)); have n3_ := Aside0.mk (hb); have n4_ := Aside0.mk (hi); clear HO_3; clear HO187; clear HK; clear HB; clear HI0; have HO_3 := n0_; have HO187 := n1_; have HK := n2_; have HB := n3_; have HI0 := n4_; clear n0_ n1_ n2_ n3_ n4_; (try clear hb); (try clear hb2); (try clear hk); (try clear hi)) | ((with_reducible refine gate_builtin (b := .append) (xs := #[.tmp 13, .tmp 18]) rfl ?_); (try (refine gate_guard (by rfl) ?_; dsimp only)); at_builtin; refine Kd.R_append (Kd.int .i8) w.heap.size rfl (.tmp 13) (.tmp 18) 25 64 (.int .i8 0) 1 rfl Try.underlying25 info64 rfl (by decide) (by omega) u3 x3_1 (IntKind.i8.wrap (t188)) [.int .i8 (IntKind.i8.wrap (t188))] (fun _ => True) (fun _ => False) rfl rfl ?aP (fun _ hk => hk.elim) ?aF ?aO (Below.refl _ _) ?aS ?aL ?_; (case aP => exact rfl); (case aF => exact (fun _ _ => trivial)); (case aO => exact (by (with_reducible repeat (first | apply Kd.R_alloc | apply Kd.R_drewN | apply Kd.R_drew)); exact HO_3.out)); (case aS => exact (keep_size (w := w) (g := g) (row := none) (by repeat (first | (with_reducible first | exact HK.out | apply KeepBut.set_ | apply keep_drewN | apply keep_drew | apply keep_alloc) | exact HK.out)))); (case aL => have := LMc8.out; omega); intro v192 w26 ho hb hg hat; rw [← Ny191.out] at ho; have n0_ := Aside0.mk (IsS70.grown (by repeat (first | (with_reducible first | exact HI0.out | apply IsS70.alloc | apply IsS70.drewN | apply IsS70.drew | apply IsS70.set_1 | apply IsS70.set_2) | exact HI0.out)) hg (IsS70.own_ne HI0.out HO_3.out (by decide))); have n1_ := Aside0.mk (Kd.R_over' (by (with_reducible repeat (first | apply Kd.R_alloc | apply Kd.R_drewN | apply Kd.R_drew)); exact HO187.out) (Kd.R_typed (by (with_reducible repeat (first | apply Kd.R_alloc | apply Kd.R_drewN | apply Kd.R_drew)); exact HO_3.out)) (by decide) hg); have n2_ := Aside0.mk (below_weaken (by repeat (first | (with_reducible first | exact HB.out | apply below_alloc | apply pw_below_drewN | apply below_drew1 | refine below_set ?_ (IsS70.ge HI0.out)) | exact HB.out)) HL.out hb); have n3_ := Aside0.mk (KeepBut.trans (by repeat (first | (with_reducible first | exact HK.out | apply KeepBut.set_ | apply keep_drewN | apply keep_drew | apply keep_alloc) | exact HK.out)) (KeepBut.of_grown hg g) (Kd.R_base2 HO_3.out)); have n4_ := Aside0.mk (ho); clear HI0; clear HO187; clear HB; clear HK; clear HO_3; have HI0 := n0_; have HO187 := n1_; have HB := n2_; have HK := n3_; have HO193 := n4_; clear n0_ n1_ n2_ n3_ n4_; clear ho hb hg hat) | ((with_reducible refine gate_callee (f := 32) rfl ?_); refine goesL_ (some 21) rfl rfl Try.func32 (by kernel_rfl) rfl #[.pointer (some ⟨g, 0, none⟩), .int .i64 6] rfl (by (try simp only [List.map_toArray, List.map_cons, List.map_nil]); first | done | rfl | (simp only [List.length_drop, List.length_take]; rfl)) ?_; (with_reducible refine (spec_l00Src_one.calls g s0_0 t189 t190 6 true t195 t196 w0 _ ?side1 ?side2 A9.out).mono ?_); (case side1 => repeat (first | (with_reducible first | exact HI0.out | apply IsS70.alloc | apply IsS70.drewN | apply IsS70.drew | apply IsS70.set_1 | apply IsS70.set_2) | exact HI0.out)); (case side2 => repeat (first | (with_reducible first | exact HB.out | apply below_alloc | apply pw_below_drewN | apply below_drew1 | refine below_set ?_ (IsS70.ge HI0.out)) | exact HB.out)); rintro e w27 ⟨rfl, hi, hb, hk⟩; refine ⟨_, rfl, ?_⟩; have n0_ := Aside0.mk (Kd.R_mono (Kd.R_keep (IsS70.apart (show IsS70 w0 _ g s0_0 t189 t190 from by repeat (first | (with_reducible first | exact HI0.out | apply IsS70.alloc | apply IsS70.drewN | apply IsS70.drew | apply IsS70.set_1 | apply IsS70.set_2) | exact HI0.out)) (by (with_reducible repeat (first | apply Kd.R_alloc | apply Kd.R_drewN | apply Kd.R_drew)); exact HO187.out) (by decide)) hk (fun _ h => h.2)) (fun _ h => h.1)); have n1_ := Aside0.mk (Kd.R_mono (Kd.R_keep (IsS70.apart (show IsS70 w0 _ g s0_0 t189 t190 from by repeat (first | (with_reducible first | exact HI0.out | apply IsS70.alloc | apply IsS70.drewN | apply IsS70.drew | apply IsS70.set_1 | apply IsS70.set_2) | exact HI0.out)) (by (with_reducible repeat (first | apply Kd.R_alloc | apply Kd.R_drewN | apply Kd.R_drew)); exact HO193.out) (by decide)) hk (fun _ h => h.2)) (fun _ h => h.1)); have n2_ := Aside0.mk (KeepBut.trans (by repeat (first | (with_reducible first | exact HK.out | apply KeepBut.set_ | apply keep_drewN | apply keep_drew | apply keep_alloc) | exact HK.out)) hk (.inl rfl)); have n3_ := Aside0.mk (hb); have n4_ := Aside0.mk (hi); clear HO187; clear HO193; clear HK; clear HB; clear HI0; have HO187 := n0_; have HO193 := n1_; have HK := n2_; have HB := n3_; have HI0 := n4_; clear n0_ n1_ n2_ n3_ n4_; (try clear hb); (try clear hb2); (try clear hk); (try clear hi); obtain ⟨Ao28, co28, eo28⟩ := Kd.R_slice HO193.out; subst eo28))
        go_roundg k1
        case measure => have := HK1.out; omega
        case rel => exact ⟨(y191), (wrap64 (x4_1 - 1)), (t195), (t196), (by first | rfl | (simp; done) | (simp [*]; done)), H', ⟨by have := HK1.out; omega⟩, ⟨by (with_reducible repeat (first | apply Kd.R_alloc | apply Kd.R_drewN | apply Kd.R_drew)); exact HO193.out⟩, ⟨by repeat (first | (with_reducible first | exact HI0.out | apply IsS70.alloc | apply IsS70.drewN | apply IsS70.drew | apply IsS70.set_1 | apply IsS70.set_2) | exact HI0.out)⟩, ⟨by repeat (first | (with_reducible first | exact HK.out | apply KeepBut.set_ | apply keep_drewN | apply keep_drew | apply keep_alloc) | exact HK.out)⟩, ⟨by repeat (first | (with_reducible first | exact HB.out | apply below_alloc | apply pw_below_drewN | apply below_drew1 | refine below_set ?_ (IsS70.ge HI0.out)) | exact HB.out)⟩⟩
      ·rw [if_neg c11] at H
       have c11b0 : decide (1 < x4_1) = false := decide_eq_false c11
       clear c11
       have H' := Aside0.mk H
       clear H
       go_wp2_with (first | ((with_reducible refine gate_dst (N := 15) rfl ?_); (try (refine gate_guard (by rfl) ?_; dsimp only)); refine Kd.R_lit (Kd.int .i64) _ 2 ?hg (N := 15) ?hd (xs := ([0, 1, 2, 3, 25, 39] : List Int)) (inner := [.int .i64 0, .int .i64 1, .int .i64 2, .int .i64 3, .int .i64 25, .int .i64 39]) (ok := fun _ => True) (okp := fun _ => True) ?hr ?hp (fun _ hk => hk) trivial (Below.refl _ _) (Nat.le_refl _) (by simp) ?_; (case hd => rfl); (case hg => rfl); (case hr => first | (go_simp; done) | (go_simp; rfl)); (case hp => exact (Reps.one (show Kd.M (Kd.int .i64) _ _ _ 0 [.int .i64 0] from rfl) (Reps.one (show Kd.M (Kd.int .i64) _ _ _ 1 [.int .i64 1] from rfl) (Reps.one (show Kd.M (Kd.int .i64) _ _ _ 2 [.int .i64 2] from rfl) (Reps.one (show Kd.M (Kd.int .i64) _ _ _ 3 [.int .i64 3] from rfl) (Reps.one (show Kd.M (Kd.int .i64) _ _ _ 25 [.int .i64 25] from rfl) (Reps.one (show Kd.M (Kd.int .i64) _ _ _ 39 [.int .i64 39] from rfl) (Reps.none _ _)))))))); intro v186 w29 ho30 hb hg_ hnew_; clear hg_ hnew_; (first | rw [← Ny185.out] at ho30 | (simp only [Int.reduceToNat] at ho30; rw [← Ny185.out] at ho30)); have n0_ := Aside0.mk (Kd.R_below (by (with_reducible repeat (first | apply Kd.R_alloc | apply Kd.R_drewN | apply Kd.R_drew)); exact HO_3.out) hb); have n1_ := Aside0.mk (Kd.R_lower ho30 (keep_size (w := w) (g := g) (row := none) (by repeat (first | (with_reducible first | exact HK.out | apply KeepBut.set_ | apply keep_drewN | apply keep_drew | apply keep_alloc) | exact HK.out)))); have n2_ := Aside0.mk (IsS70.below (by repeat (first | (with_reducible first | exact HI0.out | apply IsS70.alloc | apply IsS70.drewN | apply IsS70.drew | apply IsS70.set_1 | apply IsS70.set_2) | exact HI0.out)) hb); have n3_ := Aside0.mk (KeepBut.trans (by repeat (first | (with_reducible first | exact HK.out | apply KeepBut.set_ | apply keep_drewN | apply keep_drew | apply keep_alloc) | exact HK.out)) (KeepBut.of_below hb g none) (.inl rfl)); have n4_ := Aside0.mk (below_step (by repeat (first | (with_reducible first | exact HB.out | apply below_alloc | apply pw_below_drewN | apply below_drew1 | refine below_set ?_ (IsS70.ge HI0.out)) | exact HB.out)) hb); clear HO_3; clear HI0; clear HK; clear HB; have HO_3 := n0_; have HO187 := n1_; have HI0 := n2_; have HK := n3_; have HB := n4_; clear n0_ n1_ n2_ n3_ n4_; clear hb ho30; obtain ⟨Ao31, co31, eo31⟩ := Kd.R_slice HO187.out; subst eo31) | ((with_reducible refine gate_callee (f := 31) rfl ?_); refine goesL_ (some 16) rfl rfl Try.func31 (by kernel_rfl) rfl #[.pointer (some ⟨g, 0, none⟩), .slice Ao31 y185.length co31] rfl (by (try simp only [List.map_toArray, List.map_cons, List.map_nil]); first | done | rfl | (simp only [List.length_drop, List.length_take]; rfl)) ?_; (with_reducible refine (spec_l00Src_among.calls g s0_0 x1001_1 x1002_1 _ _ y185 t188 t189 t190 w0 _ ?side1 ?side2 ?side3 ?side4 ?side5 A7.out).mono ?_); (case side1 => repeat (first | (with_reducible first | exact HI0.out | apply IsS70.alloc | apply IsS70.drewN | apply IsS70.drew | apply IsS70.set_1 | apply IsS70.set_2) | exact HI0.out)); (case side2 => repeat (first | (with_reducible first | exact HB.out | apply below_alloc | apply pw_below_drewN | apply below_drew1 | refine below_set ?_ (IsS70.ge HI0.out)) | exact HB.out)); (case side3 => repeat (first | exact (Kd.R_reads' HO187.out).2.2 | (with_reducible refine Kd.C_alloc ?_ _) | (with_reducible refine Kd.C_drewN ?_ _) | (with_reducible refine Kd.C_drew ?_))); (case side4 => exact (Kd.R_reads' HO187.out).2.1); (case side5 => exact far_slice (IsS70.own_ne HI0.out HO187.out (by decide))); rintro e w32 ⟨rfl, hi, hb, hk⟩; refine ⟨_, rfl, ?_⟩; have n0_ := Aside0.mk (Kd.R_mono (Kd.R_keep (IsS70.apart (show IsS70 w0 _ g s0_0 x1001_1 x1002_1 from by repeat (first | (with_reducible first | exact HI0.out | apply IsS70.alloc | apply IsS70.drewN | apply IsS70.drew | apply IsS70.set_1 | apply IsS70.set_2) | exact HI0.out)) (by (with_reducible repeat (first | apply Kd.R_alloc | apply Kd.R_drewN | apply Kd.R_drew)); exact HO_3.out) (by decide)) hk (fun _ h => h.2)) (fun _ h => h.1)); have n1_ := Aside0.mk (Kd.R_mono (Kd.R_keep (IsS70.apart (show IsS70 w0 _ g s0_0 x1001_1 x1002_1 from by repeat (first | (with_reducible first | exact HI0.out | apply IsS70.alloc | apply IsS70.drewN | apply IsS70.drew | apply IsS70.set_1 | apply IsS70.set_2) | exact HI0.out)) (by (with_reducible repeat (first | apply Kd.R_alloc | apply Kd.R_drewN | apply Kd.R_drew)); exact HO187.out) (by decide)) hk (fun _ h => h.2)) (fun _ h => h.1)); have n2_ := Aside0.mk (KeepBut.trans (by repeat (first | (with_reducible first | exact HK.out | apply KeepBut.set_ | apply keep_drewN | apply keep_drew | apply keep_alloc) | exact HK.out)) hk (.inl rfl)); have n3_ := Aside0.mk (hb); have n4_ := Aside0.mk (hi); clear HO_3; clear HO187; clear HK; clear HB; clear HI0; have HO_3 := n0_; have HO187 := n1_; have HK := n2_; have HB := n3_; have HI0 := n4_; clear n0_ n1_ n2_ n3_ n4_; (try clear hb); (try clear hb2); (try clear hk); (try clear hi)) | ((with_reducible refine gate_builtin (b := .append) (xs := #[.tmp 13, .tmp 18]) rfl ?_); (try (refine gate_guard (by rfl) ?_; dsimp only)); at_builtin; refine Kd.R_append (Kd.int .i8) w.heap.size rfl (.tmp 13) (.tmp 18) 25 64 (.int .i8 0) 1 rfl Try.underlying25 info64 rfl (by decide) (by omega) u3 x3_1 (IntKind.i8.wrap (t188)) [.int .i8 (IntKind.i8.wrap (t188))] (fun _ => True) (fun _ => False) rfl rfl ?aP (fun _ hk => hk.elim) ?aF ?aO (Below.refl _ _) ?aS ?aL ?_; (case aP => exact rfl); (case aF => exact (fun _ _ => trivial)); (case aO => exact (by (with_reducible repeat (first | apply Kd.R_alloc | apply Kd.R_drewN | apply Kd.R_drew)); exact HO_3.out)); (case aS => exact (keep_size (w := w) (g := g) (row := none) (by repeat (first | (with_reducible first | exact HK.out | apply KeepBut.set_ | apply keep_drewN | apply keep_drew | apply keep_alloc) | exact HK.out)))); (case aL => have := LMc8.out; omega); intro v192 w33 ho hb hg hat; rw [← Ny191.out] at ho; have n0_ := Aside0.mk (IsS70.grown (by repeat (first | (with_reducible first | exact HI0.out | apply IsS70.alloc | apply IsS70.drewN | apply IsS70.drew | apply IsS70.set_1 | apply IsS70.set_2) | exact HI0.out)) hg (IsS70.own_ne HI0.out HO_3.out (by decide))); have n1_ := Aside0.mk (Kd.R_over' (by (with_reducible repeat (first | apply Kd.R_alloc | apply Kd.R_drewN | apply Kd.R_drew)); exact HO187.out) (Kd.R_typed (by (with_reducible repeat (first | apply Kd.R_alloc | apply Kd.R_drewN | apply Kd.R_drew)); exact HO_3.out)) (by decide) hg); have n2_ := Aside0.mk (below_weaken (by repeat (first | (with_reducible first | exact HB.out | apply below_alloc | apply pw_below_drewN | apply below_drew1 | refine below_set ?_ (IsS70.ge HI0.out)) | exact HB.out)) HL.out hb); have n3_ := Aside0.mk (KeepBut.trans (by repeat (first | (with_reducible first | exact HK.out | apply KeepBut.set_ | apply keep_drewN | apply keep_drew | apply keep_alloc) | exact HK.out)) (KeepBut.of_grown hg g) (Kd.R_base2 HO_3.out)); have n4_ := Aside0.mk (ho); clear HI0; clear HO187; clear HB; clear HK; clear HO_3; have HI0 := n0_; have HO187 := n1_; have HB := n2_; have HK := n3_; have HO193 := n4_; clear n0_ n1_ n2_ n3_ n4_; clear ho hb hg hat) | ((with_reducible refine gate_callee (f := 32) rfl ?_); refine goesL_ (some 21) rfl rfl Try.func32 (by kernel_rfl) rfl #[.pointer (some ⟨g, 0, none⟩), .int .i64 6] rfl (by (try simp only [List.map_toArray, List.map_cons, List.map_nil]); first | done | rfl | (simp only [List.length_drop, List.length_take]; rfl)) ?_; (with_reducible refine (spec_l00Src_one.calls g s0_0 t189 t190 6 true t195 t196 w0 _ ?side1 ?side2 A9.out).mono ?_); (case side1 => repeat (first | (with_reducible first | exact HI0.out | apply IsS70.alloc | apply IsS70.drewN | apply IsS70.drew | apply IsS70.set_1 | apply IsS70.set_2) | exact HI0.out)); (case side2 => repeat (first | (with_reducible first | exact HB.out | apply below_alloc | apply pw_below_drewN | apply below_drew1 | refine below_set ?_ (IsS70.ge HI0.out)) | exact HB.out)); rintro e w34 ⟨rfl, hi, hb, hk⟩; refine ⟨_, rfl, ?_⟩; have n0_ := Aside0.mk (Kd.R_mono (Kd.R_keep (IsS70.apart (show IsS70 w0 _ g s0_0 t189 t190 from by repeat (first | (with_reducible first | exact HI0.out | apply IsS70.alloc | apply IsS70.drewN | apply IsS70.drew | apply IsS70.set_1 | apply IsS70.set_2) | exact HI0.out)) (by (with_reducible repeat (first | apply Kd.R_alloc | apply Kd.R_drewN | apply Kd.R_drew)); exact HO187.out) (by decide)) hk (fun _ h => h.2)) (fun _ h => h.1)); have n1_ := Aside0.mk (Kd.R_mono (Kd.R_keep (IsS70.apart (show IsS70 w0 _ g s0_0 t189 t190 from by repeat (first | (with_reducible first | exact HI0.out | apply IsS70.alloc | apply IsS70.drewN | apply IsS70.drew | apply IsS70.set_1 | apply IsS70.set_2) | exact HI0.out)) (by (with_reducible repeat (first | apply Kd.R_alloc | apply Kd.R_drewN | apply Kd.R_drew)); exact HO193.out) (by decide)) hk (fun _ h => h.2)) (fun _ h => h.1)); have n2_ := Aside0.mk (KeepBut.trans (by repeat (first | (with_reducible first | exact HK.out | apply KeepBut.set_ | apply keep_drewN | apply keep_drew | apply keep_alloc) | exact HK.out)) hk (.inl rfl)); have n3_ := Aside0.mk (hb); have n4_ := Aside0.mk (hi); clear HO187; clear HO193; clear HK; clear HB; clear HI0; have HO187 := n0_; have HO193 := n1_; have HK := n2_; have HB := n3_; have HI0 := n4_; clear n0_ n1_ n2_ n3_ n4_; (try clear hb); (try clear hb2); (try clear hk); (try clear hi)))
       go_roundg k1
       case measure => have := HK1.out; omega
       case rel => exact ⟨(y191), (wrap64 (x4_1 - 1)), (t195), (t196), (by first | rfl | (simp; done) | (simp [*]; done)), H', ⟨by have := HK1.out; omega⟩, ⟨by (with_reducible repeat (first | apply Kd.R_alloc | apply Kd.R_drewN | apply Kd.R_drew)); exact HO193.out⟩, ⟨by repeat (first | (with_reducible first | exact HI0.out | apply IsS70.alloc | apply IsS70.drewN | apply IsS70.drew | apply IsS70.set_1 | apply IsS70.set_2) | exact HI0.out)⟩, ⟨by repeat (first | (with_reducible first | exact HK.out | apply KeepBut.set_ | apply keep_drewN | apply keep_drew | apply keep_alloc) | exact HK.out)⟩, ⟨by repeat (first | (with_reducible first | exact HB.out | apply below_alloc | apply pw_below_drewN | apply below_drew1 | refine below_set ?_ (IsS70.ge HI0.out)) | exact HB.out)⟩⟩
     ·replace c10 := Bool.eq_false_iff.mpr c10
      subst c10
      have H1 : (spec_l02Meant.l0 k1 y191 (wrap64 (x4_1 - 1)) s0_0 t195 t196) = some (r1, r2, r3) := by rw [if_neg (show ¬ (false = true) by decide)] at H; exact H
      clear H
      have H := H1
      clear H1
      have H' := Aside0.mk H
      clear H
      go_wp2_with (first | ((with_reducible refine gate_dst (N := 15) rfl ?_); (try (refine gate_guard (by rfl) ?_; dsimp only)); refine Kd.R_lit (Kd.int .i64) _ 2 ?hg (N := 15) ?hd (xs := ([0, 1, 2, 3, 25, 39] : List Int)) (inner := [.int .i64 0, .int .i64 1, .int .i64 2, .int .i64 3, .int .i64 25, .int .i64 39]) (ok := fun _ => True) (okp := fun _ => True) ?hr ?hp (fun _ hk => hk) trivial (Below.refl _ _) (Nat.le_refl _) (by simp) ?_; (case hd => rfl); (case hg => rfl); (case hr => first | (go_simp; done) | (go_simp; rfl)); (case hp => exact (Reps.one (show Kd.M (Kd.int .i64) _ _ _ 0 [.int .i64 0] from rfl) (Reps.one (show Kd.M (Kd.int .i64) _ _ _ 1 [.int .i64 1] from rfl) (Reps.one (show Kd.M (Kd.int .i64) _ _ _ 2 [.int .i64 2] from rfl) (Reps.one (show Kd.M (Kd.int .i64) _ _ _ 3 [.int .i64 3] from rfl) (Reps.one (show Kd.M (Kd.int .i64) _ _ _ 25 [.int .i64 25] from rfl) (Reps.one (show Kd.M (Kd.int .i64) _ _ _ 39 [.int .i64 39] from rfl) (Reps.none _ _)))))))); intro v186 w35 ho36 hb hg_ hnew_; clear hg_ hnew_; (first | rw [← Ny185.out] at ho36 | (simp only [Int.reduceToNat] at ho36; rw [← Ny185.out] at ho36)); have n0_ := Aside0.mk (Kd.R_below (by (with_reducible repeat (first | apply Kd.R_alloc | apply Kd.R_drewN | apply Kd.R_drew)); exact HO_3.out) hb); have n1_ := Aside0.mk (Kd.R_lower ho36 (keep_size (w := w) (g := g) (row := none) (by repeat (first | (with_reducible first | exact HK.out | apply KeepBut.set_ | apply keep_drewN | apply keep_drew | apply keep_alloc) | exact HK.out)))); have n2_ := Aside0.mk (IsS70.below (by repeat (first | (with_reducible first | exact HI0.out | apply IsS70.alloc | apply IsS70.drewN | apply IsS70.drew | apply IsS70.set_1 | apply IsS70.set_2) | exact HI0.out)) hb); have n3_ := Aside0.mk (KeepBut.trans (by repeat (first | (with_reducible first | exact HK.out | apply KeepBut.set_ | apply keep_drewN | apply keep_drew | apply keep_alloc) | exact HK.out)) (KeepBut.of_below hb g none) (.inl rfl)); have n4_ := Aside0.mk (below_step (by repeat (first | (with_reducible first | exact HB.out | apply below_alloc | apply pw_below_drewN | apply below_drew1 | refine below_set ?_ (IsS70.ge HI0.out)) | exact HB.out)) hb); clear HO_3; clear HI0; clear HK; clear HB; have HO_3 := n0_; have HO187 := n1_; have HI0 := n2_; have HK := n3_; have HB := n4_; clear n0_ n1_ n2_ n3_ n4_; clear hb ho36; obtain ⟨Ao37, co37, eo37⟩ := Kd.R_slice HO187.out; subst eo37) | ((with_reducible refine gate_callee (f := 31) rfl ?_); refine goesL_ (some 16) rfl rfl Try.func31 (by kernel_rfl) rfl #[.pointer (some ⟨g, 0, none⟩), .slice Ao37 y185.length co37] rfl (by (try simp only [List.map_toArray, List.map_cons, List.map_nil]); first | done | rfl | (simp only [List.length_drop, List.length_take]; rfl)) ?_; (with_reducible refine (spec_l00Src_among.calls g s0_0 x1001_1 x1002_1 _ _ y185 t188 t189 t190 w0 _ ?side1 ?side2 ?side3 ?side4 ?side5 A7.out).mono ?_); (case side1 => repeat (first | (with_reducible first | exact HI0.out | apply IsS70.alloc | apply IsS70.drewN | apply IsS70.drew | apply IsS70.set_1 | apply IsS70.set_2) | exact HI0.out)); (case side2 => repeat (first | (with_reducible first | exact HB.out | apply below_alloc | apply pw_below_drewN | apply below_drew1 | refine below_set ?_ (IsS70.ge HI0.out)) | exact HB.out)); (case side3 => repeat (first | exact (Kd.R_reads' HO187.out).2.2 | (with_reducible refine Kd.C_alloc ?_ _) | (with_reducible refine Kd.C_drewN ?_ _) | (with_reducible refine Kd.C_drew ?_))); (case side4 => exact (Kd.R_reads' HO187.out).2.1); (case side5 => exact far_slice (IsS70.own_ne HI0.out HO187.out (by decide))); rintro e w38 ⟨rfl, hi, hb, hk⟩; refine ⟨_, rfl, ?_⟩; have n0_ := Aside0.mk (Kd.R_mono (Kd.R_keep (IsS70.apart (show IsS70 w0 _ g s0_0 x1001_1 x1002_1 from by repeat (first | (with_reducible first | exact HI0.out | apply IsS70.alloc | apply IsS70.drewN | apply IsS70.drew | apply IsS70.set_1 | apply IsS70.set_2) | exact HI0.out)) (by (with_reducible repeat (first | apply Kd.R_alloc | apply Kd.R_drewN | apply Kd.R_drew)); exact HO_3.out) (by decide)) hk (fun _ h => h.2)) (fun _ h => h.1)); have n1_ := Aside0.mk (Kd.R_mono (Kd.R_keep (IsS70.apart (show IsS70 w0 _ g s0_0 x1001_1 x1002_1 from by repeat (first | (with_reducible first | exact HI0.out | apply IsS70.alloc | apply IsS70.drewN | apply IsS70.drew | apply IsS70.set_1 | apply IsS70.set_2) | exact HI0.out)) (by (with_reducible repeat (first | apply Kd.R_alloc | apply Kd.R_drewN | apply Kd.R_drew)); exact HO187.out) (by decide)) hk (fun _ h => h.2)) (fun _ h => h.1)); have n2_ := Aside0.mk (KeepBut.trans (by repeat (first | (with_reducible first | exact HK.out | apply KeepBut.set_ | apply keep_drewN | apply keep_drew | apply keep_alloc) | exact HK.out)) hk (.inl rfl)); have n3_ := Aside0.mk (hb); have n4_ := Aside0.mk (hi); clear HO_3; clear HO187; clear HK; clear HB; clear HI0; have HO_3 := n0_; have HO187 := n1_; have HK := n2_; have HB := n3_; have HI0 := n4_; clear n0_ n1_ n2_ n3_ n4_; (try clear hb); (try clear hb2); (try clear hk); (try clear hi)) | ((with_reducible refine gate_builtin (b := .append) (xs := #[.tmp 13, .tmp 18]) rfl ?_); (try (refine gate_guard (by rfl) ?_; dsimp only)); at_builtin; refine Kd.R_append (Kd.int .i8) w.heap.size rfl (.tmp 13) (.tmp 18) 25 64 (.int .i8 0) 1 rfl Try.underlying25 info64 rfl (by decide) (by omega) u3 x3_1 (IntKind.i8.wrap (t188)) [.int .i8 (IntKind.i8.wrap (t188))] (fun _ => True) (fun _ => False) rfl rfl ?aP (fun _ hk => hk.elim) ?aF ?aO (Below.refl _ _) ?aS ?aL ?_; (case aP => exact rfl); (case aF => exact (fun _ _ => trivial)); (case aO => exact (by (with_reducible repeat (first | apply Kd.R_alloc | apply Kd.R_drewN | apply Kd.R_drew)); exact HO_3.out)); (case aS => exact (keep_size (w := w) (g := g) (row := none) (by repeat (first | (with_reducible first | exact HK.out | apply KeepBut.set_ | apply keep_drewN | apply keep_drew | apply keep_alloc) | exact HK.out)))); (case aL => have := LMc8.out; omega); intro v192 w39 ho hb hg hat; rw [← Ny191.out] at ho; have n0_ := Aside0.mk (IsS70.grown (by repeat (first | (with_reducible first | exact HI0.out | apply IsS70.alloc | apply IsS70.drewN | apply IsS70.drew | apply IsS70.set_1 | apply IsS70.set_2) | exact HI0.out)) hg (IsS70.own_ne HI0.out HO_3.out (by decide))); have n1_ := Aside0.mk (Kd.R_over' (by (with_reducible repeat (first | apply Kd.R_alloc | apply Kd.R_drewN | apply Kd.R_drew)); exact HO187.out) (Kd.R_typed (by (with_reducible repeat (first | apply Kd.R_alloc | apply Kd.R_drewN | apply Kd.R_drew)); exact HO_3.out)) (by decide) hg); have n2_ := Aside0.mk (below_weaken (by repeat (first | (with_reducible first | exact HB.out | apply below_alloc | apply pw_below_drewN | apply below_drew1 | refine below_set ?_ (IsS70.ge HI0.out)) | exact HB.out)) HL.out hb); have n3_ := Aside0.mk (KeepBut.trans (by repeat (first | (with_reducible first | exact HK.out | apply KeepBut.set_ | apply keep_drewN | apply keep_drew | apply keep_alloc) | exact HK.out)) (KeepBut.of_grown hg g) (Kd.R_base2 HO_3.out)); have n4_ := Aside0.mk (ho); clear HI0; clear HO187; clear HB; clear HK; clear HO_3; have HI0 := n0_; have HO187 := n1_; have HB := n2_; have HK := n3_; have HO193 := n4_; clear n0_ n1_ n2_ n3_ n4_; clear ho hb hg hat) | ((with_reducible refine gate_callee (f := 32) rfl ?_); refine goesL_ (some 21) rfl rfl Try.func32 (by kernel_rfl) rfl #[.pointer (some ⟨g, 0, none⟩), .int .i64 6] rfl (by (try simp only [List.map_toArray, List.map_cons, List.map_nil]); first | done | rfl | (simp only [List.length_drop, List.length_take]; rfl)) ?_; (with_reducible refine (spec_l00Src_one.calls g s0_0 t189 t190 6 false t195 t196 w0 _ ?side1 ?side2 A9.out).mono ?_); (case side1 => repeat (first | (with_reducible first | exact HI0.out | apply IsS70.alloc | apply IsS70.drewN | apply IsS70.drew | apply IsS70.set_1 | apply IsS70.set_2) | exact HI0.out)); (case side2 => repeat (first | (with_reducible first | exact HB.out | apply below_alloc | apply pw_below_drewN | apply below_drew1 | refine below_set ?_ (IsS70.ge HI0.out)) | exact HB.out)); rintro e w40 ⟨rfl, hi, hb, hk⟩; refine ⟨_, rfl, ?_⟩; have n0_ := Aside0.mk (Kd.R_mono (Kd.R_keep (IsS70.apart (show IsS70 w0 _ g s0_0 t189 t190 from by repeat (first | (with_reducible first | exact HI0.out | apply IsS70.alloc | apply IsS70.drewN | apply IsS70.drew | apply IsS70.set_1 | apply IsS70.set_2) | exact HI0.out)) (by (with_reducible repeat (first | apply Kd.R_alloc | apply Kd.R_drewN | apply Kd.R_drew)); exact HO187.out) (by decide)) hk (fun _ h => h.2)) (fun _ h => h.1)); have n1_ := Aside0.mk (Kd.R_mono (Kd.R_keep (IsS70.apart (show IsS70 w0 _ g s0_0 t189 t190 from by repeat (first | (with_reducible first | exact HI0.out | apply IsS70.alloc | apply IsS70.drewN | apply IsS70.drew | apply IsS70.set_1 | apply IsS70.set_2) | exact HI0.out)) (by (with_reducible repeat (first | apply Kd.R_alloc | apply Kd.R_drewN | apply Kd.R_drew)); exact HO193.out) (by decide)) hk (fun _ h => h.2)) (fun _ h => h.1)); have n2_ := Aside0.mk (KeepBut.trans (by repeat (first | (with_reducible first | exact HK.out | apply KeepBut.set_ | apply keep_drewN | apply keep_drew | apply keep_alloc) | exact HK.out)) hk (.inl rfl)); have n3_ := Aside0.mk (hb); have n4_ := Aside0.mk (hi); clear HO187; clear HO193; clear HK; clear HB; clear HI0; have HO187 := n0_; have HO193 := n1_; have HK := n2_; have HB := n3_; have HI0 := n4_; clear n0_ n1_ n2_ n3_ n4_; (try clear hb); (try clear hb2); (try clear hk); (try clear hi)))
      go_roundg k1
      case measure => have := HK1.out; omega
      case rel => exact ⟨(y191), (wrap64 (x4_1 - 1)), (t195), (t196), (by first | rfl | (simp; done) | (simp [*]; done)), H', ⟨by have := HK1.out; omega⟩, ⟨by (with_reducible repeat (first | apply Kd.R_alloc | apply Kd.R_drewN | apply Kd.R_drew)); exact HO193.out⟩, ⟨by repeat (first | (with_reducible first | exact HI0.out | apply IsS70.alloc | apply IsS70.drewN | apply IsS70.drew | apply IsS70.set_1 | apply IsS70.set_2) | exact HI0.out)⟩, ⟨by repeat (first | (with_reducible first | exact HK.out | apply KeepBut.set_ | apply keep_drewN | apply keep_drew | apply keep_alloc) | exact HK.out)⟩, ⟨by repeat (first | (with_reducible first | exact HB.out | apply below_alloc | apply pw_below_drewN | apply below_drew1 | refine below_set ?_ (IsS70.ge HI0.out)) | exact HB.out)⟩⟩
    ·rw [if_neg c8] at H
     exact absurd H (by simp)
   ·rw [if_neg c6] at H
    have c6b0 : decide (0 < x4_1) = false := decide_eq_false c6
    clear c6
    by_cases c41 : (x3_1.length : Int) > 8
    ·rw [if_pos c41] at H
     have c41b0 : decide (8 < (x3_1.length : Int)) = true := decide_eq_true c41
     have c41b1 : decide (8 < x3_1.length) = true := decide_eq_true (by omega)
     clear c41
     by_cases c42 : 8 ≤ (x3_1.length : Int)
     ·rw [if_pos c42] at H
      have c42b0 := eq_true c42
      have c42b1 : decide (8 ≤ (x3_1.length : Int)) = true := decide_eq_true c42
      clear c42
      obtain ⟨y200, hy200⟩ : ∃ y_ : List Int, y_ = (x3_1.take (8 : Int).toNat) := ⟨_, rfl⟩
      replace H : (if 0 ≤ (wrap64 ((y200.length : Int) - 1)) then (if (wrap64 ((y200.length : Int) - 1)) < (y200.length : Int) then (if (rd y200 (wrap64 ((y200.length : Int) - 1))) = (-10) then (if (wrap64 ((y200.length : Int) - 1)) ≤ (y200.length : Int) then (some ((y200.take ((wrap64 ((y200.length : Int) - 1)) : Int).toNat), x1001_1, x1002_1)) else (none)) else (some (y200, x1001_1, x1002_1))) else (none)) else (none)) = some (r1, r2, r3) := by first | (rw [hy200]; with_reducible exact H) | (have H2_ := (Option.bind_some _ _).symm.trans H; rw [hy200]; with_reducible exact H2_) | (have H2_ := (Option.bind_some _ _).symm.trans H; with_reducible exact H2_) | with_reducible exact H | (rw [hy200]; exact H) | exact H
      have Ny200 := Aside0.mk hy200
      clear hy200
      obtain ⟨ji43, hji43⟩ : ∃ j_ : Int, (wrap64 ((y200.length : Int) - 1)) = j_ := ⟨_, rfl⟩
      replace H : (if 0 ≤ (ji43) then (if (ji43) < (y200.length : Int) then (if (rd y200 (ji43)) = (-10) then (if (ji43) ≤ (y200.length : Int) then (some ((y200.take ((ji43) : Int).toNat), x1001_1, x1002_1)) else (none)) else (some (y200, x1001_1, x1002_1))) else (none)) else (none)) = some (r1, r2, r3) := by first | (rw [hji43] at H; exact H) | (simp only [hji43] at H ⊢; exact H)
      have hji43w : (IntKind.i64.wrap ((y200.length : Int) - 1)) = ji43 := (i64_w _).trans hji43
      by_cases c44 : 0 ≤ (ji43)
      ·rw [if_pos c44] at H
       have c44b0 : decide (0 ≤ (ji43)) = true := decide_eq_true c44
       clear c44
       by_cases c45 : (ji43) < (y200.length : Int)
       ·rw [if_pos c45] at H
        have c45b0 : decide ((ji43) < (y200.length : Int)) = true := decide_eq_true c45
        clear c45
        by_cases c46 : (rd y200 (ji43)) = (-10)
        ·rw [if_pos c46] at H
         have c46b0 : ((rd y200 (ji43)) == (-10)) = true := beq_iff_eq.mpr c46
         have c46b1 : ((rd y200 (ji43)) != (-10)) = false := bne_eq_false_iff_eq.mpr c46
         clear c46
         by_cases c47 : (ji43) ≤ (y200.length : Int)
         ·rw [if_pos c47] at H
          have c47b0 := eq_true c47
          have c47b1 : decide ((ji43) ≤ (y200.length : Int)) = true := decide_eq_true c47
          clear c47
          obtain ⟨y204, hy204⟩ : ∃ y_ : List Int, y_ = (y200.take ((ji43) : Int).toNat) := ⟨_, rfl⟩
          replace H : (some (y204, x1001_1, x1002_1)) = some (r1, r2, r3) := by first | (rw [hy204]; with_reducible exact H) | (have H2_ := (Option.bind_some _ _).symm.trans H; rw [hy204]; with_reducible exact H2_) | (have H2_ := (Option.bind_some _ _).symm.trans H; with_reducible exact H2_) | with_reducible exact H | (rw [hy204]; exact H) | exact H
          have Ny204 := Aside0.mk hy204
          clear hy204
          simp only [Option.some.injEq, Prod.mk.injEq] at H
          obtain ⟨rfl, rfl, rfl⟩ := H
          obtain ⟨Ao48, co48, eo48⟩ := Kd.R_slice HO_3.out
          subst eo48
          have q49 : (8 : Int) ≤ ((x3_1.length : Int) : Int) := of_decide_eq_true (by first | (with_reducible assumption) | assumption)
          obtain ⟨i049, hi049, _, hsz49, _⟩ := info_parts info64
          have hcut49 := cut_to (P := Try.prog) 25 64 .i64 Try.underlying25 hi049 Ao48 x3_1.length co48 8 (by omega) q49 (Kd.R_reads' HO_3.out).2.1
          have hr49 := Kd.R_take (m := (8 : Int).toNat) HO_3.out (by omega)
          have hy49 : y200.length = (8 : Int).toNat := (by rw [Ny200.out, List.length_take]; omega)
          rw [← Ny200.out] at hr49
          rw [← hy49] at hr49 hcut49
          clear hy49 hi049 hsz49 HO_3
          have HO202 := Aside0.mk hr49
          clear hr49
          replace q49 := eq_true q49
          have p203 : 0 ≤ ((ji43) : Int) := of_decide_eq_true (by first | (with_reducible assumption) | assumption)
          have q203 : (ji43) < (y200.length : Int) := of_decide_eq_true (by first | (with_reducible assumption) | assumption)
          obtain ⟨ad203, e203, hx203_0⟩ := Kd.at_int (Kd.R_reads' HO202.out).2.2 (ji43) p203 q203
          cases e203
          replace p203 := eq_true p203
          replace q203 := eq_true q203
          have q50 : ((ji43) : Int) ≤ ((y200.length : Int) : Int) := of_decide_eq_true (by first | (with_reducible assumption) | assumption)
          obtain ⟨i050, hi050, _, hsz50, _⟩ := info_parts info64
          have hcut50 := cut_to (P := Try.prog) 25 64 .i64 Try.underlying25 hi050 (some ad203) y200.length co48 (ji43) (of_decide_eq_true (by first | (with_reducible assumption) | assumption)) q50 (Kd.R_reads' HO202.out).2.1
          have hr50 := Kd.R_take (m := ((ji43) : Int).toNat) HO202.out (by omega)
          have hy50 : y204.length = ((ji43) : Int).toNat := (by rw [Ny204.out, List.length_take]; omega)
          rw [← Ny204.out] at hr50
          rw [← hy50] at hr50 hcut50
          clear hy50 hi050 hsz50 HO202
          have HO206 := Aside0.mk hr50
          clear hr50
          replace q50 := eq_true q50
          go_wp2
          go_ret
          exact ⟨_, by first | rfl | (simp [errW_none, errW_some] <;> rfl) | (simp only [← hji43]; first | rfl | (simp [errW_none, errW_some] <;> rfl)) | (simp [*, errW_none, errW_some] <;> rfl), by (with_reducible repeat (first | apply Kd.R_alloc | apply Kd.R_drewN | apply Kd.R_drew)); exact HO206.out, by repeat (first | (with_reducible first | exact HI0.out | apply IsS70.alloc | apply IsS70.drewN | apply IsS70.drew | apply IsS70.set_1 | apply IsS70.set_2) | exact HI0.out), by repeat (first | (with_reducible first | exact HB.out | apply below_alloc | apply pw_below_drewN | apply below_drew1 | refine below_set ?_ (IsS70.ge HI0.out)) | exact HB.out), by repeat (first | (with_reducible first | exact HK.out | apply KeepBut.set_ | apply keep_drewN | apply keep_drew | apply keep_alloc) | exact HK.out)⟩
         ·rw [if_neg c47] at H
          exact absurd H (by simp)
        ·rw [if_neg c46] at H
         have c46b0 : ((rd y200 (ji43)) == (-10)) = false := beq_eq_false_iff_ne.mpr c46
         have c46b1 : ((rd y200 (ji43)) != (-10)) = true := bne_iff_ne.mpr c46
         simp only [Option.some.injEq, Prod.mk.injEq] at H
         obtain ⟨rfl, rfl, rfl⟩ := H
         obtain ⟨Ao51, co51, eo51⟩ := Kd.R_slice HO_3.out
         subst eo51
         have q52 : (8 : Int) ≤ ((x3_1.length : Int) : Int) := of_decide_eq_true (by first | (with_reducible assumption) | assumption)
         obtain ⟨i052, hi052, _, hsz52, _⟩ := info_parts info64
         have hcut52 := cut_to (P := Try.prog) 25 64 .i64 Try.underlying25 hi052 Ao51 x3_1.length co51 8 (by omega) q52 (Kd.R_reads' HO_3.out).2.1
         have hr52 := Kd.R_take (m := (8 : Int).toNat) HO_3.out (by omega)
         have hy52 : y200.length = (8 : Int).toNat := (by rw [Ny200.out, List.length_take]; omega)
         rw [← Ny200.out] at hr52
         rw [← hy52] at hr52 hcut52
         clear hy52 hi052 hsz52 HO_3
         have HO202 := Aside0.mk hr52
         clear hr52
         replace q52 := eq_true q52
         have p203 : 0 ≤ ((ji43) : Int) := of_decide_eq_true (by first | (with_reducible assumption) | assumption)
         have q203 : (ji43) < (y200.length : Int) := of_decide_eq_true (by first | (with_reducible assumption) | assumption)
         obtain ⟨ad203, e203, hx203_0⟩ := Kd.at_int (Kd.R_reads' HO202.out).2.2 (ji43) p203 q203
         cases e203
         replace p203 := eq_true p203
         replace q203 := eq_true q203
         go_wp2
         go_ret
         exact ⟨_, by first | rfl | (simp [errW_none, errW_some] <;> rfl) | (simp only [← hji43]; first | rfl | (simp [errW_none, errW_some] <;> rfl)) | (simp [*, errW_none, errW_some] <;> rfl), by (with_reducible repeat (first | apply Kd.R_alloc | apply Kd.R_drewN | apply Kd.R_drew)); exact HO202.out, by repeat (first | (with_reducible first | exact HI0.out | apply IsS70.alloc | apply IsS70.drewN | apply IsS70.drew | apply IsS70.set_1 | apply IsS70.set_2) | exact HI0.out), by repeat (first | (with_reducible first | exact HB.out | apply below_alloc | apply pw_below_drewN | apply below_drew1 | refine below_set ?_ (IsS70.ge HI0.out)) | exact HB.out), by repeat (first | (with_reducible first | exact HK.out | apply KeepBut.set_ | apply keep_drewN | apply keep_drew | apply keep_alloc) | exact HK.out)⟩
       ·rw [if_neg c45] at H
        exact absurd H (by simp)
      ·rw [if_neg c44] at H
       exact absurd H (by simp)
     ·rw [if_neg c42] at H
      exact absurd H (by simp)
    ·rw [if_neg c41] at H
     have c41b0 : decide (8 < (x3_1.length : Int)) = false := decide_eq_false c41
     have c41b1 : decide (8 < x3_1.length) = false := decide_eq_false (by omega)
     clear c41
     obtain ⟨ji53, hji53⟩ : ∃ j_ : Int, (wrap64 ((x3_1.length : Int) - 1)) = j_ := ⟨_, rfl⟩
     replace H : (if 0 ≤ (ji53) then (if (ji53) < (x3_1.length : Int) then (if (rd x3_1 (ji53)) = (-10) then (if (ji53) ≤ (x3_1.length : Int) then (some ((x3_1.take ((ji53) : Int).toNat), x1001_1, x1002_1)) else (none)) else (some (x3_1, x1001_1, x1002_1))) else (none)) else (none)) = some (r1, r2, r3) := by first | (rw [hji53] at H; exact H) | (simp only [hji53] at H ⊢; exact H)
     have hji53w : (IntKind.i64.wrap ((x3_1.length : Int) - 1)) = ji53 := (i64_w _).trans hji53
     by_cases c54 : 0 ≤ (ji53)
     ·rw [if_pos c54] at H
      have c54b0 : decide (0 ≤ (ji53)) = true := decide_eq_true c54
      clear c54
      by_cases c55 : (ji53) < (x3_1.length : Int)
      ·rw [if_pos c55] at H
       have c55b0 : decide ((ji53) < (x3_1.length : Int)) = true := decide_eq_true c55
       clear c55
       by_cases c56 : (rd x3_1 (ji53)) = (-10)
       ·rw [if_pos c56] at H
        have c56b0 : ((rd x3_1 (ji53)) == (-10)) = true := beq_iff_eq.mpr c56
        have c56b1 : ((rd x3_1 (ji53)) != (-10)) = false := bne_eq_false_iff_eq.mpr c56
        clear c56
        by_cases c57 : (ji53) ≤ (x3_1.length : Int)
        ·rw [if_pos c57] at H
         have c57b0 := eq_true c57
         have c57b1 : decide ((ji53) ≤ (x3_1.length : Int)) = true := decide_eq_true c57
         clear c57
         obtain ⟨y208, hy208⟩ : ∃ y_ : List Int, y_ = (x3_1.take ((ji53) : Int).toNat) := ⟨_, rfl⟩
         replace H : (some (y208, x1001_1, x1002_1)) = some (r1, r2, r3) := by first | (rw [hy208]; with_reducible exact H) | (have H2_ := (Option.bind_some _ _).symm.trans H; rw [hy208]; with_reducible exact H2_) | (have H2_ := (Option.bind_some _ _).symm.trans H; with_reducible exact H2_) | with_reducible exact H | (rw [hy208]; exact H) | exact H
         have Ny208 := Aside0.mk hy208
         clear hy208
         simp only [Option.some.injEq, Prod.mk.injEq] at H
         obtain ⟨rfl, rfl, rfl⟩ := H
         obtain ⟨Ao58, co58, eo58⟩ := Kd.R_slice HO_3.out
         subst eo58
         have p207 : 0 ≤ ((ji53) : Int) := of_decide_eq_true (by first | (with_reducible assumption) | assumption)
         have q207 : (ji53) < (x3_1.length : Int) := of_decide_eq_true (by first | (with_reducible assumption) | assumption)
         obtain ⟨ad207, e207, hx207_0⟩ := Kd.at_int (Kd.R_reads' HO_3.out).2.2 (ji53) p207 q207
         cases e207
         replace p207 := eq_true p207
         replace q207 := eq_true q207
         have q59 : ((ji53) : Int) ≤ ((x3_1.length : Int) : Int) := of_decide_eq_true (by first | (with_reducible assumption) | assumption)
         obtain ⟨i059, hi059, _, hsz59, _⟩ := info_parts info64
         have hcut59 := cut_to (P := Try.prog) 25 64 .i64 Try.underlying25 hi059 (some ad207) x3_1.length co58 (ji53) (of_decide_eq_true (by first | (with_reducible assumption) | assumption)) q59 (Kd.R_reads' HO_3.out).2.1
         have hr59 := Kd.R_take (m := ((ji53) : Int).toNat) HO_3.out (by omega)
         have hy59 : y208.length = ((ji53) : Int).toNat := (by rw [Ny208.out, List.length_take]; omega)
         rw [← Ny208.out] at hr59
         rw [← hy59] at hr59 hcut59
         clear hy59 hi059 hsz59 HO_3
         have HO210 := Aside0.mk hr59
         clear hr59
         replace q59 := eq_true q59
         go_wp2
         go_ret
         exact ⟨_, by first | rfl | (simp [errW_none, errW_some] <;> rfl) | (simp only [← hji53]; first | rfl | (simp [errW_none, errW_some] <;> rfl)) | (simp [*, errW_none, errW_some] <;> rfl), by (with_reducible repeat (first | apply Kd.R_alloc | apply Kd.R_drewN | apply Kd.R_drew)); exact HO210.out, by repeat (first | (with_reducible first | exact HI0.out | apply IsS70.alloc | apply IsS70.drewN | apply IsS70.drew | apply IsS70.set_1 | apply IsS70.set_2) | exact HI0.out), by repeat (first | (with_reducible first | exact HB.out | apply below_alloc | apply pw_below_drewN | apply below_drew1 | refine below_set ?_ (IsS70.ge HI0.out)) | exact HB.out), by repeat (first | (with_reducible first | exact HK.out | apply KeepBut.set_ | apply keep_drewN | apply keep_drew | apply keep_alloc) | exact HK.out)⟩
        ·rw [if_neg c57] at H
         exact absurd H (by simp)
       ·rw [if_neg c56] at H
        have c56b0 : ((rd x3_1 (ji53)) == (-10)) = false := beq_eq_false_iff_ne.mpr c56
        have c56b1 : ((rd x3_1 (ji53)) != (-10)) = true := bne_iff_ne.mpr c56
        simp only [Option.some.injEq, Prod.mk.injEq] at H
        obtain ⟨rfl, rfl, rfl⟩ := H
        obtain ⟨Ao60, co60, eo60⟩ := Kd.R_slice HO_3.out
        subst eo60
        have p207 : 0 ≤ ((ji53) : Int) := of_decide_eq_true (by first | (with_reducible assumption) | assumption)
        have q207 : (ji53) < (x3_1.length : Int) := of_decide_eq_true (by first | (with_reducible assumption) | assumption)
        obtain ⟨ad207, e207, hx207_0⟩ := Kd.at_int (Kd.R_reads' HO_3.out).2.2 (ji53) p207 q207
        cases e207
        replace p207 := eq_true p207
        replace q207 := eq_true q207
        go_wp2
        go_ret
        exact ⟨_, by first | rfl | (simp [errW_none, errW_some] <;> rfl) | (simp only [← hji53]; first | rfl | (simp [errW_none, errW_some] <;> rfl)) | (simp [*, errW_none, errW_some] <;> rfl), by (with_reducible repeat (first | apply Kd.R_alloc | apply Kd.R_drewN | apply Kd.R_drew)); exact HO_3.out, by repeat (first | (with_reducible first | exact HI0.out | apply IsS70.alloc | apply IsS70.drewN | apply IsS70.drew | apply IsS70.set_1 | apply IsS70.set_2) | exact HI0.out), by repeat (first | (with_reducible first | exact HB.out | apply below_alloc | apply pw_below_drewN | apply below_drew1 | refine below_set ?_ (IsS70.ge HI0.out)) | exact HB.out), by repeat (first | (with_reducible first | exact HK.out | apply KeepBut.set_ | apply keep_drewN | apply keep_drew | apply keep_alloc) | exact HK.out)⟩
      ·rw [if_neg c55] at H
       exact absurd H (by simp)
     ·rw [if_neg c54] at H
      exact absurd H (by simp)
def spec_l00From.f (l0 : List Int) : Option (List Int × Int × Int) := some (l0, 0, 0)
set_option maxHeartbeats 8000000 in
set_option maxRecDepth 100000 in
theorem spec_l00From.calls (A0 : Option Addr) (c0 : Nat) (l0 : List Int) (r1 : List Int) (r2 : Int) (r3 : Int) (w0 w : World) (hB : Below w0.heap.size w0 w) (hr0 : Kd.C (Kd.int .u8) w0 A0 l0.length l0) (hc0 : l0.length ≤ c0) (h : spec_l00From.f l0 = some (r1, r2, r3)) :
  Calls Try.prog 17 #[.slice A0 l0.length c0] w fun e w' => ∃ g_ : Nat, e = .returned (.pointer (some ⟨g_, 0, none⟩)) ∧ IsS70 w0 w' g_ r1 r2 r3 ∧ Below w0.heap.size w0 w' ∧ Below w.heap.size w w' := by
 have hu70 := Try.underlying70
 have HR0 := Aside0.mk hr0
 have HC0 := Aside0.mk hc0
 clear hr0 hc0
 have HBW := Aside0.mk (Below.refl w.heap.size w)
 have HW0 := Aside0.mk hB.size
 have HB := Aside0.mk hB
 clear hB
 have H : (some (l0, 0, 0)) = some (r1, r2, r3) := h
 clear h
 simp only [Option.some.injEq, Prod.mk.injEq] at H
 obtain ⟨rfl, rfl, rfl⟩ := H
 go_enter Try.func17, Try.ntmps17
 go_wp2_with (first | ((with_reducible refine gate_dst (N := 5) rfl ?_); refine box_event ?hg (N := 5) ?hd (cs := #[.slice A0 l0.length c0, .int .i64 0, .int .u64 0]) (t := 70) ?hr ?_; (case hd => rfl); (case hg => rfl); (case hr => first | (go_simp; done) | (go_simp; rfl)); intro gb211 hg w2 hbox hb; have n0_ := Aside0.mk (below_step HBW.out hb); have n1_ := Aside0.mk (below_step (by repeat (first | (with_reducible first | exact HB.out | apply below_alloc | apply pw_below_drewN | apply below_drew1) | exact HB.out)) hb); have n2_ := Aside0.mk (hbox); have n3_ := Aside0.mk ((by rw [hg]; exact (below_size (by repeat (first | (with_reducible first | exact HBW.out | apply below_alloc | apply pw_below_drewN | apply below_drew1) | exact HBW.out))) : w.heap.size ≤ gb211)); have n4_ := Aside0.mk ((Nat.le_trans HW0.out (by rw [hg]; exact (below_size (by repeat (first | (with_reducible first | exact HBW.out | apply below_alloc | apply pw_below_drewN | apply below_drew1) | exact HBW.out))) : w.heap.size ≤ gb211) : w0.heap.size ≤ gb211)); clear HBW; clear HB; have HBW := n0_; have HB := n1_; have BK211 := n2_; have GW211 := n3_; have GE211 := n4_; clear n0_ n1_ n2_ n3_ n4_; clear hb hbox hg))
 go_ret
 exact ⟨_, rfl, (show IsS70 w0 _ gb211 l0 0 0 from ⟨_, _, by (with_reducible repeat (first | refine blk_drewN ?_ _ | refine blk_drew ?_ | refine blk_alloc ?_ _)); exact BK211.out, GE211.out, HR0.out⟩), by repeat (first | (with_reducible first | exact HB.out | apply below_alloc | apply pw_below_drewN | apply below_drew1 | refine below_set ?_ GE211.out) | exact HB.out), by repeat (first | (with_reducible first | exact HBW.out | apply below_alloc | apply pw_below_drewN | apply below_drew1 | refine below_set ?_ GW211.out) | exact HBW.out)⟩
def spec_A2Meaning.f (k : Nat) (l0 : List Int) : Option (List Int) := (spec_l00From.f l0).bind fun bt212 => ((spec_l02Meant.f k bt212.1 bt212.2.1 bt212.2.2).bind fun bt216 => (some bt216.1))
set_option maxHeartbeats 8000000 in
set_option maxRecDepth 100000 in
theorem spec_A2Meaning.calls (k : Nat) (A0 : Option Addr) (c0 : Nat) (l0 : List Int) (r : List Int) (w : World) (hr0 : Kd.C (Kd.int .u8) w A0 l0.length l0) (hc0 : l0.length ≤ c0) (h : spec_A2Meaning.f k l0 = some r) :
  Calls Try.prog 5 #[.slice A0 l0.length c0] w fun e w' => ∃ v0_ : Value, e = .returned (v0_) ∧ Kd.R (Kd.int .i8) 64 w' w.heap.size (fun _ => True) v0_ r ∧ Below w.heap.size w w' := by
 have HR0 := Aside0.mk hr0
 have HC0 := Aside0.mk hc0
 clear hr0 hc0
 have HB := Aside0.mk (Below.refl w.heap.size w)
 have H : ((spec_l00From.f l0).bind fun bt212 => ((spec_l02Meant.f k bt212.1 bt212.2.1 bt212.2.2).bind fun bt216 => (some bt216.1))) = some r := h
 clear h
 replace H := Option.bind_eq_some_iff.mp H
 obtain ⟨⟨t212, t213, t214⟩, A20, H⟩ := H
 replace H : ((spec_l02Meant.f k t212 t213 t214).bind fun bt216 => (some bt216.1)) = some r := H
 have A2 := Aside0.mk A20
 clear A20
 replace H := Option.bind_eq_some_iff.mp H
 obtain ⟨⟨t216, t219, t220⟩, A30, H⟩ := H
 replace H : (some t216) = some r := H
 have A3 := Aside0.mk A30
 clear A30
 obtain rfl := Option.some.inj H
 go_enter Try.func5, Try.ntmps5
 go_wp2_with (first | ((with_reducible refine gate_callee (f := 17) rfl ?_); refine goesL_ (some 4) rfl rfl Try.func17 (by kernel_rfl) rfl #[.slice A0 l0.length c0] rfl (by (try simp only [List.map_toArray, List.map_cons, List.map_nil]); first | done | rfl | (simp only [List.length_drop, List.length_take]; rfl)) ?_; (with_reducible refine (spec_l00From.calls _ _ l0 t212 t213 t214 w _ ?side1 ?side2 ?side3 A2.out).mono ?_); (case side1 => repeat (first | (with_reducible first | exact HB.out | apply below_alloc | apply pw_below_drewN | apply below_drew1) | exact HB.out)); (case side2 => exact HR0.out); (case side3 => exact HC0.out); rintro e w4 ⟨g215, rfl, hi, hb, hb2⟩; refine ⟨_, rfl, ?_⟩; have n0_ := Aside0.mk (hb); have n1_ := Aside0.mk (hi); clear HB; have HB := n0_; have HI215 := n1_; clear n0_ n1_; (try clear hb); (try clear hb2); (try clear hk); (try clear hi)) | ((with_reducible refine gate_callee (f := 16) rfl ?_); refine goesL_ (some 5) rfl rfl Try.func16 (by kernel_rfl) rfl #[.pointer (some ⟨g215, 0, none⟩)] rfl (by (try simp only [List.map_toArray, List.map_cons, List.map_nil]); first | done | rfl | (simp only [List.length_drop, List.length_take]; rfl)) ?_; (with_reducible refine (spec_l02Meant.calls k g215 t212 t213 t214 t216 t219 t220 w _ ?side1 ?side2 A3.out).mono ?_); (case side1 => repeat (first | (with_reducible first | exact HI215.out | apply IsS70.alloc | apply IsS70.drewN | apply IsS70.drew | apply IsS70.set_1 | apply IsS70.set_2) | exact HI215.out)); (case side2 => repeat (first | (with_reducible first | exact HB.out | apply below_alloc | apply pw_below_drewN | apply below_drew1 | refine below_set ?_ (IsS70.ge HI215.out)) | exact HB.out)); rintro e w5 ⟨v217, rfl, ho0, hi, hb, hk⟩; refine ⟨_, rfl, ?_⟩; have n0_ := Aside0.mk (Kd.R_lower ho0 (below_size (by repeat (first | (with_reducible first | exact HB.out | apply below_alloc | apply pw_below_drewN | apply below_drew1 | refine below_set ?_ (IsS70.ge HI215.out)) | exact HB.out)))); have n1_ := Aside0.mk (hb); have n2_ := Aside0.mk (hi); clear HB; clear HI215; have HO218 := n0_; have HB := n1_; have HI215 := n2_; clear n0_ n1_ n2_; (try clear hb); (try clear hb2); (try clear hk); (try clear hi); (try clear ho0)))
 go_ret
 exact ⟨_, by first | rfl | (simp [errW_none, errW_some] <;> rfl) | (simp [*, errW_none, errW_some] <;> rfl), by (with_reducible repeat (first | apply Kd.R_alloc | apply Kd.R_drewN | apply Kd.R_drew)); exact HO218.out, by repeat (first | (with_reducible first | exact HB.out | apply below_alloc | apply pw_below_drewN | apply below_drew1 | refine below_set ?_ (IsS70.ge HI215.out)) | exact HB.out)⟩
def spec_l02Same.l0 : Nat → List Int → List Int → Int → Option (Bool)
 | 0, _, _, _ => none
 | k + 1, x0, x1, x5 => if x5 < (x0.length : Int) then (if 0 ≤ x5 then (if x5 < (x1.length : Int) then (if (rd x0 x5) = (rd x1 x5) then (spec_l02Same.l0 k x0 x1 (wrap64 (x5 + 1))) else (some false)) else (none)) else (none)) else (some true)
def spec_l02Same.f (k : Nat) (l0 : List Int) (l1 : List Int) : Option (Bool) := if (l0.length : Int) = (l1.length : Int) then (spec_l02Same.l0 k l0 l1 0) else (some false)
set_option maxHeartbeats 8000000 in
set_option maxRecDepth 100000 in
theorem spec_l02Same.calls (k : Nat) (A0 : Option Addr) (c0 : Nat) (l0 : List Int) (A1 : Option Addr) (c1 : Nat) (l1 : List Int) (r : Bool) (w : World) (hr0 : Kd.C (Kd.int .i8) w A0 l0.length l0) (hc0 : l0.length ≤ c0) (hr1 : Kd.C (Kd.int .i8) w A1 l1.length l1) (hc1 : l1.length ≤ c1) (h : spec_l02Same.f k l0 l1 = some r) :
  Calls Try.prog 25 #[.slice A0 l0.length c0, .slice A1 l1.length c1] w fun e w' => e = .returned (.bool r) ∧ Drawn0 w w' := by
 have HR0 := Aside0.mk hr0
 have HC0 := Aside0.mk hc0
 clear hr0 hc0
 have HR1 := Aside0.mk hr1
 have HC1 := Aside0.mk hc1
 clear hr1 hc1
 have H : (if (l0.length : Int) = (l1.length : Int) then (spec_l02Same.l0 k l0 l1 0) else (some false)) = some r := h
 clear h
 by_cases c3 : (l0.length : Int) = (l1.length : Int)
 ·rw [if_pos c3] at H
  have c3b0 : ((l0.length : Int) == (l1.length : Int)) = true := beq_iff_eq.mpr c3
  have c3b1 : ((l0.length : Int) != (l1.length : Int)) = false := bne_eq_false_iff_eq.mpr c3
  have c3b2 : (l0.length == l1.length) = true := by first | simpa using c3 | (simp at c3 ⊢; omega)
  clear c3
  have H' := Aside0.mk H
  clear H
  go_enter Try.func25, Try.ntmps25
  go_wp2
  repeat (go_quiet (fail); try go_wp2)
  go_loopg [5] k (fun kq v5 w' => ∃ (x5_1 : Int), v5 = .int .i64 x5_1 ∧ Aside0 (spec_l02Same.l0 kq l0 l1 x5_1 = some r) ∧ Aside0 (kq ≤ k) ∧ Drawn0 w w')
  case atStart => exact ⟨(0), (by first | rfl | (simp; done) | (simp [*]; done)), H', ⟨Nat.le_refl _⟩, by repeat (first | exact Drawn0.refl _ | apply Drawn0.step)⟩
  case round =>
   clear H'
   try clear c1
   try clear c2
   try clear p2
   try clear c3
   try clear c3b0
   try clear c3b1
   try clear c3b2
   obtain ⟨x5_1, rfl, HA, HK1, ⟨m1, rfl⟩⟩ := hrel
   cases gk with
   | zero => exact absurd HA.out (by simp [spec_l02Same.l0])
   | succ k1 =>
    have H := HA.out
    clear HA
    simp only [spec_l02Same.l0] at H
    by_cases c4 : x5_1 < (l0.length : Int)
    ·rw [if_pos c4] at H
     have c4b0 : decide (x5_1 < (l0.length : Int)) = true := decide_eq_true c4
     clear c4
     by_cases c5 : 0 ≤ x5_1
     ·rw [if_pos c5] at H
      have c5b0 : decide (0 ≤ x5_1) = true := decide_eq_true c5
      clear c5
      by_cases c6 : x5_1 < (l1.length : Int)
      ·rw [if_pos c6] at H
       have c6b0 : decide (x5_1 < (l1.length : Int)) = true := decide_eq_true c6
       clear c6
       by_cases c7 : (rd l0 x5_1) = (rd l1 x5_1)
       ·rw [if_pos c7] at H
        have c7b0 : ((rd l0 x5_1) == (rd l1 x5_1)) = true := beq_iff_eq.mpr c7
        have c7b1 : ((rd l0 x5_1) != (rd l1 x5_1)) = false := bne_eq_false_iff_eq.mpr c7
        clear c7
        have H' := Aside0.mk H
        clear H
        have p221 : 0 ≤ (x5_1 : Int) := of_decide_eq_true (by first | (with_reducible assumption) | assumption)
        have q221 : x5_1 < (l0.length : Int) := of_decide_eq_true (by first | (with_reducible assumption) | assumption)
        obtain ⟨ad221, e221, hx221_0⟩ := Kd.at_int HR0.out x5_1 p221 q221
        cases e221
        replace p221 := eq_true p221
        replace q221 := eq_true q221
        have p222 : 0 ≤ (x5_1 : Int) := of_decide_eq_true (by first | (with_reducible assumption) | assumption)
        have q222 : x5_1 < (l1.length : Int) := of_decide_eq_true (by first | (with_reducible assumption) | assumption)
        obtain ⟨ad222, e222, hx222_0⟩ := Kd.at_int HR1.out x5_1 p222 q222
        cases e222
        replace p222 := eq_true p222
        replace q222 := eq_true q222
        go_wp2
        repeat (go_quiet (fail); try go_wp2)
        go_roundg k1
        case measure => have := HK1.out; omega
        case rel => exact ⟨(wrap64 (x5_1 + 1)), (by first | rfl | (simp; done) | (simp [*]; done)), H', ⟨by have := HK1.out; omega⟩, by repeat (first | exact Drawn0.refl _ | apply Drawn0.step)⟩
       ·rw [if_neg c7] at H
        have c7b0 : ((rd l0 x5_1) == (rd l1 x5_1)) = false := beq_eq_false_iff_ne.mpr c7
        have c7b1 : ((rd l0 x5_1) != (rd l1 x5_1)) = true := bne_iff_ne.mpr c7
        obtain rfl := Option.some.inj H
        have p221 : 0 ≤ (x5_1 : Int) := of_decide_eq_true (by first | (with_reducible assumption) | assumption)
        have q221 : x5_1 < (l0.length : Int) := of_decide_eq_true (by first | (with_reducible assumption) | assumption)
        obtain ⟨ad221, e221, hx221_0⟩ := Kd.at_int HR0.out x5_1 p221 q221
        cases e221
        replace p221 := eq_true p221
        replace q221 := eq_true q221
        have p222 : 0 ≤ (x5_1 : Int) := of_decide_eq_true (by first | (with_reducible assumption) | assumption)
        have q222 : x5_1 < (l1.length : Int) := of_decide_eq_true (by first | (with_reducible assumption) | assumption)
        obtain ⟨ad222, e222, hx222_0⟩ := Kd.at_int HR1.out x5_1 p222 q222
        cases e222
        replace p222 := eq_true p222
        replace q222 := eq_true q222
        go_wp2
        repeat (go_quiet (fail); try go_wp2)
        go_ret
        exact ⟨by first | rfl | (simp; done) | (simp [*]; done), by repeat (first | exact Drawn0.refl _ | apply Drawn0.step)⟩
      ·rw [if_neg c6] at H
       exact absurd H (by simp)
     ·rw [if_neg c5] at H
      exact absurd H (by simp)
    ·rw [if_neg c4] at H
     have c4b0 : decide (x5_1 < (l0.length : Int)) = false := decide_eq_false c4
     clear c4
     obtain rfl := Option.some.inj H
     go_wp2
     repeat (go_quiet (fail); try go_wp2)
     go_ret
     exact ⟨by first | rfl | (simp; done) | (simp [*]; done), by repeat (first | exact Drawn0.refl _ | apply Drawn0.step)⟩
 ·rw [if_neg c3] at H
  have c3b0 : ((l0.length : Int) == (l1.length : Int)) = false := beq_eq_false_iff_ne.mpr c3
  have c3b1 : ((l0.length : Int) != (l1.length : Int)) = true := bne_iff_ne.mpr c3
  have c3b2 : (l0.length == l1.length) = false := by first | simpa using c3 | (simp at c3 ⊢; omega)
  obtain rfl := Option.some.inj H
  go_enter Try.func25, Try.ntmps25
  go_wp2
  repeat (go_quiet (fail); try go_wp2)
  go_ret
  exact ⟨by first | rfl | (simp; done) | (simp [*]; done), by repeat (first | exact Drawn0.refl _ | apply Drawn0.step)⟩
end Go.Proofs.Ytfdjgomocbniaaa.K
namespace Go.Proofs.Ytfdjgomocbniaaa.Arr
open Go.RowKit Go.Proofs.YtfdjgomocbniaaaW.PrintWords Go.Proofs.YtfdjgomocbniaaaW.PrintLast Go.Proofs.YtfdjgomocbniaaaW.PrintMore Go.Proofs.Ytfdjgomocbniaaa.U Go.Proofs.Ytfdjgomocbniaaa.K
set_option linter.unusedVariables false
set_option linter.unusedSimpArgs false
def Byt (c : List Int) : Prop := c.length ≤ 1000000 ∧ ∀ x ∈ c, 0 ≤ x ∧ x < 256
theorem and255 (y : Int) : 0 ≤ wrap64 (Go.bits .and .u64 (IntKind.u64.wrap y / 1099511627776) 255) ∧ wrap64 (Go.bits .and .u64 (IntKind.u64.wrap y / 1099511627776) 255) < 256 := by
 have h : 0 ≤ IntKind.u64.wrap y ∧ IntKind.u64.wrap y < 18446744073709551616 := by
  unfold IntKind.wrap; simp [IntKind.signed, IntKind.bits]; omega
 generalize IntKind.u64.wrap y = z at *
 rw [Go.u64_and (z / 1099511627776) 255 (by omega) (by omega) (by omega) (by omega)]
 have h2 : (z / 1099511627776).toNat &&& (255 : Int).toNat ≤ 255 := Nat.and_le_right
 generalize (z / 1099511627776).toNat &&& (255 : Int).toNat = q at *
 unfold wrap64
 omega
theorem next_some {c : List Int} (hc : Byt c) (p sd : Int) (h0 : 0 ≤ p) (h1 : p ≤ 1000000000) : ∃ x sd', spec_l00Src_next.f c p sd = some (x, p + 1, sd') ∧ 0 ≤ x ∧ x < 256 := by
 have hw : wrap64 (p + 1) = p + 1 := by unfold wrap64; omega
 have hl := hc.1
 unfold spec_l00Src_next.f
 rw [hw]
 by_cases h : p < (c.length : Int)
 ·have hx : 0 ≤ rd c p ∧ rd c p < 256 := by
   obtain ⟨n, rfl⟩ := Int.eq_ofNat_of_zero_le h0
   rw [rd_get c n (by omega)]
   exact hc.2 _ (List.getElem_mem _)
  rw [if_pos h, if_pos h0, if_pos (by omega)]
  refine ⟨_, _, rfl, ?_⟩
  unfold wrap64
  omega
 ·rw [if_neg h, if_neg (by omega)]
  exact ⟨_, _, rfl, and255 _⟩
theorem tmod_in (x n : Int) (h0 : 0 ≤ x) (hn : 0 < n) : 0 ≤ Int.tmod x n ∧ Int.tmod x n < n := by
 rw [Int.tmod_eq_emod_of_nonneg h0]
 exact ⟨Int.emod_nonneg _ (by omega), Int.emod_lt_of_pos _ hn⟩
theorem pick_some {c : List Int} (hc : Byt c) (p sd n : Int) (h0 : 0 ≤ p) (h1 : p ≤ 1000000000) (hn : 2 ≤ n) (hn2 : n ≤ 200) : ∃ x sd', spec_l00Src_pick.f c p sd n = some (x, p + 1, sd') ∧ 0 ≤ x ∧ x < n := by
 obtain ⟨x, s, e, hx0, hx1⟩ := next_some hc p sd h0 h1
 unfold spec_l00Src_pick.f
 rw [if_neg (by omega), e, Option.bind_some, if_neg (by omega), if_neg (by omega)]
 exact ⟨_, _, rfl, tmod_in x n hx0 (by omega)⟩
theorem among_some {c : List Int} (hc : Byt c) (p sd : Int) (l : List Int) (h0 : 0 ≤ p) (h1 : p ≤ 1000000000) (hn : 2 ≤ l.length) (hn2 : l.length ≤ 200) : ∃ x sd', spec_l00Src_among.f c p sd l = some (x, p + 1, sd') ∧ x ∈ l := by
 obtain ⟨x, s, e, hx0, hx1⟩ := pick_some hc p sd (l.length : Int) h0 h1 (by omega) (by omega)
 unfold spec_l00Src_among.f
 rw [e, Option.bind_some, if_pos hx0, if_pos hx1]
 refine ⟨_, _, rfl, ?_⟩
 obtain ⟨n, rfl⟩ := Int.eq_ofNat_of_zero_le hx0
 rw [rd_get l n (by omega)]
 exact List.getElem_mem _
theorem one_some {c : List Int} (hc : Byt c) (p sd n : Int) (h0 : 0 ≤ p) (h1 : p ≤ 1000000000) (hn : 2 ≤ n) (hn2 : n ≤ 200) : ∃ b sd', spec_l00Src_one.f c p sd n = some (b, p + 1, sd') := by
 obtain ⟨x, s, e, hx0, hx1⟩ := pick_some hc p sd n h0 h1 hn hn2
 unfold spec_l00Src_one.f
 rw [e, Option.bind_some]
 exact ⟨_, _, rfl⟩
def Alt (m : List Int) : Prop := ∀ i : Nat, i < m.length → rd m (i : Int) = -10 → 0 < i ∧ rd m ((i : Int) - 1) ≠ -10
theorem runAlt {m : List Int} (hp : ∀ x ∈ m, PlainN x) (ha : Alt m) : ∀ i, i ≤ m.length → ∃ s, runH m i = some (m.take i, s) ∧ s ≤ i ∧ (s = i → i = 0 ∨ rd m ((i : Int) - 1) = -10)
 | 0, _ => ⟨0, by simp [runH], Nat.le_refl _, fun _ => .inl rfl⟩
 | i + 1, hi => by
  obtain ⟨s, hs, hle, hs2⟩ := runAlt hp ha i (by omega)
  have hx := hp (rd m (i : Int)) (by rw [rd_get m i (by omega)]; exact List.getElem_mem _)
  have hl : (m.take i).length = i := by rw [List.length_take]; omega
  rw [runH, hs, Option.bind_some, take_step m i (by omega)]
  unfold stepH
  dsimp only
  by_cases h10 : rd m (i : Int) = -10
  ·obtain ⟨h1, h2⟩ := ha i (by omega) h10
   rw [if_pos h10, hl, if_neg (fun e => by rcases hs2 e with h | h; omega; exact h2 h)]
   exact ⟨i + 1, rfl, Nat.le_refl _, fun _ => .inr (by rw [show ((i + 1 : Nat) : Int) - 1 = (i : Int) by omega]; exact h10)⟩
  ·rw [if_neg h10, if_pos (by rcases hx with hx | hx; exact absurd hx h10; exact hx)]
   exact ⟨s, rfl, by omega, fun e => by omega⟩
theorem plainM_alt {m : List Int} (hp : ∀ x ∈ m, PlainN x) (ha : Alt m) (h1 : 1 ≤ m.length) (h8 : m.length ≤ 8) (hl : rd m ((m.length : Int) - 1) ≠ -10) : plainM m = true := by
 obtain ⟨s, hs, hle, hs2⟩ := runAlt hp ha m.length (Nat.le_refl _)
 rw [List.take_length] at hs
 unfold plainM okH readH
 rw [if_pos ⟨h1, h8⟩, hs]
 dsimp only
 rw [if_pos (by
  rcases Nat.lt_or_ge s m.length with h | h
  ·exact h
  ·rcases hs2 (by omega) with h | h
   ·omega
   ·exact absurd h hl)]
 rw [Option.isSome_some, Bool.true_and, Bool.not_eq_true', List.any_eq_false]
 intro x hx
 unfold oddM
 rcases hp x hx with h | h
 ·simp [h]
 ·simp; omega
theorem alt_take {m : List Int} (ha : Alt m) (k : Nat) (hk : k ≤ m.length) : Alt (m.take k) := by
 intro i hi h
 rw [List.length_take] at hi
 rw [rd_takeH m k i (by omega) hk] at h
 obtain ⟨h1, h2⟩ := ha i (by omega) h
 refine ⟨h1, ?_⟩
 rw [show (i : Int) - 1 = ((i - 1 : Nat) : Int) by omega] at h2 ⊢
 rw [rd_takeH m k (i - 1) (by omega) hk]
 exact h2
theorem alt_snoc {m : List Int} (ha : Alt m) (x : Int) (hx : x = -10 → 1 ≤ m.length ∧ rd m ((m.length : Int) - 1) ≠ -10) : Alt (m ++ [x]) := by
 intro i hi h
 rw [List.length_append, List.length_singleton] at hi
 rcases Nat.lt_or_ge i m.length with h1 | h1
 ·rw [rd_app_left m [x] i h1] at h
  obtain ⟨h2, h3⟩ := ha i h1 h
  refine ⟨h2, ?_⟩
  rw [show (i : Int) - 1 = ((i - 1 : Nat) : Int) by omega] at h3 ⊢
  rw [rd_app_left m [x] (i - 1) (by omega)]
  exact h3
 ·obtain rfl : i = m.length := by omega
  rw [rd_app_end] at h
  obtain ⟨h2, h3⟩ := hx h
  refine ⟨h2, ?_⟩
  rw [show (m.length : Int) - 1 = ((m.length - 1 : Nat) : Int) by omega] at h3 ⊢
  rw [rd_app_left m [x] _ (by omega)]
  exact h3
theorem cut_plain {m : List Int} (hp : ∀ x ∈ m, PlainN x) (ha : Alt m) (h1 : 1 ≤ m.length) (h8 : m.length ≤ 8) : plainM (if rd m ((m.length : Int) - 1) = -10 then m.take (m.length - 1) else m) = true := by
 by_cases h : rd m ((m.length : Int) - 1) = -10
 ·rw [if_pos h]
  obtain ⟨h2, h3⟩ := ha (m.length - 1) (by omega) (by rw [show ((m.length - 1 : Nat) : Int) = (m.length : Int) - 1 by omega]; exact h)
  refine plainM_alt (fun x hx => hp x (List.mem_of_mem_take hx)) (alt_take ha _ (by omega)) (by rw [List.length_take]; omega) (by rw [List.length_take]; omega) ?_
  rw [List.length_take, Nat.min_eq_left (by omega), show ((m.length - 1 : Nat) : Int) - 1 = ((m.length - 2 : Nat) : Int) by omega, rd_takeH m _ _ (by omega) (by omega)]
  rw [show ((m.length - 1 : Nat) : Int) - 1 = ((m.length - 2 : Nat) : Int) by omega] at h3
  exact h3
 ·rw [if_neg h]
  exact plainM_alt hp ha h1 h8 h
end Go.Proofs.Ytfdjgomocbniaaa.Arr
namespace Go.Proofs.Ytfdjgomocbniaaa.K
open Go.RowKit Go.Proofs.YtfdjgomocbniaaaW.PrintWords Go.Proofs.YtfdjgomocbniaaaW.PrintLast Go.Proofs.YtfdjgomocbniaaaW.PrintMore
attribute [local go_sem] max2_int min2_int max_two min_two max_three min_three max_four min_four
set_option linter.unusedVariables false
set_option linter.unusedSimpArgs false
def spec_A2Alike.f (k : Nat) (l0 : List Int) (l1 : List Int) : Option (Bool) := (spec_l02Same.f k l0 l1).bind fun t223 => (some t223)
set_option maxHeartbeats 8000000 in
set_option maxRecDepth 100000 in
theorem spec_A2Alike.calls (k : Nat) (A0 : Option Addr) (c0 : Nat) (l0 : List Int) (A1 : Option Addr) (c1 : Nat) (l1 : List Int) (r : Bool) (w : World) (hr0 : Kd.C (Kd.int .i8) w A0 l0.length l0) (hc0 : l0.length ≤ c0) (hr1 : Kd.C (Kd.int .i8) w A1 l1.length l1) (hc1 : l1.length ≤ c1) (h : spec_A2Alike.f k l0 l1 = some r) :
  Calls Try.prog 12 #[.slice A0 l0.length c0, .slice A1 l1.length c1] w fun e w' => e = .returned (.bool r) ∧ Drawn0 w w' := by
 have HR0 := Aside0.mk hr0
 have HC0 := Aside0.mk hc0
 clear hr0 hc0
 have HR1 := Aside0.mk hr1
 have HC1 := Aside0.mk hc1
 clear hr1 hc1
 have H : ((spec_l02Same.f k l0 l1).bind fun t223 => (some t223)) = some r := h
 clear h
 replace H := Option.bind_eq_some_iff.mp H
 obtain ⟨t223, A30, H⟩ := H
 replace H : (some t223) = some r := H
 have A3 := Aside0.mk A30
 clear A30
 obtain rfl := Option.some.inj H
 go_enter Try.func12, Try.ntmps12
 go_wp2_with (first | ((with_reducible refine gate_callee (f := 25) rfl ?_); refine goesL_ (some 7) rfl rfl Try.func25 (by kernel_rfl) rfl #[.slice A0 l0.length c0, .slice A1 l1.length c1] rfl (by (try simp only [List.map_toArray, List.map_cons, List.map_nil]); first | done | rfl | (simp only [List.length_drop, List.length_take]; rfl)) ?_; (with_reducible refine (spec_l02Same.calls k _ _ l0 _ _ l1 t223 _ ?side1 ?side2 ?side3 ?side4 A3.out).mono ?_); (case side1 => repeat (first | exact HR0.out | (with_reducible refine Kd.C_alloc ?_ _) | (with_reducible refine Kd.C_drewN ?_ _) | (with_reducible refine Kd.C_drew ?_))); (case side2 => exact HC0.out); (case side3 => repeat (first | exact HR1.out | (with_reducible refine Kd.C_alloc ?_ _) | (with_reducible refine Kd.C_drewN ?_ _) | (with_reducible refine Kd.C_drew ?_))); (case side4 => exact HC1.out); rintro e w' ⟨rfl, ⟨nd, rfl⟩⟩; refine ⟨_, rfl, ?_⟩))
 go_ret
 exact ⟨by first | rfl | (simp; done) | (simp [*]; done), by repeat (first | exact Drawn0.refl _ | apply Drawn0.step)⟩
def laws_a2At.f (l0 : List Int) (a1 : Int) (a2 : Int) : Option (Int) := if a1 ≥ (l0.length : Int) then (some 0) else (if a2 < 1 then (some 0) else (if 0 ≤ a1 then (if a1 < (l0.length : Int) then (if a2 = 0 then (none) else (some (Int.tmod (wrap64 (rd l0 a1)) a2))) else (none)) else (none)))
set_option maxHeartbeats 8000000 in
set_option maxRecDepth 100000 in
theorem laws_a2At.calls (A0 : Option Addr) (c0 : Nat) (l0 : List Int) (a1 : Int) (a2 : Int) (r : Int) (w : World) (hr0 : Kd.C (Kd.int .u8) w A0 l0.length l0) (hc0 : l0.length ≤ c0) (h : laws_a2At.f l0 a1 a2 = some r) :
  Calls Try.prog 6 #[.slice A0 l0.length c0, .int .i64 a1, .int .i64 a2] w fun e w' => e = .returned (.int .i64 r) ∧ Drawn0 w w' := by
 have HR0 := Aside0.mk hr0
 have HC0 := Aside0.mk hc0
 clear hr0 hc0
 have H : (if a1 ≥ (l0.length : Int) then (some 0) else (if a2 < 1 then (some 0) else (if 0 ≤ a1 then (if a1 < (l0.length : Int) then (if a2 = 0 then (none) else (some (Int.tmod (wrap64 (rd l0 a1)) a2))) else (none)) else (none)))) = some r := h
 clear h
 by_cases c4 : a1 ≥ (l0.length : Int)
 ·rw [if_pos c4] at H
  have c4b0 : decide ((l0.length : Int) ≤ a1) = true := decide_eq_true c4
  clear c4
  obtain rfl := Option.some.inj H
  go_enter Try.func6, Try.ntmps6
  go_wp2
  go_ret
  exact ⟨by first | rfl | (simp; done) | (simp [*]; done), by repeat (first | exact Drawn0.refl _ | apply Drawn0.step)⟩
 ·rw [if_neg c4] at H
  have c4b0 : decide ((l0.length : Int) ≤ a1) = false := decide_eq_false c4
  clear c4
  by_cases c5 : a2 < 1
  ·rw [if_pos c5] at H
   have c5b0 : decide (a2 < 1) = true := decide_eq_true c5
   clear c5
   obtain rfl := Option.some.inj H
   go_enter Try.func6, Try.ntmps6
   go_wp2
   go_ret
   exact ⟨by first | rfl | (simp; done) | (simp [*]; done), by repeat (first | exact Drawn0.refl _ | apply Drawn0.step)⟩
  ·rw [if_neg c5] at H
   have c5b0 : decide (a2 < 1) = false := decide_eq_false c5
   clear c5
   by_cases c6 : 0 ≤ a1
   ·rw [if_pos c6] at H
    have c6b0 : decide (0 ≤ a1) = true := decide_eq_true c6
    clear c6
    by_cases c7 : a1 < (l0.length : Int)
    ·rw [if_pos c7] at H
     have c7b0 : decide (a1 < (l0.length : Int)) = true := decide_eq_true c7
     clear c7
     by_cases c8 : a2 = 0
     ·rw [if_pos c8] at H
      exact absurd H (by simp)
     ·rw [if_neg c8] at H
      have c8b0 : (a2 == 0) = false := beq_eq_false_iff_ne.mpr c8
      have c8b1 : (a2 != 0) = true := bne_iff_ne.mpr c8
      obtain rfl := Option.some.inj H
      have p224 : 0 ≤ (a1 : Int) := of_decide_eq_true (by first | (with_reducible assumption) | assumption)
      have q224 : a1 < (l0.length : Int) := of_decide_eq_true (by first | (with_reducible assumption) | assumption)
      obtain ⟨ad224, e224, hx224_0⟩ := Kd.at_int HR0.out a1 p224 q224
      cases e224
      replace p224 := eq_true p224
      replace q224 := eq_true q224
      go_enter Try.func6, Try.ntmps6
      go_wp2
      go_ret
      exact ⟨by first | rfl | (simp; done) | (simp [*]; done), by repeat (first | exact Drawn0.refl _ | apply Drawn0.step)⟩
    ·rw [if_neg c7] at H
     exact absurd H (by simp)
   ·rw [if_neg c6] at H
    exact absurd H (by simp)
def laws_a2Long.f (l0 : List Int) (l1 : List Int) : Option (Bool) := if (l0.length : Int) > 3000 then (some true) else (some (decide ((l1.length : Int) > 3000)))
set_option maxHeartbeats 8000000 in
set_option maxRecDepth 100000 in
theorem laws_a2Long.calls (A0 : Option Addr) (c0 : Nat) (l0 : List Int) (A1 : Option Addr) (c1 : Nat) (l1 : List Int) (r : Bool) (w : World) (hr0 : Kd.C (Kd.int .u8) w A0 l0.length l0) (hc0 : l0.length ≤ c0) (hr1 : Kd.C (Kd.int .u8) w A1 l1.length l1) (hc1 : l1.length ≤ c1) (h : laws_a2Long.f l0 l1 = some r) :
  Calls Try.prog 4 #[.slice A0 l0.length c0, .slice A1 l1.length c1] w fun e w' => e = .returned (.bool r) ∧ Drawn0 w w' := by
 have HR0 := Aside0.mk hr0
 have HC0 := Aside0.mk hc0
 clear hr0 hc0
 have HR1 := Aside0.mk hr1
 have HC1 := Aside0.mk hc1
 clear hr1 hc1
 have H : (if (l0.length : Int) > 3000 then (some true) else (some (decide ((l1.length : Int) > 3000)))) = some r := h
 clear h
 by_cases c3 : (l0.length : Int) > 3000
 ·rw [if_pos c3] at H
  have c3b0 : decide (3000 < (l0.length : Int)) = true := decide_eq_true c3
  have c3b1 : decide (3000 < l0.length) = true := decide_eq_true (by omega)
  clear c3
  obtain rfl := Option.some.inj H
  go_enter Try.func4, Try.ntmps4
  go_wp2
  go_ret
  exact ⟨by first | rfl | (simp; done) | (simp [*]; done), by repeat (first | exact Drawn0.refl _ | apply Drawn0.step)⟩
 ·rw [if_neg c3] at H
  have c3b0 : decide (3000 < (l0.length : Int)) = false := decide_eq_false c3
  have c3b1 : decide (3000 < l0.length) = false := decide_eq_false (by omega)
  clear c3
  obtain rfl := Option.some.inj H
  go_enter Try.func4, Try.ntmps4
  go_wp2
  go_ret
  exact ⟨by first | rfl | (simp; done) | (simp [*]; done), by repeat (first | exact Drawn0.refl _ | apply Drawn0.step)⟩
def impl_MeaningOf.f (k : Nat) (l0 : List Int) : Option (List Int × Int) := (impl_Hoist_meaning.f k l0).bind fun bt225 => (if bt225.2 = true then (some (bt225.1, 0)) else (some (([] : List Int), 1)))
set_option maxHeartbeats 8000000 in
set_option maxRecDepth 100000 in
theorem impl_MeaningOf.calls (k : Nat) (A0 : Option Addr) (c0 : Nat) (l0 : List Int) (r1 : List Int) (r2 : Int) (w : World) (hr0 : Kd.C (Kd.int .i8) w A0 l0.length l0) (hc0 : l0.length ≤ c0) (h : impl_MeaningOf.f k l0 = some (r1, r2)) :
  Calls Try.prog 13 #[.slice A0 l0.length c0] w fun e w' => ∃ v0_ : Value, e = .returned (.tuple #[v0_, .int .i64 r2]) ∧ Kd.R (Kd.int .i8) 64 w' w.heap.size (fun _ => True) v0_ r1 ∧ Below w.heap.size w w' := by
 have HR0 := Aside0.mk hr0
 have HC0 := Aside0.mk hc0
 clear hr0 hc0
 have HB := Aside0.mk (Below.refl w.heap.size w)
 have H : ((impl_Hoist_meaning.f k l0).bind fun bt225 => (if bt225.2 = true then (some (bt225.1, 0)) else (some (([] : List Int), 1)))) = some (r1, r2) := h
 clear h
 replace H := Option.bind_eq_some_iff.mp H
 obtain ⟨⟨t225, t226⟩, A20, H⟩ := H
 replace H : (if t226 = true then (some (t225, 0)) else (some (([] : List Int), 1))) = some (r1, r2) := H
 have A2 := Aside0.mk A20
 clear A20
 by_cases c3 : t226 = true
 ·subst c3
  have H1 : (some (t225, 0)) = some (r1, r2) := by rw [if_pos rfl] at H; exact H
  clear H
  have H := H1
  clear H1
  simp only [Option.some.injEq, Prod.mk.injEq] at H
  obtain ⟨rfl, rfl⟩ := H
  go_enter Try.func13, Try.ntmps13
  go_wp2_with (first | ((with_reducible refine gate_callee (f := 26) rfl ?_); refine goesL_ (some 8) rfl rfl Try.func26 (by kernel_rfl) rfl #[.slice A0 l0.length c0] rfl (by (try simp only [List.map_toArray, List.map_cons, List.map_nil]); first | done | rfl | (simp only [List.length_drop, List.length_take]; rfl)) ?_; (with_reducible refine (impl_Hoist_meaning.calls k _ _ l0 t225 true _ ?side1 ?side2 A2.out).mono ?_); (case side1 => repeat (first | exact HR0.out | (with_reducible refine Kd.C_alloc ?_ _) | (with_reducible refine Kd.C_drewN ?_ _) | (with_reducible refine Kd.C_drew ?_))); (case side2 => exact HC0.out); rintro e w4 ⟨v227, rfl, ho0, hb⟩; refine ⟨_, rfl, ?_⟩; have n0_ := Aside0.mk (Kd.R_lower ho0 (below_size (by repeat (first | (with_reducible first | exact HB.out | apply below_alloc | apply pw_below_drewN | apply below_drew1) | exact HB.out)))); have n1_ := Aside0.mk (below_step (by repeat (first | (with_reducible first | exact HB.out | apply below_alloc | apply pw_below_drewN | apply below_drew1) | exact HB.out)) hb); clear HB; have HO228 := n0_; have HB := n1_; clear n0_ n1_; (try clear hb); (try clear hb2); (try clear hk); (try clear hi); (try clear ho0)))
  go_ret2
  exact ⟨_, by first | rfl | (simp [errW_none, errW_some] <;> rfl) | (simp [*, errW_none, errW_some] <;> rfl), by (with_reducible repeat (first | apply Kd.R_alloc | apply Kd.R_drewN | apply Kd.R_drew)); exact HO228.out, by repeat (first | (with_reducible first | exact HB.out | apply below_alloc | apply pw_below_drewN | apply below_drew1) | exact HB.out)⟩
 ·replace c3 := Bool.eq_false_iff.mpr c3
  subst c3
  have H1 : (some (([] : List Int), 1)) = some (r1, r2) := by rw [if_neg (show ¬ (false = true) by decide)] at H; exact H
  clear H
  have H := H1
  clear H1
  simp only [Option.some.injEq, Prod.mk.injEq] at H
  obtain ⟨rfl, rfl⟩ := H
  go_enter Try.func13, Try.ntmps13
  go_wp2_with (first | ((with_reducible refine gate_callee (f := 26) rfl ?_); refine goesL_ (some 8) rfl rfl Try.func26 (by kernel_rfl) rfl #[.slice A0 l0.length c0] rfl (by (try simp only [List.map_toArray, List.map_cons, List.map_nil]); first | done | rfl | (simp only [List.length_drop, List.length_take]; rfl)) ?_; (with_reducible refine (impl_Hoist_meaning.calls k _ _ l0 t225 false _ ?side1 ?side2 A2.out).mono ?_); (case side1 => repeat (first | exact HR0.out | (with_reducible refine Kd.C_alloc ?_ _) | (with_reducible refine Kd.C_drewN ?_ _) | (with_reducible refine Kd.C_drew ?_))); (case side2 => exact HC0.out); rintro e w5 ⟨v227, rfl, ho0, hb⟩; refine ⟨_, rfl, ?_⟩; have n0_ := Aside0.mk (Kd.R_lower ho0 (below_size (by repeat (first | (with_reducible first | exact HB.out | apply below_alloc | apply pw_below_drewN | apply below_drew1) | exact HB.out)))); have n1_ := Aside0.mk (below_step (by repeat (first | (with_reducible first | exact HB.out | apply below_alloc | apply pw_below_drewN | apply below_drew1) | exact HB.out)) hb); clear HB; have HO228 := n0_; have HB := n1_; clear n0_ n1_; (try clear hb); (try clear hb2); (try clear hk); (try clear hi); (try clear ho0)))
  go_ret2
  exact ⟨_, by first | rfl | (simp [errW_none, errW_some] <;> rfl) | (simp [*, errW_none, errW_some] <;> rfl), by first | exact Kd.R_nil _ _ _ _ _ | exact Kd.N_nil _ _ _ _ _ | exact Kd.V_nil _ _ _ _ _ | exact Kd.Q_nil _ _ _ _ _ | exact Kd.S_nil _ _ _ _ _, by repeat (first | (with_reducible first | exact HB.out | apply below_alloc | apply pw_below_drewN | apply below_drew1) | exact HB.out)⟩
end Go.Proofs.Ytfdjgomocbniaaa.K
namespace Go.Proofs.Ytfdjgomocbniaaa.Arr
open Go.RowKit Go.Proofs.YtfdjgomocbniaaaW.PrintWords Go.Proofs.YtfdjgomocbniaaaW.PrintLast Go.Proofs.YtfdjgomocbniaaaW.PrintMore Go.Proofs.Ytfdjgomocbniaaa.U Go.Proofs.Ytfdjgomocbniaaa.K
set_option linter.unusedVariables false
set_option linter.unusedSimpArgs false
theorem tail_eq (y : List Int) (a b : Int) (h1 : 1 ≤ y.length) (h8 : y.length ≤ 100) :
  (if 0 ≤ (wrap64 ((y.length : Int) - 1)) then (if (wrap64 ((y.length : Int) - 1)) < (y.length : Int) then (if (rd y (wrap64 ((y.length : Int) - 1))) = (-10) then (if (wrap64 ((y.length : Int) - 1)) ≤ (y.length : Int) then (some ((y.take ((wrap64 ((y.length : Int) - 1)) : Int).toNat), a, b)) else (none)) else (some (y, a, b))) else (none)) else (none)) = some ((if rd y ((y.length : Int) - 1) = -10 then y.take (y.length - 1) else y), a, b) := by
 have hw : wrap64 ((y.length : Int) - 1) = (y.length : Int) - 1 := w64 (by omega) (by omega)
 rw [hw, if_pos (by omega), if_pos (by omega)]
 by_cases h : rd y ((y.length : Int) - 1) = -10
 ·rw [if_pos h, if_pos h, if_pos (by omega), show ((y.length : Int) - 1).toNat = y.length - 1 by omega]
 ·rw [if_neg h, if_neg h]
theorem ev_of {α : Type} {o : Option α} {r : α} (h : o = some r) : Ev (fun _ => o) r := by rw [h]; exact cons rfl
theorem meant_l0 {c : List Int} (hc : Byt c) : ∀ (n : Nat) (out : List Int) (p sd : Int), n ≤ 6 → 0 ≤ p → p + 2 * (n : Int) ≤ 1000000 → out.length + 2 * n ≤ 12 → (∀ x ∈ out, PlainN x) → Alt out → (n = 0 → 1 ≤ out.length) →
  ∃ m p' sd', Ev (fun k => spec_l02Meant.l0 k out (n : Int) c p sd) (m, p', sd') ∧ plainM m = true ∧ 0 ≤ p' ∧ p' ≤ p + 2 * (n : Int)
 | 0, out, p, sd, hn, h0, h1, hl, hp, ha, hne => by
  have hne := hne rfl
  by_cases h8 : (out.length : Int) > 8
  ·have hl8 : (out.take 8).length = 8 := by rw [List.length_take]; omega
   refine ⟨_, p, sd, ?_, cut_plain (m := out.take 8) (fun x hx => hp x (List.mem_of_mem_take hx)) (alt_take ha 8 (by omega)) (by omega) (by omega), h0, by omega⟩
   refine Ev.step (fun k => by rw [spec_l02Meant.l0]) ?_
   refine neg (by omega) ?_
   refine pos h8 ?_
   refine pos (by omega) ?_
   refine bindc rfl ?_
   exact ev_of (tail_eq (out.take 8) p sd (by omega) (by omega))
  ·refine ⟨_, p, sd, ?_, cut_plain hp ha hne (by omega), h0, by omega⟩
   refine Ev.step (fun k => by rw [spec_l02Meant.l0]) ?_
   refine neg (by omega) ?_
   refine neg h8 ?_
   exact ev_of (tail_eq out p sd (by omega) (by omega))
 | n + 1, out, p, sd, hn, h0, h1, hl, hp, ha, hne => by
  obtain ⟨x, s1, e1, hx⟩ := among_some hc p sd [0, 1, 2, 3, 25, 39] h0 (by omega) (by decide) (by decide)
  obtain ⟨b, s2, e2⟩ := one_some hc (p + 1) s1 6 (by omega) (by omega) (by omega) (by omega)
  have hx8 : IntKind.i8.wrap x = x ∧ 0 ≤ x ∧ x ≤ 39 := by
   simp only [List.mem_cons, List.not_mem_nil, or_false] at hx
   rcases hx with rfl | rfl | rfl | rfl | rfl | rfl <;> decide
  have hp1 : ∀ y ∈ out ++ [x], PlainN y := fun y hy => by
   rcases List.mem_append.1 hy with hy | hy
   ·exact hp y hy
   ·rw [List.mem_singleton.1 hy]; exact .inr hx8.2
  have ha1 : Alt (out ++ [x]) := alt_snoc ha x (fun e => by omega)
  have hl1 : (out ++ [x]).length = out.length + 1 := by simp
  have hw : wrap64 (((n + 1 : Nat) : Int) - 1) = (n : Int) := by rw [w64 (by omega) (by omega)]; omega
  have key : ∃ out2 : List Int, out2.length ≤ out.length + 2 ∧ 1 ≤ out2.length ∧ (∀ y ∈ out2, PlainN y) ∧ Alt out2 ∧ ∀ r, Ev (fun k => spec_l02Meant.l0 k out2 (n : Int) c (p + 2) s2) r → Ev (fun k => spec_l02Meant.l0 k out ((n + 1 : Nat) : Int) c p sd) r := by
   have hsame : ∀ (o : List Int) r, Ev (fun k => spec_l02Meant.l0 k o (n : Int) c (p + 2) s2) r → Ev (fun k => spec_l02Meant.l0 k o (wrap64 (((n + 1 : Nat) : Int) - 1)) c (p + 1 + 1) s2) r := fun o r h => by
    rw [hw, show p + 1 + 1 = p + 2 by omega]; exact h
   by_cases hb : b = true ∧ ((n + 1 : Nat) : Int) > 1 ∧ ((out ++ [x]).length : Int) < 6
   ·obtain ⟨hb1, hb2, hb3⟩ := hb
    refine ⟨out ++ [x] ++ [-10], by simp, by simp, fun y hy => ?_, alt_snoc ha1 (-10) (fun _ => ⟨by omega, ?_⟩), fun r hr => ?_⟩
    ·rcases List.mem_append.1 hy with hy | hy
     ·exact hp1 y hy
     ·rw [List.mem_singleton.1 hy]; exact .inl rfl
    ·rw [hl1, show ((out.length + 1 : Nat) : Int) - 1 = (out.length : Int) by omega, rd_app_end]; omega
    ·refine Ev.step (fun k => by rw [spec_l02Meant.l0]) ?_
     refine pos (by omega) ?_
     refine bindc e1 ?_
     refine pos (by omega) ?_
     refine bindc rfl ?_
     refine bindc e2 ?_
     dsimp only
     rw [hx8.1]
     exact pos hb1 (pos hb2 (pos hb3 (pos (by omega) (hsame _ r hr))))
   ·refine ⟨out ++ [x], by omega, by omega, hp1, ha1, fun r hr => ?_⟩
    refine Ev.step (fun k => by rw [spec_l02Meant.l0]) ?_
    refine pos (by omega) ?_
    refine bindc e1 ?_
    refine pos (by omega) ?_
    refine bindc rfl ?_
    refine bindc e2 ?_
    dsimp only
    rw [hx8.1]
    by_cases h1b : b = true
    ·refine pos h1b ?_
     by_cases h2b : ((n + 1 : Nat) : Int) > 1
     ·exact pos h2b (neg (fun h3b => hb ⟨h1b, h2b, h3b⟩) (hsame _ r hr))
     ·exact neg h2b (hsame _ r hr)
    ·exact neg h1b (hsame _ r hr)
  obtain ⟨out2, hl2, hne2, hp2, ha2, hgo⟩ := key
  obtain ⟨m, p', sd', hev, hm, hp0, hp9⟩ := meant_l0 hc n out2 (p + 2) s2 (by omega) (by omega) (by omega) (by omega) hp2 ha2 (fun _ => hne2)
  exact ⟨m, p', sd', hgo _ hev, hm, hp0, by omega⟩
theorem meant_some {c : List Int} (hc : Byt c) (p sd : Int) (h0 : 0 ≤ p) (h1 : p ≤ 900000) : ∃ m p' sd', Ev (fun k => spec_l02Meant.f k c p sd) (m, p', sd') ∧ plainM m = true ∧ 0 ≤ p' ∧ p' ≤ p + 13 := by
 obtain ⟨x, s1, e1, hx0, hx1⟩ := pick_some hc p sd 6 h0 (by omega) (by omega) (by omega)
 obtain ⟨n, rfl⟩ := Int.eq_ofNat_of_zero_le hx0
 obtain ⟨m, p', sd', hev, hm, hp0, hp9⟩ := meant_l0 hc (n + 1) [] (p + 1) s1 (by omega) (by omega) (by omega) (by simp; omega) (by simp) (fun i hi => absurd hi (by simp)) (fun h => by omega)
 refine ⟨m, p', sd', ?_, hm, hp0, by omega⟩
 unfold spec_l02Meant.f
 refine bindc e1 ?_
 dsimp only
 rw [show wrap64 (1 + (n : Int)) = ((n + 1 : Nat) : Int) by rw [w64 (by omega) (by omega)]; omega]
 exact hev
theorem A2Meaning_some {c : List Int} (hc : Byt c) : ∃ m, Ev (fun k => spec_A2Meaning.f k c) m ∧ plainM m = true := by
 obtain ⟨m, p', sd', hev, hm, _⟩ := meant_some hc 0 0 (by omega) (by omega)
 refine ⟨m, ?_, hm⟩
 unfold spec_A2Meaning.f
 exact bindc (show spec_l00From.f c = some (c, 0, 0) from rfl) (Ev.bind hev (cons rfl))
theorem a2At_some {c : List Int} (hc : Byt c) (i n : Int) (h0 : 0 ≤ i) (hn : 0 < n) : ∃ r, laws_a2At.f c i n = some r ∧ 0 ≤ r ∧ r < n := by
 unfold laws_a2At.f
 by_cases h : i ≥ (c.length : Int)
 ·rw [if_pos h]; exact ⟨0, rfl, by omega, hn⟩
 ·rw [if_neg h, if_neg (by omega), if_pos h0, if_pos (by omega), if_neg (by omega)]
  refine ⟨_, rfl, tmod_in _ n ?_ hn⟩
  obtain ⟨k, rfl⟩ := Int.eq_ofNat_of_zero_le h0
  rw [rd_get c k (by omega)]
  have := hc.2 _ (List.getElem_mem (l := c) (n := k) (by omega))
  unfold wrap64
  omega
theorem l02Same_evD (l l' : List Int) (hn : l.length ≤ 140737488351232) : Ev (fun k => spec_l02Same.f k l l') (decide (l = l')) := by
 unfold spec_l02Same.f
 by_cases hl : (l.length : Int) = (l'.length : Int)
 ·refine pos hl ?_
  refine iter (F := fun k (x : Int) => spec_l02Same.l0 k l l' x) (fun i x => x = (i : Int) ∧ ∀ j : Nat, j < i → rd l (j : Int) = rd l' (j : Int)) _ l.length ?_ ?_ 0 0 (by omega) ⟨rfl, fun j hj => absurd hj (by omega)⟩
  ·rintro i x hi ⟨rfl, hP⟩
   by_cases he : rd l (i : Int) = rd l' (i : Int)
   ·refine .inl ⟨((i + 1 : Nat) : Int), ⟨rfl, fun j hj => ?_⟩, fun hgo => ?_⟩
    ·rcases Nat.lt_or_ge j i with h | h
     ·exact hP j h
     ·obtain rfl : j = i := by omega
      exact he
    ·have hgo2 : Ev (fun k => spec_l02Same.l0 k l l' (wrap64 ((i : Int) + 1))) (decide (l = l')) := by rw [w64 (by omega) (by omega)]; exact hgo
     refine Ev.step (fun k => by rw [spec_l02Same.l0]) ?_
     exact pos (by omega) (pos (by omega) (pos (by omega) (pos he hgo2)))
   ·refine .inr ?_
    rw [decide_eq_false (fun e => he (by rw [e]))]
    refine Ev.step (fun k => by rw [spec_l02Same.l0]) ?_
    exact pos (by omega) (pos (by omega) (pos (by omega) (neg he (cons rfl))))
  ·rintro x ⟨rfl, hP⟩
   rw [decide_eq_true (list_eq rfl (by omega) (fun j hj => hP j hj))]
   refine Ev.step (fun k => by rw [spec_l02Same.l0]) ?_
   exact neg (by omega) (cons rfl)
 ·exact neg hl (cons (by rw [decide_eq_false (fun e => hl (by rw [e]))]))
theorem A2Alike_ev (l l' : List Int) (hn : l.length ≤ 140737488351232) : Ev (fun k => spec_A2Alike.f k l l') (decide (l = l')) := by
 unfold spec_A2Alike.f
 exact Ev.bind (l02Same_evD l l' hn) (cons rfl)
end Go.Proofs.Ytfdjgomocbniaaa.Arr
namespace Go.Proofs.Ytfdjgomocbniaaa.Arr
open Go.RowKit Go.Proofs.YtfdjgomocbniaaaW.PrintWords Go.Proofs.YtfdjgomocbniaaaW.PrintLast Go.Proofs.YtfdjgomocbniaaaW.PrintMore Go.Proofs.Ytfdjgomocbniaaa.U Go.Proofs.Ytfdjgomocbniaaa.K
set_option linter.unusedVariables false
set_option linter.unusedSimpArgs false
def inRes (off m : Nat) (h : List Int) : Value := if okH h = true then .tuple #[.agg (vals .i64 (((pile (zs 44) h 1 h.length).drop off).take m)), .int .i64 0] else .tuple #[.agg (vals .i64 (zs m)), .int .i64 1]
set_option maxHeartbeats 4000000 in
set_option maxRecDepth 100000 in
theorem implSubsIn_calls (A0 : Option Addr) (c0 : Nat) (h : List Int) (w : World) (hr : Kd.C (Kd.int .i8) w A0 h.length h) (hc : h.length ≤ c0) (hs : Small8 h) :
  Calls Try.prog 15 #[.slice A0 h.length c0] w fun e w' => e = .returned (inRes 40 4 h) ∧ Below w.heap.size w w' := by
 have hm := Mem.start w
 have HR := Aside0.mk hr
 have HS := Aside0.mk hs
 have hl2 : (((pile (zs 44) h 1 h.length).drop 40).take 4).length = 4 := by rw [List.length_take, List.length_drop, pile_length, zs_length]; rfl
 clear hr hs
 unfold inRes
 by_cases hk : okH h = true
 ·rw [if_pos hk]
  have HK := Aside0.mk hk
  have HN := Aside0.mk (okH_N hk)
  have HP := Aside0.mk (fun W hr => hoistPieces_calls A0 c0 h W hr hc HN.out.1 HN.out.2)
  have hl3 := (pile_length (zs 44) h 1 h.length).trans zs_length
  generalize hX : pile (zs 44) h 1 h.length = X at *
  clear hk hX
  generalize hY : (X.drop 40).take 4 = Y at *
  have HY := Aside0.mk hY
  clear hY
  go_enter Try.func15, Try.ntmps15
  go_wp2_with (first
   | (first | fail | ((with_reducible refine gt_alloc 2 38 ?_); refine st_alloc rfl 2 rfl 38 rfl hm zero38 ?_; clear hm; intro g2 w2 hm) | ((with_reducible refine gt_build 38 ?_); refine st_zero rfl 38 rfl built38 ?_) | ((with_reducible refine gt_alloc 4 38 ?_); refine st_alloc rfl 4 rfl 38 rfl hm zero38 ?_; clear hm; intro g4 w4 hm) | ((with_reducible refine gt_store 38 ?_); (first | (refine st_full rfl 38 _ _ rfl hm rfl rfl 0 rfl agg38 (by first | omega | assumption | (simp only [lens]; first | omega | assumption) | (simp [lens]; done) | (simp [lens]; omega)) (by first | omega | assumption | (simp only [lens]; first | omega | assumption) | (simp [lens]; done) | (simp [lens]; omega)) ?_) | (refine st_full rfl 38 _ _ rfl hm rfl rfl 1 rfl agg38 (by first | omega | assumption | (simp only [lens]; first | omega | assumption) | (simp [lens]; done) | (simp [lens]; omega)) (by first | omega | assumption | (simp only [lens]; first | omega | assumption) | (simp [lens]; done) | (simp [lens]; omega)) ?_) | (refine st_full rfl 38 _ _ rfl hm rfl rfl 2 rfl agg38 (by first | omega | assumption | (simp only [lens]; first | omega | assumption) | (simp [lens]; done) | (simp [lens]; omega)) (by first | omega | assumption | (simp only [lens]; first | omega | assumption) | (simp [lens]; done) | (simp [lens]; omega)) ?_) | (refine st_full rfl 38 _ _ rfl hm rfl rfl 3 rfl agg38 (by first | omega | assumption | (simp only [lens]; first | omega | assumption) | (simp [lens]; done) | (simp [lens]; omega)) (by first | omega | assumption | (simp only [lens]; first | omega | assumption) | (simp [lens]; done) | (simp [lens]; omega)) ?_) | (refine st_put rfl 38 _ _ rfl hm rfl rfl 0 rfl agg38 (by first | omega | assumption | (simp only [lens]; first | omega | assumption) | (simp [lens]; done) | (simp [lens]; omega)) (by first | omega | assumption | (simp only [lens]; first | omega | assumption) | (simp [lens]; done) | (simp [lens]; omega)) ?_) | (refine st_put rfl 38 _ _ rfl hm rfl rfl 1 rfl agg38 (by first | omega | assumption | (simp only [lens]; first | omega | assumption) | (simp [lens]; done) | (simp [lens]; omega)) (by first | omega | assumption | (simp only [lens]; first | omega | assumption) | (simp [lens]; done) | (simp [lens]; omega)) ?_) | (refine st_put rfl 38 _ _ rfl hm rfl rfl 2 rfl agg38 (by first | omega | assumption | (simp only [lens]; first | omega | assumption) | (simp [lens]; done) | (simp [lens]; omega)) (by first | omega | assumption | (simp only [lens]; first | omega | assumption) | (simp [lens]; done) | (simp [lens]; omega)) ?_) | (refine st_put rfl 38 _ _ rfl hm rfl rfl 3 rfl agg38 (by first | omega | assumption | (simp only [lens]; first | omega | assumption) | (simp [lens]; done) | (simp [lens]; omega)) (by first | omega | assumption | (simp only [lens]; first | omega | assumption) | (simp [lens]; done) | (simp [lens]; omega)) ?_)); clear hm; intro ws hm; simp only [List.set_cons_zero, List.set_cons_succ] at hm) | ((with_reducible refine gt_load 38 ?_); (first | (refine st_load rfl 38 _ rfl hm rfl 0 rfl agg38 (by first | omega | assumption | (simp only [lens]; first | omega | assumption) | (simp [lens]; done) | (simp [lens]; omega)) ?_) | (refine st_load rfl 38 _ rfl hm rfl 1 rfl agg38 (by first | omega | assumption | (simp only [lens]; first | omega | assumption) | (simp [lens]; done) | (simp [lens]; omega)) ?_) | (refine st_load rfl 38 _ rfl hm rfl 2 rfl agg38 (by first | omega | assumption | (simp only [lens]; first | omega | assumption) | (simp [lens]; done) | (simp [lens]; omega)) ?_) | (refine st_load rfl 38 _ rfl hm rfl 3 rfl agg38 (by first | omega | assumption | (simp only [lens]; first | omega | assumption) | (simp [lens]; done) | (simp [lens]; omega)) ?_) | (refine st_part rfl 38 _ rfl hm rfl 0 rfl agg38 (by first | omega | assumption | (simp only [lens]; first | omega | assumption) | (simp [lens]; done) | (simp [lens]; omega)) ?_) | (refine st_part rfl 38 _ rfl hm rfl 1 rfl agg38 (by first | omega | assumption | (simp only [lens]; first | omega | assumption) | (simp [lens]; done) | (simp [lens]; omega)) ?_) | (refine st_part rfl 38 _ rfl hm rfl 2 rfl agg38 (by first | omega | assumption | (simp only [lens]; first | omega | assumption) | (simp [lens]; done) | (simp [lens]; omega)) ?_) | (refine st_part rfl 38 _ rfl hm rfl 3 rfl agg38 (by first | omega | assumption | (simp only [lens]; first | omega | assumption) | (simp [lens]; done) | (simp [lens]; omega)) ?_))) | ((with_reducible refine gt_index 48 ?_); refine st_index rfl 48 _ _ rfl rfl rfl arr48 (by first | omega | assumption | (simp only [lens]; first | omega | assumption) | (simp [lens]; done) | (simp [lens]; omega)) (by first | omega | assumption | (simp only [lens]; first | omega | assumption) | (simp [lens]; done) | (simp [lens]; omega)) (by first | omega | assumption | (simp only [lens]; first | omega | assumption) | (simp [lens]; done) | (simp [lens]; omega)) ?_) | ((with_reducible refine gt_elem 38 ?_); refine st_elem rfl 38 _ _ rfl rfl rfl arr38 (by first | omega | assumption | (simp only [lens]; first | omega | assumption) | (simp [lens]; done) | (simp [lens]; omega)) (by first | omega | assumption | (simp only [lens]; first | omega | assumption) | (simp [lens]; done) | (simp [lens]; omega)) ?_) | ((with_reducible refine gt_store 2 ?_); (first | (refine st_set rfl 2 _ _ rfl hm rfl rfl 0 rfl one2 (by first | omega | assumption | (simp only [lens]; first | omega | assumption) | (simp [lens]; done) | (simp [lens]; omega)) ?_) | (refine st_set rfl 2 _ _ rfl hm rfl rfl 1 rfl one2 (by first | omega | assumption | (simp only [lens]; first | omega | assumption) | (simp [lens]; done) | (simp [lens]; omega)) ?_) | (refine st_set rfl 2 _ _ rfl hm rfl rfl 2 rfl one2 (by first | omega | assumption | (simp only [lens]; first | omega | assumption) | (simp [lens]; done) | (simp [lens]; omega)) ?_) | (refine st_set rfl 2 _ _ rfl hm rfl rfl 3 rfl one2 (by first | omega | assumption | (simp only [lens]; first | omega | assumption) | (simp [lens]; done) | (simp [lens]; omega)) ?_)); clear hm; intro ws hm; simp only [List.set_cons_zero, List.set_cons_succ] at hm))
   | ((with_reducible refine gt_fieldv 50 1 ?_); refine st_fieldv rfl 50 _ 1 rfl rfl partP1 HY.out ?_)
   | (go_at_call 27; refine (validHoist_calls A0 c0 h _ (Kd.C_below HR.out (hm.done rfl)) hc HS.out.1 HS.out.2).mono ?_; rintro e wa ⟨rfl, hb⟩; replace hm := hm.after hb; clear hb; rw [HK.out])
   | (go_at_call 28; refine (HP.out _ (Kd.C_below HR.out (hm.done rfl))).mono ?_; rintro e wa ⟨rfl, hb⟩; replace hm := hm.after hb; clear hb))
  go_loopw [15, 5, 6] (fun v15 v5 v6 wr => ∃ i : Nat, i ≤ 4 ∧ v15 = .int .i64 i ∧ Mem w wr [⟨g4, vals .i64 (mixTo (zs 4) Y 0 i), 38, true⟩, ⟨g2, vals .i64 (zs 4), 38, true⟩]) (fun v15 _ _ _ => 4 - (intOf v15).toNat)
  case atStart => exact ⟨0, by omega, rfl, by rw [mixTo_zero]; exact hm⟩
  case round =>
   obtain ⟨i, hi, rfl, hm⟩ := hrel
   have hl4 := (mixTo_length (zs 4) Y 0 i (by rw [zs_length]; omega) (by omega)).trans zs_length
   by_cases hlt : i < 4
   ·go_wp2_with (first | fail | ((with_reducible refine gt_alloc 2 38 ?_); refine st_alloc rfl 2 rfl 38 rfl hm zero38 ?_; clear hm; intro g2 w2 hm) | ((with_reducible refine gt_build 38 ?_); refine st_zero rfl 38 rfl built38 ?_) | ((with_reducible refine gt_alloc 4 38 ?_); refine st_alloc rfl 4 rfl 38 rfl hm zero38 ?_; clear hm; intro g4 w4 hm) | ((with_reducible refine gt_store 38 ?_); (first | (refine st_full rfl 38 _ _ rfl hm rfl rfl 0 rfl agg38 (by first | omega | assumption | (simp only [lens]; first | omega | assumption) | (simp [lens]; done) | (simp [lens]; omega)) (by first | omega | assumption | (simp only [lens]; first | omega | assumption) | (simp [lens]; done) | (simp [lens]; omega)) ?_) | (refine st_full rfl 38 _ _ rfl hm rfl rfl 1 rfl agg38 (by first | omega | assumption | (simp only [lens]; first | omega | assumption) | (simp [lens]; done) | (simp [lens]; omega)) (by first | omega | assumption | (simp only [lens]; first | omega | assumption) | (simp [lens]; done) | (simp [lens]; omega)) ?_) | (refine st_full rfl 38 _ _ rfl hm rfl rfl 2 rfl agg38 (by first | omega | assumption | (simp only [lens]; first | omega | assumption) | (simp [lens]; done) | (simp [lens]; omega)) (by first | omega | assumption | (simp only [lens]; first | omega | assumption) | (simp [lens]; done) | (simp [lens]; omega)) ?_) | (refine st_full rfl 38 _ _ rfl hm rfl rfl 3 rfl agg38 (by first | omega | assumption | (simp only [lens]; first | omega | assumption) | (simp [lens]; done) | (simp [lens]; omega)) (by first | omega | assumption | (simp only [lens]; first | omega | assumption) | (simp [lens]; done) | (simp [lens]; omega)) ?_) | (refine st_put rfl 38 _ _ rfl hm rfl rfl 0 rfl agg38 (by first | omega | assumption | (simp only [lens]; first | omega | assumption) | (simp [lens]; done) | (simp [lens]; omega)) (by first | omega | assumption | (simp only [lens]; first | omega | assumption) | (simp [lens]; done) | (simp [lens]; omega)) ?_) | (refine st_put rfl 38 _ _ rfl hm rfl rfl 1 rfl agg38 (by first | omega | assumption | (simp only [lens]; first | omega | assumption) | (simp [lens]; done) | (simp [lens]; omega)) (by first | omega | assumption | (simp only [lens]; first | omega | assumption) | (simp [lens]; done) | (simp [lens]; omega)) ?_) | (refine st_put rfl 38 _ _ rfl hm rfl rfl 2 rfl agg38 (by first | omega | assumption | (simp only [lens]; first | omega | assumption) | (simp [lens]; done) | (simp [lens]; omega)) (by first | omega | assumption | (simp only [lens]; first | omega | assumption) | (simp [lens]; done) | (simp [lens]; omega)) ?_) | (refine st_put rfl 38 _ _ rfl hm rfl rfl 3 rfl agg38 (by first | omega | assumption | (simp only [lens]; first | omega | assumption) | (simp [lens]; done) | (simp [lens]; omega)) (by first | omega | assumption | (simp only [lens]; first | omega | assumption) | (simp [lens]; done) | (simp [lens]; omega)) ?_)); clear hm; intro ws hm; simp only [List.set_cons_zero, List.set_cons_succ] at hm) | ((with_reducible refine gt_load 38 ?_); (first | (refine st_load rfl 38 _ rfl hm rfl 0 rfl agg38 (by first | omega | assumption | (simp only [lens]; first | omega | assumption) | (simp [lens]; done) | (simp [lens]; omega)) ?_) | (refine st_load rfl 38 _ rfl hm rfl 1 rfl agg38 (by first | omega | assumption | (simp only [lens]; first | omega | assumption) | (simp [lens]; done) | (simp [lens]; omega)) ?_) | (refine st_load rfl 38 _ rfl hm rfl 2 rfl agg38 (by first | omega | assumption | (simp only [lens]; first | omega | assumption) | (simp [lens]; done) | (simp [lens]; omega)) ?_) | (refine st_load rfl 38 _ rfl hm rfl 3 rfl agg38 (by first | omega | assumption | (simp only [lens]; first | omega | assumption) | (simp [lens]; done) | (simp [lens]; omega)) ?_) | (refine st_part rfl 38 _ rfl hm rfl 0 rfl agg38 (by first | omega | assumption | (simp only [lens]; first | omega | assumption) | (simp [lens]; done) | (simp [lens]; omega)) ?_) | (refine st_part rfl 38 _ rfl hm rfl 1 rfl agg38 (by first | omega | assumption | (simp only [lens]; first | omega | assumption) | (simp [lens]; done) | (simp [lens]; omega)) ?_) | (refine st_part rfl 38 _ rfl hm rfl 2 rfl agg38 (by first | omega | assumption | (simp only [lens]; first | omega | assumption) | (simp [lens]; done) | (simp [lens]; omega)) ?_) | (refine st_part rfl 38 _ rfl hm rfl 3 rfl agg38 (by first | omega | assumption | (simp only [lens]; first | omega | assumption) | (simp [lens]; done) | (simp [lens]; omega)) ?_))) | ((with_reducible refine gt_index 48 ?_); refine st_index rfl 48 _ _ rfl rfl rfl arr48 (by first | omega | assumption | (simp only [lens]; first | omega | assumption) | (simp [lens]; done) | (simp [lens]; omega)) (by first | omega | assumption | (simp only [lens]; first | omega | assumption) | (simp [lens]; done) | (simp [lens]; omega)) (by first | omega | assumption | (simp only [lens]; first | omega | assumption) | (simp [lens]; done) | (simp [lens]; omega)) ?_) | ((with_reducible refine gt_elem 38 ?_); refine st_elem rfl 38 _ _ rfl rfl rfl arr38 (by first | omega | assumption | (simp only [lens]; first | omega | assumption) | (simp [lens]; done) | (simp [lens]; omega)) (by first | omega | assumption | (simp only [lens]; first | omega | assumption) | (simp [lens]; done) | (simp [lens]; omega)) ?_) | ((with_reducible refine gt_store 2 ?_); (first | (refine st_set rfl 2 _ _ rfl hm rfl rfl 0 rfl one2 (by first | omega | assumption | (simp only [lens]; first | omega | assumption) | (simp [lens]; done) | (simp [lens]; omega)) ?_) | (refine st_set rfl 2 _ _ rfl hm rfl rfl 1 rfl one2 (by first | omega | assumption | (simp only [lens]; first | omega | assumption) | (simp [lens]; done) | (simp [lens]; omega)) ?_) | (refine st_set rfl 2 _ _ rfl hm rfl rfl 2 rfl one2 (by first | omega | assumption | (simp only [lens]; first | omega | assumption) | (simp [lens]; done) | (simp [lens]; omega)) ?_) | (refine st_set rfl 2 _ _ rfl hm rfl rfl 3 rfl one2 (by first | omega | assumption | (simp only [lens]; first | omega | assumption) | (simp [lens]; done) | (simp [lens]; omega)) ?_)); clear hm; intro ws hm; simp only [List.set_cons_zero, List.set_cons_succ] at hm))
    go_roundw
    case rel =>
     refine ⟨i + 1, by omega, by go_num, ?_⟩
     rw [← mixTo_succ (zs 4) Y 0 i (by rw [zs_length]; omega) (by omega)]
     simpa using hm
    case measure => simp [intOf]; omega
   ·have HI := Aside0.mk (show mixTo (zs 4) Y 0 i = Y by
     have : i = 4 := by omega
     subst this
     unfold mixTo
     rw [List.take_zero, List.nil_append, List.take_of_length_le (by omega), List.drop_of_length_le (by rw [zs_length]; omega), List.append_nil])
    generalize mixTo (zs 4) Y 0 i = Z at *
    go_wp2_with (first | fail | ((with_reducible refine gt_alloc 2 38 ?_); refine st_alloc rfl 2 rfl 38 rfl hm zero38 ?_; clear hm; intro g2 w2 hm) | ((with_reducible refine gt_build 38 ?_); refine st_zero rfl 38 rfl built38 ?_) | ((with_reducible refine gt_alloc 4 38 ?_); refine st_alloc rfl 4 rfl 38 rfl hm zero38 ?_; clear hm; intro g4 w4 hm) | ((with_reducible refine gt_store 38 ?_); (first | (refine st_full rfl 38 _ _ rfl hm rfl rfl 0 rfl agg38 (by first | omega | assumption | (simp only [lens]; first | omega | assumption) | (simp [lens]; done) | (simp [lens]; omega)) (by first | omega | assumption | (simp only [lens]; first | omega | assumption) | (simp [lens]; done) | (simp [lens]; omega)) ?_) | (refine st_full rfl 38 _ _ rfl hm rfl rfl 1 rfl agg38 (by first | omega | assumption | (simp only [lens]; first | omega | assumption) | (simp [lens]; done) | (simp [lens]; omega)) (by first | omega | assumption | (simp only [lens]; first | omega | assumption) | (simp [lens]; done) | (simp [lens]; omega)) ?_) | (refine st_full rfl 38 _ _ rfl hm rfl rfl 2 rfl agg38 (by first | omega | assumption | (simp only [lens]; first | omega | assumption) | (simp [lens]; done) | (simp [lens]; omega)) (by first | omega | assumption | (simp only [lens]; first | omega | assumption) | (simp [lens]; done) | (simp [lens]; omega)) ?_) | (refine st_full rfl 38 _ _ rfl hm rfl rfl 3 rfl agg38 (by first | omega | assumption | (simp only [lens]; first | omega | assumption) | (simp [lens]; done) | (simp [lens]; omega)) (by first | omega | assumption | (simp only [lens]; first | omega | assumption) | (simp [lens]; done) | (simp [lens]; omega)) ?_) | (refine st_put rfl 38 _ _ rfl hm rfl rfl 0 rfl agg38 (by first | omega | assumption | (simp only [lens]; first | omega | assumption) | (simp [lens]; done) | (simp [lens]; omega)) (by first | omega | assumption | (simp only [lens]; first | omega | assumption) | (simp [lens]; done) | (simp [lens]; omega)) ?_) | (refine st_put rfl 38 _ _ rfl hm rfl rfl 1 rfl agg38 (by first | omega | assumption | (simp only [lens]; first | omega | assumption) | (simp [lens]; done) | (simp [lens]; omega)) (by first | omega | assumption | (simp only [lens]; first | omega | assumption) | (simp [lens]; done) | (simp [lens]; omega)) ?_) | (refine st_put rfl 38 _ _ rfl hm rfl rfl 2 rfl agg38 (by first | omega | assumption | (simp only [lens]; first | omega | assumption) | (simp [lens]; done) | (simp [lens]; omega)) (by first | omega | assumption | (simp only [lens]; first | omega | assumption) | (simp [lens]; done) | (simp [lens]; omega)) ?_) | (refine st_put rfl 38 _ _ rfl hm rfl rfl 3 rfl agg38 (by first | omega | assumption | (simp only [lens]; first | omega | assumption) | (simp [lens]; done) | (simp [lens]; omega)) (by first | omega | assumption | (simp only [lens]; first | omega | assumption) | (simp [lens]; done) | (simp [lens]; omega)) ?_)); clear hm; intro ws hm; simp only [List.set_cons_zero, List.set_cons_succ] at hm) | ((with_reducible refine gt_load 38 ?_); (first | (refine st_load rfl 38 _ rfl hm rfl 0 rfl agg38 (by first | omega | assumption | (simp only [lens]; first | omega | assumption) | (simp [lens]; done) | (simp [lens]; omega)) ?_) | (refine st_load rfl 38 _ rfl hm rfl 1 rfl agg38 (by first | omega | assumption | (simp only [lens]; first | omega | assumption) | (simp [lens]; done) | (simp [lens]; omega)) ?_) | (refine st_load rfl 38 _ rfl hm rfl 2 rfl agg38 (by first | omega | assumption | (simp only [lens]; first | omega | assumption) | (simp [lens]; done) | (simp [lens]; omega)) ?_) | (refine st_load rfl 38 _ rfl hm rfl 3 rfl agg38 (by first | omega | assumption | (simp only [lens]; first | omega | assumption) | (simp [lens]; done) | (simp [lens]; omega)) ?_) | (refine st_part rfl 38 _ rfl hm rfl 0 rfl agg38 (by first | omega | assumption | (simp only [lens]; first | omega | assumption) | (simp [lens]; done) | (simp [lens]; omega)) ?_) | (refine st_part rfl 38 _ rfl hm rfl 1 rfl agg38 (by first | omega | assumption | (simp only [lens]; first | omega | assumption) | (simp [lens]; done) | (simp [lens]; omega)) ?_) | (refine st_part rfl 38 _ rfl hm rfl 2 rfl agg38 (by first | omega | assumption | (simp only [lens]; first | omega | assumption) | (simp [lens]; done) | (simp [lens]; omega)) ?_) | (refine st_part rfl 38 _ rfl hm rfl 3 rfl agg38 (by first | omega | assumption | (simp only [lens]; first | omega | assumption) | (simp [lens]; done) | (simp [lens]; omega)) ?_))) | ((with_reducible refine gt_index 48 ?_); refine st_index rfl 48 _ _ rfl rfl rfl arr48 (by first | omega | assumption | (simp only [lens]; first | omega | assumption) | (simp [lens]; done) | (simp [lens]; omega)) (by first | omega | assumption | (simp only [lens]; first | omega | assumption) | (simp [lens]; done) | (simp [lens]; omega)) (by first | omega | assumption | (simp only [lens]; first | omega | assumption) | (simp [lens]; done) | (simp [lens]; omega)) ?_) | ((with_reducible refine gt_elem 38 ?_); refine st_elem rfl 38 _ _ rfl rfl rfl arr38 (by first | omega | assumption | (simp only [lens]; first | omega | assumption) | (simp [lens]; done) | (simp [lens]; omega)) (by first | omega | assumption | (simp only [lens]; first | omega | assumption) | (simp [lens]; done) | (simp [lens]; omega)) ?_) | ((with_reducible refine gt_store 2 ?_); (first | (refine st_set rfl 2 _ _ rfl hm rfl rfl 0 rfl one2 (by first | omega | assumption | (simp only [lens]; first | omega | assumption) | (simp [lens]; done) | (simp [lens]; omega)) ?_) | (refine st_set rfl 2 _ _ rfl hm rfl rfl 1 rfl one2 (by first | omega | assumption | (simp only [lens]; first | omega | assumption) | (simp [lens]; done) | (simp [lens]; omega)) ?_) | (refine st_set rfl 2 _ _ rfl hm rfl rfl 2 rfl one2 (by first | omega | assumption | (simp only [lens]; first | omega | assumption) | (simp [lens]; done) | (simp [lens]; omega)) ?_) | (refine st_set rfl 2 _ _ rfl hm rfl rfl 3 rfl one2 (by first | omega | assumption | (simp only [lens]; first | omega | assumption) | (simp [lens]; done) | (simp [lens]; omega)) ?_)); clear hm; intro ws hm; simp only [List.set_cons_zero, List.set_cons_succ] at hm))
    ((try simp only [Exit.inBlock, Exit.then]); (first | (refine ret_cell hm rfl rfl 1 rfl agg38 (by first | omega | assumption | (simp only [lens]; first | omega | assumption) | (simp [lens]; done) | (simp [lens]; omega)) rfl ?_) | (refine ret_cell_tmp hm rfl rfl 1 rfl agg38 (by first | omega | assumption | (simp only [lens]; first | omega | assumption) | (simp [lens]; done) | (simp [lens]; omega)) rfl ?_)))
    exact ⟨by rw [← HI.out]; rfl, hm.done rfl⟩
 ·rw [if_neg hk]
  have HK := Aside0.mk (show okH h = false by simpa using hk)
  clear hk
  go_enter Try.func15, Try.ntmps15
  go_wp2_with (first
   | (first | fail | ((with_reducible refine gt_alloc 2 38 ?_); refine st_alloc rfl 2 rfl 38 rfl hm zero38 ?_; clear hm; intro g2 w2 hm) | ((with_reducible refine gt_build 38 ?_); refine st_zero rfl 38 rfl built38 ?_) | ((with_reducible refine gt_alloc 4 38 ?_); refine st_alloc rfl 4 rfl 38 rfl hm zero38 ?_; clear hm; intro g4 w4 hm) | ((with_reducible refine gt_store 38 ?_); (first | (refine st_full rfl 38 _ _ rfl hm rfl rfl 0 rfl agg38 (by first | omega | assumption | (simp only [lens]; first | omega | assumption) | (simp [lens]; done) | (simp [lens]; omega)) (by first | omega | assumption | (simp only [lens]; first | omega | assumption) | (simp [lens]; done) | (simp [lens]; omega)) ?_) | (refine st_full rfl 38 _ _ rfl hm rfl rfl 1 rfl agg38 (by first | omega | assumption | (simp only [lens]; first | omega | assumption) | (simp [lens]; done) | (simp [lens]; omega)) (by first | omega | assumption | (simp only [lens]; first | omega | assumption) | (simp [lens]; done) | (simp [lens]; omega)) ?_) | (refine st_full rfl 38 _ _ rfl hm rfl rfl 2 rfl agg38 (by first | omega | assumption | (simp only [lens]; first | omega | assumption) | (simp [lens]; done) | (simp [lens]; omega)) (by first | omega | assumption | (simp only [lens]; first | omega | assumption) | (simp [lens]; done) | (simp [lens]; omega)) ?_) | (refine st_full rfl 38 _ _ rfl hm rfl rfl 3 rfl agg38 (by first | omega | assumption | (simp only [lens]; first | omega | assumption) | (simp [lens]; done) | (simp [lens]; omega)) (by first | omega | assumption | (simp only [lens]; first | omega | assumption) | (simp [lens]; done) | (simp [lens]; omega)) ?_) | (refine st_put rfl 38 _ _ rfl hm rfl rfl 0 rfl agg38 (by first | omega | assumption | (simp only [lens]; first | omega | assumption) | (simp [lens]; done) | (simp [lens]; omega)) (by first | omega | assumption | (simp only [lens]; first | omega | assumption) | (simp [lens]; done) | (simp [lens]; omega)) ?_) | (refine st_put rfl 38 _ _ rfl hm rfl rfl 1 rfl agg38 (by first | omega | assumption | (simp only [lens]; first | omega | assumption) | (simp [lens]; done) | (simp [lens]; omega)) (by first | omega | assumption | (simp only [lens]; first | omega | assumption) | (simp [lens]; done) | (simp [lens]; omega)) ?_) | (refine st_put rfl 38 _ _ rfl hm rfl rfl 2 rfl agg38 (by first | omega | assumption | (simp only [lens]; first | omega | assumption) | (simp [lens]; done) | (simp [lens]; omega)) (by first | omega | assumption | (simp only [lens]; first | omega | assumption) | (simp [lens]; done) | (simp [lens]; omega)) ?_) | (refine st_put rfl 38 _ _ rfl hm rfl rfl 3 rfl agg38 (by first | omega | assumption | (simp only [lens]; first | omega | assumption) | (simp [lens]; done) | (simp [lens]; omega)) (by first | omega | assumption | (simp only [lens]; first | omega | assumption) | (simp [lens]; done) | (simp [lens]; omega)) ?_)); clear hm; intro ws hm; simp only [List.set_cons_zero, List.set_cons_succ] at hm) | ((with_reducible refine gt_load 38 ?_); (first | (refine st_load rfl 38 _ rfl hm rfl 0 rfl agg38 (by first | omega | assumption | (simp only [lens]; first | omega | assumption) | (simp [lens]; done) | (simp [lens]; omega)) ?_) | (refine st_load rfl 38 _ rfl hm rfl 1 rfl agg38 (by first | omega | assumption | (simp only [lens]; first | omega | assumption) | (simp [lens]; done) | (simp [lens]; omega)) ?_) | (refine st_load rfl 38 _ rfl hm rfl 2 rfl agg38 (by first | omega | assumption | (simp only [lens]; first | omega | assumption) | (simp [lens]; done) | (simp [lens]; omega)) ?_) | (refine st_load rfl 38 _ rfl hm rfl 3 rfl agg38 (by first | omega | assumption | (simp only [lens]; first | omega | assumption) | (simp [lens]; done) | (simp [lens]; omega)) ?_) | (refine st_part rfl 38 _ rfl hm rfl 0 rfl agg38 (by first | omega | assumption | (simp only [lens]; first | omega | assumption) | (simp [lens]; done) | (simp [lens]; omega)) ?_) | (refine st_part rfl 38 _ rfl hm rfl 1 rfl agg38 (by first | omega | assumption | (simp only [lens]; first | omega | assumption) | (simp [lens]; done) | (simp [lens]; omega)) ?_) | (refine st_part rfl 38 _ rfl hm rfl 2 rfl agg38 (by first | omega | assumption | (simp only [lens]; first | omega | assumption) | (simp [lens]; done) | (simp [lens]; omega)) ?_) | (refine st_part rfl 38 _ rfl hm rfl 3 rfl agg38 (by first | omega | assumption | (simp only [lens]; first | omega | assumption) | (simp [lens]; done) | (simp [lens]; omega)) ?_))) | ((with_reducible refine gt_index 48 ?_); refine st_index rfl 48 _ _ rfl rfl rfl arr48 (by first | omega | assumption | (simp only [lens]; first | omega | assumption) | (simp [lens]; done) | (simp [lens]; omega)) (by first | omega | assumption | (simp only [lens]; first | omega | assumption) | (simp [lens]; done) | (simp [lens]; omega)) (by first | omega | assumption | (simp only [lens]; first | omega | assumption) | (simp [lens]; done) | (simp [lens]; omega)) ?_) | ((with_reducible refine gt_elem 38 ?_); refine st_elem rfl 38 _ _ rfl rfl rfl arr38 (by first | omega | assumption | (simp only [lens]; first | omega | assumption) | (simp [lens]; done) | (simp [lens]; omega)) (by first | omega | assumption | (simp only [lens]; first | omega | assumption) | (simp [lens]; done) | (simp [lens]; omega)) ?_) | ((with_reducible refine gt_store 2 ?_); (first | (refine st_set rfl 2 _ _ rfl hm rfl rfl 0 rfl one2 (by first | omega | assumption | (simp only [lens]; first | omega | assumption) | (simp [lens]; done) | (simp [lens]; omega)) ?_) | (refine st_set rfl 2 _ _ rfl hm rfl rfl 1 rfl one2 (by first | omega | assumption | (simp only [lens]; first | omega | assumption) | (simp [lens]; done) | (simp [lens]; omega)) ?_) | (refine st_set rfl 2 _ _ rfl hm rfl rfl 2 rfl one2 (by first | omega | assumption | (simp only [lens]; first | omega | assumption) | (simp [lens]; done) | (simp [lens]; omega)) ?_) | (refine st_set rfl 2 _ _ rfl hm rfl rfl 3 rfl one2 (by first | omega | assumption | (simp only [lens]; first | omega | assumption) | (simp [lens]; done) | (simp [lens]; omega)) ?_)); clear hm; intro ws hm; simp only [List.set_cons_zero, List.set_cons_succ] at hm))
   | (go_at_call 27; refine (validHoist_calls A0 c0 h _ (Kd.C_below HR.out (hm.done rfl)) hc HS.out.1 HS.out.2).mono ?_; rintro e wa ⟨rfl, hb⟩; replace hm := hm.after hb; clear hb; rw [HK.out]))
  ((try simp only [Exit.inBlock, Exit.then]); (first | (refine ret_cell hm rfl rfl 1 rfl agg38 (by first | omega | assumption | (simp only [lens]; first | omega | assumption) | (simp [lens]; done) | (simp [lens]; omega)) rfl ?_) | (refine ret_cell_tmp hm rfl rfl 1 rfl agg38 (by first | omega | assumption | (simp only [lens]; first | omega | assumption) | (simp [lens]; done) | (simp [lens]; omega)) rfl ?_)))
  exact ⟨rfl, hm.done rfl⟩
end Go.Proofs.Ytfdjgomocbniaaa.Arr
namespace Go.Proofs.Ytfdjgomocbniaaa.Arr
open Go.RowKit Go.Proofs.YtfdjgomocbniaaaW.PrintWords Go.Proofs.YtfdjgomocbniaaaW.PrintLast Go.Proofs.YtfdjgomocbniaaaW.PrintMore Go.Proofs.Ytfdjgomocbniaaa.U Go.Proofs.Ytfdjgomocbniaaa.K
set_option linter.unusedVariables false
set_option linter.unusedSimpArgs false
theorem codeM_ok {m : List Int} (hp : plainM m = true) (sets subs : Int) (h1 : 1 ≤ sets) (h8 : sets ≤ 8) (h0 : 0 ≤ subs) (h4 : subs ≤ 4) : codeM m sets subs = 0 := by
 unfold codeM
 rw [if_pos hp, if_pos ⟨⟨h1, h8⟩, h0, h4⟩]
theorem plainM_small {m : List Int} (hp : plainM m = true) : Small8 m := by
 obtain ⟨hN, h1, h8⟩ := plainM_N hp
 exact ⟨by omega, fun x hx => by rcases hN x hx with h | h <;> omega⟩
theorem read_small {x m : List Int} (h : readH x = some m) : okH x = true ∧ Small8 x := by
 have hk : okH x = true := by unfold okH; rw [h]; rfl
 have hn := okH_num hk
 have hl := okH_len hk
 exact ⟨hk, by omega, fun y hy => by have := hn y hy; omega⟩
theorem none_facts {m : List Int} (hp : plainM m = true) (sets subs : Int) (h1 : 1 ≤ sets) (h8 : sets ≤ 8) (h0 : 0 ≤ subs) (h4 : subs ≤ 4) (he : findL m sets subs.toNat = []) :
  hoistW m sets subs = ([], 6) ∧ waysW m sets subs = (0, 0) ∧ ∃ K : Int, leastW m subs = (K, 0) ∧ sets < K ∧ 1 ≤ K ∧ K ≤ 8 := by
 obtain ⟨_, _, hl⟩ := plainM_N hp
 refine ⟨?_, ?_, (leastN m subs.toNat : Int), ?_, ?_, ?_⟩
 ·unfold hoistW; rw [if_pos (codeM_ok hp sets subs h1 h8 h0 h4), he]; rfl
 ·unfold waysW; rw [if_pos (codeM_ok hp sets subs h1 h8 h0 h4), he]; rfl
 ·unfold leastW; rw [if_pos (codeM_ok hp 1 subs (by omega) (by omega) h0 h4)]
 ·obtain ⟨n, rfl⟩ := Int.eq_ofNat_of_zero_le (show 0 ≤ sets by omega)
  have := (findL_least subs.toNat hl n (by omega)).2
  rcases Nat.lt_or_ge n (leastN m subs.toNat) with h | h
  ·omega
  ·exact absurd he (this h)
 ·obtain ⟨hb, _, _⟩ := leastN_spec subs.toNat hl
  omega
theorem some_facts {m : List Int} (hp : plainM m = true) (sets subs : Int) (h1 : 1 ≤ sets) (h8 : sets ≤ 8) (h0 : 0 ≤ subs) (h4 : subs ≤ 4) (he : findL m sets subs.toNat ≠ []) :
  ∃ (x S : List Int) (n k z N : Int), hoistW m sets subs = (x, 0) ∧ waysW m sets subs = (n, 0) ∧ 0 < n ∧ leastW m subs = (k, 0) ∧ k ≤ sets ∧ Small8 x ∧ implRead x = (m, true) ∧ setsRes x = .tuple #[.int .i64 z, .int .i64 0] ∧ z ≤ sets ∧ k ≤ z ∧
   inRes 40 4 x = .tuple #[.agg (vals .i64 S), .int .i64 0] ∧ S.length = 4 ∧ (∀ j : Nat, j < 4 → subs ≤ (j : Int) → rd S (j : Int) = 0) ∧ waysW m 8 subs = (N, 0) ∧ n ≤ N ∧ waysW m 8 0 = (1, 0) := by
 obtain ⟨_, _, hl⟩ := plainM_N hp
 obtain ⟨x, r, hx⟩ := List.exists_cons_of_ne_nil he
 have hxm : x ∈ findL m sets subs.toNat := by rw [hx]; simp
 have hrd := findL_read hp sets subs.toNat (by omega) hxm
 obtain ⟨hk, hsm⟩ := read_small hrd
 have hir : implRead x = (m, true) := by
  have h1 := implRead_snd x
  have h2 := implRead_fst hk
  rw [hrd] at h2
  rw [hk] at h1
  exact Prod.ext (Option.some.inj h2).symm h1
 have hsp := sets_pos hrd
 refine ⟨x, ((pile (zs 44) x 1 x.length).drop 40).take 4, ((findL m sets subs.toNat).length : Int), (leastN m subs.toNat : Int), setsH x, ((findL m 8 subs.toNat).length : Int), ?_, ?_, ?_, ?_, ?_, hsm, hir, ?_, findL_sets sets (by omega) subs.toNat hxm, ?_, ?_, ?_, ?_, ?_, ?_, ?_⟩
 ·unfold hoistW; rw [if_pos (codeM_ok hp sets subs h1 h8 h0 h4), hx]; rfl
 ·unfold waysW; rw [if_pos (codeM_ok hp sets subs h1 h8 h0 h4)]
 ·rw [hx, List.length_cons]; omega
 ·unfold leastW; rw [if_pos (codeM_ok hp 1 subs (by omega) (by omega) h0 h4)]
 ·obtain ⟨n, rfl⟩ := Int.eq_ofNat_of_zero_le (show 0 ≤ sets by omega)
  have := (findL_least subs.toNat hl n (by omega)).1 he
  omega
 ·unfold setsRes; rw [if_pos hk]
 ·obtain ⟨n, hn⟩ := Int.eq_ofNat_of_zero_le (show 0 ≤ setsH x by omega)
  have hown := findL_own sets subs.toNat hxm
  rw [hn] at hown hsp ⊢
  have := (findL_least subs.toNat hl n (by omega)).1 (fun e => by rw [e] at hown; cases hown)
  omega
 ·unfold inRes; rw [if_pos hk]
 ·rw [List.length_take, List.length_drop, pile_length, zs_length]; rfl
 ·intro j hj hsj
  have h := findL_subs hp sets subs.toNat hxm j (by omega) hj
  rw [rd_get _ (40 + j) (by rw [pile_length, zs_length]; omega)] at h
  rw [rd_get _ j (by rw [List.length_take, List.length_drop, pile_length, zs_length]; omega), List.getElem_take, List.getElem_drop]
  exact h
 ·unfold waysW; rw [if_pos (codeM_ok hp 8 subs (by omega) (by omega) h0 h4)]
 ·have := (findL_mono m h8 subs.toNat).length_le
  omega
 ·unfold waysW
  rw [if_pos (codeM_ok hp 8 0 (by omega) (by omega) (by omega) (by omega)), show (0 : Int).toNat = 0 from rfl, findL_plain hl]
  rfl
theorem byt_of {c : List Int} (wf : WfL (WfI .u8) c) (hl : c.length ≤ 3000) : Byt c := ⟨by omega, fun x hx => by
 have h := wf.2 x hx
 unfold WfI at h
 simp only [Lit.wf, IntKind.min, IntKind.max, IntKind.signed, IntKind.bits, Bool.and_eq_true, decide_eq_true_eq] at h
 simp at h
 omega⟩
end Go.Proofs.Ytfdjgomocbniaaa.Arr
namespace Go.Proofs.Ytfdjgomocbniaaa.Arr
open Go.RowKit Go.Proofs.YtfdjgomocbniaaaW.PrintWords Go.Proofs.YtfdjgomocbniaaaW.PrintLast Go.Proofs.YtfdjgomocbniaaaW.PrintMore Go.Proofs.Ytfdjgomocbniaaa.U Go.Proofs.Ytfdjgomocbniaaa.K
set_option linter.unusedVariables false
set_option linter.unusedSimpArgs false
structure HRows (w : World) (R : List (Value × List Int)) (W : World) : Prop where
 bel : Below w.heap.size w W
 rows : ∀ p ∈ R, Own w.heap.size W p.1 p.2
theorem HRows.start (w : World) : HRows w [] w := ⟨Below.refl _ _, by simp⟩
theorem HRows.below {w W W1 : World} {R : List (Value × List Int)} (h : HRows w R W) (hb : Below W.heap.size W W1) : HRows w R W1 := ⟨below_then h.bel hb, fun p hp => Kd.R_below (h.rows p hp) hb⟩
theorem HRows.add {w W W1 : World} {R : List (Value × List Int)} {v : Value} {xs : List Int} (h : HRows w R W) (ho : Own W.heap.size W1 v xs) (hb : Below W.heap.size W W1) : HRows w ((v, xs) :: R) W1 :=
 ⟨below_then h.bel hb, fun p hp => by
  rcases List.mem_cons.1 hp with rfl | hp
  ·exact own_lower ho h.bel.size
  ·exact Kd.R_below (h.rows p hp) hb⟩
theorem HRows.C {w W : World} {R : List (Value × List Int)} (h : HRows w R W) (n : Nat) {A : Option Addr} {c : Nat} {xs : List Int} (hn : R[n]? = some (.slice A xs.length c, xs)) : Kd.C (Kd.int .i8) W A xs.length xs ∧ xs.length ≤ c :=
 have hr := h.rows _ (List.mem_of_getElem? hn)
 ⟨(Kd.R_reads' hr).2.2, (Kd.R_reads' hr).2.1⟩
section
variable (A : Option Addr) (c : Nat)
theorem implHoistFor' (m : List Int) (sets subs : Int) (hs : Small8 m) {x : List Int} {q : Int} (hq : hoistW m sets subs = (x, q)) (W : World) (h : Kd.C (Kd.int .i8) W A m.length m ∧ m.length ≤ c) :
  Calls Try.prog 7 #[.slice A m.length c, .int .i64 sets, .int .i64 subs] W fun e w' => ∃ B d, e = .returned (.tuple #[.slice B x.length d, .int .i64 q]) ∧ Own W.heap.size w' (.slice B x.length d) x ∧ Below W.heap.size W w' := by
 have := implHoistFor_calls A c m sets subs W h.1 h.2 hs
 rw [hq] at this
 refine this.mono ?_
 rintro e w1 ⟨v, rfl, ho, hb⟩
 obtain ⟨B, d, rfl⟩ := Kd.R_slice ho
 exact ⟨B, d, rfl, ho, hb⟩
theorem specHoistFor' (m : List Int) (sets subs : Int) (hs : Small8 m) {x : List Int} {q : Int} (hq : hoistW m sets subs = (x, q)) (W : World) (h : Kd.C (Kd.int .i8) W A m.length m ∧ m.length ≤ c) :
  Calls Try.prog 8 #[.slice A m.length c, .int .i64 sets, .int .i64 subs] W fun e w' => ∃ B d, e = .returned (.tuple #[.slice B x.length d, .int .i64 q]) ∧ Own W.heap.size w' (.slice B x.length d) x ∧ Below W.heap.size W w' := by
 have := specHoistFor_calls A c m sets subs W h.1 h.2 hs
 rw [hq] at this
 refine this.mono ?_
 rintro e w1 ⟨v, rfl, ho, hb⟩
 obtain ⟨B, d, rfl⟩ := Kd.R_slice ho
 exact ⟨B, d, rfl, ho, hb⟩
theorem implWays' (m : List Int) (sets subs : Int) (hs : Small8 m) {n q : Int} (hq : waysW m sets subs = (n, q)) (W : World) (h : Kd.C (Kd.int .i8) W A m.length m ∧ m.length ≤ c) :
  Calls Try.prog 9 #[.slice A m.length c, .int .i64 sets, .int .i64 subs] W fun e w' => e = .returned (.tuple #[.int .i64 n, .int .i64 q]) ∧ Below W.heap.size W w' := by
 have := implWays_calls A c m sets subs W h.1 h.2 hs
 rw [hq] at this
 exact this
theorem implLeast' (m : List Int) (subs : Int) (hs : Small8 m) {n q : Int} (hq : leastW m subs = (n, q)) (W : World) (h : Kd.C (Kd.int .i8) W A m.length m ∧ m.length ≤ c) :
  Calls Try.prog 10 #[.slice A m.length c, .int .i64 subs] W fun e w' => e = .returned (.tuple #[.int .i64 n, .int .i64 q]) ∧ Below W.heap.size W w' := by
 have := implLeast_calls A c m subs W h.1 h.2 hs
 rw [hq] at this
 exact this
theorem specLeast' (m : List Int) (subs : Int) (hs : Small8 m) {n q : Int} (hq : leastW m subs = (n, q)) (W : World) (h : Kd.C (Kd.int .i8) W A m.length m ∧ m.length ≤ c) :
  Calls Try.prog 11 #[.slice A m.length c, .int .i64 subs] W fun e w' => e = .returned (.tuple #[.int .i64 n, .int .i64 q]) ∧ Below W.heap.size W w' := by
 have := specLeast_calls A c m subs W h.1 h.2 hs
 rw [hq] at this
 exact this
theorem alike' (B : Option Addr) (d : Nat) (x : List Int) (hs : Small8 x) (W : World) (h : Kd.C (Kd.int .i8) W A x.length x ∧ x.length ≤ c) (h2 : Kd.C (Kd.int .i8) W B x.length x ∧ x.length ≤ d) :
  Calls Try.prog 12 #[.slice A x.length c, .slice B x.length d] W fun e w' => e = .returned (.bool true) ∧ Below W.heap.size W w' := by
 obtain ⟨k, hk⟩ := (A2Alike_ev x x (by have := hs.1; omega)).rounds
 rw [decide_eq_true rfl] at hk
 refine (spec_A2Alike.calls k A c x B d x true W h.1 h.2 h2.1 h2.2 hk).mono ?_
 rintro e w' ⟨rfl, hb⟩
 exact ⟨rfl, hb.below⟩
theorem meaningOf' (x m : List Int) (hs : Small8 x) (hq : implRead x = (m, true)) (W : World) (h : Kd.C (Kd.int .i8) W A x.length x ∧ x.length ≤ c) :
  Calls Try.prog 13 #[.slice A x.length c] W fun e w' => ∃ B d, e = .returned (.tuple #[.slice B m.length d, .int .i64 0]) ∧ Own W.heap.size w' (.slice B m.length d) m ∧ Below W.heap.size W w' := by
 have hev : Ev (fun k => impl_MeaningOf.f k x) (m, 0) := by
  unfold impl_MeaningOf.f
  refine Ev.bind (meaning_ev x hs.1 hs.2) ?_
  rw [hq]
  exact pos rfl (cons rfl)
 obtain ⟨k, hk⟩ := hev.rounds
 refine (impl_MeaningOf.calls k A c x m 0 W h.1 h.2 hk).mono ?_
 rintro e w1 ⟨v, rfl, ho, hb⟩
 obtain ⟨B, d, rfl⟩ := Kd.R_slice ho
 exact ⟨B, d, rfl, ho, hb⟩
theorem a2At' (l : List Int) (i n r : Int) (hr : laws_a2At.f l i n = some r) (W : World) (h : Kd.C (Kd.int .u8) W A l.length l) (hc : l.length ≤ c) :
  Calls Try.prog 6 #[.slice A l.length c, .int .i64 i, .int .i64 n] W fun e w' => e = .returned (.int .i64 r) ∧ Below W.heap.size W w' := by
 refine (laws_a2At.calls A c l i n r W h hc hr).mono ?_
 rintro e w' ⟨rfl, hb⟩
 exact ⟨rfl, hb.below⟩
theorem A2Meaning' (l m : List Int) (hr : Ev (fun k => spec_A2Meaning.f k l) m) (W : World) (h : Kd.C (Kd.int .u8) W A l.length l) (hc : l.length ≤ c) :
  Calls Try.prog 5 #[.slice A l.length c] W fun e w' => ∃ B d, e = .returned (.slice B m.length d) ∧ Own W.heap.size w' (.slice B m.length d) m ∧ Below W.heap.size W w' := by
 obtain ⟨k, hk⟩ := hr.rounds
 refine (spec_A2Meaning.calls k A c l m W h hc hk).mono ?_
 rintro e w1 ⟨v, rfl, ho, hb⟩
 obtain ⟨B, d, rfl⟩ := Kd.R_slice ho
 exact ⟨B, d, rfl, ho, hb⟩
end
theorem a2Long' (A0 : Option Addr) (c0 : Nat) (l : List Int) (A1 : Option Addr) (c1 : Nat) (l' : List Int) (W : World) (h : Kd.C (Kd.int .u8) W A0 l.length l) (hc : l.length ≤ c0) (h' : Kd.C (Kd.int .u8) W A1 l'.length l') (hc' : l'.length ≤ c1) :
  Calls Try.prog 4 #[.slice A0 l.length c0, .slice A1 l'.length c1] W fun e w' => e = .returned (.bool (decide (3000 < l.length ∨ 3000 < l'.length))) ∧ Below W.heap.size W w' := by
 have hf : laws_a2Long.f l l' = some (decide (3000 < l.length ∨ 3000 < l'.length)) := by
  unfold laws_a2Long.f
  by_cases h1 : (l.length : Int) > 3000
  ·rw [if_pos h1, decide_eq_true (Or.inl (by omega))]
  ·rw [if_neg h1]
   congr 1
   rw [decide_eq_decide]
   omega
 refine (laws_a2Long.calls A0 c0 l A1 c1 l' _ W h hc h' hc' hf).mono ?_
 rintro e w' ⟨rfl, hb⟩
 exact ⟨rfl, hb.below⟩
end Go.Proofs.Ytfdjgomocbniaaa.Arr
namespace Go.Proofs.Ytfdjgomocbniaaa.Arr
open Go.RowKit Go.Proofs.YtfdjgomocbniaaaW.PrintWords Go.Proofs.YtfdjgomocbniaaaW.PrintLast Go.Proofs.YtfdjgomocbniaaaW.PrintMore Go.Proofs.Ytfdjgomocbniaaa.U Go.Proofs.Ytfdjgomocbniaaa.K
set_option linter.unusedVariables false
set_option linter.unusedSimpArgs false
set_option maxHeartbeats 16000000 in
set_option maxRecDepth 100000 in
theorem law_FnHoisted (w : World) (A0 : Option Addr) (c0 : Nat) (l : List Int) (hr : Kd.C (Kd.int .u8) w A0 l.length l) (hc : l.length ≤ c0) (wf : WfL (WfI .u8) l) (A1 : Option Addr) (c1 : Nat) (l' : List Int) (hr' : Kd.C (Kd.int .u8) w A1 l'.length l') (hc' : l'.length ≤ c1) (wf' : WfL (WfI .u8) l') :
  Calls Try.prog 3 #[.slice A0 l.length c0, .slice A1 l'.length c1] w fun e w' => e = .returned (.bool true) ∧ Below w.heap.size w w' := by
 have HLG := Aside0.mk (a2Long' A0 c0 l A1 c1 l' w hr hc hr' hc')
 have HR := Aside0.mk hr
 have HR' := Aside0.mk hr'
 have H0 := Aside0.mk (HRows.start w)
 by_cases hbig : 3000 < l.length ∨ 3000 < l'.length
 ·rw [decide_eq_true hbig] at HLG
  clear hr hr' hbig wf wf'
  go_enter Try.func3, Try.ntmps3
  go_wp2_with (go_at_call 4; refine HLG.out.mono ?_; rintro e w1 ⟨rfl, hb⟩; have H1 := Aside0.mk (H0.out.below hb); clear H0; clear hb)
  go_ret
  exact ⟨rfl, H1.out.bel⟩
 ·rw [decide_eq_false hbig] at HLG
  have hb1 := byt_of wf (by omega)
  have hb2 := byt_of wf' (by omega)
  obtain ⟨m, hme, hp⟩ := A2Meaning_some hb1
  obtain ⟨s0, hs0, hs1, hs2⟩ := a2At_some hb2 0 3 (by omega) (by omega)
  obtain ⟨subs, hu0, hu1, hu2⟩ := a2At_some hb2 1 5 (by omega) (by omega)
  have hsm := plainM_small hp
  have HME := Aside0.mk (fun W h => A2Meaning' A0 c0 l m hme W h hc)
  have HA0 := Aside0.mk (fun W h => a2At' A1 c1 l' 0 3 s0 hs0 W h hc')
  have HA1 := Aside0.mk (fun W h => a2At' A1 c1 l' 1 5 subs hu0 W h hc')
  by_cases he : findL m (1 + s0) subs.toNat = []
  ·obtain ⟨hw1, hw2, K, hw3, hw4, hw5, hw6⟩ := none_facts hp (1 + s0) subs (by omega) (by omega) hu1 (by omega) he
   have HI := Aside0.mk (fun A c => implHoistFor' A c m (1 + s0) subs hsm hw1)
   have HS := Aside0.mk (fun A c => specHoistFor' A c m (1 + s0) subs hsm hw1)
   have HW := Aside0.mk (fun A c => implWays' A c m (1 + s0) subs hsm hw2)
   have HL := Aside0.mk (fun A c => implLeast' A c m subs hsm hw3)
   have HK := Aside0.mk (fun A c => specLeast' A c m subs hsm hw3)
   have HAL := Aside0.mk (fun A c B d W => alike' A c B d [] ⟨by simp, by simp⟩ W)
   clear hr hr' hbig wf wf' hb1 hb2 hme hp hs0 hu0 he hw1 hw2 hw3 hsm
   go_enter Try.func3, Try.ntmps3
   go_wp2_with (first
    | (go_at_call 4; refine HLG.out.mono ?_; rintro e w1 ⟨rfl, hb⟩; have H1 := Aside0.mk (H0.out.below hb); clear H0; clear hb)
    | (go_at_call 5; refine (HME.out _ (Kd.C_below HR.out H1.out.bel)).mono ?_; rintro e w2 ⟨Am, cm, rfl, ho, hb⟩; have H2 := Aside0.mk (H1.out.add ho hb); clear H1; clear ho hb)
    | (go_at_call 6; refine (HA0.out _ (Kd.C_below HR'.out H2.out.bel)).mono ?_; rintro e w3 ⟨rfl, hb⟩; have H3 := Aside0.mk (H2.out.below hb); clear H2; clear hb)
    | (go_at_call 6; refine (HA1.out _ (Kd.C_below HR'.out H3.out.bel)).mono ?_; rintro e w4 ⟨rfl, hb⟩; have H4 := Aside0.mk (H3.out.below hb); clear H3; clear hb)
    | (go_at_call 7; refine (HI.out _ _ _ (H4.out.C 0 rfl)).mono ?_; rintro e w5 ⟨Ah, ch, rfl, ho, hb⟩; have H5 := Aside0.mk (H4.out.add ho hb); clear H4; clear ho hb)
    | (go_at_call 8; refine (HS.out _ _ _ (H5.out.C 1 rfl)).mono ?_; rintro e w6 ⟨Ad, cd, rfl, ho, hb⟩; have H6 := Aside0.mk (H5.out.add ho hb); clear H5; clear ho hb)
    | (go_at_call 9; refine (HW.out _ _ _ (H6.out.C 2 rfl)).mono ?_; rintro e w7 ⟨rfl, hb⟩; have H7 := Aside0.mk (H6.out.below hb); clear H6; clear hb)
    | (go_at_call 10; refine (HL.out _ _ _ (H7.out.C 2 rfl)).mono ?_; rintro e w8 ⟨rfl, hb⟩; have H8 := Aside0.mk (H7.out.below hb); clear H7; clear hb)
    | (go_at_call 11; refine (HK.out _ _ _ (H8.out.C 2 rfl)).mono ?_; rintro e w9 ⟨rfl, hb⟩; have H9 := Aside0.mk (H8.out.below hb); clear H8; clear hb)
    | (go_at_call 12; refine (HAL.out _ _ _ _ _ (H9.out.C 1 rfl) (H9.out.C 0 rfl)).mono ?_; rintro e w10 ⟨rfl, hb⟩; have H10 := Aside0.mk (H9.out.below hb); clear H9; clear hb))
   go_ret
   exact ⟨rfl, H10.out.bel⟩
  ·obtain ⟨x, S, n, K, z, N, hw1, hw2, hw2b, hw3, hw4, hsx, hir, hz, hz1, hz2, hin, hS4, hS0, hwN, hN, hw0⟩ := some_facts hp (1 + s0) subs (by omega) (by omega) hu1 (by omega) he
   have HI := Aside0.mk (fun A c => implHoistFor' A c m (1 + s0) subs hsm hw1)
   have HS := Aside0.mk (fun A c => specHoistFor' A c m (1 + s0) subs hsm hw1)
   have HW := Aside0.mk (fun A c => implWays' A c m (1 + s0) subs hsm hw2)
   have HWN := Aside0.mk (fun A c => implWays' A c m 8 subs hsm hwN)
   have HW0 := Aside0.mk (fun A c => implWays' A c m 8 0 hsm hw0)
   have HL := Aside0.mk (fun A c => implLeast' A c m subs hsm hw3)
   have HK := Aside0.mk (fun A c => specLeast' A c m subs hsm hw3)
   have HAL := Aside0.mk (fun A c B d W => alike' A c B d x hsx W)
   have HAM := Aside0.mk (fun A c B d W => alike' A c B d m hsm W)
   have HMO := Aside0.mk (fun A c => meaningOf' A c x m hsx hir)
   have HSF : Aside0 (∀ A c W, (Kd.C (Kd.int .i8) W A x.length x ∧ x.length ≤ c) → Calls Try.prog 14 #[.slice A x.length c] W fun e w' => e = .returned (.tuple #[.int .i64 z, .int .i64 0]) ∧ Below W.heap.size W w') := ⟨fun A c W h => by
    have := implSets_calls A c x W h.1 h.2 hsx
    rw [hz] at this; exact this⟩
   have HSI : Aside0 (∀ A c W, (Kd.C (Kd.int .i8) W A x.length x ∧ x.length ≤ c) → Calls Try.prog 15 #[.slice A x.length c] W fun e w' => e = .returned (.tuple #[.agg (vals .i64 S), .int .i64 0]) ∧ Below W.heap.size W w') := ⟨fun A c W h => by
    have := implSubsIn_calls A c x W h.1 h.2 hsx
    rw [hin] at this; exact this⟩
   have HS0 := Aside0.mk hS0
   clear hr hr' hbig wf wf' hb1 hb2 hme hp hs0 hu0 he hw1 hw2 hw3 hsm hsx hir hz hin hS0 hwN hw0
   go_enter Try.func3, Try.ntmps3
   go_wp2_with (first
    | (go_at_call 4; refine HLG.out.mono ?_; rintro e w1 ⟨rfl, hb⟩; have H1 := Aside0.mk (H0.out.below hb); clear H0; clear hb)
    | (go_at_call 5; refine (HME.out _ (Kd.C_below HR.out H1.out.bel)).mono ?_; rintro e w2 ⟨Am, cm, rfl, ho, hb⟩; have H2 := Aside0.mk (H1.out.add ho hb); clear H1; clear ho hb)
    | (go_at_call 6; refine (HA0.out _ (Kd.C_below HR'.out H2.out.bel)).mono ?_; rintro e w3 ⟨rfl, hb⟩; have H3 := Aside0.mk (H2.out.below hb); clear H2; clear hb)
    | (go_at_call 6; refine (HA1.out _ (Kd.C_below HR'.out H3.out.bel)).mono ?_; rintro e w4 ⟨rfl, hb⟩; have H4 := Aside0.mk (H3.out.below hb); clear H3; clear hb)
    | (go_at_call 7; refine (HI.out _ _ _ (H4.out.C 0 rfl)).mono ?_; rintro e w5 ⟨Ah, ch, rfl, ho, hb⟩; have H5 := Aside0.mk (H4.out.add ho hb); clear H4; clear ho hb)
    | (go_at_call 8; refine (HS.out _ _ _ (H5.out.C 1 rfl)).mono ?_; rintro e w6 ⟨Ad, cd, rfl, ho, hb⟩; have H6 := Aside0.mk (H5.out.add ho hb); clear H5; clear ho hb)
    | (go_at_call 9; refine (HW.out _ _ _ (H6.out.C 2 rfl)).mono ?_; rintro e w7 ⟨rfl, hb⟩; have H7 := Aside0.mk (H6.out.below hb); clear H6; clear hb)
    | (go_at_call 10; refine (HL.out _ _ _ (H7.out.C 2 rfl)).mono ?_; rintro e w8 ⟨rfl, hb⟩; have H8 := Aside0.mk (H7.out.below hb); clear H7; clear hb)
    | (go_at_call 11; refine (HK.out _ _ _ (H8.out.C 2 rfl)).mono ?_; rintro e w9 ⟨rfl, hb⟩; have H9 := Aside0.mk (H8.out.below hb); clear H8; clear hb)
    | (go_at_call 12; refine (HAL.out _ _ _ _ _ (H9.out.C 1 rfl) (H9.out.C 0 rfl)).mono ?_; rintro e w10 ⟨rfl, hb⟩; have H10 := Aside0.mk (H9.out.below hb); clear H9; clear hb)
    | (go_at_call 13; refine (HMO.out _ _ _ (H10.out.C 0 rfl)).mono ?_; rintro e w11 ⟨Ar, cr, rfl, ho, hb⟩; have H11 := Aside0.mk (H10.out.add ho hb); clear H10; clear ho hb)
    | (go_at_call 14; refine (HSF.out _ _ _ (H11.out.C 1 rfl)).mono ?_; rintro e w12 ⟨rfl, hb⟩; have H12 := Aside0.mk (H11.out.below hb); clear H11; clear hb)
    | (go_at_call 15; refine (HSI.out _ _ _ (H12.out.C 1 rfl)).mono ?_; rintro e w13 ⟨rfl, hb⟩; have H13 := Aside0.mk (H12.out.below hb); clear H12; clear hb; have hm := Mem.start w13)
    | (first | fail | ((with_reducible refine gt_alloc 22 38 ?_); refine st_alloc rfl 22 rfl 38 rfl hm zero38 ?_; clear hm; intro g22 w22 hm) | ((with_reducible refine gt_store 38 ?_); (first | (refine st_full rfl 38 _ _ rfl hm rfl rfl 0 rfl agg38 (by first | omega | assumption | (simp only [lens]; first | omega | assumption) | (simp [lens]; done) | (simp [lens]; omega)) (by first | omega | assumption | (simp only [lens]; first | omega | assumption) | (simp [lens]; done) | (simp [lens]; omega)) ?_) | (refine st_full rfl 38 _ _ rfl hm rfl rfl 1 rfl agg38 (by first | omega | assumption | (simp only [lens]; first | omega | assumption) | (simp [lens]; done) | (simp [lens]; omega)) (by first | omega | assumption | (simp only [lens]; first | omega | assumption) | (simp [lens]; done) | (simp [lens]; omega)) ?_) | (refine st_full rfl 38 _ _ rfl hm rfl rfl 2 rfl agg38 (by first | omega | assumption | (simp only [lens]; first | omega | assumption) | (simp [lens]; done) | (simp [lens]; omega)) (by first | omega | assumption | (simp only [lens]; first | omega | assumption) | (simp [lens]; done) | (simp [lens]; omega)) ?_) | (refine st_put rfl 38 _ _ rfl hm rfl rfl 0 rfl agg38 (by first | omega | assumption | (simp only [lens]; first | omega | assumption) | (simp [lens]; done) | (simp [lens]; omega)) (by first | omega | assumption | (simp only [lens]; first | omega | assumption) | (simp [lens]; done) | (simp [lens]; omega)) ?_) | (refine st_put rfl 38 _ _ rfl hm rfl rfl 1 rfl agg38 (by first | omega | assumption | (simp only [lens]; first | omega | assumption) | (simp [lens]; done) | (simp [lens]; omega)) (by first | omega | assumption | (simp only [lens]; first | omega | assumption) | (simp [lens]; done) | (simp [lens]; omega)) ?_) | (refine st_put rfl 38 _ _ rfl hm rfl rfl 2 rfl agg38 (by first | omega | assumption | (simp only [lens]; first | omega | assumption) | (simp [lens]; done) | (simp [lens]; omega)) (by first | omega | assumption | (simp only [lens]; first | omega | assumption) | (simp [lens]; done) | (simp [lens]; omega)) ?_)); clear hm; intro ws hm; simp only [List.set_cons_zero, List.set_cons_succ] at hm) | ((with_reducible refine gt_elem 38 ?_); refine st_elem rfl 38 _ _ rfl rfl rfl arr38 (by first | omega | assumption | (simp only [lens]; first | omega | assumption) | (simp [lens]; done) | (simp [lens]; omega)) (by first | omega | assumption | (simp only [lens]; first | omega | assumption) | (simp [lens]; done) | (simp [lens]; omega)) ?_) | ((with_reducible refine gt_load 2 ?_); (first | (refine st_get rfl 2 _ rfl hm rfl 0 rfl one2 (by first | omega | assumption | (simp only [lens]; first | omega | assumption) | (simp [lens]; done) | (simp [lens]; omega)) ?_) | (refine st_get rfl 2 _ rfl hm rfl 1 rfl one2 (by first | omega | assumption | (simp only [lens]; first | omega | assumption) | (simp [lens]; done) | (simp [lens]; omega)) ?_) | (refine st_get rfl 2 _ rfl hm rfl 2 rfl one2 (by first | omega | assumption | (simp only [lens]; first | omega | assumption) | (simp [lens]; done) | (simp [lens]; omega)) ?_))))
    | (go_at_call 12; refine (HAM.out _ _ _ _ _ ((H13.out.below (hm.done rfl)).C 0 rfl) ((H13.out.below (hm.done rfl)).C 3 rfl)).mono ?_; rintro e w14 ⟨rfl, hb⟩; replace hm := hm.after hb; clear hb))
   have hmS : Mem w13 _ [⟨g22, vals .i64 S, 38, true⟩] := hm
   clear hm
   go_loopw [24] (fun v24 wr => ∃ i : Nat, i ≤ 4 ∧ v24 = .int .i64 i ∧ Mem w13 wr [⟨g22, vals .i64 S, 38, true⟩]) (fun v24 _ => 4 - (intOf v24).toNat)
   case atStart => exact ⟨0, by omega, rfl, hmS⟩
   case round =>
    obtain ⟨i, hi, rfl, hm⟩ := hrel
    by_cases hlt : i < 4
    ·have hc1 := hm.get (n := 0) rfl i (by omega)
     have HM := Aside0.mk hm
     by_cases hsi : subs ≤ (i : Int)
     ·have h0 := HS0.out i hlt hsi
      rw [h0] at hc1
      clear h0 hm
      go_wp2
      repeat (go_quiet (fail); try go_wp2)
      go_roundw
      case rel => exact ⟨i + 1, by omega, by go_num, HM.out.drawn _⟩
      case measure => simp [intOf]; omega
     ·clear hm
      go_wp2
      repeat (go_quiet (fail); try go_wp2)
      go_roundw
      case rel => exact ⟨i + 1, by omega, by go_num, HM.out.drawn _⟩
      case measure => simp [intOf]; omega
    ·have HI2 := Aside0.mk (show i = 4 by omega)
     go_wp2_with (first
      | (first | fail | ((with_reducible refine gt_alloc 22 38 ?_); refine st_alloc rfl 22 rfl 38 rfl hm zero38 ?_; clear hm; intro g22 w22 hm) | ((with_reducible refine gt_store 38 ?_); (first | (refine st_full rfl 38 _ _ rfl hm rfl rfl 0 rfl agg38 (by first | omega | assumption | (simp only [lens]; first | omega | assumption) | (simp [lens]; done) | (simp [lens]; omega)) (by first | omega | assumption | (simp only [lens]; first | omega | assumption) | (simp [lens]; done) | (simp [lens]; omega)) ?_) | (refine st_full rfl 38 _ _ rfl hm rfl rfl 1 rfl agg38 (by first | omega | assumption | (simp only [lens]; first | omega | assumption) | (simp [lens]; done) | (simp [lens]; omega)) (by first | omega | assumption | (simp only [lens]; first | omega | assumption) | (simp [lens]; done) | (simp [lens]; omega)) ?_) | (refine st_full rfl 38 _ _ rfl hm rfl rfl 2 rfl agg38 (by first | omega | assumption | (simp only [lens]; first | omega | assumption) | (simp [lens]; done) | (simp [lens]; omega)) (by first | omega | assumption | (simp only [lens]; first | omega | assumption) | (simp [lens]; done) | (simp [lens]; omega)) ?_) | (refine st_put rfl 38 _ _ rfl hm rfl rfl 0 rfl agg38 (by first | omega | assumption | (simp only [lens]; first | omega | assumption) | (simp [lens]; done) | (simp [lens]; omega)) (by first | omega | assumption | (simp only [lens]; first | omega | assumption) | (simp [lens]; done) | (simp [lens]; omega)) ?_) | (refine st_put rfl 38 _ _ rfl hm rfl rfl 1 rfl agg38 (by first | omega | assumption | (simp only [lens]; first | omega | assumption) | (simp [lens]; done) | (simp [lens]; omega)) (by first | omega | assumption | (simp only [lens]; first | omega | assumption) | (simp [lens]; done) | (simp [lens]; omega)) ?_) | (refine st_put rfl 38 _ _ rfl hm rfl rfl 2 rfl agg38 (by first | omega | assumption | (simp only [lens]; first | omega | assumption) | (simp [lens]; done) | (simp [lens]; omega)) (by first | omega | assumption | (simp only [lens]; first | omega | assumption) | (simp [lens]; done) | (simp [lens]; omega)) ?_)); clear hm; intro ws hm; simp only [List.set_cons_zero, List.set_cons_succ] at hm) | ((with_reducible refine gt_elem 38 ?_); refine st_elem rfl 38 _ _ rfl rfl rfl arr38 (by first | omega | assumption | (simp only [lens]; first | omega | assumption) | (simp [lens]; done) | (simp [lens]; omega)) (by first | omega | assumption | (simp only [lens]; first | omega | assumption) | (simp [lens]; done) | (simp [lens]; omega)) ?_) | ((with_reducible refine gt_load 2 ?_); (first | (refine st_get rfl 2 _ rfl hm rfl 0 rfl one2 (by first | omega | assumption | (simp only [lens]; first | omega | assumption) | (simp [lens]; done) | (simp [lens]; omega)) ?_) | (refine st_get rfl 2 _ rfl hm rfl 1 rfl one2 (by first | omega | assumption | (simp only [lens]; first | omega | assumption) | (simp [lens]; done) | (simp [lens]; omega)) ?_) | (refine st_get rfl 2 _ rfl hm rfl 2 rfl one2 (by first | omega | assumption | (simp only [lens]; first | omega | assumption) | (simp [lens]; done) | (simp [lens]; omega)) ?_))))
      | (go_at_call 9; refine (HWN.out _ _ _ ((H13.out.below (hm.done rfl)).C 3 rfl)).mono ?_; rintro e w15 ⟨rfl, hb⟩; replace hm := hm.after hb; have H15 := Aside0.mk (H13.out.below (hm.done rfl)); clear H13; clear hb)
      | (go_at_call 9; refine (HW0.out _ _ _ (H15.out.C 3 rfl)).mono ?_; rintro e w16 ⟨rfl, hb⟩; have H16 := Aside0.mk (H15.out.below hb); clear H15; clear hb))
     go_ret
     exact ⟨rfl, H16.out.bel⟩
end Go.Proofs.Ytfdjgomocbniaaa.Arr
namespace Go.Proofs.Ytfdjgomocbniaaa.Open
open Go.RowKit Go.Proofs.YtfdjgomocbniaaaW.PrintWords Go.Proofs.Ytfdjgomocbniaaa.U Go.Deep
set_option linter.unusedVariables false
set_option linter.unusedSimpArgs false
def Opens {α : Type} (P : Program) (t : TypeId) (d : Kd α) (wf : α → Prop) : Prop :=
 ∀ {H : Type} (enc : TypeId × Value → H) (w : World) (held : Bool) (fuel : Nat) (cs : List Value) (x : DataW H × List MemPlace),
  DataW.trod enc P w 0 (fun _ => true) held fuel t cs = some x → ∃ a, d.K w a cs ∧ wf a
section
variable {P : Program} {t : TypeId}
theorem opens_int {k : IntKind} (ht : P.underlying t = some (.int k)) : Opens P t (Kd.int k) (WfI k) := by
 intro H enc w held fuel cs x h
 obtain ⟨n, rfl, _, hw⟩ := DataW.trod_int ht h
 exact ⟨n, rfl, hw⟩
theorem list_of {α : Type} (n : Nat) (p : Nat → α → Prop) (h : ∀ i, i < n → ∃ a, p i a) : ∃ l : List α, l.length = n ∧ ∀ (i : Nat) (a : α), l[i]? = some a → p i a := by
 induction n with
 | zero => exact ⟨[], rfl, fun i a hi => by simp at hi⟩
 | succ n ih =>
  obtain ⟨l, hl, hp⟩ := ih (fun i hi => h i (by omega))
  obtain ⟨a, ha⟩ := h n (by omega)
  refine ⟨l ++ [a], by simp [hl], fun i b hb => ?_⟩
  rcases Nat.lt_or_ge i l.length with hi | hi
  ·rw [List.getElem?_append_left hi] at hb; exact hp i b hb
  ·rw [List.getElem?_append_right hi] at hb
   have : i - l.length = 0 := by
    rcases Nat.eq_zero_or_pos (i - l.length) with h0 | h0
    ·exact h0
    ·rw [List.getElem?_eq_none (by simp; omega)] at hb; cases hb
   rw [this] at hb
   simp at hb
   subst hb
   obtain rfl : i = n := by omega
   exact ha
theorem add_mul (a : Addr) (i m j : Nat) : (a.add (i * m)).add j = a.add (i * m + j) := by
 unfold Addr.add
 by_cases h1 : i * m = 0 <;> by_cases h2 : j = 0 <;> simp [h1, h2] <;> omega
theorem opens_slice {α : Type} {e : TypeId} {d : Kd α} {wf : α → Prop} (ht : P.underlying t = some (.slice e)) (hc : P.cellsOf e = d.sz) (he : Opens P e d wf) : Opens P t (Kd.slice e d) (WfL wf) := by
 intro H enc w held fuel cs x h
 rcases open_slice ht h with ⟨rfl, _⟩ | ⟨a, len, cap, m, n, D, Pl, rfl, hb, hl, hm, hmm, rfl, hx⟩
 ·exact ⟨[], ⟨none, 0, rfl, Nat.le_refl _, Kd.C_nil d w⟩, by simp [WfL, maxLen]⟩
 ·simp only [if_true] at hmm
  subst hmm
  have each : ∀ i, i < len → ∃ y : α, (∃ cs', w.cells? 0 (a.add (i * P.cellsOf e)) (P.cellsOf e) = some cs' ∧ d.K w y cs') ∧ wf y := by
   intro i hi
   obtain ⟨cs', h1, h2⟩ := hx i (by omega)
   obtain ⟨y, hy, hwf⟩ := he enc w held n cs' _ h2
   exact ⟨y, ⟨cs', h1, hy⟩, hwf⟩
  obtain ⟨l, hll, hp⟩ := list_of len _ each
  refine ⟨l, ⟨some a, m, by rw [hll], by omega, ⟨rfl, by rw [hll]; unfold maxLen at hm; omega, fun _ => ⟨a, rfl, fun j y hj => ?_⟩⟩⟩, by rw [hll]; omega, fun y hy => ?_⟩
  ·obtain ⟨⟨cs', h1, h2⟩, _⟩ := hp j y hj
   refine ⟨cs', d.K_len h2, h2, fun i u hu => ?_⟩
   obtain ⟨_, hlen, hcell⟩ := World.cells?_some h1
   have hi : i < P.cellsOf e := by rw [← hlen]; exact (List.getElem?_eq_some_iff.1 hu).1
   have := hcell i hi
   rw [add_mul, hc, hu] at this
   exact this
  ·obtain ⟨j, hj, rfl⟩ := List.getElem_of_mem hy
   exact (hp j _ (List.getElem?_eq_getElem hj)).2
end
end Go.Proofs.Ytfdjgomocbniaaa.Open
