/- The code of hoists, and the first of two codes, as they are called. No condition beyond the lists' lengths and their numbers' kind. -/
import Derived.Test.YtmpkgdgbjhegnaaHoistNeed
import Derived.Test.YtmpkgdgbjhegnaaArrS
import Derived.Test.YtmpkgdgbjhegnaaArrR
import Derived.Test.YtmpkgdgbjhegnaaPBx1
import Derived.Test.YtmpkgdgbjhegnaaPBx3
namespace Go.Proofs.Ytmpkgdgbjhegnaa.Arr
open Go.RowKit Go.Proofs.YtmpkgdgbjhegnaaW.PrintWords Go.Proofs.YtmpkgdgbjhegnaaW.PrintLast Go.Proofs.YtmpkgdgbjhegnaaW.PrintMore Go.Proofs.Ytmpkgdgbjhegnaa.U Go.Proofs.Ytmpkgdgbjhegnaa.B
set_option linter.unusedVariables false
set_option linter.unusedSimpArgs false

/-- A row of ints in one block. -/
theorem C_row {w : World} {g : Nat} {k : IntKind} {L : List Int} {t : TypeId} (h : w.heap[g]? = some (.cells (vals k L) t (0, 0))) (hl : L.length ≤ 1000000) : Kd.C (Kd.int k) w (some ⟨g, 0, none⟩) L.length L := by
  refine ⟨rfl, by omega, fun _ => ⟨_, rfl, fun j y hj => ?_⟩⟩
  have hj1 := (List.getElem?_eq_some_iff.1 hj).1
  refine ⟨[.int k y], rfl, rfl, fun i u hu => ?_⟩
  rcases i with _ | i
  · cases hu
    have hadd : (⟨g, 0, none⟩ : Addr).add (j * 1 + 0) = ⟨g, j, none⟩ := by unfold Addr.add; split <;> simp_all
    have := cell_of_row w g j _ t (0, 0) h
    rw [vals_get hj1, rd_get L j hj1] at this
    show w.cell? ((⟨g, 0, none⟩ : Addr).add (j * 1 + 0)) = _
    rw [hadd, this]
    rw [(List.getElem?_eq_some_iff.1 hj).2]
  · simp at hu
section
variable {P : Program} {ops : Array Oper} {rest : List Oper} {o : Oper} {a : Act} {w0 w : World} {M : List Ent} {Q : Exit → Act → World → Prop}
theorem fill_int {k : IntKind} {z : Int} {cells : Array Value} {i : Nat} {place : Nat → Option (Nat × Nat)} {off : Nat} {rest : List (Nat × Value)} (hp : place i = some (off, 1)) (hc : off + 1 ≤ cells.size) :
    Instr.fill place cells ((i, .int k z) :: rest) = Instr.fill place (cells.setIfInBounds off (.int k z)) rest := by
  rw [Instr.fill, hp]
  have hs : (Value.int k z).cells.size = 1 := rfl
  simp only [hs]
  rw [if_neg (by simp; omega)]
  congr 1
theorem st_ints2 (hgd : o.guard = none) (d : Nat) (hdst : o.dst = some d) (t : TypeId) (x y : Operand) (ho : o.op = .buildSlice t 2 #[(0, x), (1, y)]) (hm : Mem w0 w M) {k : IntKind} {z z' : Int} {e : TypeId} (hx : a.eval x = .int k z) (hy : a.eval y = .int k z') (hu : P.underlying t = some (.slice e))
    (he : OneTy P e) (hz : ZeroTy P e (vals k [0]))
    (h : ∀ g w1, Mem w0 w1 (⟨g, vals k [z, z'], e, true⟩ :: M) → wpList P ops Q rest (a.put (some d) (.slice (some ⟨g, 0, none⟩) 2 2)) w1) : wpList P ops Q (o :: rest) a w := by
  obtain ⟨zz, hz, hzc⟩ := hz
  obtain ⟨_, hi⟩ := he
  refine wpList_plain hgd fun K hK => ?_
  rw [← hdst] at h
  unfold Oper.wp execOp
  cases hq : P.info? e with
  | none => simp [hq] at hi
  | some i =>
    have hs : i.size = 1 := by simpa [hq] using hi
    have hz' : i.zero = some zz := by simpa [hq] using hz
    have hf := fill_int (k := k) (z := z) (cells := (Array.range (2 * 1)).map (zz.cells[· % zz.cells.size]!)) (off := 0) (place := fun i => some (i * 1, 1)) (i := 0) (rest := [(1, .int k z')]) (by simp) (by simp)
    rw [fill_int (k := k) (z := z') (off := 1) (by simp) (by simp)] at hf
    have hc : (((Array.range (2 * 1)).map (zz.cells[· % zz.cells.size]!)).setIfInBounds 0 (.int k z)).setIfInBounds 1 (.int k z') = vals k [z, z'] := by
      rw [show Array.range (2 * 1) = #[0, 1] from rfl]
      generalize (fun x => zz.cells[x % zz.cells.size]!) = f
      simp [vals]
    rw [hc] at hf
    have hrun : (Instr.buildSlice t 2 #[(0, .int k z), (1, .int k z')]).run P w = .ok (.slice (some ⟨w.heap.size, 0, none⟩) 2 2) (w.alloc (.cells (vals k [z, z']) e)) := by
      simp only [Instr.buildSlice, Sem.run_bind, run_underlying hu w, Result.andThen_ok, sizeOf, typeInfo, run_program, hq, Sem.run_pure, hs, zeroValue, hz']
      rw [if_neg (by omega), if_neg (by omega)]
      simp only [Sem.run_bind, Sem.run_pure, Result.andThen_ok, hq, hz', hf, run_program]
      simp [Instr.fill, newRow, Sem.run_bind]
    simp only [ho, List.map_toArray, List.map_cons, List.map_nil, hx, hy, Sem.run_bind, hrun, Sem.run_pure, Result.andThen_ok]
    exact hK _ _ (h _ _ (hm.new _ _))
end
/-- The first code that is not zero. -/
def fst2 (a b : Int) : Int := if a = 0 then b else a
theorem firstOf_calls (g : Nat) (a b : Int) (w : World) (h : w.heap[g]? = some (.cells (vals .i64 [a, b]) 2 (0, 0))) :
    Calls Try.prog 82 #[.slice (some ⟨g, 0, none⟩) 2 2] w fun e w' => e = .returned (.int .i64 (fst2 a b)) ∧ Below w.heap.size w w' := by
  refine (impl_firstOf.calls 4 _ 2 [a, b] (fst2 a b) w (C_row h (by simp)) (by simp) ?_).mono ?_
  · unfold impl_firstOf.f fst2
    by_cases ha : a = 0
    · by_cases hb : b = 0
      · simp [impl_firstOf.l0, rd, ha, hb, wrap64]
      · simp [impl_firstOf.l0, rd, ha, hb, wrap64]
    · simp [impl_firstOf.l0, rd, ha, wrap64]
  · rintro e w' ⟨rfl, hb⟩
    exact ⟨rfl, by first | exact hb | exact hb.below⟩

/-- Lists of hoists, as they may come. -/
structure Any (hs : List (List Int)) : Prop where
  few : hs.length ≤ 1048576
  small : ∀ h ∈ hs, Small8 h
theorem Any.at {hs : List (List Int)} (h : Any hs) (i : Nat) (hi : i < hs.length) : Small8 (rd_L1 hs (i : Int)) := by
  rw [rdL_get hs i hi]; exact h.small _ (List.getElem_mem hi)
/-- The code of hoists. -/
def codeH (hs : List (List Int)) : Int := if hs.all okH = true then (if (hs.length : Int) ≤ 6 then 0 else 3) else 1
theorem codeH_zero {hs : List (List Int)} (h : codeH hs = 0) : Hs hs ∧ hs.length ≤ 6 := by
  unfold codeH at h
  split at h
  · rename_i h1
    split at h
    · exact ⟨⟨by omega, fun x hx => List.all_eq_true.1 h1 x hx⟩, by omega⟩
    · omega
  · omega
theorem l04Hoists_calls (A0 : Option Addr) (c0 : Nat) (hs : List (List Int)) (w : World) (hr : Kd.C hk w A0 hs.length hs) (hc : hs.length ≤ c0) (hh : Any hs) :
    Calls Try.prog 77 #[.slice A0 hs.length c0] w fun e w' => e = .returned (.int .i64 (codeH hs)) ∧ Below w.heap.size w w' := by
  have hfew := hh.few
  have key : Ev (fun k => spec_l04Hoists.f k hs) (codeH hs) := by
    unfold spec_l04Hoists.f
    refine iter (F := fun k (s : Int) => spec_l04Hoists.l0 k hs s) (fun i s => s = (i : Int) ∧ ∀ j, j < i → okH (rd_L1 hs (j : Int)) = true) _ hs.length ?_ ?_ 0 0 (by omega) ⟨rfl, fun j hj => by omega⟩
    · rintro i s hi ⟨rfl, hp⟩
      have he : Ev (fun k => spec_l02Ok.f k (rd_L1 hs (i : Int))) (okH (rd_L1 hs (i : Int))) := by
        unfold spec_l02Ok.f
        refine Ev.bind (l02Read_ev _ (hh.at i hi).1 (hh.at i hi).2) (cons ?_)
        unfold okH
        cases readH (rd_L1 hs (i : Int)) <;> rfl
      cases hk : okH (rd_L1 hs (i : Int)) with
      | true =>
        rw [hk] at he
        refine .inl ⟨((i + 1 : Nat) : Int), ⟨rfl, fun j hj => ?_⟩, fun hgo => ?_⟩
        · rcases Nat.lt_or_ge j i with h | h
          · exact hp j h
          · obtain rfl : j = i := by omega
            exact hk
        · refine Ev.step (fun k => by rw [spec_l04Hoists.l0]) ?_
          refine pos (by omega) (pos (by omega) (Ev.bind he (pos rfl ?_)))
          rw [w64 (by omega) (by omega)]; exact hgo
      | false =>
        rw [hk] at he
        refine .inr ?_
        refine Ev.step (fun k => by rw [spec_l04Hoists.l0]) ?_
        refine pos (by omega) (pos (by omega) (Ev.bind he (neg (by decide) (cons ?_))))
        unfold codeH
        rw [if_neg]
        intro hall
        have := List.all_eq_true.1 hall _ (List.getElem_mem hi)
        rw [← rdL_get hs i hi, hk] at this
        cases this
    · rintro s ⟨rfl, hp⟩
      refine Ev.step (fun k => by rw [spec_l04Hoists.l0]) ?_
      refine neg (by omega) ?_
      have hall : hs.all okH = true := List.all_eq_true.2 fun x hx => by
        obtain ⟨j, hj, rfl⟩ := List.getElem_of_mem hx
        have := hp j hj
        rwa [rdL_get hs j hj] at this
      unfold codeH
      rw [if_pos hall]
      by_cases h6 : (hs.length : Int) ≤ 6
      · rw [if_pos h6]; exact neg (by omega) (Ev.now _)
      · rw [if_neg h6]; exact pos (by omega) (Ev.now _)
  obtain ⟨k, hk⟩ := key.rounds
  exact spec_l04Hoists.calls k A0 c0 hs (codeH hs) w hr hc hk
theorem unless_calls (b : Bool) (a : Int) (w : World) : Calls Try.prog 84 #[.bool b, .int .i64 a] w fun e w' => e = .returned (.int .i64 (if b = true then 0 else a)) ∧ Below w.heap.size w w' := by
  refine (impl_unless.calls b a (if b = true then 0 else a) w ?_).mono ?_
  · unfold impl_unless.f; cases b <;> rfl
  · rintro e w' ⟨rfl, hb⟩
    exact ⟨rfl, hb.below⟩
theorem hoistsCode1_enters (a : Array Value) (W : World) : (callFunc 96 a).run Try.prog W = .ok (.enter 96 a) W := by kernel_rfl
set_option maxHeartbeats 4000000 in
set_option maxRecDepth 100000 in
theorem hoistsCode1_calls (A0 : Option Addr) (c0 : Nat) (h : List Int) (w : World) (hr : Kd.C (Kd.int .i8) w A0 h.length h) (hc : h.length ≤ c0) (hs : Small8 h) : Calls Try.prog 96 (#[.slice A0 h.length c0] ++ #[]) w fun e w' => e = .returned (.bool (!okH h)) ∧ Below w.heap.size w w' := by
  have HR := Aside0.mk hr
  have HS := Aside0.mk hs
  clear hr hs
  show Calls Try.prog 96 #[.slice A0 h.length c0] w _
  go_enter Try.func96, Try.ntmps96
  go_wp2_with (go_at_call 68; refine (validHoist_calls A0 c0 h _ HR.out hc HS.out.1 HS.out.2).mono ?_; rintro e wa ⟨rfl, hb⟩; have HB := Aside0.mk hb; clear hb)
  go_ret
  exact ⟨rfl, HB.out⟩
set_option maxHeartbeats 4000000 in
set_option maxRecDepth 100000 in
theorem indexFunc_h (g : FuncId) (hg : ∀ (a : Array Value) (W : World), (callFunc g a).run Try.prog W = .ok (.enter g a) W) (cap : Array Value) (p : List Int → Bool) (A0 : Option Addr) (c0 : Nat) (l0 : List (List Int)) (w : World) (hr0 : Kd.C hk w A0 l0.length l0) (hc0 : l0.length ≤ c0)
   (hf : ∀ x ∈ l0, ∀ A c W, Kd.C (Kd.int .i8) W A x.length x → x.length ≤ c → Calls Try.prog g (#[.slice A x.length c] ++ cap) W fun e W' => e = .returned (.bool (p x)) ∧ Below W.heap.size W W') :
   Calls Try.prog 101 #[.slice A0 l0.length c0, .func (.func g) #[] cap] w fun e w' => e = .returned (.int .i64 (ixa p l0)) ∧ Below w.heap.size w w' := by
  have HF := Aside0.mk hf
  have HR0 := Aside0.mk hr0
  have hmx := Kd.C_max hr0
  clear hf hr0
  go_enter Try.func101, Try.ntmps101
  go_wp2_with fail
  go_loopw [8, 5] (fun v8 v5 wr => ∃ i : Nat, i ≤ l0.length ∧ v8 = .int .i64 i ∧ Aside0 (Below w.heap.size w wr) ∧ Aside0 (∀ j, j < i → ∀ y, l0[j]? = some y → p y = false)) (fun v8 _ _ => l0.length - (intOf v8).toNat)
  case atStart => exact ⟨0, Nat.zero_le _, rfl, ⟨Below.refl _ _⟩, ⟨fun j hj => absurd hj (by omega)⟩⟩
  case round =>
    obtain ⟨i, hi, rfl, HB, HP⟩ := hrel
    by_cases hlt : i < l0.length
    · have hx := List.getElem?_eq_getElem hlt
      have hx2 := rdL_get l0 i hlt
      obtain ⟨ad, A1, c1, rfl, hcell, hl1, hC1⟩ := at_L1 (Kd.C_below HR0.out HB.out) (i : Int) (by omega) (by omega)
      rw [Int.toNat_natCast] at hcell
      rw [← hx2] at hx
      generalize rd_L1 l0 (i : Int) = x at *
      have HM := Aside0.mk (HF.out x (List.mem_of_getElem? hx) A1 c1 _ hC1 hl1)
      have HX := Aside0.mk hx
      clear hx hC1 hx2
      cases hp : p x with
      | true =>
        have HPX := Aside0.mk hp
        rw [hp] at HM
        clear hp
        go_wp2_with (refine HM.out.mono ?_; rintro e w1 ⟨rfl, hb1⟩; have HB1 := Aside0.mk hb1; clear hb1)
        go_ret
        exact ⟨by rw [ixa_found p l0 i x HX.out HP.out HPX.out]; rfl, below_then HB.out HB1.out⟩
      | false =>
        have HPX := Aside0.mk hp
        rw [hp] at HM
        clear hp
        go_wp2_with (refine HM.out.mono ?_; rintro e w1 ⟨rfl, hb1⟩; have HB1 := Aside0.mk hb1; clear hb1)
        go_roundw
        case rel => exact ⟨i + 1, by omega, by go_num, ⟨below_then HB.out HB1.out⟩, ⟨fun j hj y hy => by
          rcases Nat.lt_or_ge j i with h | h
          · exact HP.out j h y hy
          · obtain rfl : j = i := by omega
            rw [HX.out] at hy
            rw [← Option.some.inj hy]; exact HPX.out⟩⟩
        case measure => simp [intOf]; omega
    · have HI := Aside0.mk (show i = l0.length by omega)
      go_wp2_with fail
      go_ret
      exact ⟨by rw [ixa_none p l0 (fun j hj => HP.out j (by rw [HI.out]; exact hj))]; rfl, HB.out⟩
set_option maxHeartbeats 4000000 in
set_option maxRecDepth 100000 in
theorem containsFunc_h (g : FuncId) (hg : ∀ (a : Array Value) (W : World), (callFunc g a).run Try.prog W = .ok (.enter g a) W) (cap : Array Value) (p : List Int → Bool) (A0 : Option Addr) (c0 : Nat) (l0 : List (List Int)) (w : World) (hr0 : Kd.C hk w A0 l0.length l0) (hc0 : l0.length ≤ c0)
   (hf : ∀ x ∈ l0, ∀ A c W, Kd.C (Kd.int .i8) W A x.length x → x.length ≤ c → Calls Try.prog g (#[.slice A x.length c] ++ cap) W fun e W' => e = .returned (.bool (p x)) ∧ Below W.heap.size W W') :
   Calls Try.prog 95 #[.slice A0 l0.length c0, .func (.func g) #[] cap] w fun e w' => e = .returned (.bool (l0.any p)) ∧ Below w.heap.size w w' := by
  have HM := Aside0.mk (indexFunc_h g hg cap p A0 c0 l0 w hr0 hc0 hf)
  have HA := Aside0.mk (ixa_any p l0)
  clear hf hr0 hg hc0
  generalize ixa p l0 = n at *
  generalize l0.any p = b at *
  go_enter Try.func95, Try.ntmps95
  go_wp2_with (go_at_call 101; refine HM.out.mono ?_; rintro e w1 ⟨rfl, hb1⟩; have HB1 := Aside0.mk hb1; clear hb1)
  go_ret
  exact ⟨by rw [← HA.out]; rfl, HB1.out⟩
set_option maxHeartbeats 4000000 in
set_option maxRecDepth 100000 in
theorem hoistsCode_calls (A0 : Option Addr) (c0 : Nat) (hs : List (List Int)) (w : World) (hr : Kd.C hk w A0 hs.length hs) (hc : hs.length ≤ c0) (hh : Any hs) :
    Calls Try.prog 79 #[.slice A0 hs.length c0] w fun e w' => e = .returned (.int .i64 (codeH hs)) ∧ Below w.heap.size w w' := by
  have HM := Aside0.mk (containsFunc_h 96 hoistsCode1_enters #[] (fun h => !okH h) A0 c0 hs w hr hc (fun x hx A c W hr1 hc1 => hoistsCode1_calls A c x W hr1 hc1 (hh.small x hx)))
  have HA := Aside0.mk (show codeH hs = if (hs.any fun h => !okH h) = true then 1 else if (hs.length : Int) ≤ 6 then 0 else 3 by
    unfold codeH
    have : (hs.any fun h => !okH h) = !hs.all okH := by simp [List.all_eq_not_any_not]
    rw [this]
    cases hs.all okH <;> simp)
  clear hr hh
  rw [HA.out]
  clear HA
  generalize (hs.any fun h => !okH h) = c at *
  by_cases h6 : (hs.length : Int) ≤ 6
  all_goals
    cases c
    all_goals
      go_enter Try.func79, Try.ntmps79
      go_wp2_with (first
        | (go_at_call 95; refine HM.out.mono ?_; rintro e wa ⟨rfl, hb⟩; have HB := Aside0.mk hb; clear hb)
        | (go_at_call 84; refine (unless_calls _ _ _).mono ?_; rintro e wa ⟨rfl, hb2⟩; have HB2 := Aside0.mk hb2; clear hb2))
      go_ret
      first
        | exact ⟨by simp [h6], below_then HB.out HB2.out⟩
        | exact ⟨by simp, HB.out⟩
        | exact ⟨by simp [h6], HB.out⟩
end Go.Proofs.Ytmpkgdgbjhegnaa.Arr
