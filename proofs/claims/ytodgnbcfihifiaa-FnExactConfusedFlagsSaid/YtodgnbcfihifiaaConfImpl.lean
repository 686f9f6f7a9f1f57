/- The program's ConfusedFlags. Conditions: no list too long; bytes. -/
import Derived.Test.YtodgnbcfihifiaaConfSpec
import Derived.Test.YtodgnbcfihifiaaPFx1
import Derived.Test.YtodgnbcfihifiaaPFx2
namespace Go.Proofs.Ytodgnbcfihifiaa.Arr
open Go.RowKit Go.Proofs.YtodgnbcfihifiaaW.PrintWords Go.Proofs.YtodgnbcfihifiaaW.PrintLast Go.Proofs.YtodgnbcfihifiaaW.PrintMore Go.Proofs.Ytodgnbcfihifiaa.U Go.Proofs.Ytodgnbcfihifiaa.F
set_option linter.unusedVariables false
set_option linter.unusedSimpArgs false

theorem fill_int {k : IntKind} {z : Int} {cells : Array Value} {i : Nat} {place : Nat → Option (Nat × Nat)} {off : Nat} {rest : List (Nat × Value)} (hp : place i = some (off, 1)) (hc : off + 1 ≤ cells.size) :
    Instr.fill place cells ((i, .int k z) :: rest) = Instr.fill place (cells.setIfInBounds off (.int k z)) rest := by
  rw [Instr.fill, hp]
  have hs : (Value.int k z).cells.size = 1 := rfl
  simp only [hs]
  rw [if_neg (by simp; omega)]
  congr 1
section
variable {P : Program} {ops : Array Oper} {rest : List Oper} {o : Oper} {a : Act} {w0 w : World} {M : List Ent} {Q : Exit → Act → World → Prop}
theorem st_ints2 (hgd : o.guard = none) (d : Nat) (hdst : o.dst = some d) (t : TypeId) (x y : Operand) (ho : o.op = .buildSlice t 2 #[(0, x), (1, y)]) (hm : Mem w0 w M) {k : IntKind} {z z' : Int} {e : TypeId} (hx : a.eval x = .int k z) (hy : a.eval y = .int k z') (hu : P.underlying t = some (.slice e))
    (he : OneTy P e) (hz : ZeroTy P e (vals k [0]))
    (h : ∀ g w1, Mem w0 w1 (⟨g, vals k [z, z'], e, true⟩ :: M) → wpList P ops Q rest (a.put (some d) (.slice (some ⟨g, 0, none⟩) 2 2)) w1) : wpList P ops Q (o :: rest) a w := by
  obtain ⟨zz, hz, hzc⟩ := hz
  obtain ⟨_, hi⟩ := he
  refine wpList_plain hgd fun K hK => ?_
  rw [← hdst] at h
  unfold Oper.wp execOp
  cases hq : P.info? e with
  | none => simp [hq] at hi
  | some i =>
    have hs : i.size = 1 := by simpa [hq] using hi
    have hz' : i.zero = some zz := by simpa [hq] using hz
    have hf := fill_int (k := k) (z := z) (cells := (Array.range (2 * 1)).map (zz.cells[· % zz.cells.size]!)) (off := 0) (place := fun i => some (i * 1, 1)) (i := 0) (rest := [(1, .int k z')]) (by simp) (by simp)
    rw [fill_int (k := k) (z := z') (off := 1) (by simp) (by simp)] at hf
    have hc : (((Array.range (2 * 1)).map (zz.cells[· % zz.cells.size]!)).setIfInBounds 0 (.int k z)).setIfInBounds 1 (.int k z') = vals k [z, z'] := by
      rw [show Array.range (2 * 1) = #[0, 1] from rfl]
      generalize (fun x => zz.cells[x % zz.cells.size]!) = f
      simp [vals]
    rw [hc] at hf
    have hrun : (Instr.buildSlice t 2 #[(0, .int k z), (1, .int k z')]).run P w = .ok (.slice (some ⟨w.heap.size, 0, none⟩) 2 2) (w.alloc (.cells (vals k [z, z']) e)) := by
      simp only [Instr.buildSlice, Sem.run_bind, run_underlying hu w, Result.andThen_ok, sizeOf, typeInfo, run_program, hq, Sem.run_pure, hs, zeroValue, hz']
      rw [if_neg (by omega), if_neg (by omega)]
      simp only [Sem.run_bind, Sem.run_pure, Result.andThen_ok, hq, hz', hf, run_program]
      simp [Instr.fill, newRow, Sem.run_bind]
    simp only [ho, List.map_toArray, List.map_cons, List.map_nil, hx, hy, Sem.run_bind, hrun, Sem.run_pure, Result.andThen_ok]
    exact hK _ _ (h _ _ (hm.new _ _))
end
/-- The first code that is not zero. -/
def fst2 (a b : Int) : Int := if a = 0 then b else a
theorem firstOf_calls (g : Nat) (a b : Int) (w : World) (h : w.heap[g]? = some (.cells (vals .i64 [a, b]) 2 (0, 0))) :
    Calls Try.prog 42 #[.slice (some ⟨g, 0, none⟩) 2 2] w fun e w' => e = .returned (.int .i64 (fst2 a b)) ∧ Below w.heap.size w w' := by
  refine (impl_firstOf.calls 4 _ 2 [a, b] (fst2 a b) w (C_of_cells (by simp) (cells_row h)) (by simp) ?_).mono ?_
  · unfold impl_firstOf.f fst2
    by_cases ha : a = 0
    · by_cases hb : b = 0
      · simp [impl_firstOf.l0, rd, ha, hb, wrap64]
      · simp [impl_firstOf.l0, rd, ha, hb, wrap64]
    · simp [impl_firstOf.l0, rd, ha, wrap64]
  · rintro e w' ⟨rfl, hb⟩
    exact ⟨rfl, by first | exact hb | exact hb.below⟩

theorem within_calls (a lo hi : Int) (w : World) : Calls Try.prog 44 #[.int .i64 a, .int .i64 lo, .int .i64 hi] w fun e w' => e = .returned (.bool (decide (lo ≤ a ∧ a ≤ hi))) ∧ Below w.heap.size w w' := by
  have h : impl_within.f a lo hi = some (decide (lo ≤ a ∧ a ≤ hi)) := by
    unfold impl_within.f
    by_cases h1 : lo ≤ a
    · rw [if_pos h1]
      congr 1
      by_cases h2 : a ≤ hi
      · rw [decide_eq_true h2, decide_eq_true (⟨h1, h2⟩ : lo ≤ a ∧ a ≤ hi)]
      · rw [decide_eq_false h2, decide_eq_false (fun h => h2 h.2)]
    · rw [if_neg h1, decide_eq_false (fun h => h1 h.1)]
  refine (impl_within.calls a lo hi _ w h).mono ?_
  rintro e w' ⟨rfl, h⟩
  exact ⟨rfl, h.below⟩
def unl (b : Bool) (c : Int) : Int := if b = true then 0 else c
theorem unless_calls (b : Bool) (c : Int) (w : World) : Calls Try.prog 43 #[.bool b, .int .i64 c] w fun e w' => e = .returned (.int .i64 (unl b c)) ∧ Below w.heap.size w w' := by
  refine (impl_unless.calls b c (unl b c) w (by unfold impl_unless.f unl; cases b <;> rfl)).mono ?_
  rintro e w' ⟨rfl, h⟩
  exact ⟨rfl, h.below⟩
theorem size_calls (A : Option Addr) (c n : Nat) (w : World) (hn : n ≤ 1048576) : Calls Try.prog 36 #[.slice A n c] w fun e w' => e = .returned (.int .i64 n) ∧ Below w.heap.size w w' := by
  go_enter Try.func36, Try.ntmps36
  go_wp2_with fail
  go_ret
  exact ⟨rfl, Below.refl _ _⟩
theorem aggFlagI : AggTy Try.prog 67 24 := ⟨by kernel_rfl, by kernel_rfl⟩
theorem nilR (W : World) (base : Nat) (hb : base ≤ W.heap.size) : Kd.R (Kd.int .i64) 2 W base (fun _ => True) (.slice none 0 0) [] := ⟨fun k hk => trivial, [], by exact World.ownsRow_nil W _ _ _, Reps.none _ _⟩
set_option maxHeartbeats 8000000 in
set_option maxRecDepth 100000 in
theorem implConfused_calls (A : Option Addr) (c : Nat) (l : List (List Int)) (i most : Int) (w : World) (hr : Kd.C (kA .u8 24) w A l.length l) (hn : l.length ≤ 1048576) (hp : FlagsP l) :
    Calls Try.prog 19 #[.slice A l.length c, .int .i64 i, .int .i64 most] w fun e w' => ∃ v, e = .returned (.tuple #[v, .int .i64 (confW l i most).2]) ∧ Kd.R (Kd.int .i64) 2 w' w.heap.size (fun _ => True) v (confW l i most).1 ∧ Below w.heap.size w w' := by
  have hm := Mem.start w
  have HS := Aside0.mk (fun W (hW : Below w.heap.size w W) => setCode_calls A c l W (Kd.C_below hr hW) hn)
  have HZ := Aside0.mk (fun W => size_calls A c l.length W hn)
  have HI1 := Aside0.mk (fun W => within_calls i 0 ((l.length : Int) - 1) W)
  have HI2 := Aside0.mk (fun W => within_calls most 0 6 W)
  have HR := Aside0.mk hr
  have hwl : wrap64 ((l.length : Int) - 1) = (l.length : Int) - 1 := w64 (by omega) (by omega)
  unfold confW
  clear hr
  by_cases hi : 0 ≤ i ∧ i ≤ (l.length : Int) - 1
  · have HID := Aside0.mk (decide_eq_true hi)
    rw [HID.out] at HI1
    by_cases hs : setC l = 0 ∧ (0 ≤ most ∧ most ≤ 6)
    · rw [if_pos hs.1, if_pos ⟨hi, hs.2⟩]
      rw [hs.1] at HS
      rw [decide_eq_true hs.2] at HI2
      have HUN := Aside0.mk (show unl true 2 = 0 from rfl)
      have HFS := Aside0.mk (show fst2 0 0 = 0 from rfl)
      obtain ⟨hfl, h40⟩ := setC_zero hs.1
      obtain ⟨i, rfl⟩ := Int.eq_ofNat_of_zero_le hi.1
      have hil : i < l.length := by omega
      have hilI : (i : Int) < (l.length : Int) := by omega
      have HCO := Aside0.mk (fun k hk => col_of hfl hp k hk)
      have HLI := Aside0.mk (fun W (hW : Below w.heap.size w W) => litI W w.heap.size hW.size)
      have hm6 := hs.2.2
      have hm0 := hs.2.1
      clear hi hs hfl hp
      go_enter Try.func19, Try.ntmps19
      go_wp2_with (first
          | (refine st_ints2 rfl 24 rfl 44 _ _ rfl hm rfl rfl Try.underlying44 one2 zero2 ?_; clear hm; intro g24 w24 hm)
          | (go_at_call 34; refine (HS.out _ (hm.done rfl)).mono ?_; rintro e w1 ⟨rfl, h⟩; replace hm := hm.after h; clear h)
          | (go_at_call 36; refine (HZ.out _).mono ?_; rintro e w2 ⟨rfl, h⟩; replace hm := hm.after h; clear h)
          | (go_at_call 44; (with_reducible refine (HI2.out _).mono ?_); rintro e w4 ⟨rfl, h⟩; replace hm := hm.after h; clear h)
          | (go_at_call 44; (with_reducible refine (HI1.out _).mono ?_); rintro e w3 ⟨rfl, h⟩; replace hm := hm.after h; clear h)
          | (go_at_call 43; refine (unless_calls _ _ _).mono ?_; rintro e w5 ⟨rfl, h⟩; replace hm := hm.after h; clear h; try rw [HUN.out])
          | (go_at_call 42; refine (firstOf_calls g24 _ _ _ (hm.mem (n := 0) rfl)).mono ?_; rintro e w6 ⟨rfl, h⟩; replace hm := hm.after h; clear h; try rw [HFS.out]))
      have HB0 := Aside0.mk (hm.done rfl)
      clear hm
      go_loopw [32, 9] (fun v32 v9 wr => ∃ k : Nat, k ≤ l.length ∧ v32 = .int .i64 k ∧ Aside0 (Below w.heap.size w wr) ∧ Aside0 (Kd.R (Kd.int .i64) 2 wr w.heap.size (fun _ => True) v9 (confL l (i : Int) most k))) (fun v32 _ _ => l.length - (intOf v32).toNat)
      case atStart => exact ⟨0, by omega, rfl, ⟨below_alloc HB0.out _⟩, ⟨HLI.out _ HB0.out⟩⟩
      case round =>
        clear HB0
        obtain ⟨k, hk, rfl, HB, HO⟩ := hrel
        by_cases hlt : k < l.length
        · have HL := Aside0.mk (confL_len l (i : Int) most k)
          have HCS := Aside0.mk (show confL l (i : Int) most (k + 1) = confL l (i : Int) most k ++ (if confB l (i : Int) most k = true then [(k : Int)] else []) from rfl)
          obtain ⟨ad, rfl, hxi, hci⟩ := at_A HR.out i hil
          obtain ⟨ad', had, hxk, hck⟩ := at_A HR.out k hlt
          obtain rfl := Option.some.inj had
          have HCI := Aside0.mk (fun W (hW : Below w.heap.size w W) => cells_of (p := ad.add (i * 24)) (k := .u8) (x := ra l i) (by rw [hxi]; exact fun j hj => pw_cell_below hW (hci j hj)))
          have HCK := Aside0.mk (fun W (hW : Below w.heap.size w W) => cells_of (p := ad.add (k * 24)) (k := .u8) (x := ra l k) (by rw [hxk]; exact fun j hj => pw_cell_below hW (hck j hj)))
          have HXI := Aside0.mk (show ((ra l i).map (Value.int .u8)).length = 24 by rw [List.length_map]; exact hxi)
          have HXK := Aside0.mk (show ((ra l k).map (Value.int .u8)).length = 24 by rw [List.length_map]; exact hxk)
          have HSK := Aside0.mk (show (vals .u8 (ra l k)).size = 24 by rw [vals_size]; exact hxk)
          have HX24 := Aside0.mk hxk
          have HFA := Aside0.mk (fun W => afar_calls (ra l i) (ra l k) W (HCO.out i hil) (HCO.out k hlt) hxi hxk)
          have hm := Mem.start wr
          clear hci hck had hxi hxk
          by_cases hki : k = i
          · have hne : ((k : Int) != (i : Int)) = false := by rw [bne_eq_false_iff_eq]; omega
            have HCB := Aside0.mk (show confB l (i : Int) most k = false by unfold confB; rw [decide_eq_false (fun h => h (by omega))]; rfl)
            rw [HCB.out] at HCS
            simp only [Bool.false_eq_true, if_false, List.append_nil] at HCS
            clear hki HFA HCB
            go_wp2_with (first
              | ((with_reducible refine gt_load 67 ?_); refine Kd.event_run rfl (y_loadA (by rfl) (p := ad.add (k * 24)) (by rfl) (HCK.out _ HB.out) aggFlagI HXK.out) ?_)
                | ((with_reducible refine gt_store 67 ?_); refine st_full rfl 67 _ _ rfl hm (S := ra l k) rfl rfl 0 rfl aggFlagI HX24.out (by rw [zs_length]) ?_; clear hm; intro ws hm; simp only [List.set_cons_zero] at hm)
              | (first | fail | ((with_reducible refine gt_load 67 ?_); (first | (refine st_load rfl 67 _ rfl hm rfl 0 rfl agg67 (by first | omega | assumption | (simp only [lens]; first | omega | assumption) | (simp [lens]; done) | (simp [lens]; omega)) ?_) | (refine st_load rfl 67 _ rfl hm rfl 1 rfl agg67 (by first | omega | assumption | (simp only [lens]; first | omega | assumption) | (simp [lens]; done) | (simp [lens]; omega)) ?_) | (refine st_load rfl 67 _ rfl hm rfl 2 rfl agg67 (by first | omega | assumption | (simp only [lens]; first | omega | assumption) | (simp [lens]; done) | (simp [lens]; omega)) ?_) | (refine st_part rfl 67 _ rfl hm rfl 0 rfl agg67 (by first | omega | assumption | (simp only [lens]; first | omega | assumption) | (simp [lens]; done) | (simp [lens]; omega)) ?_) | (refine st_part rfl 67 _ rfl hm rfl 1 rfl agg67 (by first | omega | assumption | (simp only [lens]; first | omega | assumption) | (simp [lens]; done) | (simp [lens]; omega)) ?_) | (refine st_part rfl 67 _ rfl hm rfl 2 rfl agg67 (by first | omega | assumption | (simp only [lens]; first | omega | assumption) | (simp [lens]; done) | (simp [lens]; omega)) ?_))) | ((with_reducible refine gt_alloc 11 67 ?_); refine st_alloc rfl 11 rfl 67 rfl hm zero67 ?_; clear hm; intro g11 w11 hm) | ((with_reducible refine gt_store 67 ?_); (first | (refine st_full rfl 67 _ _ rfl hm rfl rfl 0 rfl agg67 (by first | omega | assumption | (simp only [lens]; first | omega | assumption) | (simp [lens]; done) | (simp [lens]; omega)) (by first | omega | assumption | (simp only [lens]; first | omega | assumption) | (simp [lens]; done) | (simp [lens]; omega)) ?_) | (refine st_full rfl 67 _ _ rfl hm rfl rfl 1 rfl agg67 (by first | omega | assumption | (simp only [lens]; first | omega | assumption) | (simp [lens]; done) | (simp [lens]; omega)) (by first | omega | assumption | (simp only [lens]; first | omega | assumption) | (simp [lens]; done) | (simp [lens]; omega)) ?_) | (refine st_full rfl 67 _ _ rfl hm rfl rfl 2 rfl agg67 (by first | omega | assumption | (simp only [lens]; first | omega | assumption) | (simp [lens]; done) | (simp [lens]; omega)) (by first | omega | assumption | (simp only [lens]; first | omega | assumption) | (simp [lens]; done) | (simp [lens]; omega)) ?_) | (refine st_put rfl 67 _ _ rfl hm rfl rfl 0 rfl agg67 (by first | omega | assumption | (simp only [lens]; first | omega | assumption) | (simp [lens]; done) | (simp [lens]; omega)) (by first | omega | assumption | (simp only [lens]; first | omega | assumption) | (simp [lens]; done) | (simp [lens]; omega)) ?_) | (refine st_put rfl 67 _ _ rfl hm rfl rfl 1 rfl agg67 (by first | omega | assumption | (simp only [lens]; first | omega | assumption) | (simp [lens]; done) | (simp [lens]; omega)) (by first | omega | assumption | (simp only [lens]; first | omega | assumption) | (simp [lens]; done) | (simp [lens]; omega)) ?_) | (refine st_put rfl 67 _ _ rfl hm rfl rfl 2 rfl agg67 (by first | omega | assumption | (simp only [lens]; first | omega | assumption) | (simp [lens]; done) | (simp [lens]; omega)) (by first | omega | assumption | (simp only [lens]; first | omega | assumption) | (simp [lens]; done) | (simp [lens]; omega)) ?_)); clear hm; intro ws hm; simp only [List.set_cons_zero, List.set_cons_succ] at hm)))
            have HB5 := Aside0.mk (hm.done rfl)
            clear hm
            refine start_ (n := 13) (S := fun w' => Below wr.heap.size wr w') (ds := []) #[false, false, false, false, false, false, false, false, false, false, false, false, false] (by kernel_rfl) rfl rfl (below_drew1 HB5.out) (fun hHeld => ?_)
            refine pure_ (i := 0) (N := some 37) (v := ?_) (a' := ?_) #[true, false, false, false, false, false, false, false, false, false, false, false, false] rfl rfl (by kernel_rfl) (fun _ _ _ h => h) (Or.inl ⟨by rfl, ?_⟩) ?_ ?_
            rotate_left
            · intro w'
              go_simp
              with_reducible rfl
            rotate_left
            · simp only [Act.put, List.setIfInBounds_toArray, List.set_cons_zero, List.set_cons_succ, i64_w, i32_w]
              rfl
            refine pure_ (i := 1) (N := some 38) (v := ?_) (a' := ?_) #[true, true, false, false, false, false, false, false, false, false, false, false, false] rfl rfl (by kernel_rfl) (fun _ _ _ h => h) (Or.inl ⟨by rfl, ?_⟩) ?_ ?_
            rotate_left
            · intro w'
              go_simp
              with_reducible rfl
            rotate_left
            · simp only [Act.put, List.setIfInBounds_toArray, List.set_cons_zero, List.set_cons_succ, i64_w, i32_w]
              rfl
            refine pure_ (i := 2) (N := some 39) (v := ?_) (a' := ?_) #[true, true, true, false, false, false, false, false, false, false, false, false, false] rfl rfl (by kernel_rfl) (fun _ _ _ h => h) (Or.inl ⟨by rfl, ?_⟩) ?_ ?_
            rotate_left
            · intro w'
              go_simp
              with_reducible rfl
            rotate_left
            · simp only [Act.put, List.setIfInBounds_toArray, List.set_cons_zero, List.set_cons_succ, i64_w, i32_w]
              rfl
            refine pure_ (i := 3) (N := some 40) (v := ?_) (a' := ?_) #[true, true, true, true, false, false, false, false, false, false, false, false, false] rfl rfl (by kernel_rfl) (fun _ _ _ h => h) (Or.inl ⟨by rfl, ?_⟩) ?_ ?_
            rotate_left
            · intro w'
              go_simp
              with_reducible rfl
            rotate_left
            · simp only [Act.put, List.setIfInBounds_toArray, List.set_cons_zero, List.set_cons_succ, i64_w, i32_w]
              rfl
            refine pure_ (i := 4) (N := some 41) (v := undef) (a' := ?_) #[true, true, true, true, true, false, false, false, false, false, false, false, false] rfl rfl (by kernel_rfl) (fun _ _ _ h => h) (Or.inr ⟨by rfl, rfl⟩) ?_ ?_
            rotate_left
            · simp only [Act.put, List.setIfInBounds_toArray, List.set_cons_zero, List.set_cons_succ, i64_w, i32_w]
              rfl
            refine pure_ (i := 5) (N := some 42) (v := undef) (a' := ?_) #[true, true, true, true, true, true, false, false, false, false, false, false, false] rfl rfl (by kernel_rfl) (fun _ _ _ h => h) (Or.inr ⟨by rfl, rfl⟩) ?_ ?_
            rotate_left
            · simp only [Act.put, List.setIfInBounds_toArray, List.set_cons_zero, List.set_cons_succ, i64_w, i32_w]
              rfl
            refine pure_ (i := 6) (N := some 43) (v := undef) (a' := ?_) #[true, true, true, true, true, true, true, false, false, false, false, false, false] rfl rfl (by kernel_rfl) (fun _ _ _ h => h) (Or.inr ⟨by rfl, rfl⟩) ?_ ?_
            rotate_left
            · simp only [Act.put, List.setIfInBounds_toArray, List.set_cons_zero, List.set_cons_succ, i64_w, i32_w]
              rfl
            refine pure_ (i := 7) (N := some 44) (v := undef) (a' := ?_) #[true, true, true, true, true, true, true, true, false, false, false, false, false] rfl rfl (by kernel_rfl) (fun _ _ _ h => h) (Or.inr ⟨by rfl, rfl⟩) ?_ ?_
            rotate_left
            · simp only [Act.put, List.setIfInBounds_toArray, List.set_cons_zero, List.set_cons_succ, i64_w, i32_w]
              rfl
            refine pure_ (i := 8) (N := some 45) (v := undef) (a' := ?_) #[true, true, true, true, true, true, true, true, true, false, false, false, false] rfl rfl (by kernel_rfl) (fun _ _ _ h => h) (Or.inr ⟨by rfl, rfl⟩) ?_ ?_
            rotate_left
            · simp only [Act.put, List.setIfInBounds_toArray, List.set_cons_zero, List.set_cons_succ, i64_w, i32_w]
              rfl
            refine pure_ (i := 9) (N := some 46) (v := undef) (a' := ?_) #[true, true, true, true, true, true, true, true, true, true, false, false, false] rfl rfl (by kernel_rfl) (fun _ _ _ h => h) (Or.inr ⟨by rfl, rfl⟩) ?_ ?_
            rotate_left
            · simp only [Act.put, List.setIfInBounds_toArray, List.set_cons_zero, List.set_cons_succ, i64_w, i32_w]
              rfl
            refine pure_ (i := 10) (N := some 47) (v := undef) (a' := ?_) #[true, true, true, true, true, true, true, true, true, true, true, false, false] rfl rfl (by kernel_rfl) (fun _ _ _ h => h) (Or.inr ⟨by rfl, rfl⟩) ?_ ?_
            rotate_left
            · simp only [Act.put, List.setIfInBounds_toArray, List.set_cons_zero, List.set_cons_succ, i64_w, i32_w]
              rfl
            refine pure_ (i := 11) (N := some 48) (v := undef) (a' := ?_) #[true, true, true, true, true, true, true, true, true, true, true, true, false] rfl rfl (by kernel_rfl) (fun _ _ _ h => h) (Or.inr ⟨by rfl, rfl⟩) ?_ ?_
            rotate_left
            · simp only [Act.put, List.setIfInBounds_toArray, List.set_cons_zero, List.set_cons_succ, i64_w, i32_w]
              rfl
            refine pure_ (i := 12) (N := some 49) (v := ?_) (a' := ?_) #[true, true, true, true, true, true, true, true, true, true, true, true, true] rfl rfl (by kernel_rfl) (fun _ _ _ h => h) (Or.inl ⟨by rfl, ?_⟩) ?_ ?_
            rotate_left
            · intro w'
              go_simp
              with_reducible rfl
            rotate_left
            · simp only [Act.put, List.setIfInBounds_toArray, List.set_cons_zero, List.set_cons_succ, i64_w, i32_w]
              rfl
            refine done_ (by kernel_rfl) ?_
            skip
            have HB6 := Aside0.mk hHeld
            clear hHeld
            go_wp2_with fail
            go_roundw
            case rel => exact ⟨k + 1, by omega, by go_num, ⟨below_then HB.out HB6.out⟩, ⟨by rw [HCS.out]; exact Kd.R_below HO.out HB6.out⟩⟩
            case measure => simp [intOf]; omega
          · have hne : ((k : Int) != (i : Int)) = true := by rw [bne_iff_ne]; omega
            have HCB := Aside0.mk (show confB l (i : Int) most k = decide (farF (ra l i) (ra l k) ≤ most) by unfold confB; rw [decide_eq_true (show (k : Int) ≠ (i : Int) by omega), Int.toNat_natCast]; rfl)
            have hfb := farF_b (ra l i) (ra l k)
            generalize farF (ra l i) (ra l k) = f at *
            by_cases hfm : f ≤ most
            · have hfd : decide (f ≤ most) = true := decide_eq_true hfm
              rw [hfd] at HCB
              rw [HCB.out] at HCS
              simp only [if_true] at HCS
              clear HCB
              go_wp2_with (first
                | ((with_reducible refine gt_load 67 ?_); refine Kd.event_run rfl (y_loadA (by rfl) (p := ad.add (k * 24)) (by rfl) (HCK.out _ HB.out) aggFlagI HXK.out) ?_)
                | ((with_reducible refine gt_store 67 ?_); refine st_full rfl 67 _ _ rfl hm (S := ra l k) rfl rfl 0 rfl aggFlagI HX24.out (by rw [zs_length]) ?_; clear hm; intro ws hm; simp only [List.set_cons_zero] at hm)
                | (first | fail | ((with_reducible refine gt_load 67 ?_); (first | (refine st_load rfl 67 _ rfl hm rfl 0 rfl agg67 (by first | omega | assumption | (simp only [lens]; first | omega | assumption) | (simp [lens]; done) | (simp [lens]; omega)) ?_) | (refine st_load rfl 67 _ rfl hm rfl 1 rfl agg67 (by first | omega | assumption | (simp only [lens]; first | omega | assumption) | (simp [lens]; done) | (simp [lens]; omega)) ?_) | (refine st_load rfl 67 _ rfl hm rfl 2 rfl agg67 (by first | omega | assumption | (simp only [lens]; first | omega | assumption) | (simp [lens]; done) | (simp [lens]; omega)) ?_) | (refine st_part rfl 67 _ rfl hm rfl 0 rfl agg67 (by first | omega | assumption | (simp only [lens]; first | omega | assumption) | (simp [lens]; done) | (simp [lens]; omega)) ?_) | (refine st_part rfl 67 _ rfl hm rfl 1 rfl agg67 (by first | omega | assumption | (simp only [lens]; first | omega | assumption) | (simp [lens]; done) | (simp [lens]; omega)) ?_) | (refine st_part rfl 67 _ rfl hm rfl 2 rfl agg67 (by first | omega | assumption | (simp only [lens]; first | omega | assumption) | (simp [lens]; done) | (simp [lens]; omega)) ?_))) | ((with_reducible refine gt_alloc 11 67 ?_); refine st_alloc rfl 11 rfl 67 rfl hm zero67 ?_; clear hm; intro g11 w11 hm) | ((with_reducible refine gt_store 67 ?_); (first | (refine st_full rfl 67 _ _ rfl hm rfl rfl 0 rfl agg67 (by first | omega | assumption | (simp only [lens]; first | omega | assumption) | (simp [lens]; done) | (simp [lens]; omega)) (by first | omega | assumption | (simp only [lens]; first | omega | assumption) | (simp [lens]; done) | (simp [lens]; omega)) ?_) | (refine st_full rfl 67 _ _ rfl hm rfl rfl 1 rfl agg67 (by first | omega | assumption | (simp only [lens]; first | omega | assumption) | (simp [lens]; done) | (simp [lens]; omega)) (by first | omega | assumption | (simp only [lens]; first | omega | assumption) | (simp [lens]; done) | (simp [lens]; omega)) ?_) | (refine st_full rfl 67 _ _ rfl hm rfl rfl 2 rfl agg67 (by first | omega | assumption | (simp only [lens]; first | omega | assumption) | (simp [lens]; done) | (simp [lens]; omega)) (by first | omega | assumption | (simp only [lens]; first | omega | assumption) | (simp [lens]; done) | (simp [lens]; omega)) ?_) | (refine st_put rfl 67 _ _ rfl hm rfl rfl 0 rfl agg67 (by first | omega | assumption | (simp only [lens]; first | omega | assumption) | (simp [lens]; done) | (simp [lens]; omega)) (by first | omega | assumption | (simp only [lens]; first | omega | assumption) | (simp [lens]; done) | (simp [lens]; omega)) ?_) | (refine st_put rfl 67 _ _ rfl hm rfl rfl 1 rfl agg67 (by first | omega | assumption | (simp only [lens]; first | omega | assumption) | (simp [lens]; done) | (simp [lens]; omega)) (by first | omega | assumption | (simp only [lens]; first | omega | assumption) | (simp [lens]; done) | (simp [lens]; omega)) ?_) | (refine st_put rfl 67 _ _ rfl hm rfl rfl 2 rfl agg67 (by first | omega | assumption | (simp only [lens]; first | omega | assumption) | (simp [lens]; done) | (simp [lens]; omega)) (by first | omega | assumption | (simp only [lens]; first | omega | assumption) | (simp [lens]; done) | (simp [lens]; omega)) ?_)); clear hm; intro ws hm; simp only [List.set_cons_zero, List.set_cons_succ] at hm)))
              have HG := Aside0.mk (hm.mem (n := 0) rfl)
              have HB5 := Aside0.mk (hm.done rfl)
              clear hm
              refine start_ (n := 13) (S := fun w' => Below wr.heap.size wr w' ∧ w'.heap[g11]? = some (.cells (vals .u8 (ra l k)) 67 (0, 0))) (ds := []) #[false, false, false, false, false, false, false, false, false, false, false, false, false] (by kernel_rfl) rfl rfl (⟨below_drew1 HB5.out, HG.out⟩) (fun hHeld => ?_)
              refine pure_ (i := 0) (N := some 37) (v := ?_) (a' := ?_) #[true, false, false, false, false, false, false, false, false, false, false, false, false] rfl rfl (by kernel_rfl) (fun _ _ _ h => h) (Or.inl ⟨by rfl, ?_⟩) ?_ ?_
              rotate_left
              · intro w'
                go_simp
                with_reducible rfl
              rotate_left
              · simp only [Act.put, List.setIfInBounds_toArray, List.set_cons_zero, List.set_cons_succ, i64_w, i32_w]
                rfl
              refine pure_ (i := 1) (N := some 38) (v := ?_) (a' := ?_) #[true, true, false, false, false, false, false, false, false, false, false, false, false] rfl rfl (by kernel_rfl) (fun _ _ _ h => h) (Or.inl ⟨by rfl, ?_⟩) ?_ ?_
              rotate_left
              · intro w'
                go_simp
                with_reducible rfl
              rotate_left
              · simp only [Act.put, List.setIfInBounds_toArray, List.set_cons_zero, List.set_cons_succ, i64_w, i32_w]
                rfl
              refine pure_ (i := 2) (N := some 39) (v := ?_) (a' := ?_) #[true, true, true, false, false, false, false, false, false, false, false, false, false] rfl rfl (by kernel_rfl) (fun _ _ _ h => h) (Or.inl ⟨by rfl, ?_⟩) ?_ ?_
              rotate_left
              · intro w'
                go_simp
                with_reducible rfl
              rotate_left
              · simp only [Act.put, List.setIfInBounds_toArray, List.set_cons_zero, List.set_cons_succ, i64_w, i32_w]
                rfl
              refine pure_ (i := 3) (N := some 40) (v := ?_) (a' := ?_) #[true, true, true, true, false, false, false, false, false, false, false, false, false] rfl rfl (by kernel_rfl) (fun _ _ _ h => h) (Or.inl ⟨by rfl, ?_⟩) ?_ ?_
              rotate_left
              · intro w'
                go_simp
                with_reducible rfl
              rotate_left
              · simp only [Act.put, List.setIfInBounds_toArray, List.set_cons_zero, List.set_cons_succ, i64_w, i32_w]
                rfl
              refine pure_ (i := 4) (N := some 41) (v := ?_) (a' := ?_) #[true, true, true, true, true, false, false, false, false, false, false, false, false] rfl rfl (by kernel_rfl) (fun _ _ _ h => h) (Or.inl ⟨by rfl, ?_⟩) ?_ ?_
              rotate_left
              · intro w'
                go_simp
                with_reducible rfl
              rotate_left
              · simp only [Act.put, List.setIfInBounds_toArray, List.set_cons_zero, List.set_cons_succ, i64_w, i32_w]
                rfl
              refine pure_ (i := 5) (N := some 42) (v := ?_) (a' := ?_) #[true, true, true, true, true, true, false, false, false, false, false, false, false] rfl rfl (by kernel_rfl) (fun _ _ _ h => h) (Or.inl ⟨by rfl, ?_⟩) ?_ ?_
              rotate_left
              · intro w'
                go_simp
                with_reducible rfl
              rotate_left
              · simp only [Act.put, List.setIfInBounds_toArray, List.set_cons_zero, List.set_cons_succ, i64_w, i32_w]
                rfl
              refine pure_ (i := 6) (N := some 43) (v := ?_) (a' := ?_) #[true, true, true, true, true, true, true, false, false, false, false, false, false] rfl rfl (by kernel_rfl) (fun _ _ _ h => h) (Or.inl ⟨by rfl, ?_⟩) ?_ ?_
              rotate_left
              · intro w'
                go_simp
                with_reducible rfl
              rotate_left
              · simp only [Act.put, List.setIfInBounds_toArray, List.set_cons_zero, List.set_cons_succ, i64_w, i32_w]
                rfl
              refine pure_ (i := 10) (N := some 47) (v := ?_) (a' := ?_) #[true, true, true, true, true, true, true, false, false, false, true, false, false] rfl rfl (by kernel_rfl) (fun _ _ _ h => h) (Or.inl ⟨by rfl, ?_⟩) ?_ ?_
              rotate_left
              · intro w'
                go_simp
                with_reducible rfl
              rotate_left
              · simp only [Act.put, List.setIfInBounds_toArray, List.set_cons_zero, List.set_cons_succ, i64_w, i32_w]
                rfl
              refine take_ (i := 7) (N := some 44) (v := .agg (vals .u8 (ra l i))) (a' := ?_) #[true, true, true, true, true, true, true, true, false, false, true, false, false] rfl rfl (by kernel_rfl) (fun _ _ _ h => h) (Or.inl ⟨by rfl, ?_⟩) hHeld ?_ ?_
              · intro w' s0
                exact y_loadA (by rfl) (p := ad.add (i * 24)) (by rfl) (HCI.out _ (below_then HB.out s0.1)) aggFlagI HXI.out
              rotate_left
              · simp only [Act.put, List.setIfInBounds_toArray, List.set_cons_zero, List.set_cons_succ, i64_w, i32_w]
                rfl
              refine take_ (i := 8) (N := some 45) (v := .agg (vals .u8 (ra l k))) (a' := ?_) #[true, true, true, true, true, true, true, true, true, false, true, false, false] rfl rfl (by kernel_rfl) (fun _ _ _ h => h) (Or.inl ⟨by rfl, ?_⟩) hHeld ?_ ?_
              · intro w' s0
                exact y_rowA (by rfl) (by rfl) s0.2 aggFlagI HSK.out
              rotate_left
              · simp only [Act.put, List.setIfInBounds_toArray, List.set_cons_zero, List.set_cons_succ, i64_w, i32_w]
                rfl
              refine one_ (i := 9) (N := some 46) #[true, true, true, true, true, true, true, true, true, true, true, false, false] rfl rfl (by kernel_rfl) (by decide) (fun K hK => ?_)
              refine goes_ Try.func45 (by kernel_rfl) rfl #[.agg (vals .u8 (ra l i)), .agg (vals .u8 (ra l k))] (by rfl) rfl rfl (by simp only [List.map_toArray, List.map_cons, List.map_nil]; rfl) ?_
              refine (HFA.out _).mono ?_
              rintro e w5 ⟨rfl, h⟩
              refine ⟨_, rfl, ?_⟩
              refine hK.out _ _ (⟨hHeld.1.trans (h.mono hHeld.1.size), (h.block _ (lt_of_some hHeld.2)).trans hHeld.2⟩) (fun hHeld => ?_)
              clear hK K
              refine norm_ (a' := ?_) ?_ ?_
              rotate_left
              · show Act.put _ (some 46) _ = _
                simp only [Act.put, List.setIfInBounds_toArray, List.set_cons_zero, List.set_cons_succ, i64_w, i32_w]
                rfl
              refine pure_ (i := 11) (N := some 48) (v := ?_) (a' := ?_) #[true, true, true, true, true, true, true, true, true, true, true, true, false] rfl rfl (by kernel_rfl) (fun _ _ _ h => h) (Or.inl ⟨by rfl, ?_⟩) ?_ ?_
              rotate_left
              · intro w'
                go_simp
                with_reducible rfl
              rotate_left
              · simp only [Act.put, List.setIfInBounds_toArray, List.set_cons_zero, List.set_cons_succ, i64_w, i32_w]
                rfl
              refine pure_ (i := 12) (N := some 49) (v := ?_) (a' := ?_) #[true, true, true, true, true, true, true, true, true, true, true, true, true] rfl rfl (by kernel_rfl) (fun _ _ _ h => h) (Or.inl ⟨by rfl, ?_⟩) ?_ ?_
              rotate_left
              · intro w'
                go_simp
                with_reducible rfl
              rotate_left
              · simp only [Act.put, List.setIfInBounds_toArray, List.set_cons_zero, List.set_cons_succ, i64_w, i32_w]
                rfl
              refine done_ (by kernel_rfl) ?_
              skip
              have HB6 := Aside0.mk hHeld.1
              have HB7 := Aside0.mk (below_then HB.out hHeld.1)
              clear hHeld HG HB5
              go_wp2_with (first
                | ((with_reducible refine gate_builtin (b := .append) (xs := #[.tmp 50, .tmp 52]) rfl ?_); at_builtin; refine Kd.R_append (Kd.int .i64) (w0 := w) w.heap.size rfl (.tmp 50) (.tmp 52) 44 2 (.int .i64 0) 8 rfl Try.underlying44 infoI64F rfl (by decide) (by omega) u9 (confL l (i : Int) most k) (k : Int) [.int .i64 (k : Int)] (fun _ => True) (fun _ => False) rfl rfl rfl (fun _ hk => hk.elim) (fun _ _ => trivial) (Kd.R_below HO.out HB6.out) HB7.out HB7.out.size (by have := HL.out; omega) ?_; intro v7 w7 ho7 hb7 hg7 hat7; have HO7 := Aside0.mk ho7; have HB8 := Aside0.mk hb7; clear ho7 hb7 hg7 hat7))
              go_roundw
              case rel => exact ⟨k + 1, by omega, by go_num, HB8, ⟨by rw [HCS.out]; exact HO7.out⟩⟩
              case measure => simp [intOf]; omega
            · have hfd : decide (f ≤ most) = false := decide_eq_false hfm
              rw [hfd] at HCB
              rw [HCB.out] at HCS
              simp only [Bool.false_eq_true, if_false, List.append_nil] at HCS
              clear HCB
              go_wp2_with (first
                | ((with_reducible refine gt_load 67 ?_); refine Kd.event_run rfl (y_loadA (by rfl) (p := ad.add (k * 24)) (by rfl) (HCK.out _ HB.out) aggFlagI HXK.out) ?_)
                | ((with_reducible refine gt_store 67 ?_); refine st_full rfl 67 _ _ rfl hm (S := ra l k) rfl rfl 0 rfl aggFlagI HX24.out (by rw [zs_length]) ?_; clear hm; intro ws hm; simp only [List.set_cons_zero] at hm)
                | (first | fail | ((with_reducible refine gt_load 67 ?_); (first | (refine st_load rfl 67 _ rfl hm rfl 0 rfl agg67 (by first | omega | assumption | (simp only [lens]; first | omega | assumption) | (simp [lens]; done) | (simp [lens]; omega)) ?_) | (refine st_load rfl 67 _ rfl hm rfl 1 rfl agg67 (by first | omega | assumption | (simp only [lens]; first | omega | assumption) | (simp [lens]; done) | (simp [lens]; omega)) ?_) | (refine st_load rfl 67 _ rfl hm rfl 2 rfl agg67 (by first | omega | assumption | (simp only [lens]; first | omega | assumption) | (simp [lens]; done) | (simp [lens]; omega)) ?_) | (refine st_part rfl 67 _ rfl hm rfl 0 rfl agg67 (by first | omega | assumption | (simp only [lens]; first | omega | assumption) | (simp [lens]; done) | (simp [lens]; omega)) ?_) | (refine st_part rfl 67 _ rfl hm rfl 1 rfl agg67 (by first | omega | assumption | (simp only [lens]; first | omega | assumption) | (simp [lens]; done) | (simp [lens]; omega)) ?_) | (refine st_part rfl 67 _ rfl hm rfl 2 rfl agg67 (by first | omega | assumption | (simp only [lens]; first | omega | assumption) | (simp [lens]; done) | (simp [lens]; omega)) ?_))) | ((with_reducible refine gt_alloc 11 67 ?_); refine st_alloc rfl 11 rfl 67 rfl hm zero67 ?_; clear hm; intro g11 w11 hm) | ((with_reducible refine gt_store 67 ?_); (first | (refine st_full rfl 67 _ _ rfl hm rfl rfl 0 rfl agg67 (by first | omega | assumption | (simp only [lens]; first | omega | assumption) | (simp [lens]; done) | (simp [lens]; omega)) (by first | omega | assumption | (simp only [lens]; first | omega | assumption) | (simp [lens]; done) | (simp [lens]; omega)) ?_) | (refine st_full rfl 67 _ _ rfl hm rfl rfl 1 rfl agg67 (by first | omega | assumption | (simp only [lens]; first | omega | assumption) | (simp [lens]; done) | (simp [lens]; omega)) (by first | omega | assumption | (simp only [lens]; first | omega | assumption) | (simp [lens]; done) | (simp [lens]; omega)) ?_) | (refine st_full rfl 67 _ _ rfl hm rfl rfl 2 rfl agg67 (by first | omega | assumption | (simp only [lens]; first | omega | assumption) | (simp [lens]; done) | (simp [lens]; omega)) (by first | omega | assumption | (simp only [lens]; first | omega | assumption) | (simp [lens]; done) | (simp [lens]; omega)) ?_) | (refine st_put rfl 67 _ _ rfl hm rfl rfl 0 rfl agg67 (by first | omega | assumption | (simp only [lens]; first | omega | assumption) | (simp [lens]; done) | (simp [lens]; omega)) (by first | omega | assumption | (simp only [lens]; first | omega | assumption) | (simp [lens]; done) | (simp [lens]; omega)) ?_) | (refine st_put rfl 67 _ _ rfl hm rfl rfl 1 rfl agg67 (by first | omega | assumption | (simp only [lens]; first | omega | assumption) | (simp [lens]; done) | (simp [lens]; omega)) (by first | omega | assumption | (simp only [lens]; first | omega | assumption) | (simp [lens]; done) | (simp [lens]; omega)) ?_) | (refine st_put rfl 67 _ _ rfl hm rfl rfl 2 rfl agg67 (by first | omega | assumption | (simp only [lens]; first | omega | assumption) | (simp [lens]; done) | (simp [lens]; omega)) (by first | omega | assumption | (simp only [lens]; first | omega | assumption) | (simp [lens]; done) | (simp [lens]; omega)) ?_)); clear hm; intro ws hm; simp only [List.set_cons_zero, List.set_cons_succ] at hm)))
              have HG := Aside0.mk (hm.mem (n := 0) rfl)
              have HB5 := Aside0.mk (hm.done rfl)
              clear hm
              refine start_ (n := 13) (S := fun w' => Below wr.heap.size wr w' ∧ w'.heap[g11]? = some (.cells (vals .u8 (ra l k)) 67 (0, 0))) (ds := []) #[false, false, false, false, false, false, false, false, false, false, false, false, false] (by kernel_rfl) rfl rfl (⟨below_drew1 HB5.out, HG.out⟩) (fun hHeld => ?_)
              refine pure_ (i := 0) (N := some 37) (v := ?_) (a' := ?_) #[true, false, false, false, false, false, false, false, false, false, false, false, false] rfl rfl (by kernel_rfl) (fun _ _ _ h => h) (Or.inl ⟨by rfl, ?_⟩) ?_ ?_
              rotate_left
              · intro w'
                go_simp
                with_reducible rfl
              rotate_left
              · simp only [Act.put, List.setIfInBounds_toArray, List.set_cons_zero, List.set_cons_succ, i64_w, i32_w]
                rfl
              refine pure_ (i := 1) (N := some 38) (v := ?_) (a' := ?_) #[true, true, false, false, false, false, false, false, false, false, false, false, false] rfl rfl (by kernel_rfl) (fun _ _ _ h => h) (Or.inl ⟨by rfl, ?_⟩) ?_ ?_
              rotate_left
              · intro w'
                go_simp
                with_reducible rfl
              rotate_left
              · simp only [Act.put, List.setIfInBounds_toArray, List.set_cons_zero, List.set_cons_succ, i64_w, i32_w]
                rfl
              refine pure_ (i := 2) (N := some 39) (v := ?_) (a' := ?_) #[true, true, true, false, false, false, false, false, false, false, false, false, false] rfl rfl (by kernel_rfl) (fun _ _ _ h => h) (Or.inl ⟨by rfl, ?_⟩) ?_ ?_
              rotate_left
              · intro w'
                go_simp
                with_reducible rfl
              rotate_left
              · simp only [Act.put, List.setIfInBounds_toArray, List.set_cons_zero, List.set_cons_succ, i64_w, i32_w]
                rfl
              refine pure_ (i := 3) (N := some 40) (v := ?_) (a' := ?_) #[true, true, true, true, false, false, false, false, false, false, false, false, false] rfl rfl (by kernel_rfl) (fun _ _ _ h => h) (Or.inl ⟨by rfl, ?_⟩) ?_ ?_
              rotate_left
              · intro w'
                go_simp
                with_reducible rfl
              rotate_left
              · simp only [Act.put, List.setIfInBounds_toArray, List.set_cons_zero, List.set_cons_succ, i64_w, i32_w]
                rfl
              refine pure_ (i := 4) (N := some 41) (v := ?_) (a' := ?_) #[true, true, true, true, true, false, false, false, false, false, false, false, false] rfl rfl (by kernel_rfl) (fun _ _ _ h => h) (Or.inl ⟨by rfl, ?_⟩) ?_ ?_
              rotate_left
              · intro w'
                go_simp
                with_reducible rfl
              rotate_left
              · simp only [Act.put, List.setIfInBounds_toArray, List.set_cons_zero, List.set_cons_succ, i64_w, i32_w]
                rfl
              refine pure_ (i := 5) (N := some 42) (v := ?_) (a' := ?_) #[true, true, true, true, true, true, false, false, false, false, false, false, false] rfl rfl (by kernel_rfl) (fun _ _ _ h => h) (Or.inl ⟨by rfl, ?_⟩) ?_ ?_
              rotate_left
              · intro w'
                go_simp
                with_reducible rfl
              rotate_left
              · simp only [Act.put, List.setIfInBounds_toArray, List.set_cons_zero, List.set_cons_succ, i64_w, i32_w]
                rfl
              refine pure_ (i := 6) (N := some 43) (v := ?_) (a' := ?_) #[true, true, true, true, true, true, true, false, false, false, false, false, false] rfl rfl (by kernel_rfl) (fun _ _ _ h => h) (Or.inl ⟨by rfl, ?_⟩) ?_ ?_
              rotate_left
              · intro w'
                go_simp
                with_reducible rfl
              rotate_left
              · simp only [Act.put, List.setIfInBounds_toArray, List.set_cons_zero, List.set_cons_succ, i64_w, i32_w]
                rfl
              refine pure_ (i := 10) (N := some 47) (v := ?_) (a' := ?_) #[true, true, true, true, true, true, true, false, false, false, true, false, false] rfl rfl (by kernel_rfl) (fun _ _ _ h => h) (Or.inl ⟨by rfl, ?_⟩) ?_ ?_
              rotate_left
              · intro w'
                go_simp
                with_reducible rfl
              rotate_left
              · simp only [Act.put, List.setIfInBounds_toArray, List.set_cons_zero, List.set_cons_succ, i64_w, i32_w]
                rfl
              refine take_ (i := 7) (N := some 44) (v := .agg (vals .u8 (ra l i))) (a' := ?_) #[true, true, true, true, true, true, true, true, false, false, true, false, false] rfl rfl (by kernel_rfl) (fun _ _ _ h => h) (Or.inl ⟨by rfl, ?_⟩) hHeld ?_ ?_
              · intro w' s0
                exact y_loadA (by rfl) (p := ad.add (i * 24)) (by rfl) (HCI.out _ (below_then HB.out s0.1)) aggFlagI HXI.out
              rotate_left
              · simp only [Act.put, List.setIfInBounds_toArray, List.set_cons_zero, List.set_cons_succ, i64_w, i32_w]
                rfl
              refine take_ (i := 8) (N := some 45) (v := .agg (vals .u8 (ra l k))) (a' := ?_) #[true, true, true, true, true, true, true, true, true, false, true, false, false] rfl rfl (by kernel_rfl) (fun _ _ _ h => h) (Or.inl ⟨by rfl, ?_⟩) hHeld ?_ ?_
              · intro w' s0
                exact y_rowA (by rfl) (by rfl) s0.2 aggFlagI HSK.out
              rotate_left
              · simp only [Act.put, List.setIfInBounds_toArray, List.set_cons_zero, List.set_cons_succ, i64_w, i32_w]
                rfl
              refine one_ (i := 9) (N := some 46) #[true, true, true, true, true, true, true, true, true, true, true, false, false] rfl rfl (by kernel_rfl) (by decide) (fun K hK => ?_)
              refine goes_ Try.func45 (by kernel_rfl) rfl #[.agg (vals .u8 (ra l i)), .agg (vals .u8 (ra l k))] (by rfl) rfl rfl (by simp only [List.map_toArray, List.map_cons, List.map_nil]; rfl) ?_
              refine (HFA.out _).mono ?_
              rintro e w5 ⟨rfl, h⟩
              refine ⟨_, rfl, ?_⟩
              refine hK.out _ _ (⟨hHeld.1.trans (h.mono hHeld.1.size), (h.block _ (lt_of_some hHeld.2)).trans hHeld.2⟩) (fun hHeld => ?_)
              clear hK K
              refine norm_ (a' := ?_) ?_ ?_
              rotate_left
              · show Act.put _ (some 46) _ = _
                simp only [Act.put, List.setIfInBounds_toArray, List.set_cons_zero, List.set_cons_succ, i64_w, i32_w]
                rfl
              refine pure_ (i := 11) (N := some 48) (v := ?_) (a' := ?_) #[true, true, true, true, true, true, true, true, true, true, true, true, false] rfl rfl (by kernel_rfl) (fun _ _ _ h => h) (Or.inl ⟨by rfl, ?_⟩) ?_ ?_
              rotate_left
              · intro w'
                go_simp
                with_reducible rfl
              rotate_left
              · simp only [Act.put, List.setIfInBounds_toArray, List.set_cons_zero, List.set_cons_succ, i64_w, i32_w]
                rfl
              refine pure_ (i := 12) (N := some 49) (v := ?_) (a' := ?_) #[true, true, true, true, true, true, true, true, true, true, true, true, true] rfl rfl (by kernel_rfl) (fun _ _ _ h => h) (Or.inl ⟨by rfl, ?_⟩) ?_ ?_
              rotate_left
              · intro w'
                go_simp
                with_reducible rfl
              rotate_left
              · simp only [Act.put, List.setIfInBounds_toArray, List.set_cons_zero, List.set_cons_succ, i64_w, i32_w]
                rfl
              refine done_ (by kernel_rfl) ?_
              skip
              have HB6 := Aside0.mk hHeld.1
              clear hHeld HG HB5
              go_wp2_with fail
              go_roundw
              case rel => exact ⟨k + 1, by omega, by go_num, ⟨below_then HB.out HB6.out⟩, ⟨by rw [HCS.out]; exact Kd.R_below HO.out HB6.out⟩⟩
              case measure => simp [intOf]; omega
        · obtain rfl : k = l.length := by omega
          go_wp2_with fail
          go_ret2
          exact ⟨_, rfl, HO.out, HB.out⟩
    · have HNR := Aside0.mk (fun W (hW : Below w.heap.size w W) => nilR W w.heap.size hW.size)
      generalize hz : decide (0 ≤ most ∧ most ≤ 6) = z at *
      have hq : fst2 (setC l) (unl z 2) ≠ 0 ∧ fst2 (setC l) (unl z 2) = (if setC l = 0 then 2 else setC l) := by
        unfold fst2
        by_cases h0 : setC l = 0
        · have : z = false := by rw [← hz]; exact decide_eq_false (fun h => hs ⟨h0, h⟩)
          rw [if_pos h0, if_pos h0, this]
          exact ⟨by decide, rfl⟩
        · rw [if_neg h0, if_neg h0]
          exact ⟨h0, rfl⟩
      have HE := Aside0.mk (show (if setC l = 0 then (if (0 ≤ i ∧ i ≤ (l.length : Int) - 1) ∧ 0 ≤ most ∧ most ≤ 6 then (confL l i most l.length, 0) else ([], 2)) else ([], setC l)) = (([] : List Int), fst2 (setC l) (unl z 2)) by
        rw [hq.2]
        by_cases h0 : setC l = 0
        · rw [if_pos h0, if_pos h0, if_neg (fun h => hs ⟨h0, h.2⟩)]
        · rw [if_neg h0, if_neg h0])
      rw [HE.out]
      have hqn : (fst2 (setC l) (unl z 2) != 0) = true := by rw [bne_iff_ne]; exact hq.1
      clear HE hq hs hi hp hz
      have HUN := Aside0.mk (rfl : unl z 2 = unl z 2)
      have HFS := Aside0.mk (rfl : fst2 (setC l) (unl z 2) = fst2 (setC l) (unl z 2))
      generalize setC l = q at *
      go_enter Try.func19, Try.ntmps19
      go_wp2_with (first
          | (refine st_ints2 rfl 24 rfl 44 _ _ rfl hm rfl rfl Try.underlying44 one2 zero2 ?_; clear hm; intro g24 w24 hm)
          | (go_at_call 34; refine (HS.out _ (hm.done rfl)).mono ?_; rintro e w1 ⟨rfl, h⟩; replace hm := hm.after h; clear h)
          | (go_at_call 36; refine (HZ.out _).mono ?_; rintro e w2 ⟨rfl, h⟩; replace hm := hm.after h; clear h)
          | (go_at_call 44; (with_reducible refine (HI2.out _).mono ?_); rintro e w4 ⟨rfl, h⟩; replace hm := hm.after h; clear h)
          | (go_at_call 44; (with_reducible refine (HI1.out _).mono ?_); rintro e w3 ⟨rfl, h⟩; replace hm := hm.after h; clear h)
          | (go_at_call 43; refine (unless_calls _ _ _).mono ?_; rintro e w5 ⟨rfl, h⟩; replace hm := hm.after h; clear h; try rw [HUN.out])
          | (go_at_call 42; refine (firstOf_calls g24 _ _ _ (hm.mem (n := 0) rfl)).mono ?_; rintro e w6 ⟨rfl, h⟩; replace hm := hm.after h; clear h; try rw [HFS.out]))
      go_ret2
      exact ⟨_, rfl, HNR.out _ (hm.done rfl), hm.done rfl⟩
  · have HID := Aside0.mk (decide_eq_false hi)
    rw [HID.out] at HI1
    have HNR := Aside0.mk (fun W (hW : Below w.heap.size w W) => nilR W w.heap.size hW.size)
    have hq : fst2 (setC l) (unl false 2) ≠ 0 ∧ fst2 (setC l) (unl false 2) = (if setC l = 0 then 2 else setC l) := by
      unfold fst2
      by_cases h0 : setC l = 0
      · rw [if_pos h0, if_pos h0]
        exact ⟨by decide, rfl⟩
      · rw [if_neg h0, if_neg h0]
        exact ⟨h0, rfl⟩
    have HE := Aside0.mk (show (if setC l = 0 then (if (0 ≤ i ∧ i ≤ (l.length : Int) - 1) ∧ 0 ≤ most ∧ most ≤ 6 then (confL l i most l.length, 0) else ([], 2)) else ([], setC l)) = (([] : List Int), fst2 (setC l) (unl false 2)) by
      rw [hq.2]
      by_cases h0 : setC l = 0
      · rw [if_pos h0, if_pos h0, if_neg (fun h => hi h.1)]
      · rw [if_neg h0, if_neg h0])
    rw [HE.out]
    have hqn : (fst2 (setC l) (unl false 2) != 0) = true := by rw [bne_iff_ne]; exact hq.1
    clear HE hq hi hp
    have HUN := Aside0.mk (rfl : unl false 2 = unl false 2)
    have HFS := Aside0.mk (rfl : fst2 (setC l) (unl false 2) = fst2 (setC l) (unl false 2))
    generalize setC l = q at *
    go_enter Try.func19, Try.ntmps19
    go_wp2_with (first
          | (refine st_ints2 rfl 24 rfl 44 _ _ rfl hm rfl rfl Try.underlying44 one2 zero2 ?_; clear hm; intro g24 w24 hm)
          | (go_at_call 34; refine (HS.out _ (hm.done rfl)).mono ?_; rintro e w1 ⟨rfl, h⟩; replace hm := hm.after h; clear h)
          | (go_at_call 36; refine (HZ.out _).mono ?_; rintro e w2 ⟨rfl, h⟩; replace hm := hm.after h; clear h)
          | (go_at_call 44; (with_reducible refine (HI2.out _).mono ?_); rintro e w4 ⟨rfl, h⟩; replace hm := hm.after h; clear h)
          | (go_at_call 44; (with_reducible refine (HI1.out _).mono ?_); rintro e w3 ⟨rfl, h⟩; replace hm := hm.after h; clear h)
          | (go_at_call 43; refine (unless_calls _ _ _).mono ?_; rintro e w5 ⟨rfl, h⟩; replace hm := hm.after h; clear h; try rw [HUN.out])
          | (go_at_call 42; refine (firstOf_calls g24 _ _ _ (hm.mem (n := 0) rfl)).mono ?_; rintro e w6 ⟨rfl, h⟩; replace hm := hm.after h; clear h; try rw [HFS.out]))
    go_ret2
    exact ⟨_, rfl, HNR.out _ (hm.done rfl), hm.done rfl⟩
end Go.Proofs.Ytodgnbcfihifiaa.Arr
