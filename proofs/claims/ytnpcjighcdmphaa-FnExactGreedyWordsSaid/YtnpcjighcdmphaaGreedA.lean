/- The words that are found greedily: what the reference computes, and what marks on words hold. No condition. -/
import Derived.Test.YtnpcjighcdmphaaWordLib
import Derived.Test.YtnpcjighcdmphaaWordMLib
import Derived.Test.YtnpcjighcdmphaaPGx2
import Derived.Test.YtnpcjighcdmphaaPGx3
import Derived.Test.YtnpcjighcdmphaaPGx4
namespace Go.Proofs.Ytnpcjighcdmphaa.Arr
open Go.RowKit Go.Proofs.YtnpcjighcdmphaaW.PrintWords Go.Proofs.YtnpcjighcdmphaaW.PrintLast Go.Proofs.YtnpcjighcdmphaaW.PrintMore Go.Proofs.Ytnpcjighcdmphaa.U Go.Proofs.Ytnpcjighcdmphaa.G
set_option linter.unusedVariables false
set_option linter.unusedSimpArgs false

/-- A product that wraps. -/
def pw (b : Int) : Nat → Int → Int
  | 0, x => x
  | n + 1, x => pw b n (wrap64 (x * b))
theorem spow (b : Int) : ∀ (n : Nat) (x : Int), n ≤ 9223372036854775806 → Ev (fun k => spec_l05Power.l0 k b (n : Int) x) (pw b n x) := by
  intro n
  induction n with
  | zero => intro x _; exact Ev.step (f := fun _ => some x) (fun k => by simp only [spec_l05Power.l0]; rw [if_neg (by omega)]) (cons rfl)
  | succ n ih =>
    intro x hn
    refine Ev.step (f := fun k => spec_l05Power.l0 k b (n : Int) (wrap64 (x * b))) (fun k => ?_) (ih _ (by omega))
    simp only [spec_l05Power.l0]; rw [if_pos (by omega), w64 (x := ((n + 1 : Nat) : Int) - 1) (by omega) (by omega), show ((n + 1 : Nat) : Int) - 1 = (n : Int) by omega]
theorem ipow (b : Int) : ∀ (n m : Nat) (x : Int), n + m ≤ 9223372036854775806 → Ev (fun k => impl_power.l0 k b x ((n + m : Nat) : Int) (m : Int)) (pw b n x) := by
  intro n
  induction n with
  | zero => intro m x _; exact Ev.step (f := fun _ => some x) (fun k => by simp only [impl_power.l0]; rw [if_neg (by omega)]) (cons rfl)
  | succ n ih =>
    intro m x hn
    refine Ev.step (f := fun k => impl_power.l0 k b (wrap64 (x * b)) ((n + (m + 1) : Nat) : Int) ((m + 1 : Nat) : Int)) (fun k => ?_) (ih (m + 1) _ (by omega))
    simp only [impl_power.l0]; rw [if_pos (by omega), w64 (x := (m : Int) + 1) (by omega) (by omega), show n + 1 + m = n + (m + 1) by omega]; rfl
def atW (b : Int) : Nat → Int → List Int → List Int
  | 0, _, l => l
  | m + 1, x, l => atW b m (wrap64 (Int.tdiv x b)) (l.set m ((Int.tmod x b) % 256))
theorem atW_len (b : Int) : ∀ (m : Nat) (x : Int) (l : List Int), (atW b m x l).length = l.length
  | 0, x, l => rfl
  | m + 1, x, l => by rw [atW, atW_len b m]; simp
theorem at_ev (b : Int) (hb : 2 ≤ b) (n : Nat) (hn : n ≤ 8) : ∀ (m : Nat) (x : Int) (l : List Int), m ≤ n → l.length = n → Ev (fun k => impl_wordAt.l0 k b x l ((m : Int) - 1)) (atW b m x l) := by
  intro m
  induction m with
  | zero => intro x l _ hl; exact Ev.step (f := fun _ => some l) (fun k => by simp only [impl_wordAt.l0]; rw [if_neg (by omega)]) (cons rfl)
  | succ m ih =>
    intro x l hm hl
    have he := ih (wrap64 (Int.tdiv x b)) (l.set m ((Int.tmod x b) % 256)) (by omega) (by simpa using hl)
    refine Ev.step (f := fun k => impl_wordAt.l0 k b (wrap64 (Int.tdiv x b)) (l.set m ((Int.tmod x b) % 256)) ((m : Int) - 1)) (fun k => ?_) he
    simp only [impl_wordAt.l0]
    rw [show ((m + 1 : Nat) : Int) - 1 = (m : Int) by omega, if_pos (by omega), if_neg (by omega), if_pos (by omega), if_pos (by omega), Int.toNat_natCast, w64 (x := (m : Int) - 1) (by omega) (by omega)]
theorem at_eq : ∀ k x0 x2 x7 x8, spec_l05At.l0 k x0 x2 x7 x8 = impl_wordAt.l0 k x0 x2 x7 x8 := by
  intro k
  induction k with
  | zero => intros; rfl
  | succ k ih => intro x0 x2 x7 x8; simp only [spec_l05At.l0, impl_wordAt.l0, ih]
theorem at_f (k : Nat) (x0 x1 x2 : Int) : spec_l05At.f k x0 x1 x2 = impl_wordAt.f k x0 x1 x2 := by
  simp only [spec_l05At.f, impl_wordAt.f, at_eq]
/-- The word of a rank. -/
def wordR (b : Int) (n : Nat) (r : Nat) : List Int := atW b n (r : Int) (List.replicate n 0)
theorem wordR_len (b : Int) (n r : Nat) : (wordR b n r).length = n := by unfold wordR; rw [atW_len]; simp
theorem wordAt_ev (b : Int) (hb : 2 ≤ b) (n : Nat) (hn : n ≤ 8) (r : Nat) : Ev (fun k => impl_wordAt.f k b (n : Int) (r : Int)) (wordR b n r) := by
  have he := at_ev b hb n hn n r (List.replicate n 0) (Nat.le_refl _) (by simp)
  unfold impl_wordAt.f
  refine pos (by omega) (pos (by omega) ?_)
  rw [w64 (x := (n : Int) - 1) (by omega) (by omega)]
  exact he
theorem l05At_ev (b : Int) (hb : 2 ≤ b) (n : Nat) (hn : n ≤ 8) (r : Nat) : Ev (fun k => spec_l05At.f k b (n : Int) (r : Int)) (wordR b n r) := Ev.congr (fun k => at_f k _ _ _) (wordAt_ev b hb n hn r)
theorem l05Apart_ev (l l' : List Int) (hl : l.length = l'.length) (hn : l.length ≤ 140737488351232) : Ev (fun k => spec_l05Apart.f k l l') (apartTo l l' l.length) := by
  unfold spec_l05Apart.f
  refine iter (F := fun k (s : Int × Int) => spec_l05Apart.l0 k l l' s.1 s.2) (fun i s => s = (apartTo l l' i, (i : Int))) (apartTo l l' l.length) l.length ?_ ?_ 0 (0, 0) (by omega) rfl
  · rintro i s hi rfl
    have hb := apartTo_le l l' i
    refine .inl ⟨_, rfl, Ev.step fun k => ?_⟩
    simp only [spec_l05Apart.l0]
    rw [if_pos (by omega), if_pos (by omega), if_pos (by omega)]
    by_cases hc : rd l (i : Int) = rd l' (i : Int)
    · rw [if_pos hc, w64 (by omega) (by omega)]; simp only [apartTo, if_pos hc]; rw [show apartTo l l' i + 0 = apartTo l l' i by omega]; rfl
    · rw [if_neg hc, w64 (by omega) (by omega), w64 (by omega) (by omega)]; simp only [apartTo, if_neg hc]; rfl
  · rintro s rfl
    refine Ev.step (f := fun _ => some _) (fun k => ?_) (Ev.now _)
    simp only [spec_l05Apart.l0]; rw [if_neg (by omega)]
theorem unlike_ev (l l' : List Int) (hl : l.length = l'.length) (hn : l.length ≤ 140737488351232) : Ev (fun k => impl_unlike.f k l l') (apartTo l l' l.length) := by
  unfold impl_unlike.f
  refine iter (F := fun k (s : Int × Int) => impl_unlike.l0 k l' s.1 l (l.length : Int) s.2) (fun i s => s = (apartTo l l' i, (i : Int))) (apartTo l l' l.length) l.length ?_ ?_ 0 (0, 0) (by omega) rfl
  · rintro i s hi rfl
    have hb := apartTo_le l l' i
    refine .inl ⟨_, rfl, Ev.step fun k => ?_⟩
    simp only [impl_unlike.l0]
    rw [if_pos (by omega), if_pos (by omega), if_pos (by omega), if_pos (by omega)]
    by_cases hc : rd l (i : Int) = rd l' (i : Int)
    · rw [if_pos hc.symm, w64 (by omega) (by omega)]; simp only [apartTo, if_pos hc]; rw [show apartTo l l' i + 0 = apartTo l l' i by omega]; rfl
    · rw [if_neg (fun e => hc e.symm), w64 (by omega) (by omega), w64 (by omega) (by omega)]; simp only [apartTo, if_neg hc]; rfl
  · rintro s rfl
    refine Ev.step (f := fun _ => some _) (fun k => ?_) (Ev.now _)
    simp only [impl_unlike.l0]; rw [if_neg (by omega)]
theorem rdS_get (xs : List (List Int)) (i : Nat) (h : i < xs.length) : rd_L1 xs (i : Int) = xs[i] := by
  simp [rd_L1, List.getElem?_eq_getElem h]
theorem toListS {l l' : List (List Int)} {n : Nat} (h1 : l.length = n) (h2 : l'.length = n) (h : ∀ j, j < n → l[j]? = l'[j]?) : l = l' := by
  apply List.ext_getElem?
  intro j
  rcases Nat.lt_or_ge j n with hj | hj
  · exact h j hj
  · rw [List.getElem?_eq_none (by omega), List.getElem?_eq_none (by omega)]
/-- Is a word too near to another one? -/
def nearB (a : Int) (w x : List Int) : Bool := decide (apartTo x w x.length < a)
/-- What has been found among the first ranks. -/
def greedyL (b : Int) (n : Nat) (a most : Int) : Nat → List (List Int)
  | 0 => []
  | r + 1 => if ((greedyL b n a most r).length : Int) < most ∧ (greedyL b n a most r).any (nearB a (wordR b n r)) = false then greedyL b n a most r ++ [wordR b n r] else greedyL b n a most r
theorem greedyL_mem (b : Int) (n : Nat) (a most : Int) : ∀ r, ∀ x ∈ greedyL b n a most r, x.length = n
  | 0, x, hx => by simp [greedyL] at hx
  | r + 1, x, hx => by
    rw [greedyL] at hx
    split at hx
    · rcases List.mem_append.1 hx with h | h
      · exact greedyL_mem b n a most r x h
      · rw [List.mem_singleton] at h
        rw [h]
        exact wordR_len b n r
    · exact greedyL_mem b n a most r x hx
theorem greedyL_len (b : Int) (n : Nat) (a most : Int) : ∀ r, (greedyL b n a most r).length ≤ r
  | 0 => by simp [greedyL]
  | r + 1 => by
    have := greedyL_len b n a most r
    rw [greedyL]
    split
    · simp; omega
    · omega
theorem greedyL_stay (b : Int) (n : Nat) (a most : Int) (r : Nat) (h : ¬ ((greedyL b n a most r).length : Int) < most) : ∀ d, greedyL b n a most (r + d) = greedyL b n a most r
  | 0 => rfl
  | d + 1 => by
    rw [← Nat.add_assoc, greedyL, greedyL_stay b n a most r h d, if_neg (fun h2 => h h2.1)]
/-- The greedy words, with a code. -/
def greedyW (b len a most : Int) : List (List Int) × Int :=
  if (2 ≤ b ∧ b ≤ 37) ∧ (1 ≤ len ∧ len ≤ 8) ∧ (1 ≤ a ∧ a ≤ len) ∧ (0 ≤ most ∧ most ≤ 60) then (if pw b len.toNat 1 > 5000 then ([], 7) else (greedyL b len.toNat a most (pw b len.toNat 1).toNat, 0)) else ([], 2)
theorem greedyW_few (b len a most : Int) : (greedyW b len a most).1.length ≤ 5000 ∧ ∀ x ∈ (greedyW b len a most).1, x.length ≤ 8 := by
  unfold greedyW
  split
  · rename_i h
    split
    · simp
    · have := greedyL_len b len.toNat a most (pw b len.toNat 1).toNat
      refine ⟨by dsimp only; omega, fun x hx => ?_⟩
      have := greedyL_mem b len.toNat a most _ x hx
      omega
  · simp
theorem inner (b len a most all : Int) (out : List (List Int)) (rank : Int) (w : List Int) (res : List (List Int) × Int) (hf : out.length ≤ 5000) (hw : w.length ≤ 8) (hm : ∀ x ∈ out, x.length = w.length) (h : Ev (fun k => spec_GreedyWords.l0 k b len a most all (if out.any (nearB a w) = false then out ++ [w] else out) (wrap64 (rank + 1))) res) :
    ∀ d i : Nat, i + d = out.length → (∀ j (hj : j < out.length), j < i → nearB a w out[j] = false) → Ev (fun k => spec_GreedyWords.l1 k b len a most all out rank w true (i : Int)) res := by
  intro d
  induction d with
  | zero =>
    intro i hi hp
    have hany : out.any (nearB a w) = false := by
      rw [List.any_eq_false]
      intro x hx
      obtain ⟨j, hj, rfl⟩ := List.getElem_of_mem hx
      rw [hp j hj (by omega)]
      simp
    rw [if_pos hany] at h
    refine Ev.step (fun k => by rw [spec_GreedyWords.l1]) ?_
    exact neg (by omega) (pos rfl (pos (by omega) h))
  | succ d ih =>
    intro i hi hp
    have hil : i < out.length := by omega
    have hx := hm _ (List.getElem_mem hil)
    refine Ev.step (fun k => by rw [spec_GreedyWords.l1]) ?_
    refine pos (by omega) (pos rfl (pos (by omega) (Ev.bind (a := apartTo out[i] w out[i].length) (g := fun k => spec_l05Apart.f k (rd_L1 out (i : Int)) w) (by rw [rdS_get out i hil]; exact l05Apart_ev _ _ hx (by omega)) ?_)))
    rw [w64 (x := (i : Int) + 1) (by omega) (by omega)]
    by_cases hn : apartTo out[i] w out[i].length < a
    · have hany : out.any (nearB a w) = true := List.any_eq_true.2 ⟨_, List.getElem_mem hil, decide_eq_true hn⟩
      rw [if_neg (by rw [hany]; decide)] at h
      rw [decide_eq_false (show ¬ apartTo out[i] w out[i].length ≥ a by omega)]
      refine Ev.step (fun k => by rw [spec_GreedyWords.l1]) ?_
      by_cases hc : (i : Int) + 1 < (out.length : Int)
      · exact pos hc (neg (by decide) h)
      · exact neg hc (neg (by decide) h)
    · rw [decide_eq_true (show apartTo out[i] w out[i].length ≥ a by omega)]
      exact ih (i + 1) (by omega) (fun j hj hji => by
        rcases Nat.lt_or_ge j i with h1 | h1
        · exact hp j hj h1
        · obtain rfl : j = i := by omega
          exact decide_eq_false hn)
theorem outer (b a most : Int) (n N : Nat) (hb : 2 ≤ b) (hn : n ≤ 8) (hN : N ≤ 5000) (all : Int) (hall : all.toNat = N) : Ev (fun k => spec_GreedyWords.l0 k b (n : Int) a most all [] 0) (greedyL b n a most N, 0) := by
  refine iter (F := fun k (s : List (List Int) × Int) => spec_GreedyWords.l0 k b (n : Int) a most all s.1 s.2) (fun i s => s = (greedyL b n a most i, (i : Int))) _ N ?_ ?_ 0 ([], 0) (by omega) rfl
  · rintro i s hi rfl
    have hl := greedyL_len b n a most i
    by_cases hm : ((greedyL b n a most i).length : Int) < most
    · refine .inl ⟨(greedyL b n a most (i + 1), ((i + 1 : Nat) : Int)), rfl, fun hk => ?_⟩
      refine Ev.step (fun k => by rw [spec_GreedyWords.l0]) ?_
      refine pos (by omega) ?_
      rw [decide_eq_true hm]
      refine Ev.step (fun k => by rw [spec_GreedyWords.j2]) ?_
      refine pos rfl (Ev.bind (l05At_ev b hb n hn i) ?_)
      have hl5 : (greedyL b n a most i).length ≤ 5000 := by omega
      refine inner b n a most all (greedyL b n a most i) (i : Int) (wordR b n i) _ hl5 (by rw [wordR_len]; exact hn) (fun x hx => by rw [wordR_len]; exact greedyL_mem b n a most i x hx) ?_ (greedyL b n a most i).length 0 (by omega) (fun j hj hj0 => by omega)
      rw [w64 (by omega) (by omega)]
      dsimp only at hk
      rw [greedyL] at hk
      by_cases hy : (greedyL b n a most i).any (nearB a (wordR b n i)) = false
      · rw [if_pos ⟨hm, hy⟩] at hk
        rw [if_pos hy]
        exact hk
      · rw [if_neg (fun h => hy h.2)] at hk
        rw [if_neg hy]
        exact hk
    · refine .inr ?_
      refine Ev.step (fun k => by rw [spec_GreedyWords.l0]) ?_
      refine pos (by omega) ?_
      rw [decide_eq_false hm]
      refine Ev.step (fun k => by rw [spec_GreedyWords.j2]) ?_
      refine neg (by decide) (cons ?_)
      have := greedyL_stay b n a most i hm (N - i)
      rw [show i + (N - i) = N by omega] at this
      rw [this]
  · rintro s rfl
    refine Ev.step (fun k => by rw [spec_GreedyWords.l0]) ?_
    refine neg (by omega) ?_
    refine Ev.step (fun k => by rw [spec_GreedyWords.j2]) ?_
    exact neg (by decide) (cons rfl)
theorem in_evG (a b c : Int) : spec_l00In.f a b c = some (decide (b ≤ a ∧ a ≤ c)) := by
  unfold spec_l00In.f
  by_cases h1 : b ≤ a <;> by_cases h2 : a ≤ c <;> simp [h1, h2]
theorem within_evG (a b c : Int) : impl_within.f a b c = some (decide (b ≤ a ∧ a ≤ c)) := by
  unfold impl_within.f
  by_cases h1 : b ≤ a <;> by_cases h2 : a ≤ c <;> simp [h1, h2]
theorem asked_ev (b len : Int) : spec_l05Asked.f b len = some (decide ((2 ≤ b ∧ b ≤ 37) ∧ (1 ≤ len ∧ len ≤ 8))) := by
  unfold spec_l05Asked.f
  rw [in_evG]
  by_cases h : 2 ≤ b ∧ b ≤ 37
  · rw [decide_eq_true h, Option.bind_some, if_pos rfl, in_evG, Option.bind_some]
    congr 1
    exact decide_eq_decide.2 ⟨fun h2 => ⟨h, h2⟩, fun h2 => h2.2⟩
  · rw [decide_eq_false h, Option.bind_some, if_neg (by decide), decide_eq_false (fun h2 => h h2.1)]
theorem specGreedy_ev (b len a most : Int) : Ev (fun k => spec_GreedyWords.f k b len a most) (greedyW b len a most) := by
  unfold spec_GreedyWords.f greedyW
  have j0 : ∀ x : Bool, (x = true → ¬ ((2 ≤ b ∧ b ≤ 37) ∧ (1 ≤ len ∧ len ≤ 8) ∧ (1 ≤ a ∧ a ≤ len) ∧ (0 ≤ most ∧ most ≤ 60))) → (x = false → ((2 ≤ b ∧ b ≤ 37) ∧ (1 ≤ len ∧ len ≤ 8) ∧ (1 ≤ a ∧ a ≤ len) ∧ (0 ≤ most ∧ most ≤ 60))) →
      Ev (fun k => spec_GreedyWords.j0 k b len a most x) (if (2 ≤ b ∧ b ≤ 37) ∧ (1 ≤ len ∧ len ≤ 8) ∧ (1 ≤ a ∧ a ≤ len) ∧ (0 ≤ most ∧ most ≤ 60) then (if pw b len.toNat 1 > 5000 then ([], 7) else (greedyL b len.toNat a most (pw b len.toNat 1).toNat, 0)) else ([], 2)) := by
    intro x h1 h2
    refine Ev.step (fun k => by rw [spec_GreedyWords.j0]) ?_
    cases x with
    | true =>
      rw [if_neg (h1 rfl)]
      exact pos rfl (cons rfl)
    | false =>
      have h := h2 rfl
      rw [if_pos h]
      obtain ⟨n, hn⟩ := Int.eq_ofNat_of_zero_le (show 0 ≤ len by omega)
      subst hn
      rw [Int.toNat_natCast]
      refine neg (by decide) (Ev.bind (a := pw b n 1) (g := fun k => spec_l05Power.f k b n) (by unfold spec_l05Power.f; exact spow b n 1 (by omega)) ?_)
      by_cases hp : pw b n 1 > 5000
      · rw [if_pos hp]
        exact pos hp (cons rfl)
      · rw [if_neg hp]
        exact neg hp (outer b a most n _ (by omega) (by omega) (by omega) _ rfl)
  refine bindc (asked_ev b len) ?_
  by_cases h1 : (2 ≤ b ∧ b ≤ 37) ∧ (1 ≤ len ∧ len ≤ 8)
  · rw [decide_eq_true h1]
    refine pos rfl (bindc (in_evG a 1 len) ?_)
    by_cases h2 : 1 ≤ a ∧ a ≤ len
    · rw [decide_eq_true h2]
      refine pos rfl (bindc (in_evG most 0 60) ?_)
      by_cases h3 : 0 ≤ most ∧ most ≤ 60
      · rw [decide_eq_true h3]
        exact j0 _ (fun h => by simp at h) (fun _ => ⟨h1.1, h1.2, h2, h3⟩)
      · rw [decide_eq_false h3]
        exact j0 _ (fun _ h => h3 h.2.2.2) (fun h => by simp at h)
    · rw [decide_eq_false h2]
      exact neg (by decide) (j0 _ (fun _ h => h2 h.2.2.1) (fun h => by simp at h))
  · rw [decide_eq_false h1]
    exact neg (by decide) (j0 _ (fun _ h => h1 ⟨h.1, h.2.1⟩) (fun h => by simp at h))
theorem eqWordS_refl (l : List (List Int)) (hn : l.length ≤ 1048576) (hls : ∀ x ∈ l, x.length ≤ 1048576) : Ev (fun k => laws_eqWordS.f k l l) true := by
  unfold laws_eqWordS.f
  refine pos rfl ?_
  refine iter (F := fun k (s : Int) => laws_eqWordS.l0 k l l s) (fun i s => s = (i : Int)) _ l.length ?_ ?_ 0 0 (by omega) rfl
  · rintro i s hi rfl
    have hm : (rd_L1 l (i : Int)).length ≤ 1048576 := by rw [rdS_get l i hi]; exact hls _ (List.getElem_mem _)
    refine .inl ⟨((i + 1 : Nat) : Int), rfl, fun hk => ?_⟩
    refine Ev.step (fun k => by rw [laws_eqWordS.l0]) ?_
    refine pos (by omega) (pos (by omega) (pos (by omega) (Ev.bind (eqWord_refl _ (by omega)) (pos rfl ?_))))
    rw [w64 (by omega) (by omega)]; exact hk
  · rintro s rfl
    refine Ev.step (fun k => by rw [laws_eqWordS.l0]) ?_
    exact neg (by omega) (cons rfl)
/-- How many letters stand ahead of a word. -/
def off (xs : List (List Int)) (i : Nat) : Nat := ((xs.take i).map List.length).sum
theorem off_succ (xs : List (List Int)) (i : Nat) (h : i < xs.length) : off xs (i + 1) = off xs i + xs[i].length := by
  unfold off
  rw [List.take_succ_eq_append_getElem h, List.map_append, List.sum_append, List.map_cons, List.map_nil, List.sum_cons, List.sum_nil, Nat.add_zero]
theorem off_le (xs : List (List Int)) (h8 : ∀ x ∈ xs, x.length ≤ 8) : ∀ i, off xs i ≤ 8 * i
  | 0 => by simp [off]
  | i + 1 => by
    rcases Nat.lt_or_ge i xs.length with h | h
    · rw [off_succ xs i h]
      have := off_le xs h8 i
      have := h8 _ (List.getElem_mem h)
      omega
    · have := off_le xs h8 i
      unfold off at this ⊢
      rw [List.take_of_length_le (by omega)] at this ⊢
      omega
/-- The words of which the first have been marked. -/
def marked (xs : List (List Int)) (i : Nat) : List (List Int) := xs.mapIdx fun j x => if j < i then marks x.length (1 + (off xs j : Int)) else x
theorem marked_len (xs : List (List Int)) (i : Nat) : (marked xs i).length = xs.length := by simp [marked]
theorem marked_zero (xs : List (List Int)) : marked xs 0 = xs := by
  apply List.ext_getElem?
  intro j
  simp [marked, List.getElem?_mapIdx]
theorem marked_at (xs : List (List Int)) (i j : Nat) (hj : j < xs.length) : (marked xs i)[j]? = some (if j < i then marks xs[j].length (1 + (off xs j : Int)) else xs[j]) := by
  simp [marked, List.getElem?_mapIdx, List.getElem?_eq_getElem hj]
theorem marked_set (xs : List (List Int)) (i : Nat) (h : i < xs.length) : (marked xs i).set i (marks xs[i].length (1 + (off xs i : Int))) = marked xs (i + 1) := by
  refine toListS (n := xs.length) (by rw [List.length_set, marked_len]) (marked_len _ _) fun j hj => ?_
  rw [marked_at xs (i + 1) j hj]
  by_cases e : i = j
  · subst e
    rw [List.getElem?_set_self (by rw [marked_len]; exact h), if_pos (by omega)]
  · rw [List.getElem?_set_ne e, marked_at xs i j hj]
    by_cases hji : j < i
    · rw [if_pos hji, if_pos (by omega)]
    · rw [if_neg hji, if_neg (by omega)]
theorem marked_mem (xs : List (List Int)) (h8 : ∀ x ∈ xs, x.length ≤ 8) (i : Nat) : ∀ x ∈ marked xs i, x.length ≤ 8 := by
  intro x hx
  obtain ⟨j, hj, rfl⟩ := List.getElem_of_mem hx
  rw [marked_len] at hj
  have h := marked_at xs i j hj
  rw [List.getElem?_eq_getElem (by rw [marked_len]; exact hj)] at h
  rw [Option.some.inj h]
  have := h8 _ (List.getElem_mem hj)
  split
  · rw [marks_length]; exact this
  · exact this
theorem heldWordS_ev (xs : List (List Int)) (hn : xs.length ≤ 5000) (h8 : ∀ x ∈ xs, x.length ≤ 8) : Ev (fun k => laws_heldWordS.f k (marked xs xs.length) 1) (1 + (off xs xs.length : Int)) := by
  unfold laws_heldWordS.f
  refine iter (F := fun k (s : Int × Int) => laws_heldWordS.l0 k (marked xs xs.length) s.1 s.2) (fun i s => s = (1 + (off xs i : Int), (i : Int))) _ xs.length ?_ ?_ 0 (1, 0) (by omega) (by simp [off])
  · rintro i s hi rfl
    refine .inl ⟨(1 + (off xs (i + 1) : Int), ((i + 1 : Nat) : Int)), rfl, fun hk => ?_⟩
    have ho := off_le xs h8 i
    have hx8 := h8 _ (List.getElem_mem hi)
    have hrd : rd_L1 (marked xs xs.length) (i : Int) = marks xs[i].length (1 + (off xs i : Int)) := by
      rw [rdS_get _ i (by rw [marked_len]; exact hi)]
      have h := marked_at xs xs.length i hi
      rw [List.getElem?_eq_getElem (by rw [marked_len]; exact hi), if_pos hi] at h
      exact Option.some.inj h
    refine Ev.step (fun k => by rw [laws_heldWordS.l0]) ?_
    refine pos (by rw [marked_len]; omega) (pos (by omega) (Ev.bind (a := 1 + (off xs i : Int) + xs[i].length) (g := fun k => laws_heldWord.f k (rd_L1 (marked xs xs.length) (i : Int)) (1 + (off xs i : Int))) (by rw [hrd]; exact heldWord_ev _ _ (by omega) (by omega)) ?_))
    refine neg (by omega) ?_
    rw [w64 (by omega) (by omega)]
    dsimp only at hk
    rw [off_succ xs i hi] at hk
    rw [show 1 + (off xs i : Int) + (xs[i].length : Int) = 1 + ((off xs i + xs[i].length : Nat) : Int) by omega]
    exact hk
  · rintro s rfl
    refine Ev.step (fun k => by rw [laws_heldWordS.l0]) ?_
    exact neg (by rw [marked_len]; omega) (cons rfl)
end Go.Proofs.Ytnpcjighcdmphaa.Arr
