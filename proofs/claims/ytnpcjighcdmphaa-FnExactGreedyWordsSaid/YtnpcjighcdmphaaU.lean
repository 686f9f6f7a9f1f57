/- Small lemmas on rounds and on lists, for the pure parts of this seat's laws. No condition. -/
import Derived.Test.YtnpcjighcdmphaaWWords
namespace Go.Proofs.Ytnpcjighcdmphaa.U
open Go.RowKit Go.Proofs.YtnpcjighcdmphaaW.PrintWords
set_option linter.unusedVariables false
set_option linter.unusedSimpArgs false

theorem pos {α : Type} {c : Prop} [Decidable c] {g f : Nat → Option α} {r : α} (h : c) (k : Ev g r) : Ev (fun n => if c then g n else f n) r :=
  Ev.congr (fun n => if_pos h) k
theorem neg {α : Type} {c : Prop} [Decidable c] {g f : Nat → Option α} {r : α} (h : ¬ c) (k : Ev f r) : Ev (fun n => if c then g n else f n) r :=
  Ev.congr (fun n => if_neg h) k
theorem bindc {α β : Type} {g : Option α} {f : Nat → α → Option β} {a : α} {r : β} (h : g = some a) (k : Ev (fun n => f n a) r) : Ev (fun n => g.bind (f n)) r :=
  Ev.congr (fun n => by rw [h]; rfl) k
theorem ret {α : Type} (r : α) : Ev (fun _ => some r) r := Ev.now r
theorem cons {α : Type} {r : α} {a : α} (h : a = r) : Ev (fun _ => some a) r := h ▸ Ev.now a

theorem w64 {x : Int} (h0 : -9223372036854775808 ≤ x) (h1 : x ≤ 9223372036854775807) : wrap64 x = x := by
  unfold wrap64; omega
theorem wf64 {x : Int} (h : (Lit.int .i64 x).wf = true) : -9223372036854775808 ≤ x ∧ x ≤ 9223372036854775807 := by
  simp only [Lit.wf, IntKind.min, IntKind.max, IntKind.signed, IntKind.bits, Bool.and_eq_true, decide_eq_true_eq, if_true] at h
  omega
theorem rd_get (xs : List Int) (i : Nat) (h : i < xs.length) : rd xs (i : Int) = xs[i] := by
  unfold rd
  simp [List.getD_eq_getElem?_getD, List.getElem?_eq_getElem h]
/-- A loop: at each round it goes on, or it is known where it ends. -/
theorem iter {σ α : Type} (F : Nat → σ → Option α) (Inv : Nat → σ → Prop) (r : α) (n : Nat)
    (hstep : ∀ i s, i < n → Inv i s → (∃ s', Inv (i + 1) s' ∧ (Ev (fun k => F k s') r → Ev (fun k => F k s) r)) ∨ Ev (fun k => F k s) r)
    (hend : ∀ s, Inv n s → Ev (fun k => F k s) r) : ∀ i s, i ≤ n → Inv i s → Ev (fun k => F k s) r := by
  intro i
  generalize hd : n - i = d
  induction d generalizing i with
  | zero =>
    intro s hi h
    have e : i = n := by omega
    subst e
    exact hend s h
  | succ d ih =>
    intro s hi h
    rcases hstep i s (by omega) h with ⟨s', hs, hk⟩ | he
    · exact hk (ih (i + 1) (by omega) s' (by omega) hs)
    · exact he
theorem toList {l l' : List Int} {n : Nat} (h1 : l.length = n) (h2 : l'.length = n) (h : ∀ j, j < n → l[j]? = l'[j]?) : l = l' := by
  apply List.ext_getElem?
  intro j
  rcases Nat.lt_or_ge j n with hj | hj
  · exact h j hj
  · rw [List.getElem?_eq_none (by omega), List.getElem?_eq_none (by omega)]
theorem rd_opt {l l' : List Int} {j : Nat} (h : j < l.length) (h' : j < l'.length) (e : rd l (j : Int) = rd l' (j : Int)) : l[j]? = l'[j]? := by
  rw [rd_get l j h, rd_get l' j h'] at e
  rw [List.getElem?_eq_getElem h, List.getElem?_eq_getElem h', e]
/-- In how many of the first places two words differ. -/
def apartTo (l l' : List Int) : Nat → Int
  | 0 => 0
  | i + 1 => apartTo l l' i + if rd l (i : Int) = rd l' (i : Int) then 0 else 1
theorem apartTo_le (l l' : List Int) : ∀ i : Nat, 0 ≤ apartTo l l' i ∧ apartTo l l' i ≤ (i : Int)
  | 0 => by simp [apartTo]
  | i + 1 => by have := apartTo_le l l' i; simp only [apartTo]; split <;> omega
theorem apartTo_comm (l l' : List Int) : ∀ i : Nat, apartTo l l' i = apartTo l' l i
  | 0 => rfl
  | i + 1 => by
    simp only [apartTo, apartTo_comm l l' i]
    by_cases h : rd l (i : Int) = rd l' (i : Int)
    · rw [if_pos h, if_pos h.symm]
    · rw [if_neg h, if_neg (fun e => h e.symm)]
theorem wfu8 {x : Int} (h : (Lit.int .u8 x).wf = true) : 0 ≤ x ∧ x ≤ 255 := by
  simp only [Lit.wf, IntKind.min, IntKind.max, IntKind.signed, IntKind.bits, Bool.and_eq_true, decide_eq_true_eq] at h
  simpa using h

/-- All letters of a word lie in a byte. -/
def Bytes (l : List Int) : Prop := ∀ x ∈ l, 0 ≤ x ∧ x ≤ 255
theorem Bytes.of {l : List Int} (h : ∀ x ∈ l, (Lit.int .u8 x).wf = true) : Bytes l := fun x hx => wfu8 (h x hx)
theorem Bytes.at {l : List Int} (h : Bytes l) (i : Nat) (hi : i < l.length) : 0 ≤ rd l i ∧ rd l i ≤ 255 := by
  rw [rd_get l i hi]; exact h _ (List.getElem_mem hi)
/-- What is known of data that came in: numbers of their kind, texts and lists that are not too long. -/
def WfI (k : IntKind) (n : Int) : Prop := (Lit.int k n).wf = true
def WfS (s : ByteArray) : Prop := s.size ≤ maxLen
def WfB (_ : Bool) : Prop := True
def WfL {α : Type} (wf : α → Prop) (l : List α) : Prop := l.length ≤ maxLen ∧ ∀ a ∈ l, wf a
theorem WfL.bytes {l : List Int} (h : WfL (WfI .u8) l) : Bytes l := Bytes.of h.2
end Go.Proofs.Ytnpcjighcdmphaa.U
