/- What a call has made and handed over: its blocks, as the caller knows them afterwards. No condition. -/
import Derived.Test.YtmpkgdgbjhegnaaArrEq
import Derived.Test.YtmpkgdgbjhegnaaArr
namespace Go.Proofs.Ytmpkgdgbjhegnaa.Arr
open Go.RowKit Go.Proofs.Ytmpkgdgbjhegnaa.U Go.Proofs.YtmpkgdgbjhegnaaW.PrintWords
set_option linter.unusedVariables false
set_option linter.unusedSimpArgs false

/-- What a field's cells are. -/
def PartTy (P : Program) (t : TypeId) (f off m : Nat) : Prop := ∃ (fs : Array Field) (fd : Field), P.underlying t = some (.struct fs) ∧ fs[f]? = some fd ∧ fd.offset = off ∧ AggTy P fd.type m
section
variable {P : Program} {ops : Array Oper} {rest : List Oper} {o : Oper} {a : Act} {w : World} {Q : Exit → Act → World → Prop} {dst : Option Tmp} {x : Operand} {tt : TypeId} {pos : String} {after : Array Edge} {g : Option (Nat × Bool)}
theorem st_fieldv (hgd : o.guard = none) (ty : TypeId) (x : Operand) (f : Nat) (ho : o.op = .field ty x f) {k : IntKind} {L S : List Int} {off m : Nat} (hx : a.eval x = .agg (vals k L)) (hf : PartTy P ty f off m) (hS : (L.drop off).take m = S)
    (h : wpList P ops Q rest (a.put o.dst (.agg (vals k S))) w) : wpList P ops Q (o :: rest) a w := by
  obtain ⟨fs, fd, hu, hfd, ho2, ha⟩ := hf
  subst ho2
  subst hS
  refine wpList_plain hgd fun K hK => ?_
  unfold Oper.wp execOp
  simp only [ho, hx, Instr.field, asAgg, Sem.run_bind, Sem.run_pure, Result.andThen_ok, run_underlying hu w, hfd, run_partA w ha]
  exact hK _ _ h
theorem gt_fieldv (ty f : Nat) (h : wpList P ops Q (⟨dst, .field ty x f, tt, pos, after, g⟩ :: rest) a w) : wpList P ops Q (⟨dst, .field ty x f, tt, pos, after, g⟩ :: rest) a w := h
end
theorem partP0 : PartTy Try.prog 68 0 0 40 := ⟨_, _, Try.underlying68, rfl, rfl, agg65⟩
theorem partP1 : PartTy Try.prog 68 1 40 4 := ⟨_, _, Try.underlying68, rfl, rfl, agg66⟩
/-- These blocks are as they were. -/
def Held (R : List Ent) (w : World) : Prop := ∀ e ∈ R, w.heap[e.g]? = some (.cells e.cs e.t (0, 0))
/-- The block of a number, if it holds cells. -/
def entOf (w : World) (b k : Nat) : Option Ent := if b ≤ k then (match w.heap[k]? with | some (.cells cs t (0, 0)) => some ⟨k, cs, t, true⟩ | _ => none) else none
/-- All blocks from a number on. -/
def newEnts (w : World) (b : Nat) : List Ent := (List.range w.heap.size).filterMap (entOf w b)
theorem entOf_some {w : World} {b k : Nat} {e : Ent} (h : entOf w b k = some e) : e.g = k ∧ e.own = true ∧ b ≤ k ∧ w.heap[k]? = some (.cells e.cs e.t (0, 0)) := by
  unfold entOf at h
  split at h
  · rename_i hb
    split at h
    · rename_i cs t hk
      injection h with h
      subst h
      exact ⟨rfl, rfl, hb, hk⟩
    · cases h
  · cases h
theorem entOf_cells {w : World} {b k : Nat} {cs : Array Value} {t : TypeId} (hb : b ≤ k) (h : w.heap[k]? = some (.cells cs t (0, 0))) : entOf w b k = some ⟨k, cs, t, true⟩ := by
  unfold entOf
  rw [if_pos hb, h]
  rfl
theorem newEnts_mem {w : World} {b : Nat} {e : Ent} (h : e ∈ newEnts w b) : e.own = true ∧ b ≤ e.g ∧ w.heap[e.g]? = some (.cells e.cs e.t (0, 0)) := by
  obtain ⟨k, _, hk⟩ := List.mem_filterMap.1 h
  obtain ⟨h1, h2, h3, h4⟩ := entOf_some hk
  subst h1
  exact ⟨h2, h3, h4⟩
theorem newEnts_own {w : World} {b : Nat} : (newEnts w b).all (·.own) = true := List.all_eq_true.2 fun e he => (newEnts_mem he).1
theorem newEnts_lt {w : World} {b : Nat} : (newEnts w b).Pairwise fun e f => e.g < f.g := by
  unfold newEnts
  rw [List.pairwise_filterMap]
  refine List.pairwise_lt_range.imp fun {a c} hac e he f hf => ?_
  rw [(entOf_some he).1, (entOf_some hf).1]
  exact hac
theorem newEnts_apart {w : World} {b m n : Nat} {e f : Ent} (hm : (newEnts w b)[m]? = some e) (hn : (newEnts w b)[n]? = some f) (hg : e.g = f.g) : m = n := by
  obtain ⟨hm1, rfl⟩ := List.getElem?_eq_some_iff.1 hm
  obtain ⟨hn1, rfl⟩ := List.getElem?_eq_some_iff.1 hn
  have h := List.pairwise_iff_getElem.1 (newEnts_lt (w := w) (b := b))
  rcases Nat.lt_trichotomy m n with h1 | h1 | h1
  · have := h m n hm1 hn1 h1; omega
  · exact h1
  · have := h n m hn1 hm1 h1; omega
theorem Mem.grow {w0 w w' : World} {M : List Ent} (h : Mem w0 w M) (hb : Below w.heap.size w w') : Mem w0 w' (M ++ newEnts w' w.heap.size) := by
  have ha := h.after hb
  have hlt : ∀ e ∈ M, e.g < w.heap.size := fun e he => lt_of_some (h.ent e he).1
  refine ⟨ha.os, ha.tape, ha.output, ha.size, fun k hk hne => ha.block k hk fun e he => hne e (List.mem_append_left _ he), fun e he => ?_, fun m n e f hm hn hef => ?_⟩
  · rcases List.mem_append.1 he with he | he
    · exact ha.ent e he
    · obtain ⟨_, h2, h3⟩ := newEnts_mem he
      exact ⟨h3, fun _ => Nat.le_trans h.size h2⟩
  · rcases Nat.lt_or_ge m M.length with h1 | h1 <;> rcases Nat.lt_or_ge n M.length with h2 | h2
    · rw [List.getElem?_append_left h1] at hm
      rw [List.getElem?_append_left h2] at hn
      exact h.apart m n e f hm hn hef
    · rw [List.getElem?_append_left h1] at hm
      rw [List.getElem?_append_right h2] at hn
      have e1 := hlt e (List.mem_of_getElem? hm)
      have e2 := (newEnts_mem (List.mem_of_getElem? hn)).2.1
      omega
    · rw [List.getElem?_append_right h1] at hm
      rw [List.getElem?_append_left h2] at hn
      have e1 := hlt f (List.mem_of_getElem? hn)
      have e2 := (newEnts_mem (List.mem_of_getElem? hm)).2.1
      omega
    · rw [List.getElem?_append_right h1] at hm
      rw [List.getElem?_append_right h2] at hn
      have := newEnts_apart hm hn hef
      omega
theorem Mem.held {w0 w : World} {M R : List Ent} (h : Mem w0 w M) (hs : ∀ e ∈ R, e ∈ M) : Held R w := fun e he => (h.ent e (hs e he)).1
theorem Held.left {R S : List Ent} {w : World} (h : Held (R ++ S) w) : Held R w := fun e he => h e (List.mem_append_left _ he)
theorem Held.right {R S : List Ent} {w : World} (h : Held (R ++ S) w) : Held S w := fun e he => h e (List.mem_append_right _ he)
theorem R_held {α : Type} {d : Kd α} {e : Nat} {w' W : World} {base : Nat} {ok : Nat → Prop} {v : Value} {xs : List α} (hR : d.R e w' base ok v xs) (hh : Held (newEnts w' base) W) : ∃ ok', d.R e W base ok' v xs := by
  refine ⟨_, Kd.R_move (Kd.R_bound hR) fun k hk => ?_⟩
  obtain ⟨_, hb, hlt, q, hq, cells, hc⟩ := hk
  have := hh ⟨k, cells, q, true⟩ (List.mem_filterMap.2 ⟨k, List.mem_range.2 hlt, entOf_cells hb hc⟩)
  rw [hc]; exact this
theorem C_held {α : Type} {d : Kd α} {e : Nat} {w' W : World} {base n c : Nat} {ok : Nat → Prop} {A : Option Addr} {xs : List α} (hR : d.R e w' base ok (.slice A n c) xs) (hh : Held (newEnts w' base) W) : d.C W A n xs := by
  obtain ⟨ok', h⟩ := R_held hR hh
  obtain ⟨e1, _, h2⟩ := Kd.R_reads' h
  rw [e1]; exact h2
end Go.Proofs.Ytmpkgdgbjhegnaa.Arr
