/- The texts that the statement FnSubstitutes needs, part 4: contracts of the program's functions and plain laws, without what it does not reach. No condition beyond what each theorem says. -/
import Derived.Below
import Derived.Deep.Draws
import Derived.Deep.AppendLies
import Derived.Maps.AppendAt
import Derived.OwnWalk
import Derived.Laws.BytesArg
import Derived.Laws.MakeOwn
import Derived.Laws.OwnMore
import Derived.Deep.OwnRows
import Derived.Tactics
import Derived.Lib.ConvBytes
import Derived.Laws.Slices
import Derived.WalkKit
import Derived.KernelRfl
import Derived.RowKit3
import Derived.Deep.LoopGhost
import Derived.Deep.QuietTactic
import Derived.BigQuiet
import Derived.WideLaws
import Derived.Deep.DeepCutAuto
import Derived.Deep.CutBlock
import Derived.Deep.RegionHeld3
import Derived.Laws.Rows
import Derived.Lib.AppendStr
import Derived.ArgAppend
import Derived.Laws.IdiomCopy
import Derived.RowKit
import Derived.Laws.Tables
import Derived.BigFrame
import Derived.Laws.CopyRow
import Derived.Laws.ResultCell
import Derived.OrdersHeld
import Derived.Laws.BitsLemmas
import Derived.Laws.StructEq
import Derived.Test.YtpbomchjcgndoaaGreatDoorProg
import Derived.WalkSpells
import Derived.StillTailTactics
import Derived.Shelf.Strconv.Itoa4
import Derived.Shelf.Strings.OnBuilder
import Derived.Lib.SplitLaws
import Derived.Lib.Join
import Derived.Lib.ParseIntB
import Derived.Lib.CountLaws
import Derived.Shelf.Strings.SplitShaped
import Derived.Shelf.Strings.Shaped
import Derived.Shelf.Small.Wraps
import Derived.Shelf.Strconv.ErrVarParseInt
import Derived.Lib.SmallJoins
import Derived.Lib.AppendIntMem
import Derived.Lib.ParseIntBTie
import Derived.Laws.BitsAllLaws
import Derived.ProofKit
import Derived.OpenShut
import Derived.Deep.Slices
import Derived.Test.YtpbomchjcgndoaaGreatDoorRows
import Derived.ShutString
import Derived.ChangeOld
import Derived.SizedLaws
import Derived.HandedShaped
import Derived.LaidMore
import Derived.Lay
import Derived.Stop.Joined
import Derived.Stop.LaidErr
import Derived.Lib.LaidTab
import Derived.Test.YtpbomchjcgndoaaGreatDoorCards
import Derived.Test.YtpbomchjcgndoaaGreatDoorTie
import Derived.SevenTiedAt
import Derived.Test.YtpbomchjcgndoaaGreatDoorZFnSubstitutes3
namespace Go.Proofs.YtpbomchjcgndoaaGreatDoor.Arr
open Go.RowKit Go.Proofs.YtpbomchjcgndoaaGreatDoorW.PrintWords Go.Proofs.YtpbomchjcgndoaaGreatDoorW.PrintLast Go.Proofs.YtpbomchjcgndoaaGreatDoorW.PrintMore Go.Proofs.YtpbomchjcgndoaaGreatDoor.U Go.Proofs.YtpbomchjcgndoaaGreatDoor.N
set_option linter.unusedVariables false
set_option linter.unusedSimpArgs false
theorem tail_eq (y : List Int) (a b : Int) (h1 : 1 ≤ y.length) (h8 : y.length ≤ 100) :
  (if 0 ≤ (wrap64 ((y.length : Int) - 1)) then (if (wrap64 ((y.length : Int) - 1)) < (y.length : Int) then (if (rd y (wrap64 ((y.length : Int) - 1))) = (-10) then (if (wrap64 ((y.length : Int) - 1)) ≤ (y.length : Int) then (some ((y.take ((wrap64 ((y.length : Int) - 1)) : Int).toNat), a, b)) else (none)) else (some (y, a, b))) else (none)) else (none)) = some ((if rd y ((y.length : Int) - 1) = -10 then y.take (y.length - 1) else y), a, b) := by
 have hw : wrap64 ((y.length : Int) - 1) = (y.length : Int) - 1 := w64 (by omega) (by omega)
 rw [hw, if_pos (by omega), if_pos (by omega)]
 by_cases h : rd y ((y.length : Int) - 1) = -10
 ·rw [if_pos h, if_pos h, if_pos (by omega), show ((y.length : Int) - 1).toNat = y.length - 1 by omega]
 ·rw [if_neg h, if_neg h]
theorem ev_of {α : Type} {o : Option α} {r : α} (h : o = some r) : Ev (fun _ => o) r := by rw [h]; exact cons rfl
theorem meant_l0 {c : List Int} (hc : Byt c) : ∀ (n : Nat) (out : List Int) (p sd : Int), n ≤ 6 → 0 ≤ p → p + 2 * (n : Int) ≤ 1000000 → out.length + 2 * n ≤ 12 → (∀ x ∈ out, PlainN x) → Alt out → (n = 0 → 1 ≤ out.length) →
  ∃ m p' sd', Ev (fun k => spec_l02Meant.l0 k out (n : Int) c p sd) (m, p', sd') ∧ plainM m = true ∧ 0 ≤ p' ∧ p' ≤ p + 2 * (n : Int)
 | 0, out, p, sd, hn, h0, h1, hl, hp, ha, hne => by
  have hne := hne rfl
  by_cases h8 : (out.length : Int) > 8
  ·have hl8 : (out.take 8).length = 8 := by rw [List.length_take]; omega
   refine ⟨_, p, sd, ?_, cut_plain (m := out.take 8) (fun x hx => hp x (List.mem_of_mem_take hx)) (alt_take ha 8 (by omega)) (by omega) (by omega), h0, by omega⟩
   refine Ev.step (fun k => by rw [spec_l02Meant.l0]) ?_
   refine neg (by omega) ?_
   refine pos h8 ?_
   refine pos (by omega) ?_
   refine bindc rfl ?_
   exact ev_of (tail_eq (out.take 8) p sd (by omega) (by omega))
  ·refine ⟨_, p, sd, ?_, cut_plain hp ha hne (by omega), h0, by omega⟩
   refine Ev.step (fun k => by rw [spec_l02Meant.l0]) ?_
   refine neg (by omega) ?_
   refine neg h8 ?_
   exact ev_of (tail_eq out p sd (by omega) (by omega))
 | n + 1, out, p, sd, hn, h0, h1, hl, hp, ha, hne => by
  obtain ⟨x, s1, e1, hx⟩ := among_some hc p sd [0, 1, 2, 3, 25, 39] h0 (by omega) (by decide) (by decide)
  obtain ⟨b, s2, e2⟩ := one_some hc (p + 1) s1 6 (by omega) (by omega) (by omega) (by omega)
  have hx8 : IntKind.i8.wrap x = x ∧ 0 ≤ x ∧ x ≤ 39 := by
   simp only [List.mem_cons, List.not_mem_nil, or_false] at hx
   rcases hx with rfl | rfl | rfl | rfl | rfl | rfl <;> decide
  have hp1 : ∀ y ∈ out ++ [x], PlainN y := fun y hy => by
   rcases List.mem_append.1 hy with hy | hy
   ·exact hp y hy
   ·rw [List.mem_singleton.1 hy]; exact .inr hx8.2
  have ha1 : Alt (out ++ [x]) := alt_snoc ha x (fun e => by omega)
  have hl1 : (out ++ [x]).length = out.length + 1 := by simp
  have hw : wrap64 (((n + 1 : Nat) : Int) - 1) = (n : Int) := by rw [w64 (by omega) (by omega)]; omega
  have key : ∃ out2 : List Int, out2.length ≤ out.length + 2 ∧ 1 ≤ out2.length ∧ (∀ y ∈ out2, PlainN y) ∧ Alt out2 ∧ ∀ r, Ev (fun k => spec_l02Meant.l0 k out2 (n : Int) c (p + 2) s2) r → Ev (fun k => spec_l02Meant.l0 k out ((n + 1 : Nat) : Int) c p sd) r := by
   have hsame : ∀ (o : List Int) r, Ev (fun k => spec_l02Meant.l0 k o (n : Int) c (p + 2) s2) r → Ev (fun k => spec_l02Meant.l0 k o (wrap64 (((n + 1 : Nat) : Int) - 1)) c (p + 1 + 1) s2) r := fun o r h => by
    rw [hw, show p + 1 + 1 = p + 2 by omega]; exact h
   by_cases hb : b = true ∧ ((n + 1 : Nat) : Int) > 1 ∧ ((out ++ [x]).length : Int) < 6
   ·obtain ⟨hb1, hb2, hb3⟩ := hb
    refine ⟨out ++ [x] ++ [-10], by simp, by simp, fun y hy => ?_, alt_snoc ha1 (-10) (fun _ => ⟨by omega, ?_⟩), fun r hr => ?_⟩
    ·rcases List.mem_append.1 hy with hy | hy
     ·exact hp1 y hy
     ·rw [List.mem_singleton.1 hy]; exact .inl rfl
    ·rw [hl1, show ((out.length + 1 : Nat) : Int) - 1 = (out.length : Int) by omega, rd_app_end]; omega
    ·refine Ev.step (fun k => by rw [spec_l02Meant.l0]) ?_
     refine pos (by omega) ?_
     refine bindc e1 ?_
     refine pos (by omega) ?_
     refine bindc rfl ?_
     refine bindc e2 ?_
     dsimp only
     rw [hx8.1]
     exact pos hb1 (pos hb2 (pos hb3 (pos (by omega) (hsame _ r hr))))
   ·refine ⟨out ++ [x], by omega, by omega, hp1, ha1, fun r hr => ?_⟩
    refine Ev.step (fun k => by rw [spec_l02Meant.l0]) ?_
    refine pos (by omega) ?_
    refine bindc e1 ?_
    refine pos (by omega) ?_
    refine bindc rfl ?_
    refine bindc e2 ?_
    dsimp only
    rw [hx8.1]
    by_cases h1b : b = true
    ·refine pos h1b ?_
     by_cases h2b : ((n + 1 : Nat) : Int) > 1
     ·exact pos h2b (neg (fun h3b => hb ⟨h1b, h2b, h3b⟩) (hsame _ r hr))
     ·exact neg h2b (hsame _ r hr)
    ·exact neg h1b (hsame _ r hr)
  obtain ⟨out2, hl2, hne2, hp2, ha2, hgo⟩ := key
  obtain ⟨m, p', sd', hev, hm, hp0, hp9⟩ := meant_l0 hc n out2 (p + 2) s2 (by omega) (by omega) (by omega) (by omega) hp2 ha2 (fun _ => hne2)
  exact ⟨m, p', sd', hgo _ hev, hm, hp0, by omega⟩
theorem meant_some {c : List Int} (hc : Byt c) (p sd : Int) (h0 : 0 ≤ p) (h1 : p ≤ 900000) : ∃ m p' sd', Ev (fun k => spec_l02Meant.f k c p sd) (m, p', sd') ∧ plainM m = true ∧ 0 ≤ p' ∧ p' ≤ p + 13 := by
 obtain ⟨x, s1, e1, hx0, hx1⟩ := pick_some hc p sd 6 h0 (by omega) (by omega) (by omega)
 obtain ⟨n, rfl⟩ := Int.eq_ofNat_of_zero_le hx0
 obtain ⟨m, p', sd', hev, hm, hp0, hp9⟩ := meant_l0 hc (n + 1) [] (p + 1) s1 (by omega) (by omega) (by omega) (by simp; omega) (by simp) (fun i hi => absurd hi (by simp)) (fun h => by omega)
 refine ⟨m, p', sd', ?_, hm, hp0, by omega⟩
 unfold spec_l02Meant.f
 refine bindc e1 ?_
 dsimp only
 rw [show wrap64 (1 + (n : Int)) = ((n + 1 : Nat) : Int) by rw [w64 (by omega) (by omega)]; omega]
 exact hev
theorem a2At_some {c : List Int} (hc : Byt c) (i n : Int) (h0 : 0 ≤ i) (hn : 0 < n) : ∃ r, laws_a2At.f c i n = some r ∧ 0 ≤ r ∧ r < n := by
 unfold laws_a2At.f
 by_cases h : i ≥ (c.length : Int)
 ·rw [if_pos h]; exact ⟨0, rfl, by omega, hn⟩
 ·rw [if_neg h, if_neg (by omega), if_pos h0, if_pos (by omega), if_neg (by omega)]
  refine ⟨_, rfl, tmod_in _ n ?_ hn⟩
  obtain ⟨k, rfl⟩ := Int.eq_ofNat_of_zero_le h0
  rw [rd_get c k (by omega)]
  have := hc.2 _ (List.getElem_mem (l := c) (n := k) (by omega))
  unfold wrap64
  omega
theorem l02Same_evD (l l' : List Int) (hn : l.length ≤ 140737488351232) : Ev (fun k => spec_l02Same.f k l l') (decide (l = l')) := by
 unfold spec_l02Same.f
 by_cases hl : (l.length : Int) = (l'.length : Int)
 ·refine pos hl ?_
  refine iter (F := fun k (x : Int) => spec_l02Same.l0 k l l' x) (fun i x => x = (i : Int) ∧ ∀ j : Nat, j < i → rd l (j : Int) = rd l' (j : Int)) _ l.length ?_ ?_ 0 0 (by omega) ⟨rfl, fun j hj => absurd hj (by omega)⟩
  ·rintro i x hi ⟨rfl, hP⟩
   by_cases he : rd l (i : Int) = rd l' (i : Int)
   ·refine .inl ⟨((i + 1 : Nat) : Int), ⟨rfl, fun j hj => ?_⟩, fun hgo => ?_⟩
    ·rcases Nat.lt_or_ge j i with h | h
     ·exact hP j h
     ·obtain rfl : j = i := by omega
      exact he
    ·have hgo2 : Ev (fun k => spec_l02Same.l0 k l l' (wrap64 ((i : Int) + 1))) (decide (l = l')) := by rw [w64 (by omega) (by omega)]; exact hgo
     refine Ev.step (fun k => by rw [spec_l02Same.l0]) ?_
     exact pos (by omega) (pos (by omega) (pos (by omega) (pos he hgo2)))
   ·refine .inr ?_
    rw [decide_eq_false (fun e => he (by rw [e]))]
    refine Ev.step (fun k => by rw [spec_l02Same.l0]) ?_
    exact pos (by omega) (pos (by omega) (pos (by omega) (neg he (cons rfl))))
  ·rintro x ⟨rfl, hP⟩
   rw [decide_eq_true (list_eq rfl (by omega) (fun j hj => hP j hj))]
   refine Ev.step (fun k => by rw [spec_l02Same.l0]) ?_
   exact neg (by omega) (cons rfl)
 ·exact neg hl (cons (by rw [decide_eq_false (fun e => hl (by rw [e]))]))
theorem A2Alike_ev (l l' : List Int) (hn : l.length ≤ 140737488351232) : Ev (fun k => spec_A2Alike.f k l l') (decide (l = l')) := by
 unfold spec_A2Alike.f
 exact Ev.bind (l02Same_evD l l' hn) (cons rfl)
end Go.Proofs.YtpbomchjcgndoaaGreatDoor.Arr
namespace Go.Proofs.YtpbomchjcgndoaaGreatDoor.Arr
open Go.RowKit Go.Proofs.YtpbomchjcgndoaaGreatDoorW.PrintWords Go.Proofs.YtpbomchjcgndoaaGreatDoorW.PrintLast Go.Proofs.YtpbomchjcgndoaaGreatDoorW.PrintMore Go.Proofs.YtpbomchjcgndoaaGreatDoor.U Go.Proofs.YtpbomchjcgndoaaGreatDoor.N
set_option linter.unusedVariables false
set_option linter.unusedSimpArgs false
structure Both (m h : List Int) (s : Nat) : Prop where
 mean : runH m h.length = some (m.take h.length, s)
 hoist : ∃ o, runH h h.length = some (o, s) ∧ o.length = h.length
theorem Both.start (m : List Int) : Both m [] 0 := ⟨by simp [runH], [], rfl, rfl⟩
theorem Both.brk {m h : List Int} {s : Nat} (b : Both m h s) (ho : okH m = true) (hl : h.length < m.length) (h10 : rd m (h.length : Int) = -10) : Both m (h ++ [-10]) (h.length + 1) := by
 obtain ⟨hm, o, hh, hol⟩ := b
 have hnn : runH m (h.length + 1) ≠ none := fun e => by
  rw [okH_none (i := h.length + 1) hl e] at ho
  cases ho
 have hlen : (m.take h.length).length = h.length := by rw [List.length_take]; omega
 rw [runH, hm, Option.bind_some] at hnn
 have hs : s ≠ h.length := fun e => by
  apply hnn
  unfold stepH
  dsimp only
  rw [if_pos h10, hlen, if_pos e]
 refine ⟨?_, o ++ [-10], ?_, by simp [hol]⟩
 ·rw [List.length_append, List.length_singleton, runH, hm, Option.bind_some, take_step m _ hl]
  unfold stepH
  dsimp only
  rw [if_pos h10, hlen, if_neg hs]
 ·rw [runH_snoc, hh, Option.bind_some]
  unfold stepH
  dsimp only
  rw [if_pos rfl, hol, if_neg hs]
theorem Both.flag {m h : List Int} {s : Nat} (b : Both m h s) (hp : ∀ x ∈ m, PlainN x) (hl : h.length < m.length) (h10 : rd m (h.length : Int) ≠ -10) : Both m (h ++ [rd m (h.length : Int)]) s ∧ ∀ n : Int, 1 ≤ n → n ≤ 4 → (s : Int) + n - 1 < (h.length : Int) → Both m (h ++ [-n]) s := by
 obtain ⟨hm, o, hh, hol⟩ := b
 have hx : 0 ≤ rd m (h.length : Int) ∧ rd m (h.length : Int) ≤ 39 := by
  rcases hp _ (show rd m (h.length : Int) ∈ m by rw [rd_get m _ hl]; exact List.getElem_mem _) with h | h
  ·exact absurd h h10
  ·exact h
 have hmm : ∀ y : Int, runH m (h ++ [y]).length = some (m.take (h ++ [y]).length, s) := fun y => by
  rw [List.length_append, List.length_singleton, runH, hm, Option.bind_some, take_step m _ hl]
  unfold stepH
  dsimp only
  rw [if_neg h10, if_pos hx]
 refine ⟨⟨hmm _, o ++ [rd m (h.length : Int)], ?_, by simp [hol]⟩, fun n h1 h4 hs => ⟨hmm _, o ++ [rd o ((s : Int) + n - 1)], ?_, by simp [hol]⟩⟩
 ·rw [runH_snoc, hh, Option.bind_some]
  unfold stepH
  dsimp only
  rw [if_neg h10, if_pos hx]
 ·rw [runH_snoc, hh, Option.bind_some]
  unfold stepH
  dsimp only
  rw [if_neg (by omega), if_neg (by omega), if_pos (by omega), hol, if_pos (by omega), show (s : Int) + - -n - 1 = (s : Int) + n - 1 by omega]
theorem Both.whole {m h : List Int} {s : Nat} (b : Both m h s) (hp : plainM m = true) (hl : h.length = m.length) : okH h = true := by
 obtain ⟨hm, o, hh, hol⟩ := b
 obtain ⟨hN, h1, h8⟩ := plainM_N hp
 obtain ⟨s', hs', hlt, _⟩ := plainM_read hp
 rw [hl] at hm
 rw [hs'] at hm
 simp only [Option.some.injEq, Prod.mk.injEq] at hm
 unfold okH readH
 rw [if_pos (by omega), hh]
 dsimp only
 rw [if_pos (by omega)]
 rfl
theorem set_snoc (h : List Int) (x y : Int) : (h ++ [x]).set h.length y = h ++ [y] := by
 rw [List.set_append_right _ _ (Nat.le_refl _), Nat.sub_self]; rfl
theorem drawn_l0 {c : List Int} (hc : Byt c) {m : List Int} (hp : plainM m = true) : ∀ (d : Nat) (h : List Int) (s : Nat) (p sd : Int), h.length + d = m.length → s ≤ h.length → Both m h s → 0 ≤ p → p + (d : Int) ≤ 1000000 →
  ∃ h' p' sd', Ev (fun k => spec_l02Drawn.l0 k m h (s : Int) (h.length : Int) c p sd) (h', p', sd') ∧ okH h' = true ∧ 0 ≤ p' ∧ p' ≤ p + (d : Int)
 | 0, h, s, p, sd, hd, hs, hb, h0, h1 => by
  refine ⟨h, p, sd, ?_, hb.whole hp (by omega), h0, by omega⟩
  refine Ev.step (fun k => by rw [spec_l02Drawn.l0]) ?_
  exact neg (by omega) (cons rfl)
 | d + 1, h, s, p, sd, hd, hs, hb, h0, h1 => by
  obtain ⟨hN, _, h8⟩ := plainM_N hp
  have ho : okH m = true := by unfold plainM at hp; rw [Bool.and_eq_true] at hp; exact hp.1
  have hl : h.length < m.length := by omega
  have hw : wrap64 ((h.length : Int) + 1) = ((h.length + 1 : Nat) : Int) := by rw [w64 (by omega) (by omega)]; omega
  have hlen : ∀ y : Int, (h ++ [y]).length = h.length + 1 := fun y => by simp
  by_cases h10 : rd m (h.length : Int) = -10
  ·obtain ⟨h', p', sd', hev, hok, hp0, hp9⟩ := drawn_l0 hc hp d (h ++ [-10]) (h.length + 1) p sd (by rw [hlen]; omega) (by rw [hlen]; omega) (hb.brk ho hl h10) h0 (by omega)
   refine ⟨h', p', sd', ?_, hok, hp0, by omega⟩
   rw [hlen] at hev
   refine Ev.step (fun k => by rw [spec_l02Drawn.l0]) ?_
   refine pos (by omega) ?_
   refine pos (by omega) ?_
   refine pos (by omega) ?_
   refine bindc rfl ?_
   refine pos h10 ?_
   rw [hw, h10]
   exact hev
  ·obtain ⟨x, s1, e1, hx0, hx1⟩ := pick_some hc p sd 5 h0 (by omega) (by omega) (by omega)
   obtain ⟨hf, hsub⟩ := hb.flag hN hl h10
   have key : ∃ y : Int, Both m (h ++ [y]) s ∧ ∀ r, Ev (fun k => spec_l02Drawn.l0 k m (h ++ [y]) (s : Int) ((h.length + 1 : Nat) : Int) c (p + 1) s1) r → Ev (fun k => spec_l02Drawn.l0 k m h (s : Int) (h.length : Int) c p sd) r := by
    by_cases hx : 0 < x ∧ (s : Int) + x - 1 < (h.length : Int)
    ·refine ⟨-x, hsub x (by omega) (by omega) hx.2, fun r hr => ?_⟩
     have hws : wrap64 ((wrap64 ((s : Int) + x)) - 1) = (s : Int) + x - 1 := by unfold wrap64; omega
     have hwx : IntKind.i8.wrap (wrap64 (-x)) = -x := by
      rw [w64 (by omega) (by omega)]
      have : x = 1 ∨ x = 2 ∨ x = 3 ∨ x = 4 := by omega
      rcases this with rfl | rfl | rfl | rfl <;> decide
     refine Ev.step (fun k => by rw [spec_l02Drawn.l0]) ?_
     refine pos (by omega) ?_
     refine pos (by omega) ?_
     refine pos (by omega) ?_
     refine bindc rfl ?_
     refine neg h10 ?_
     refine bindc e1 ?_
     refine pos hx.1 ?_
     refine pos (by dsimp only; rw [hws]; exact hx.2) ?_
     refine pos (by rw [hlen]; omega) ?_
     dsimp only
     rw [hwx, hw, show ((h.length : Int)).toNat = h.length from rfl, set_snoc]
     exact hr
    ·refine ⟨rd m (h.length : Int), hf, fun r hr => ?_⟩
     have hr2 : Ev (fun k => spec_l02Drawn.l0 k m (h ++ [rd m (h.length : Int)]) (s : Int) (wrap64 ((h.length : Int) + 1)) c (p + 1) s1) r := by rw [hw]; exact hr
     have hws : wrap64 ((wrap64 ((s : Int) + x)) - 1) = (s : Int) + x - 1 := by unfold wrap64; omega
     refine Ev.step (fun k => by rw [spec_l02Drawn.l0]) ?_
     refine pos (by omega) ?_
     refine pos (by omega) ?_
     refine pos (by omega) ?_
     refine bindc rfl ?_
     refine neg h10 ?_
     refine bindc e1 ?_
     by_cases hx2 : x > 0
     ·refine pos hx2 ?_
      exact neg (fun hh => hx ⟨hx2, by dsimp only at hh; rw [hws] at hh; exact hh⟩) hr2
     ·exact neg hx2 hr2
   obtain ⟨y, hby, hgo⟩ := key
   obtain ⟨h', p', sd', hev, hok, hp0, hp9⟩ := drawn_l0 hc hp d (h ++ [y]) s (p + 1) s1 (by rw [hlen]; omega) (by rw [hlen]; omega) hby (by omega) (by omega)
   rw [hlen] at hev
   exact ⟨h', p', sd', hgo _ hev, hok, hp0, by omega⟩
theorem drawn_some {c : List Int} (hc : Byt c) (p sd : Int) (h0 : 0 ≤ p) (h1 : p ≤ 800000) : ∃ h p' sd', Ev (fun k => spec_l02Drawn.f k c p sd) (h, p', sd') ∧ okH h = true ∧ 0 ≤ p' ∧ p' ≤ p + 30 := by
 obtain ⟨m, p1, s1, hev, hm, hp0, hp9⟩ := meant_some hc p sd h0 (by omega)
 obtain ⟨_, _, h8⟩ := plainM_N hm
 obtain ⟨h', p', sd', hev2, hok, hq0, hq9⟩ := drawn_l0 hc hm m.length [] 0 p1 s1 (by simp) (by simp) (Both.start m) hp0 (by omega)
 refine ⟨h', p', sd', ?_, hok, hq0, by omega⟩
 unfold spec_l02Drawn.f
 exact Ev.bind hev hev2
theorem A2Hoist_some {c : List Int} (hc : Byt c) : ∃ h, Ev (fun k => spec_A2Hoist.f k c) h ∧ okH h = true := by
 obtain ⟨h, p', sd', hev, hm, _⟩ := drawn_some hc 0 0 (by omega) (by omega)
 refine ⟨h, ?_, hm⟩
 unfold spec_A2Hoist.f
 exact bindc (show spec_l00From.f c = some (c, 0, 0) from rfl) (Ev.bind hev (cons rfl))
end Go.Proofs.YtpbomchjcgndoaaGreatDoor.Arr
namespace Go.Proofs.YtpbomchjcgndoaaGreatDoor.Arr
open Go.RowKit Go.Proofs.YtpbomchjcgndoaaGreatDoor.N Go.Proofs.YtpbomchjcgndoaaGreatDoor.U Go.Proofs.YtpbomchjcgndoaaGreatDoorW.PrintLast Go.Proofs.YtpbomchjcgndoaaGreatDoorW.PrintMore Go.Proofs.YtpbomchjcgndoaaGreatDoorW.PrintWords
set_option linter.unusedVariables false
set_option linter.unusedSimpArgs false
def mx (a b : Int) : Int := if b < a then a else b
def mxs (a : Int) (S : List Int) : Nat → Int
 | 0 => a
 | i + 1 => mx (mxs a S i) (rd S (i : Int))
theorem mx_alt (m y : Int) : (if m < y then y else m) = mx m y := by unfold mx; split <;> split <;> omega
theorem mx_assoc (a b c : Int) : mx (mx a b) c = mx a (mx b c) := by unfold mx; repeat' split <;> omega
theorem mxs_ge (a : Int) (S : List Int) : ∀ n, a ≤ mxs a S n
 | 0 => by simp [mxs]
 | n + 1 => by have := mxs_ge a S n; unfold mxs mx; split <;> omega
def top (S : List Int) (n : Nat) : Int := mxs (rd S ((0 : Nat) : Int)) S n
theorem mxs_top (a : Int) (S : List Int) : ∀ n, 0 < n → mxs a S n = mx a (top S n)
 | n + 1, _ => by
  rcases Nat.eq_zero_or_pos n with h | h
  ·subst h
   unfold top mxs mxs mx
   repeat' split
   all_goals omega
  ·show mx (mxs a S n) _ = mx a (mx (mxs _ S n) _)
   rw [mxs_top a S n h, mx_assoc]; rfl
theorem top_one (S : List Int) : top S 1 = rd S ((0 : Nat) : Int) := by unfold top mxs mxs mx; split <;> rfl
def setsH (h : List Int) : Int := mx (top ((pile (zs 44) h 1 h.length).take 40) 40) (top ((pile (zs 44) h 1 h.length).drop 40) 4)
theorem setsH_eq (h : List Int) : setsH h = mxs (mxs 0 ((pile (zs 44) h 1 h.length).take 40) 40) ((pile (zs 44) h 1 h.length).drop 40) 4 := by
 unfold setsH
 rw [mxs_top _ _ 4 (by omega), mxs_top 0 _ 40 (by omega)]
 have h0 : 0 ≤ top ((pile (zs 44) h 1 h.length).take 40) 40 := by
  have h1 := mxs_ge (rd ((pile (zs 44) h 1 h.length).take 40) ((0 : Nat) : Int)) ((pile (zs 44) h 1 h.length).take 40) 40
  have h2 := pile_small h h.length 0 (by omega)
  rw [rd_take _ 0 40 (by omega) (by rw [pile_length, zs_length]; omega)] at h1
  unfold top
  rw [rd_take _ 0 40 (by omega) (by rw [pile_length, zs_length]; omega)]
  omega
 have : mx 0 (top ((pile (zs 44) h 1 h.length).take 40) 40) = top ((pile (zs 44) h 1 h.length).take 40) 40 := by unfold mx; split <;> omega
 rw [this]
set_option maxHeartbeats 4000000 in
set_option maxRecDepth 100000 in
theorem max_calls (ad : Addr) (n c : Nat) (S : List Int) (w : World) (h0 : 0 < n) (hn : n ≤ 1000) (hc : ∀ j : Nat, j < n → w.cell? (ad.add j) = some (.int .i64 (rd S (j : Int)))) :
  Calls Tryz.prog 40 #[.slice (some ad) n c] w fun e w' => e = .returned (.int .i64 (top S n)) ∧ w' = w := by
 have HC := Aside0.mk hc
 have hc0 := hc 0 h0
 rw [show ad.add 0 = ad by unfold Addr.add; simp] at hc0
 have hn1 : ¬ ((n : Int) < 1) := by omega
 clear hc
 have H1 := Aside0.mk (top_one S)
 generalize hx : rd S ((0 : Nat) : Int) = x at *
 go_enter Tryz.func40, Tryz.ntmps40
 go_wp2
 go_loopw [3, 4] (fun v3 v4 wr => ∃ i : Nat, 1 ≤ i ∧ i ≤ n ∧ v4 = .int .i64 i ∧ v3 = .int .i64 (top S i) ∧ wr = w) (fun _ v4 _ => n - (intOf v4).toNat)
 case atStart => exact ⟨1, by omega, by omega, rfl, by rw [H1.out], rfl⟩
 case round =>
  obtain ⟨i, h1, hi, rfl, rfl, rfl⟩ := hrel
  by_cases hlt : i < n
  ·have hc1 := HC.out i hlt
   have HT : Aside0 (top S (i + 1) = mx (top S i) (rd S (i : Int))) := ⟨rfl⟩
   generalize rd S (i : Int) = y at *
   generalize top S i = m at *
   go_wp2
   refine ⟨⟨i + 1, by omega, by omega, by go_num, by rw [HT.out, mx_alt], trivial⟩, ?_⟩
   simp [intOf]; omega
  ·have HI := Aside0.mk (show i = n by omega)
   go_wp2
   go_ret
   exact ⟨by rw [← HI.out]; rfl, rfl⟩
def setsRes (h : List Int) : Value := if okH h = true then .tuple #[.int .i64 (setsH h), .int .i64 0] else .tuple #[.int .i64 0, .int .i64 1]
set_option maxHeartbeats 4000000 in
set_option maxRecDepth 100000 in
theorem implSets_calls (A0 : Option Addr) (c0 : Nat) (h : List Int) (w : World) (hr : Kd.C (Kd.int .i8) w A0 h.length h) (hc : h.length ≤ c0) (hs : Small8 h) :
  Calls Tryz.prog 15 #[.slice A0 h.length c0] w fun e w' => e = .returned (setsRes h) ∧ Below w.heap.size w w' := by
 have hm := Mem.start w
 have HR := Aside0.mk hr
 have HS := Aside0.mk hs
 clear hr hs
 unfold setsRes
 by_cases hk : okH h = true
 ·rw [if_pos hk]
  have HK := Aside0.mk hk
  have HN := Aside0.mk (okH_N hk)
  have HP := Aside0.mk (fun W hr => hoistPieces_calls A0 c0 h W hr hc HN.out.1 HN.out.2)
  have hl3 := (pile_length (zs 44) h 1 h.length).trans zs_length
  clear hk
  rw [show setsH h = mx (top ((pile (zs 44) h 1 h.length).take 40) 40) (top ((pile (zs 44) h 1 h.length).drop 40) 4) from rfl]
  generalize pile (zs 44) h 1 h.length = X at *
  have HF : Aside0 (∀ j : Nat, j < 40 → rd (X.take 40) (j : Int) = rd X (j : Int)) := ⟨fun j hj => rd_take X j 40 hj (by omega)⟩
  have HG : Aside0 (∀ j : Nat, j < 4 → rd (X.drop 40) (j : Int) = rd X ((40 + j : Nat) : Int)) := ⟨fun j hj => rd_drop X j 40 (by omega)⟩
  obtain ⟨a, ha⟩ : ∃ a, top (X.take 40) 40 = a := ⟨_, rfl⟩
  obtain ⟨b, hb⟩ : ∃ b, top (X.drop 40) 4 = b := ⟨_, rfl⟩
  rw [ha, hb, ← mx_alt]
  have HA := Aside0.mk ha
  have HB := Aside0.mk hb
  clear ha hb
  go_enter Tryz.func15, Tryz.ntmps15
  go_wp2_with (first
   | (first | fail | ((with_reducible refine gt_alloc 4 78 ?_); refine st_alloc rfl 4 rfl 78 rfl hm zero78 ?_; clear hm; intro g4 w4 hm) | ((with_reducible refine gt_store 78 ?_); (first | (refine st_full rfl 78 _ _ rfl hm rfl rfl 0 rfl agg78 (by first | omega | assumption | (simp only [lens]; first | omega | assumption) | (simp [lens]; done) | (simp [lens]; omega)) (by first | omega | assumption | (simp only [lens]; first | omega | assumption) | (simp [lens]; done) | (simp [lens]; omega)) ?_) | (refine st_full rfl 78 _ _ rfl hm rfl rfl 1 rfl agg78 (by first | omega | assumption | (simp only [lens]; first | omega | assumption) | (simp [lens]; done) | (simp [lens]; omega)) (by first | omega | assumption | (simp only [lens]; first | omega | assumption) | (simp [lens]; done) | (simp [lens]; omega)) ?_) | (refine st_full rfl 78 _ _ rfl hm rfl rfl 2 rfl agg78 (by first | omega | assumption | (simp only [lens]; first | omega | assumption) | (simp [lens]; done) | (simp [lens]; omega)) (by first | omega | assumption | (simp only [lens]; first | omega | assumption) | (simp [lens]; done) | (simp [lens]; omega)) ?_)); clear hm; intro ws hm; simp only [List.set_cons_zero, List.set_cons_succ] at hm) | ((with_reducible refine gt_field 78 0 ?_); refine st_field rfl 78 _ 0 rfl rfl field78_0 ?_) | ((with_reducible refine gt_field 78 1 ?_); refine st_field rfl 78 _ 1 rfl rfl field78_1 ?_))
   | (go_at_call 19; refine (validHoist_calls A0 c0 h _ (Kd.C_below HR.out (hm.done rfl)) hc HS.out.1 HS.out.2).mono ?_; rintro e wa ⟨rfl, hb⟩; replace hm := hm.after hb; clear hb; rw [HK.out])
   | (go_at_call 39; refine (HP.out _ (Kd.C_below HR.out (hm.done rfl))).mono ?_; rintro e wa ⟨rfl, hb⟩; replace hm := hm.after hb; clear hb))
  have hmd := hm.drawn (ws.drawn + 1)
  have hadd : ∀ i j : Nat, (⟨g4, i, none⟩ : Addr).add j = ⟨g4, i + j, none⟩ := fun i j => by unfold Addr.add; split <;> simp_all
  have HM1 := fun (j : Nat) (hj : j < 40) => (congrArg _ (hadd 0 j)).trans ((hmd.get (n := 0) rfl (0 + j) (by omega)).trans (by rw [Nat.zero_add, ← HF.out j hj]))
  have HM2 := fun (j : Nat) (hj : j < 4) => (congrArg _ (hadd 40 j)).trans ((hmd.get (n := 0) rfl (40 + j) (by omega)).trans (by rw [← HG.out j hj]))
  go_still_tail 7, (by kernel_rfl)
  still_call (HA.out ▸ max_calls ⟨g4, 0, none⟩ 40 40 (X.take 40) _ (by omega) (by omega) HM1)
  repeat still_step
  still_call (HB.out ▸ max_calls ⟨g4, 40, none⟩ 4 4 (X.drop 40) _ (by omega) (by omega) HM2)
  repeat still_step
  refine wpStill_nil ?_
  clear HM1 HM2 hm
  go_wp2
  all_goals
   go_ret2
   exact ⟨rfl, hmd.done rfl⟩
 ·rw [if_neg hk]
  have HK := Aside0.mk (show okH h = false by simpa using hk)
  clear hk
  go_enter Tryz.func15, Tryz.ntmps15
  go_wp2_with (first
   | (first | fail | ((with_reducible refine gt_alloc 4 78 ?_); refine st_alloc rfl 4 rfl 78 rfl hm zero78 ?_; clear hm; intro g4 w4 hm) | ((with_reducible refine gt_store 78 ?_); (first | (refine st_full rfl 78 _ _ rfl hm rfl rfl 0 rfl agg78 (by first | omega | assumption | (simp only [lens]; first | omega | assumption) | (simp [lens]; done) | (simp [lens]; omega)) (by first | omega | assumption | (simp only [lens]; first | omega | assumption) | (simp [lens]; done) | (simp [lens]; omega)) ?_) | (refine st_full rfl 78 _ _ rfl hm rfl rfl 1 rfl agg78 (by first | omega | assumption | (simp only [lens]; first | omega | assumption) | (simp [lens]; done) | (simp [lens]; omega)) (by first | omega | assumption | (simp only [lens]; first | omega | assumption) | (simp [lens]; done) | (simp [lens]; omega)) ?_) | (refine st_full rfl 78 _ _ rfl hm rfl rfl 2 rfl agg78 (by first | omega | assumption | (simp only [lens]; first | omega | assumption) | (simp [lens]; done) | (simp [lens]; omega)) (by first | omega | assumption | (simp only [lens]; first | omega | assumption) | (simp [lens]; done) | (simp [lens]; omega)) ?_)); clear hm; intro ws hm; simp only [List.set_cons_zero, List.set_cons_succ] at hm) | ((with_reducible refine gt_field 78 0 ?_); refine st_field rfl 78 _ 0 rfl rfl field78_0 ?_) | ((with_reducible refine gt_field 78 1 ?_); refine st_field rfl 78 _ 1 rfl rfl field78_1 ?_))
   | (go_at_call 19; refine (validHoist_calls A0 c0 h _ (Kd.C_below HR.out (hm.done rfl)) hc HS.out.1 HS.out.2).mono ?_; rintro e wa ⟨rfl, hb⟩; replace hm := hm.after hb; clear hb; rw [HK.out]))
  go_ret2
  exact ⟨rfl, hm.done rfl⟩
end Go.Proofs.YtpbomchjcgndoaaGreatDoor.Arr
namespace Go.Proofs.YtpbomchjcgndoaaGreatDoor.Arr
open Go.RowKit Go.Proofs.YtpbomchjcgndoaaGreatDoorW.PrintWords Go.Proofs.YtpbomchjcgndoaaGreatDoorW.PrintLast Go.Proofs.YtpbomchjcgndoaaGreatDoorW.PrintMore Go.Proofs.YtpbomchjcgndoaaGreatDoor.U Go.Proofs.YtpbomchjcgndoaaGreatDoor.N Go.Proofs.YtpbomchjcgndoaaGreatDoor.ArrO
set_option linter.unusedVariables false
set_option linter.unusedSimpArgs false
theorem eqM_refl (l : List Int) (h8 : l.length ≤ 1000) : Ev (fun k => impl_Meaning_int8_32.f k l l) true := by
 have key : ∀ (d i : Nat), i + d = l.length → Ev (fun k => impl_Meaning_int8_32.l0 k l l (l.length : Int) (i : Int)) true := by
  intro d
  induction d with
  | zero =>
   intro i hi
   refine Ev.step (fun k => by rw [impl_Meaning_int8_32.l0]) ?_
   exact neg (by omega) (Ev.now _)
  | succ d ih =>
   intro i hi
   refine Ev.step (fun k => by rw [impl_Meaning_int8_32.l0]) ?_
   refine pos (by omega) (pos (by omega) (pos (by omega) (pos (by omega) (pos rfl ?_))))
   rw [w64 (by omega) (by omega)]; exact ih (i + 1) (by omega)
 unfold impl_Meaning_int8_32.f
 exact pos rfl (key l.length 0 (by omega))
theorem eqH_refl (l : List Int) (h8 : l.length ≤ 1000) : Ev (fun k => impl_Hoist_int8_42.f k l l) true := by
 have key : ∀ (d i : Nat), i + d = l.length → Ev (fun k => impl_Hoist_int8_42.l0 k l l (l.length : Int) (i : Int)) true := by
  intro d
  induction d with
  | zero =>
   intro i hi
   refine Ev.step (fun k => by rw [impl_Hoist_int8_42.l0]) ?_
   exact neg (by omega) (Ev.now _)
  | succ d ih =>
   intro i hi
   refine Ev.step (fun k => by rw [impl_Hoist_int8_42.l0]) ?_
   refine pos (by omega) (pos (by omega) (pos (by omega) (pos (by omega) (pos rfl ?_))))
   rw [w64 (by omega) (by omega)]; exact ih (i + 1) (by omega)
 unfold impl_Hoist_int8_42.f
 exact pos rfl (key l.length 0 (by omega))
theorem eqN_refl (l : List Int) (h8 : l.length ≤ 1000) : Ev (fun k => spec_l00Same.f k l l) true := by
 have key : ∀ (d i : Nat), i + d = l.length → Ev (fun k => spec_l00Same.l0 k l l (i : Int)) true := by
  intro d
  induction d with
  | zero =>
   intro i hi
   refine Ev.step (fun k => by rw [spec_l00Same.l0]) ?_
   exact neg (by omega) (Ev.now _)
  | succ d ih =>
   intro i hi
   refine Ev.step (fun k => by rw [spec_l00Same.l0]) ?_
   refine pos (by omega) (pos (by omega) (pos (by omega) (pos rfl ?_)))
   rw [w64 (by omega) (by omega)]; exact ih (i + 1) (by omega)
 unfold spec_l00Same.f
 exact pos rfl (key l.length 0 (by omega))
theorem has_ev (l : List Int) (a : Int) (h8 : l.length ≤ 1000) : Ev (fun k => spec_A2Has.f k l a) (decide (a ∈ l)) := by
 have key : ∀ (d i : Nat), i + d = l.length → (∀ j : Nat, j < i → rd l (j : Int) ≠ a) → Ev (fun k => spec_A2Has.l0 k l a (i : Int)) (decide (a ∈ l)) := by
  intro d
  induction d with
  | zero =>
   intro i hi hp
   refine Ev.step (fun k => by rw [spec_A2Has.l0]) ?_
   refine neg (by omega) ?_
   rw [decide_eq_false]
   ·exact Ev.now _
   ·intro hm
    obtain ⟨j, hj, e⟩ := List.getElem_of_mem hm
    exact hp j (by omega) (by rw [rd_get l j hj]; exact e)
  | succ d ih =>
   intro i hi hp
   refine Ev.step (fun k => by rw [spec_A2Has.l0]) ?_
   refine pos (by omega) (pos (by omega) ?_)
   by_cases he : rd l (i : Int) = a
   ·refine pos he ?_
    rw [decide_eq_true]
    ·exact Ev.now _
    ·rw [← he, rd_get l i (by omega)]; exact List.getElem_mem _
   ·refine neg he ?_
    rw [w64 (by omega) (by omega)]
    refine ih (i + 1) (by omega) (fun j hj => ?_)
    rcases Nat.lt_or_ge j i with h | h
    ·exact hp j h
    ·obtain rfl : j = i := by omega
     exact he
 unfold spec_A2Has.f
 exact key l.length 0 (by omega) (fun j hj => absurd hj (by omega))
section
variable {h m m' : List Int} (e : readH h = some m)
include e
theorem okH_of : okH h = true := by unfold okH; rw [e]; rfl
theorem implMean_ev : Ev (fun n => impl_MeaningOf.f n h) (m, 0) := by
 have hs := small_of (okH_of e)
 unfold impl_MeaningOf.f
 refine Ev.bind (Arr.meaning_ev _ hs.1 hs.2) ?_
 rw [implRead_of e]
 exact pos rfl (Ev.now _)
theorem specRead_ev : Ev (fun n => spec_l02Read.f n h) (m, true) := by
 have hs := small_of (okH_of e)
 have := l02Read_ev h hs.1 hs.2
 rw [e] at this
 exact this
theorem specMean_ev : Ev (fun n => spec_MeaningOf.f n h) (m, 0) := by
 unfold spec_MeaningOf.f
 exact Ev.bind (specRead_ev e) (pos rfl (Ev.now _))
theorem plain_ev : Ev (fun n => impl_WithoutSubs.f n h) (m, 0) := by
 unfold impl_WithoutSubs.f
 exact Ev.bind (implMean_ev e) (Ev.now _)
theorem len_of : m.length = h.length ∧ 1 ≤ m.length ∧ m.length ≤ 8 := by
 obtain ⟨s, _, _, hl⟩ := readH_run e
 have := okH_len (okH_of e)
 omega
theorem alike_ev : Ev (fun n => impl_AlikeHoists.f n h m) (true, 0) := by
 have hs := small_of (okH_of e)
 have e2 := (plainM_read (plain_of e)).choose_spec.2.2
 have hs2 := small_of (okH_of e2)
 have hl := len_of e
 unfold impl_AlikeHoists.f
 refine Ev.bind (Arr.meaning_ev _ hs.1 hs.2) ?_
 refine Ev.bind (Arr.meaning_ev _ hs2.1 hs2.2) ?_
 rw [implRead_of e, implRead_of e2]
 exact pos rfl (pos rfl (Ev.bind (eqM_refl m (by omega)) (Ev.now _)))
theorem specIf_ev (a : Nat) (k : Int) (ha : a < h.length) (hk0 : 0 ≤ k) (hk1 : k ≤ 39) : Ev (fun n => spec_l02If.f n h (a : Int) k) (if 0 ≤ rd h (a : Int) then ((readH (h.set a k)).getD [], 0) else ([], 4)) := by
 have hk := okH_of e
 have hs := small_of hk
 have hl := len_of e
 unfold spec_l02If.f
 have hok : Ev (fun n => spec_l02Ok.f n h) true := by
  unfold spec_l02Ok.f
  exact Ev.bind (specRead_ev e) (Ev.now _)
 refine Ev.bind hok (pos rfl ?_)
 simp only [in_ev', Option.bind_some]
 rw [w64 (by omega) (by omega), decide_eq_true (by omega : 0 ≤ (a : Int) ∧ (a : Int) ≤ (h.length : Int) - 1)]
 refine pos rfl ?_
 rw [decide_eq_true (⟨hk0, hk1⟩ : 0 ≤ k ∧ k ≤ 39)]
 refine Ev.step (fun n => by rw [spec_l02If.j0]) ?_
 refine neg (by simp) (pos (by omega) (pos (by omega) ?_))
 by_cases h0 : 0 ≤ rd h (a : Int)
 ·rw [if_pos h0]
  refine neg (by omega) ?_
  simp only [Option.bind_some, List.nil_append, List.length_nil, Nat.zero_add]
  obtain ⟨m', e', _⟩ := readH_set e ha h0 hk0 hk1
  refine pos (by omega) ?_
  try simp only [Option.bind_some]
  refine pos (by omega) ?_
  rw [Int.toNat_natCast, i8w (by omega) (by omega), e']
  exact Ev.bind (specRead_ev e') (Ev.now _)
 ·rw [if_neg h0]
  exact pos (by omega) (Ev.now _)
end
end Go.Proofs.YtpbomchjcgndoaaGreatDoor.Arr
namespace Go.Proofs.YtpbomchjcgndoaaGreatDoor.Arr
open Go.RowKit Go.Proofs.YtpbomchjcgndoaaGreatDoorW.PrintWords Go.Proofs.YtpbomchjcgndoaaGreatDoorW.PrintLast Go.Proofs.YtpbomchjcgndoaaGreatDoorW.PrintMore Go.Proofs.YtpbomchjcgndoaaGreatDoor.U Go.Proofs.YtpbomchjcgndoaaGreatDoor.N Go.Proofs.YtpbomchjcgndoaaGreatDoor.ArrO
set_option linter.unusedVariables false
set_option linter.unusedSimpArgs false
abbrev OwnE (base : Nat) (w : World) (v : Value) (h : List Int) : Prop := Kd.R (Kd.int .i8) 51 w base (fun _ => True) v h
structure HRows (w : World) (R : List (Value × List Int)) (W : World) : Prop where
 bel : Below w.heap.size w W
 rows : ∀ p ∈ R, OwnE w.heap.size W p.1 p.2
theorem HRows.start (w : World) : HRows w [] w := ⟨Below.refl _ _, by simp⟩
theorem HRows.below {w W W1 : World} {R : List (Value × List Int)} (h : HRows w R W) (hb : Below W.heap.size W W1) : HRows w R W1 := ⟨below_then h.bel hb, fun p hp => Kd.R_below (h.rows p hp) hb⟩
theorem HRows.add {w W W1 : World} {R : List (Value × List Int)} {v : Value} {xs : List Int} (h : HRows w R W) (ho : OwnE W.heap.size W1 v xs) (hb : Below W.heap.size W W1) : HRows w ((v, xs) :: R) W1 :=
 ⟨below_then h.bel hb, fun p hp => by
  rcases List.mem_cons.1 hp with rfl | hp
  ·exact Kd.R_lower ho h.bel.size
  ·exact Kd.R_below (h.rows p hp) hb⟩
theorem HRows.C {w W : World} {R : List (Value × List Int)} (h : HRows w R W) (n : Nat) {A : Option Addr} {c : Nat} {xs : List Int} (hn : R[n]? = some (.slice A xs.length c, xs)) : Kd.C (Kd.int .i8) W A xs.length xs ∧ xs.length ≤ c :=
 have hr := h.rows _ (List.mem_of_getElem? hn)
 ⟨(Kd.R_reads' hr).2.2, (Kd.R_reads' hr).2.1⟩
def GivesR (m : List Int) (q : Int) (W : World) (e : Ending) (w' : World) : Prop := ∃ A c, e = .returned (.tuple #[.slice A m.length c, .int .i64 q]) ∧ OwnE W.heap.size w' (.slice A m.length c) m ∧ Below W.heap.size W w'
def GivesN (m : List Int) (q : Int) (W : World) (e : Ending) (w' : World) : Prop := ∃ A c, e = .returned (.tuple #[.slice A m.length c, .int .i64 q]) ∧ Kd.R (Kd.int .i64) 2 w' W.heap.size (fun _ => True) (.slice A m.length c) m ∧ Below W.heap.size W w'
theorem givesR {f : FuncId} {args : Array Value} {W : World} {m : List Int} {q : Int} (hc : Calls Tryz.prog f args W fun e w' => ∃ v, e = .returned (.tuple #[v, .int .i64 q]) ∧ Kd.R (Kd.int .i8) 51 w' W.heap.size (fun _ => True) v m ∧ Below W.heap.size W w') : Calls Tryz.prog f args W fun e w' => GivesR m q W e w' := by
 refine hc.mono ?_
 rintro e w' ⟨v, rfl, hR, hb⟩
 obtain ⟨A, c, rfl⟩ := Kd.R_slice hR
 exact ⟨A, c, rfl, hR, hb⟩
theorem givesN {f : FuncId} {args : Array Value} {W : World} {m : List Int} {q : Int} (hc : Calls Tryz.prog f args W fun e w' => ∃ v, e = .returned (.tuple #[v, .int .i64 q]) ∧ Kd.R (Kd.int .i64) 2 w' W.heap.size (fun _ => True) v m ∧ Below W.heap.size W w') : Calls Tryz.prog f args W fun e w' => GivesN m q W e w' := by
 refine hc.mono ?_
 rintro e w' ⟨v, rfl, hR, hb⟩
 obtain ⟨A, c, rfl⟩ := Kd.R_slice hR
 exact ⟨A, c, rfl, hR, hb⟩
theorem A2Hoist' (A0 : Option Addr) (c0 : Nat) (l h : List Int) (hev : Ev (fun k => spec_A2Hoist.f k l) h) (W : World) (hr : Kd.C (Kd.int .u8) W A0 l.length l) (hc : l.length ≤ c0) :
  Calls Tryz.prog 5 #[.slice A0 l.length c0] W fun e w' => ∃ A c, e = .returned (.slice A h.length c) ∧ OwnE W.heap.size w' (.slice A h.length c) h ∧ Below W.heap.size W w' := by
 obtain ⟨k, hk⟩ := hev.rounds
 refine (spec_A2Hoist.calls k A0 c0 l h W hr hc hk).mono ?_
 rintro e w' ⟨v, rfl, hR, hb⟩
 obtain ⟨A, c, rfl⟩ := Kd.R_slice hR
 exact ⟨A, c, rfl, hR, hb⟩
theorem a2LongS (A0 : Option Addr) (c0 : Nat) (l : List Int) (A1 : Option Addr) (c1 : Nat) (l' : List Int) (W : World) (h : Kd.C (Kd.int .u8) W A0 l.length l) (hc : l.length ≤ c0) (h' : Kd.C (Kd.int .u8) W A1 l'.length l') (hc' : l'.length ≤ c1) :
  Calls Tryz.prog 4 #[.slice A0 l.length c0, .slice A1 l'.length c1] W fun e w' => e = .returned (.bool (decide (3000 < l.length ∨ 3000 < l'.length))) ∧ Below W.heap.size W w' := by
 have hf : laws_a2Long.f l l' = some (decide (3000 < l.length ∨ 3000 < l'.length)) := by
  unfold laws_a2Long.f
  by_cases h1 : (l.length : Int) > 3000
  ·rw [if_pos h1, decide_eq_true (Or.inl (by omega))]
  ·rw [if_neg h1]
   congr 1
   rw [decide_eq_decide]
   omega
 refine (laws_a2Long.calls A0 c0 l A1 c1 l' _ W h hc h' hc' hf).mono ?_
 rintro e w' ⟨rfl, hb⟩
 exact ⟨rfl, hb.below⟩
theorem a2AtS (A : Option Addr) (c : Nat) (l : List Int) (i n r : Int) (hr : laws_a2At.f l i n = some r) (W : World) (h : Kd.C (Kd.int .u8) W A l.length l) (hc : l.length ≤ c) :
  Calls Tryz.prog 21 #[.slice A l.length c, .int .i64 i, .int .i64 n] W fun e w' => e = .returned (.int .i64 r) ∧ Below W.heap.size W w' := by
 refine (laws_a2At.calls A c l i n r W h hc hr).mono ?_
 rintro e w' ⟨rfl, hb⟩
 exact ⟨rfl, hb.below⟩
section
variable (A : Option Addr) (c : Nat) (B : Option Addr) (d : Nat) (W : World)
theorem alikeS (x : List Int) (hx : x.length ≤ 1000) (h : Kd.C (Kd.int .i8) W A x.length x ∧ x.length ≤ c) (h2 : Kd.C (Kd.int .i8) W B x.length x ∧ x.length ≤ d) :
  Calls Tryz.prog 16 #[.slice A x.length c, .slice B x.length d] W fun e w' => e = .returned (.bool true) ∧ Below W.heap.size W w' := by
 have hev := A2Alike_ev x x (by omega)
 rw [decide_eq_true rfl] at hev
 obtain ⟨k, hk⟩ := hev.rounds
 refine (spec_A2Alike.calls k A c x B d x _ W h.1 h.2 h2.1 h2.2 hk).mono ?_
 rintro e w' ⟨rfl, hb⟩
 exact ⟨rfl, hb.below⟩
theorem sameI (x : List Int) (hx : x.length ≤ 1000) (h : Kd.C (Kd.int .i8) W A x.length x ∧ x.length ≤ c) (h2 : Kd.C (Kd.int .i8) W B x.length x ∧ x.length ≤ d) :
  Calls Tryz.prog 17 #[.slice A x.length c, .slice B x.length d] W fun e w' => e = .returned (.bool true) ∧ Below W.heap.size W w' := by
 have hev : Ev (fun k => impl_SameHoist.f k x x) true := by
  unfold impl_SameHoist.f
  exact Ev.bind (eqH_refl x hx) (Ev.now _)
 obtain ⟨k, hk⟩ := hev.rounds
 refine (impl_SameHoist.calls k A c x B d x _ W h.1 h.2 h2.1 h2.2 hk).mono ?_
 rintro e w' ⟨rfl, hb⟩
 exact ⟨rfl, hb.below⟩
theorem sameS (x : List Int) (hx : x.length ≤ 1000) (h : Kd.C (Kd.int .i8) W A x.length x ∧ x.length ≤ c) (h2 : Kd.C (Kd.int .i8) W B x.length x ∧ x.length ≤ d) :
  Calls Tryz.prog 18 #[.slice A x.length c, .slice B x.length d] W fun e w' => e = .returned (.bool true) ∧ Below W.heap.size W w' := by
 have hev : Ev (fun k => spec_SameHoist.f k x x) true := by
  unfold spec_SameHoist.f
  refine Ev.bind (l02Same_evD x x (by omega)) ?_
  rw [decide_eq_true rfl]
  exact Ev.now _
 obtain ⟨k, hk⟩ := hev.rounds
 refine (spec_SameHoist.calls k A c x B d x _ W h.1 h.2 h2.1 h2.2 hk).mono ?_
 rintro e w' ⟨rfl, hb⟩
 exact ⟨rfl, hb.below⟩
theorem sameN (x : List Int) (hx : x.length ≤ 1000) (h : Kd.C (Kd.int .i64) W A x.length x ∧ x.length ≤ c) (h2 : Kd.C (Kd.int .i64) W B x.length x ∧ x.length ≤ d) :
  Calls Tryz.prog 26 #[.slice A x.length c, .slice B x.length d] W fun e w' => e = .returned (.bool true) ∧ Below W.heap.size W w' := by
 have hev : Ev (fun k => spec_A2Same.f k x x) true := by
  unfold spec_A2Same.f
  exact Ev.bind (eqN_refl x hx) (Ev.now _)
 obtain ⟨k, hk⟩ := hev.rounds
 refine (spec_A2Same.calls k A c x B d x _ W h.1 h.2 h2.1 h2.2 hk).mono ?_
 rintro e w' ⟨rfl, hb⟩
 exact ⟨rfl, hb.below⟩
theorem hasS (x : List Int) (a : Int) (hx : x.length ≤ 1000) (h : Kd.C (Kd.int .i64) W A x.length x) (hc : x.length ≤ c) :
  Calls Tryz.prog 27 #[.slice A x.length c, .int .i64 a] W fun e w' => e = .returned (.bool (decide (a ∈ x))) ∧ Drawn0 W w' := by
 obtain ⟨k, hk⟩ := (has_ev x a hx).rounds
 exact spec_A2Has.calls k A c x a _ W h hc hk
variable {h m : List Int} (e : readH h = some m)
include e
theorem callMeanI (hh : Kd.C (Kd.int .i8) W A h.length h ∧ h.length ≤ c) : Calls Tryz.prog 6 #[.slice A h.length c] W fun e w' => GivesR m 0 W e w' := by
 obtain ⟨k, hk⟩ := (implMean_ev e).rounds
 exact givesR (impl_MeaningOf.calls k A c h m 0 W hh.1 hh.2 hk)
theorem callMeanS (hh : Kd.C (Kd.int .i8) W A h.length h ∧ h.length ≤ c) : Calls Tryz.prog 7 #[.slice A h.length c] W fun e w' => GivesR m 0 W e w' := by
 obtain ⟨k, hk⟩ := (specMean_ev e).rounds
 exact givesR (spec_MeaningOf.calls k A c h m 0 W hh.1 hh.2 hk)
theorem callPlain (hh : Kd.C (Kd.int .i8) W A h.length h ∧ h.length ≤ c) : Calls Tryz.prog 8 #[.slice A h.length c] W fun e w' => GivesR m 0 W e w' := by
 obtain ⟨k, hk⟩ := (plain_ev e).rounds
 exact givesR (impl_WithoutSubs.calls k A c h m 0 W hh.1 hh.2 hk)
theorem callAlike (hh : Kd.C (Kd.int .i8) W A h.length h ∧ h.length ≤ c) (hm : Kd.C (Kd.int .i8) W B m.length m ∧ m.length ≤ d) : Calls Tryz.prog 9 #[.slice A h.length c, .slice B m.length d] W fun e w' => e = .returned (.tuple #[.bool true, .int .i64 0]) ∧ Below W.heap.size W w' := by
 obtain ⟨k, hk⟩ := (alike_ev e).rounds
 exact impl_AlikeHoists.calls k A c h B d m true 0 W hh.1 hh.2 hm.1 hm.2 hk
theorem callRead (hD : Door W) : Calls Tryz.prog 10 #[.string ⟨(hoistT h).toArray⟩] W fun e w' => GivesR h 0 W e w' := givesR (implReadHoist_calls h W (okH_of e) hD)
theorem callFlags (hh : Kd.C (Kd.int .i8) W A h.length h ∧ h.length ≤ c) : Calls Tryz.prog 13 #[.slice A h.length c] W fun e w' => e = .returned (.tuple #[.agg (vals .i64 ((pile (zs 44) h 1 h.length).take 40)), .int .i64 0]) ∧ Below W.heap.size W w' := by
 have := implFlagsIn_calls A c h W hh.1 hh.2 (small_of (okH_of e))
 unfold inRes at this
 rw [if_pos (okH_of e), List.drop_zero] at this
 exact this
theorem callSubs (hh : Kd.C (Kd.int .i8) W A h.length h ∧ h.length ≤ c) : Calls Tryz.prog 14 #[.slice A h.length c] W fun e w' => e = .returned (.tuple #[.agg (vals .i64 ((pile (zs 44) h 1 h.length).drop 40)), .int .i64 0]) ∧ Below W.heap.size W w' := by
 have := implSubsIn_calls A c h W hh.1 hh.2 (small_of (okH_of e))
 unfold inRes at this
 rw [if_pos (okH_of e), List.take_of_length_le (by rw [List.length_drop, pile_length, zs_length]; omega)] at this
 exact this
theorem callSets (hh : Kd.C (Kd.int .i8) W A h.length h ∧ h.length ≤ c) : Calls Tryz.prog 15 #[.slice A h.length c] W fun e w' => e = .returned (.tuple #[.int .i64 (setsH h), .int .i64 0]) ∧ Below W.heap.size W w' := by
 have := implSets_calls A c h W hh.1 hh.2 (small_of (okH_of e))
 unfold setsRes at this
 rw [if_pos (okH_of e)] at this
 exact this
theorem callOk (hh : Kd.C (Kd.int .i8) W A h.length h ∧ h.length ≤ c) : Calls Tryz.prog 19 #[.slice A h.length c] W fun e w' => e = .returned (.bool true) ∧ Below W.heap.size W w' := by
 have hs := small_of (okH_of e)
 have := validHoist_calls A c h W hh.1 hh.2 hs.1 hs.2
 rw [okH_of e] at this
 exact this
theorem callPl (hm : Kd.C (Kd.int .i8) W B m.length m ∧ m.length ≤ d) : Calls Tryz.prog 20 #[.slice B m.length d] W fun e w' => e = .returned (.bool true) ∧ Below W.heap.size W w' := by
 have e2 := (plainM_read (plain_of e)).choose_spec.2.2
 have := validMeaning_calls B d m W hm.1 hm.2 (small_of (okH_of e2))
 rw [plain_of e] at this
 exact this
end
end Go.Proofs.YtpbomchjcgndoaaGreatDoor.Arr
namespace Go.Proofs.YtpbomchjcgndoaaGreatDoor.Arr
open Go.RowKit Go.Proofs.YtpbomchjcgndoaaGreatDoorW.PrintWords Go.Proofs.YtpbomchjcgndoaaGreatDoorW.PrintLast Go.Proofs.YtpbomchjcgndoaaGreatDoorW.PrintMore Go.Proofs.YtpbomchjcgndoaaGreatDoor.U Go.Proofs.YtpbomchjcgndoaaGreatDoor.N Go.Proofs.YtpbomchjcgndoaaGreatDoor.ArrO
set_option linter.unusedVariables false
set_option linter.unusedSimpArgs false
theorem specSp_l0 (m m' : List Int) (h8 : m.length ≤ 8) (hl : m'.length = m.length) : ∀ (d i : Nat), i + d = m.length → Ev (fun n => spec_SpoiledBy.l0 n m' m (offL m m' i) (i : Int)) (offL m m' m.length, 0) := by
 intro d
 induction d with
 | zero =>
  intro i hi
  obtain rfl : i = m.length := by omega
  refine Ev.step (fun k => by rw [spec_SpoiledBy.l0]) ?_
  exact neg (by omega) (Ev.now _)
 | succ d ih =>
  intro i hi
  have hle := offL_le m m' i
  refine Ev.step (fun k => by rw [spec_SpoiledBy.l0]) ?_
  refine pos (by omega) (pos (by omega) (pos (by omega) ?_))
  have hn := ih (i + 1) (by omega)
  rw [show ((i + 1 : Nat) : Int) = (i : Int) + 1 by omega] at hn
  by_cases he : rd m (i : Int) = rd m' (i : Int)
  ·refine pos he ?_
   rw [offL, if_pos he] at hn
   rw [w64 (by omega) (by omega)]; exact hn
  ·refine neg he (pos (by omega) ?_)
   rw [offL, if_neg he] at hn
   rw [w64 (by omega) (by omega)]; exact hn
section
variable (A : Option Addr) (c : Nat) (W : World) {h m m' : List Int} (e : readH h = some m) (a : Nat) (k : Int) (ha : a < h.length) (hk0 : 0 ≤ k) (hk1 : k ≤ 39)
include e ha hk0 hk1
theorem callIfI (h0 : 0 ≤ rd h (a : Int)) (e' : readH (h.set a k) = some m') (hh : Kd.C (Kd.int .i8) W A h.length h ∧ h.length ≤ c) : Calls Tryz.prog 22 #[.slice A h.length c, .int .i64 (a : Int), .int .i64 k] W fun e w' => GivesR m' 0 W e w' :=
 givesR (ifI_calls A c W e a k ha hk0 hk1 h0 e' hh.1 hh.2)
theorem callIfIno (h0 : ¬ 0 ≤ rd h (a : Int)) (hh : Kd.C (Kd.int .i8) W A h.length h ∧ h.length ≤ c) : Calls Tryz.prog 22 #[.slice A h.length c, .int .i64 (a : Int), .int .i64 k] W fun e w' => GivesR [] 4 W e w' :=
 givesR (ifI_no A c W e a k ha hk0 hk1 h0 hh.1 hh.2)
theorem callSpI (h0 : 0 ≤ rd h (a : Int)) (e' : readH (h.set a k) = some m') (hl : m'.length = m.length) (hh : Kd.C (Kd.int .i8) W A h.length h ∧ h.length ≤ c) : Calls Tryz.prog 24 #[.slice A h.length c, .int .i64 (a : Int), .int .i64 k] W fun e w' => GivesN (offL m m' m.length) 0 W e w' :=
 givesN (spI_calls A c W e a k ha hk0 hk1 h0 e' hl (len_of e).2.2 hh.1 hh.2)
theorem callSpIno (h0 : ¬ 0 ≤ rd h (a : Int)) (hh : Kd.C (Kd.int .i8) W A h.length h ∧ h.length ≤ c) : Calls Tryz.prog 24 #[.slice A h.length c, .int .i64 (a : Int), .int .i64 k] W fun e w' => GivesN [] 4 W e w' :=
 givesN (spI_no A c W e a k ha hk0 hk1 h0 hh.1 hh.2)
theorem callIfS (h0 : 0 ≤ rd h (a : Int)) (e' : readH (h.set a k) = some m') (hh : Kd.C (Kd.int .i8) W A h.length h ∧ h.length ≤ c) : Calls Tryz.prog 23 #[.slice A h.length c, .int .i64 (a : Int), .int .i64 k] W fun e w' => GivesR m' 0 W e w' := by
 have hi := specIf_ev e a k ha hk0 hk1
 rw [if_pos h0, e'] at hi
 have hev : Ev (fun n => spec_MeaningIf.f n h (a : Int) k) (m', 0) := by
  unfold spec_MeaningIf.f
  exact Ev.bind hi (Ev.now _)
 obtain ⟨n, hn⟩ := hev.rounds
 exact givesR (spec_MeaningIf.calls n A c h a k m' 0 W hh.1 hh.2 hn)
theorem callIfSno (h0 : ¬ 0 ≤ rd h (a : Int)) (hh : Kd.C (Kd.int .i8) W A h.length h ∧ h.length ≤ c) : Calls Tryz.prog 23 #[.slice A h.length c, .int .i64 (a : Int), .int .i64 k] W fun e w' => GivesR [] 4 W e w' := by
 have hi := specIf_ev e a k ha hk0 hk1
 rw [if_neg h0] at hi
 have hev : Ev (fun n => spec_MeaningIf.f n h (a : Int) k) ([], 4) := by
  unfold spec_MeaningIf.f
  exact Ev.bind hi (Ev.now _)
 obtain ⟨n, hn⟩ := hev.rounds
 exact givesR (spec_MeaningIf.calls n A c h a k [] 4 W hh.1 hh.2 hn)
theorem callSpS (h0 : 0 ≤ rd h (a : Int)) (e' : readH (h.set a k) = some m') (hl : m'.length = m.length) (hh : Kd.C (Kd.int .i8) W A h.length h ∧ h.length ≤ c) : Calls Tryz.prog 25 #[.slice A h.length c, .int .i64 (a : Int), .int .i64 k] W fun e w' => GivesN (offL m m' m.length) 0 W e w' := by
 have hi := specIf_ev e a k ha hk0 hk1
 rw [if_pos h0, e'] at hi
 have hev : Ev (fun n => spec_SpoiledBy.f n h (a : Int) k) (offL m m' m.length, 0) := by
  unfold spec_SpoiledBy.f
  exact Ev.bind hi (pos rfl (Ev.bind (specRead_ev e) (specSp_l0 m m' (len_of e).2.2 hl m.length 0 (by omega))))
 obtain ⟨n, hn⟩ := hev.rounds
 exact givesN (spec_SpoiledBy.calls n A c h a k _ 0 W hh.1 hh.2 hn)
theorem callSpSno (h0 : ¬ 0 ≤ rd h (a : Int)) (hh : Kd.C (Kd.int .i8) W A h.length h ∧ h.length ≤ c) : Calls Tryz.prog 25 #[.slice A h.length c, .int .i64 (a : Int), .int .i64 k] W fun e w' => GivesN [] 4 W e w' := by
 have hi := specIf_ev e a k ha hk0 hk1
 rw [if_neg h0] at hi
 have hev : Ev (fun n => spec_SpoiledBy.f n h (a : Int) k) ([], 4) := by
  unfold spec_SpoiledBy.f
  exact Ev.bind hi (neg (by decide) (Ev.now _))
 obtain ⟨n, hn⟩ := hev.rounds
 exact givesN (spec_SpoiledBy.calls n A c h a k [] 4 W hh.1 hh.2 hn)
end
theorem psumS_set (L : List Int) (i : Nat) (v : Int) : ∀ n, n ≤ L.length → sumN (L.set i v) n = sumN L n + if i < n then v - rd L (i : Int) else 0
 | 0, _ => by simp [sumN]
 | n + 1, hn => by
  rw [sumN, sumN, psumS_set L i v n (by omega), rd_setK L i n v (by omega)]
  by_cases h1 : n = i
  ·subst h1
   rw [if_pos rfl, if_neg (by omega), if_pos (by omega)]; omega
  ·rw [if_neg h1]
   by_cases h2 : i < n
   ·rw [if_pos h2, if_pos (by omega)]; omega
   ·rw [if_neg h2, if_neg (by omega)]; omega
theorem slotS_lt {x : Int} (hx : NumH x) (h : x ≠ -10) : slot x < 44 := by
 unfold NumH at hx
 unfold slot
 split <;> omega
theorem sum_bump (L : List Int) (hl : L.length = 44) (x : Int) (hx : NumH x) : sumN (bump L x 1) 44 = sumN L 44 + if x = -10 then 0 else 1 := by
 unfold bump
 by_cases h : x = -10
 ·rw [if_pos h, if_pos h]; omega
 ·have := slotS_lt hx h
  rw [if_neg h, if_neg h, psumS_set L _ _ 44 (by omega), if_pos this]; omega
theorem sum_pile (L h : List Int) (hl : L.length = 44) (hN : ∀ x ∈ h, NumH x) : ∀ n, n ≤ h.length → sumN (pile L h 1 n) 44 = sumN L 44 + cnb h n
 | 0, _ => by simp [pile, cnb]
 | n + 1, hn => by
  rw [pile, cnb, sum_bump _ (by rw [pile_length]; exact hl) _ (hN _ (by rw [rd_get h n (by omega)]; exact List.getElem_mem _)), sum_pile L h hl hN n (by omega)]
  omega
theorem sum_zs : ∀ n, sumN (zs 44) n = 0
 | 0 => rfl
 | n + 1 => by rw [sumN, sum_zs n, rd_zs]; rfl
theorem sum_split (L : List Int) (hl : L.length = 44) : sumN L 44 = sumN (L.take 40) 40 + sumN (L.drop 40) 4 := by
 have h1 : ∀ n, n ≤ 40 → sumN (L.take 40) n = sumN L n := fun n => by
  induction n with
  | zero => intro _; rfl
  | succ n ih =>
   intro hn
   rw [sumN, sumN, ih (by omega), rd_takeH L 40 n (by omega) (by omega)]
 have h2 : ∀ n, n ≤ 4 → sumN L (40 + n) = sumN L 40 + sumN (L.drop 40) n := fun n => by
  induction n with
  | zero => intro _; simp [sumN]
  | succ n ih =>
   intro hn
   have e : rd (L.drop 40) (n : Int) = rd L ((40 + n : Nat) : Int) := by
    rw [rd_get _ n (by rw [List.length_drop]; omega), rd_get L (40 + n) (by omega), List.getElem_drop]
   have u1 : sumN (L.drop 40) (n + 1) = sumN (L.drop 40) n + rd (L.drop 40) (n : Int) := rfl
   have u2 : sumN L (40 + (n + 1)) = sumN L (40 + n) + rd L ((40 + n : Nat) : Int) := rfl
   have := ih (by omega)
   omega
 have := h2 4 (by omega)
 rw [h1 40 (by omega)]
 exact this
theorem sum_whole {h m : List Int} (e : readH h = some m) : ((grpN m m.length).length : Int) - 1 + (sumN ((pile (zs 44) h 1 h.length).take 40) 40 + sumN ((pile (zs 44) h 1 h.length).drop 40) 4) = (h.length : Int) := by
 obtain ⟨s, hr, _, hl⟩ := readH_run e
 have hp := pile_length (zs 44) h 1 h.length
 rw [zs_length] at hp
 rw [← sum_split _ hp, sum_pile (zs 44) h zs_length (okH_num (okH_of e)) _ (Nat.le_refl _), sum_zs, hl]
 have := grp_len h m h.length (grp_count _ _ _ hr).1
 omega
end Go.Proofs.YtpbomchjcgndoaaGreatDoor.Arr
namespace Go.Proofs.YtpbomchjcgndoaaGreatDoor.Arr
open Go.RowKit Go.Proofs.YtpbomchjcgndoaaGreatDoorW.PrintWords Go.Proofs.YtpbomchjcgndoaaGreatDoorW.PrintLast Go.Proofs.YtpbomchjcgndoaaGreatDoorW.PrintMore Go.Proofs.YtpbomchjcgndoaaGreatDoor.U Kd
set_option linter.unusedVariables false
set_option linter.unusedSimpArgs false
theorem app_run {P : Program} {W : World} {t t' e e' ty : TypeId} {v : Value} {A : Option Addr} {m c : Nat} (ht : P.underlying t = some (.slice e)) (ht' : P.underlying t' = some (.slice e')) :
  (Builtin.append_ #[t, t'] ty #[v, .slice A m c]).run P W = (Builtin.append_ #[t, t] ty #[v, .slice A m c]).run P W := by
 unfold Builtin.append_
 simp only [List.getElem?_toArray, List.getElem?_cons_zero, List.getElem?_cons_succ, Sem.run_bind, run_underlying ht, Result.andThen_ok]
 cases v <;> try rfl
 simp only [Sem.run_bind, run_underlying ht, run_underlying ht', Result.andThen_ok, Sem.run_pure]
section
variable {P : Program} {ops : Array Oper} {rest : List Oper} {o : Oper} {a : Act} {Q : Exit → Act → World → Prop} {α : Type}
theorem R_append_rows2 (d : Kd α) {Rr : α → List Value → Prop} {w0 W : World} (base : Nat) (hgd : o.guard = none) (s x : Operand) (t t' e e' : TypeId) (z : Value) (bytes : Nat)
  (ho : o.op = .call { callee := .builtin .append, args := #[s, x], argTypes := #[t, t'] })
  (ht : P.underlying t = some (.slice e)) (ht' : P.underlying t' = some (.slice e')) (hinfo : (P.info? e).map (fun i => (i.zero, i.size, i.bytes)) = some (some z, d.sz, bytes)) (hz : z.cells.size = d.sz) (hs0 : 0 < d.sz) (hb0 : 0 < bytes)
  (v : Value) (xs ys : List α) (A : Option Addr) (m c : Nat) (ok okp : Nat → Prop) (hs : a.eval s = v) (hx : a.eval x = .slice A m c)
  (HO : d.R e W base ok v xs) (HR : ReadsRow Rr d.sz W A m ys) (hKM : ∀ x cs, Rr x cs → d.M W base okp x cs) (hokp : ∀ k, okp k → ok k ∧ some k ≠ v.ownBlock) (hfresh : ∀ k, W.heap.size ≤ k → ok k)
  (HB : Below base w0 W) (hbase : base ≤ W.heap.size) (hl : (xs.length + m) * bytes ≤ 140737488355328)
  (h : ∀ v1 w1, d.R e w1 base ok v1 (xs ++ ys) → Below base w0 w1 → W.grownBy w1 v.ownBlock → (v1.ownBlock = v.ownBlock ∨ ∃ b, v1.ownBlock = some b ∧ W.heap.size ≤ b) → wpList P ops Q rest (a.put o.dst v1) w1) :
  wpList P ops Q (o :: rest) a W := by
 obtain ⟨i0, hi, hzz⟩ := Option.map_eq_some_iff.1 hinfo
 simp only [Prod.mk.injEq] at hzz
 obtain ⟨hz0, hz1, hz2⟩ := hzz
 have hm : ys.length = m := HR.1
 have hlen : xs.length + m ≤ 140737488355328 := Nat.le_trans (Nat.le_mul_of_pos_right _ hb0) hl
 obtain ⟨hok, inner, hown, hr⟩ := HO
 have hrun : ∃ v1 w1, (Builtin.append_ #[t, t] o.type #[v, .slice A m c]).run P W = .ok v1 w1 ∧ d.R e w1 base ok v1 (xs ++ ys) ∧ W.grownBy w1 v.ownBlock ∧ (v1.ownBlock = v.ownBlock ∨ ∃ b, v1.ownBlock = some b ∧ W.heap.size ≤ b) := by
  rcases A with _ | ad
  ·have h0 : m = 0 := by
    rcases Nat.eq_zero_or_pos m with h0 | h0
    ·exact h0
    ·obtain ⟨ad, h, _⟩ := HR.2.2 h0
     cases h
   subst h0
   obtain rfl : ys = [] := List.eq_nil_of_length_eq_zero hm
   refine ⟨v, W, ?_, by rw [List.append_nil]; exact ⟨hok, inner, hown, hr⟩, World.grownBy.refl W _, .inl rfl⟩
   rcases hown.2 with ⟨rfl, hn⟩ | ⟨g, cap, cur, rfl, _, _, hnc, _⟩
   ·simp [Builtin.append_, run_underlying ht, sizeOf, typeInfo, hi, Builtin.lenOf, Builtin.firstCells]
   ·simp [Builtin.append_, run_underlying ht, sizeOf, typeInfo, hi, Builtin.lenOf, Builtin.firstCells, hnc, storeCells]
  ·obtain ⟨news, hnr, hnc⟩ := ReadsRow.inner_ HR
   have hnM : Reps (d.M W base okp) d.sz ys news := hnr.imp_ (fun p c hp => hKM p c hp)
   have hone : ∀ u ∈ news, u.oneCell' = true := by
    intro u hu
    obtain ⟨q, hq, rfl⟩ := List.mem_iff_getElem.1 hu
    have hql : q / d.sz < ys.length := by
     rw [Nat.div_lt_iff_lt_mul hs0]
     rw [← hnM.1]
     exact hq
    have hc := hnM.2 (q / d.sz) _ (List.getElem?_eq_getElem hql)
    refine d.K_one (d.K_of_M hc) _ ?_
    rw [List.mem_iff_getElem?]
    refine ⟨q % d.sz, ?_⟩
    rw [List.getElem?_take, if_pos (Nat.mod_lt _ hs0), List.getElem?_drop, Nat.mul_comm, Nat.div_add_mod, List.getElem?_eq_getElem hq]
   obtain ⟨v1, w1, hrun, h2, hg, _, hat⟩ := run_append_own_at (P := P) W base t o.type e i0 z d.sz bytes ht hi hz0 hz1 hz2 hz hs0 v xs.length inner hown ad m c news (by rw [hnM.1, hm]) hnc hone (by simp only [maxLen]; omega) hl hbase
   have hat' : v1.ownBlock = v.ownBlock ∨ ∃ b, v1.ownBlock = some b ∧ W.heap.size ≤ b := by
    rcases hat with hat | hat
    ·exact .inl hat
    ·exact .inr ⟨_, hat, Nat.le_refl _⟩
   have hne : ∀ k, some k ≠ v.ownBlock → k < W.heap.size → some k ≠ v1.ownBlock := by
    intro k hk hlt
    rcases hat' with hat | ⟨b, hb, hle⟩
    ·rw [hat]; exact hk
    ·rw [hb]
     intro he
     injection he with he
     omega
   have step : ∀ {q : α} {c : List Value} {o : Nat → Prop}, d.M W base o q c → (∀ k, o k → ok k ∧ some k ≠ v.ownBlock) → d.M w1 base (fun k => ok k ∧ some k ≠ v1.ownBlock) q c := by
    intro q c o hq ho
    have h1 := d.M_move (w1 := w1) (fun k hk => hg.block k hk.2.2.1 (ho k hk.1).2) (d.M_bound hq)
    exact d.M_mono (fun k hk => ⟨(ho k hk.1).1, hne k (ho k hk.1).2 hk.2.2.1⟩) h1
   refine ⟨v1, w1, hrun, ⟨fun k hk => ?_, inner ++ news, by rw [List.length_append, hm]; exact h2, reps_append (hr.imp_ (fun _ _ hq => step hq (fun _ hk => hk))) (hnM.imp_ (fun _ _ hq => step hq hokp))⟩, hg, hat'⟩
   rcases hat' with hat | ⟨b, hb, hle⟩
   ·exact hok k (hat ▸ hk)
   ·rw [hb] at hk
    injection hk with hk
    exact hfresh k (by omega)
 obtain ⟨v1, w1, hr0, h1, hg, hat⟩ := hrun
 have hr1 := (app_run (ty := o.type) ht ht').trans hr0
 refine wpList_plain hgd fun K hK => ?_
 unfold Oper.wp execOp
 simp only [ho, resolve, invoke, builtin, Sem.run_bind, Sem.run_pure, Result.andThen_ok, List.map_toArray, List.map_cons, List.map_nil, hs, hx, hr1]
 exact hK _ _ (h v1 w1 h1 (HB.grown hg hbase (own_base hown)) hg hat)
end
end Go.Proofs.YtpbomchjcgndoaaGreatDoor.Arr
namespace Go.Proofs.YtpbomchjcgndoaaGreatDoor.Arr
open Go.RowKit Go.Proofs.YtpbomchjcgndoaaGreatDoorW.PrintWords Go.Proofs.YtpbomchjcgndoaaGreatDoorW.PrintLast Go.Proofs.YtpbomchjcgndoaaGreatDoorW.PrintMore Go.Proofs.YtpbomchjcgndoaaGreatDoor.U Go.Proofs.YtpbomchjcgndoaaGreatDoor.N Go.Proofs.YtpbomchjcgndoaaGreatDoor.ArrO
set_option linter.unusedVariables false
set_option linter.unusedSimpArgs false
theorem byt_ofE {c : List Int} (wf : WfL (WfI .u8) c) (hl : c.length ≤ 3000) : Byt c := ⟨by omega, fun x hx => by
 have h := wf.2 x hx
 unfold WfI at h
 simp only [Lit.wf, IntKind.min, IntKind.max, IntKind.signed, IntKind.bits, Bool.and_eq_true, decide_eq_true_eq] at h
 simp at h
 omega⟩
theorem sumN_le (S : List Int) (b : Nat) : ∀ n : Nat, (∀ j : Nat, j < n → 0 ≤ rd S (j : Int) ∧ rd S (j : Int) ≤ b) → 0 ≤ sumN S n ∧ sumN S n ≤ b * n
 | 0, _ => by simp [sumN]
 | n + 1, h => by
  have h1 := sumN_le S b n (fun j hj => h j (by omega))
  have h2 := h n (by omega)
  rw [sumN, show ((n + 1 : Nat) : Int) = (n : Int) + 1 by omega, Int.mul_add]
  omega
structure ArrF_ (h : List Int) (G : Nat) (FL SB : List Int) : Prop where
 l1 : FL.length = 40
 l2 : SB.length = 4
 b1 : ∀ j : Nat, j < 40 → 0 ≤ rd FL (j : Int) ∧ rd FL (j : Int) ≤ (8 : Nat)
 b2 : ∀ j : Nat, j < 4 → 0 ≤ rd SB (j : Int) ∧ rd SB (j : Int) ≤ (8 : Nat)
 most : setsH h = mxs (mxs 0 FL 40) SB 4
 sum : (G : Int) - 1 + (sumN FL 40 + sumN SB 4) = (h.length : Int)
theorem arr_facts {h m : List Int} (e : readH h = some m) : ArrF_ h (grpN m m.length).length ((pile (zs 44) h 1 h.length).take 40) ((pile (zs 44) h 1 h.length).drop 40) := by
 have hp := pile_length (zs 44) h 1 h.length
 rw [zs_length] at hp
 have h8 := (okH_len (okH_of e)).2
 have hb : ∀ j : Nat, j < 44 → 0 ≤ rd (pile (zs 44) h 1 h.length) (j : Int) ∧ rd (pile (zs 44) h 1 h.length) (j : Int) ≤ (8 : Nat) := fun j hj => by
  have := pile_small h h.length j hj
  omega
 refine ⟨by rw [List.length_take, hp]; rfl, by rw [List.length_drop, hp], fun j hj => ?_, fun j hj => ?_, setsH_eq h, sum_whole e⟩
 ·rw [rd_takeH _ 40 j hj (by omega)]; exact hb j (by omega)
 ·rw [show rd ((pile (zs 44) h 1 h.length).drop 40) (j : Int) = rd (pile (zs 44) h 1 h.length) ((40 + j : Nat) : Int) by rw [rd_get _ j (by rw [List.length_drop]; omega), rd_get _ (40 + j) (by omega), List.getElem_drop]]
  exact hb (40 + j) (by omega)
def WA (W0 : World) (v : Value) (l : List Int) (W : World) : Prop := Below W0.heap.size W0 W ∧ Kd.R (Kd.int .i8) 51 W W0.heap.size (fun _ => True) v l
theorem joinB_le (G : List (List Int)) (b : Nat) (h : ∀ j, (G.getD j []).length ≤ b) : ∀ n, (joinB G n).length ≤ (b + 1) * n
 | 0 => by simp [joinB]
 | n + 1 => by
  have h1 := joinB_le G b h n
  have h2 := h n
  rw [joinB, List.length_append, Nat.mul_add]
  split
  ·omega
  ·rw [List.length_append, List.length_singleton]; omega
theorem cellOf {W : World} {ad : Addr} {n : Nat} {xs : List Int} {k : IntKind} (hC : Kd.C (Kd.int k) W (some ad) n xs) (i : Nat) (hi : i < n) : W.cell? (ad.add i) = some (.int k (rd xs (i : Int))) := by
 obtain ⟨ad2, e, hc⟩ := Kd.at_int hC (i : Int) (by omega) (by omega)
 injection e with e
 subst e
 rwa [Int.toNat_natCast] at hc
theorem someOf {W : World} {A : Option Addr} {n : Nat} {xs : List Int} {k : IntKind} (hC : Kd.C (Kd.int k) W A n xs) (hn : 0 < n) : ∃ ad, A = some ad := by
 obtain ⟨ad, e, _⟩ := hC.2.2 hn
 exact ⟨ad, e⟩
theorem small_sum {a b : Nat} (h1 : a ≤ 1000) (h2 : b ≤ 1000) : (a + b) * 1 ≤ 140737488355328 ∧ (a + 1) * 1 ≤ 140737488355328 ∧ (a + 1 + b) * 1 ≤ 140737488355328 := by omega
set_option maxHeartbeats 16000000 in
set_option maxRecDepth 100000 in
theorem law_FnSubstitutes (w : World) (A0 : Option Addr) (c0 : Nat) (l : List Int) (hr : Kd.C (Kd.int .u8) w A0 l.length l) (hc : l.length ≤ c0) (wf : WfL (WfI .u8) l) (A1 : Option Addr) (c1 : Nat) (l' : List Int) (hr' : Kd.C (Kd.int .u8) w A1 l'.length l') (hc' : l'.length ≤ c1) (wf' : WfL (WfI .u8) l') (hD : Door w) :
  Calls Tryz.prog 3 #[.slice A0 l.length c0, .slice A1 l'.length c1] w fun e w' => e = .returned (.bool true) ∧ Below w.heap.size w w' := by
 have HLG := Aside0.mk (a2LongS A0 c0 l A1 c1 l' w hr hc hr' hc')
 have HR := Aside0.mk hr
 have HR' := Aside0.mk hr'
 have H0 := Aside0.mk (HRows.start w)
 by_cases hbig : 3000 < l.length ∨ 3000 < l'.length
 ·rw [decide_eq_true hbig] at HLG
  clear hr hr' hbig wf wf' hD
  go_enter Tryz.func3, Tryz.ntmps3
  go_wp2_with (go_at_call 4; refine HLG.out.mono ?_; rintro e w1 ⟨rfl, hb⟩; have H1 := Aside0.mk (H0.out.below hb); clear H0; clear hb)
  go_ret
  exact ⟨rfl, H1.out.bel⟩
 ·rw [decide_eq_false hbig] at HLG
  have hb1 := byt_ofE wf (by omega)
  have hb2 := byt_ofE wf' (by omega)
  obtain ⟨h, hev, hk⟩ := A2Hoist_some hb1
  obtain ⟨m, e⟩ := Option.isSome_iff_exists.1 hk
  obtain ⟨hlm, h1m, h8m⟩ := len_of e
  have hne : ((m.length : Int) != (h.length : Int)) = false := by rw [hlm]; simp
  have HLM := Aside0.mk hlm
  have h1h : 1 ≤ h.length := by omega
  have h8h : h.length ≤ 8 := by omega
  have HA := Aside0.mk (fun W hr => A2Hoist' A0 c0 l h hev W hr hc)
  have HMI := Aside0.mk (fun A c W hh => callMeanI A c W e hh)
  have HMS := Aside0.mk (fun A c W hh => callMeanS A c W e hh)
  have HPL := Aside0.mk (fun A c W hh => callPlain A c W e hh)
  have HAL := Aside0.mk (fun A c B d W hh hm => callAlike A c B d W e hh hm)
  have HTX := Aside0.mk (fun A c W (hh : Kd.C (Kd.int .i8) W A h.length h ∧ h.length ≤ c) => implHoistText_calls A c h W hh.1 hh.2 hk)
  have HRD := Aside0.mk (fun W (hb : Below w.heap.size w W) => callRead W e (hD.below hb))
  have HGR := Aside0.mk (fun A c W (hh : Kd.C (Kd.int .i8) W A m.length m ∧ m.length ≤ c) => implGroups_calls A c m W hh.1 hh.2 (plain_of e))
  have HFL := Aside0.mk (fun A c W hh => callFlags A c W e hh)
  have HSB := Aside0.mk (fun A c W hh => callSubs A c W e hh)
  have HST := Aside0.mk (fun A c W hh => callSets A c W e hh)
  have HA1 := Aside0.mk (fun A c B d W => alikeS A c B d W m (by omega))
  have HA2 := Aside0.mk (fun A c B d W => alikeS A c B d W m (by omega))
  have HA3 := Aside0.mk (fun A c B d W => alikeS A c B d W m (by omega))
  have HS1 := Aside0.mk (fun A c B d W => sameI A c B d W h (by omega))
  have HS2 := Aside0.mk (fun A c B d W => sameS A c B d W h (by omega))
  have HOK := Aside0.mk (fun A c W hh => callOk A c W e hh)
  have HPM := Aside0.mk (fun B d W hh => callPl B d W e hh)
  have HAF := Aside0.mk (arr_facts e)
  have HGF := Aside0.mk (groups_full e)
  have HGJ := Aside0.mk (joinB_grp m m.length (Nat.le_refl _))
  have HGP := Aside0.mk (grpN_pos m m.length)
  have HGL := Aside0.mk (grpN_le m m.length)
  have HE := Aside0.mk e
  have HB2 := Aside0.mk hb2
  have HDD := Aside0.mk hD
  have h40 := HAF.out.l1
  have h4 := HAF.out.l2
  have hsm := HAF.out.most
  clear hr hr' hbig wf wf' hb1 hb2 hev hk e hlm hD
  generalize hFL : (pile (zs 44) h 1 h.length).take 40 = FL at *
  generalize hSB : (pile (zs 44) h 1 h.length).drop 40 = SB at *
  clear hFL hSB
  generalize setsH h = ST at *
  have HSM := Aside0.mk hsm
  clear hsm
  go_enter Tryz.func3, Tryz.ntmps3
  go_wp2_with (first
   | (go_at_call 4; refine HLG.out.mono ?_; rintro e w1 ⟨rfl, hb⟩; have H1 := Aside0.mk (H0.out.below hb); clear H0; clear hb)
   | (go_at_call 5; refine (HA.out _ (Kd.C_below HR.out H1.out.bel)).mono ?_; rintro e w2 ⟨Ah, ch, rfl, ho, hb⟩; have H2 := Aside0.mk (H1.out.add ho hb); clear H1; clear ho hb)
   | (go_at_call 6; refine (HMI.out _ _ _ (H2.out.C 0 rfl)).mono ?_; rintro e w3 ⟨Am, cm, rfl, ho, hb⟩; have H3 := Aside0.mk (H2.out.add ho hb); clear H2; clear ho hb)
   | (go_at_call 7; refine (HMS.out _ _ _ (H3.out.C 1 rfl)).mono ?_; rintro e w4 ⟨Ad, cd, rfl, ho, hb⟩; have H4 := Aside0.mk (H3.out.add ho hb); clear H3; clear ho hb)
   | (go_at_call 8; refine (HPL.out _ _ _ (H4.out.C 2 rfl)).mono ?_; rintro e w5 ⟨Ap, cp, rfl, ho, hb⟩; have H5 := Aside0.mk (H4.out.add ho hb); clear H4; clear ho hb)
   | (go_at_call 9; refine (HAL.out _ _ _ _ _ (H5.out.C 3 rfl) (H5.out.C 1 rfl)).mono ?_; rintro e w6 ⟨rfl, hb⟩; have H6 := Aside0.mk (H5.out.below hb); clear H5; clear hb)
   | (go_at_call 11; refine (HTX.out _ _ _ (H6.out.C 3 rfl)).mono ?_; rintro e w7 ⟨rfl, hb⟩; have H7 := Aside0.mk (H6.out.below hb); clear H6; clear hb)
   | (go_at_call 10; refine (HRD.out _ H7.out.bel).mono ?_; rintro e w8 ⟨Ab, cb, rfl, ho, hb⟩; have H8 := Aside0.mk (H7.out.add ho hb); clear H7; clear ho hb)
   | (go_at_call 12; refine (HGR.out _ _ _ (H8.out.C 2 rfl)).mono ?_; rintro e w9 ⟨vg, rfl, hgl⟩; have H9 := Aside0.mk (H8.out.below hgl.1); have HGG := Aside0.mk hgl; clear H8; clear hgl)
   | (go_at_call 13; refine (HFL.out _ _ _ (H9.out.C 4 rfl)).mono ?_; rintro e w10 ⟨rfl, hb⟩; have H10 := Aside0.mk (H9.out.below hb); have HBG := Aside0.mk hb; have hm := Mem.start w10; clear H9; clear hb)
   | (first | fail | ((with_reducible refine gt_alloc 18 39 ?_); refine st_alloc rfl 18 rfl 39 rfl hm zero39 ?_; clear hm; intro g18 w18 hm) | ((with_reducible refine gt_store 39 ?_); (first | (refine st_full rfl 39 _ _ rfl hm rfl rfl 0 rfl agg39 (by first | omega | assumption | (simp only [lens]; first | omega | assumption) | (simp [lens]; done) | (simp [lens]; omega)) (by first | omega | assumption | (simp only [lens]; first | omega | assumption) | (simp [lens]; done) | (simp [lens]; omega)) ?_) | (refine st_full rfl 39 _ _ rfl hm rfl rfl 1 rfl agg39 (by first | omega | assumption | (simp only [lens]; first | omega | assumption) | (simp [lens]; done) | (simp [lens]; omega)) (by first | omega | assumption | (simp only [lens]; first | omega | assumption) | (simp [lens]; done) | (simp [lens]; omega)) ?_) | (refine st_full rfl 39 _ _ rfl hm rfl rfl 2 rfl agg39 (by first | omega | assumption | (simp only [lens]; first | omega | assumption) | (simp [lens]; done) | (simp [lens]; omega)) (by first | omega | assumption | (simp only [lens]; first | omega | assumption) | (simp [lens]; done) | (simp [lens]; omega)) ?_) | (refine st_full rfl 39 _ _ rfl hm rfl rfl 3 rfl agg39 (by first | omega | assumption | (simp only [lens]; first | omega | assumption) | (simp [lens]; done) | (simp [lens]; omega)) (by first | omega | assumption | (simp only [lens]; first | omega | assumption) | (simp [lens]; done) | (simp [lens]; omega)) ?_) | (refine st_put rfl 39 _ _ rfl hm rfl rfl 0 rfl agg39 (by first | omega | assumption | (simp only [lens]; first | omega | assumption) | (simp [lens]; done) | (simp [lens]; omega)) (by first | omega | assumption | (simp only [lens]; first | omega | assumption) | (simp [lens]; done) | (simp [lens]; omega)) ?_) | (refine st_put rfl 39 _ _ rfl hm rfl rfl 1 rfl agg39 (by first | omega | assumption | (simp only [lens]; first | omega | assumption) | (simp [lens]; done) | (simp [lens]; omega)) (by first | omega | assumption | (simp only [lens]; first | omega | assumption) | (simp [lens]; done) | (simp [lens]; omega)) ?_) | (refine st_put rfl 39 _ _ rfl hm rfl rfl 2 rfl agg39 (by first | omega | assumption | (simp only [lens]; first | omega | assumption) | (simp [lens]; done) | (simp [lens]; omega)) (by first | omega | assumption | (simp only [lens]; first | omega | assumption) | (simp [lens]; done) | (simp [lens]; omega)) ?_) | (refine st_put rfl 39 _ _ rfl hm rfl rfl 3 rfl agg39 (by first | omega | assumption | (simp only [lens]; first | omega | assumption) | (simp [lens]; done) | (simp [lens]; omega)) (by first | omega | assumption | (simp only [lens]; first | omega | assumption) | (simp [lens]; done) | (simp [lens]; omega)) ?_)); clear hm; intro ws hm; simp only [List.set_cons_zero, List.set_cons_succ] at hm) | ((with_reducible refine gt_alloc 20 42 ?_); refine st_alloc rfl 20 rfl 42 rfl hm zero42 ?_; clear hm; intro g20 w20 hm) | ((with_reducible refine gt_store 42 ?_); (first | (refine st_full rfl 42 _ _ rfl hm rfl rfl 0 rfl agg42 (by first | omega | assumption | (simp only [lens]; first | omega | assumption) | (simp [lens]; done) | (simp [lens]; omega)) (by first | omega | assumption | (simp only [lens]; first | omega | assumption) | (simp [lens]; done) | (simp [lens]; omega)) ?_) | (refine st_full rfl 42 _ _ rfl hm rfl rfl 1 rfl agg42 (by first | omega | assumption | (simp only [lens]; first | omega | assumption) | (simp [lens]; done) | (simp [lens]; omega)) (by first | omega | assumption | (simp only [lens]; first | omega | assumption) | (simp [lens]; done) | (simp [lens]; omega)) ?_) | (refine st_full rfl 42 _ _ rfl hm rfl rfl 2 rfl agg42 (by first | omega | assumption | (simp only [lens]; first | omega | assumption) | (simp [lens]; done) | (simp [lens]; omega)) (by first | omega | assumption | (simp only [lens]; first | omega | assumption) | (simp [lens]; done) | (simp [lens]; omega)) ?_) | (refine st_full rfl 42 _ _ rfl hm rfl rfl 3 rfl agg42 (by first | omega | assumption | (simp only [lens]; first | omega | assumption) | (simp [lens]; done) | (simp [lens]; omega)) (by first | omega | assumption | (simp only [lens]; first | omega | assumption) | (simp [lens]; done) | (simp [lens]; omega)) ?_) | (refine st_put rfl 42 _ _ rfl hm rfl rfl 0 rfl agg42 (by first | omega | assumption | (simp only [lens]; first | omega | assumption) | (simp [lens]; done) | (simp [lens]; omega)) (by first | omega | assumption | (simp only [lens]; first | omega | assumption) | (simp [lens]; done) | (simp [lens]; omega)) ?_) | (refine st_put rfl 42 _ _ rfl hm rfl rfl 1 rfl agg42 (by first | omega | assumption | (simp only [lens]; first | omega | assumption) | (simp [lens]; done) | (simp [lens]; omega)) (by first | omega | assumption | (simp only [lens]; first | omega | assumption) | (simp [lens]; done) | (simp [lens]; omega)) ?_) | (refine st_put rfl 42 _ _ rfl hm rfl rfl 2 rfl agg42 (by first | omega | assumption | (simp only [lens]; first | omega | assumption) | (simp [lens]; done) | (simp [lens]; omega)) (by first | omega | assumption | (simp only [lens]; first | omega | assumption) | (simp [lens]; done) | (simp [lens]; omega)) ?_) | (refine st_put rfl 42 _ _ rfl hm rfl rfl 3 rfl agg42 (by first | omega | assumption | (simp only [lens]; first | omega | assumption) | (simp [lens]; done) | (simp [lens]; omega)) (by first | omega | assumption | (simp only [lens]; first | omega | assumption) | (simp [lens]; done) | (simp [lens]; omega)) ?_)); clear hm; intro ws hm; simp only [List.set_cons_zero, List.set_cons_succ] at hm) | ((with_reducible refine gt_elem 39 ?_); refine st_elem rfl 39 _ _ rfl rfl rfl arr39 (by first | omega | assumption | (simp only [lens]; first | omega | assumption) | (simp [lens]; done) | (simp [lens]; omega)) (by first | omega | assumption | (simp only [lens]; first | omega | assumption) | (simp [lens]; done) | (simp [lens]; omega)) ?_) | ((with_reducible refine gt_load 2 ?_); (first | (refine st_get rfl 2 _ rfl hm rfl 0 rfl one2 (by first | omega | assumption | (simp only [lens]; first | omega | assumption) | (simp [lens]; done) | (simp [lens]; omega)) ?_) | (refine st_get rfl 2 _ rfl hm rfl 1 rfl one2 (by first | omega | assumption | (simp only [lens]; first | omega | assumption) | (simp [lens]; done) | (simp [lens]; omega)) ?_) | (refine st_get rfl 2 _ rfl hm rfl 2 rfl one2 (by first | omega | assumption | (simp only [lens]; first | omega | assumption) | (simp [lens]; done) | (simp [lens]; omega)) ?_) | (refine st_get rfl 2 _ rfl hm rfl 3 rfl one2 (by first | omega | assumption | (simp only [lens]; first | omega | assumption) | (simp [lens]; done) | (simp [lens]; omega)) ?_))) | ((with_reducible refine gt_elem 42 ?_); refine st_elem rfl 42 _ _ rfl rfl rfl arr42 (by first | omega | assumption | (simp only [lens]; first | omega | assumption) | (simp [lens]; done) | (simp [lens]; omega)) (by first | omega | assumption | (simp only [lens]; first | omega | assumption) | (simp [lens]; done) | (simp [lens]; omega)) ?_) | ((with_reducible refine gt_load 51 ?_); (first | (refine st_get rfl 51 _ rfl hm rfl 0 rfl one51 (by first | omega | assumption | (simp only [lens]; first | omega | assumption) | (simp [lens]; done) | (simp [lens]; omega)) ?_) | (refine st_get rfl 51 _ rfl hm rfl 1 rfl one51 (by first | omega | assumption | (simp only [lens]; first | omega | assumption) | (simp [lens]; done) | (simp [lens]; omega)) ?_) | (refine st_get rfl 51 _ rfl hm rfl 2 rfl one51 (by first | omega | assumption | (simp only [lens]; first | omega | assumption) | (simp [lens]; done) | (simp [lens]; omega)) ?_) | (refine st_get rfl 51 _ rfl hm rfl 3 rfl one51 (by first | omega | assumption | (simp only [lens]; first | omega | assumption) | (simp [lens]; done) | (simp [lens]; omega)) ?_))))
   | (go_at_call 14; refine (HSB.out _ _ _ ((H10.out.below (hm.done rfl)).C 4 rfl)).mono ?_; rintro e w11 ⟨rfl, hb⟩; replace hm := hm.after hb; clear hb)
   | (go_at_call 15; refine (HST.out _ _ _ ((H10.out.below (hm.done rfl)).C 4 rfl)).mono ?_; rintro e w12 ⟨rfl, hb⟩; replace hm := hm.after hb; clear hb)
   | (go_at_call 16; refine (HA1.out _ _ _ _ _ ((H10.out.below (hm.done rfl)).C 3 rfl) ((H10.out.below (hm.done rfl)).C 2 rfl)).mono ?_; rintro e w13 ⟨rfl, hb⟩; replace hm := hm.after hb; clear hb; clear HA1)
   | (go_at_call 16; refine (HA2.out _ _ _ _ _ ((H10.out.below (hm.done rfl)).C 1 rfl) ((H10.out.below (hm.done rfl)).C 2 rfl)).mono ?_; rintro e w14 ⟨rfl, hb⟩; replace hm := hm.after hb; clear hb; clear HA2)
   | (go_at_call 17; refine (HS1.out _ _ _ _ _ ((H10.out.below (hm.done rfl)).C 0 rfl) ((H10.out.below (hm.done rfl)).C 4 rfl)).mono ?_; rintro e w15 ⟨rfl, hb⟩; replace hm := hm.after hb; clear hb)
   | (go_at_call 18; refine (HS2.out _ _ _ _ _ ((H10.out.below (hm.done rfl)).C 0 rfl) ((H10.out.below (hm.done rfl)).C 4 rfl)).mono ?_; rintro e w16 ⟨rfl, hb⟩; replace hm := hm.after hb; clear hb)
   | (go_at_call 19; refine (HOK.out _ _ _ ((H10.out.below (hm.done rfl)).C 4 rfl)).mono ?_; rintro e w17 ⟨rfl, hb⟩; replace hm := hm.after hb; clear hb)
   | (go_at_call 20; refine (HPM.out _ _ _ ((H10.out.below (hm.done rfl)).C 2 rfl)).mono ?_; rintro e w18 ⟨rfl, hb⟩; replace hm := hm.after hb; clear hb)
   | ((with_reducible refine gate_dst (N := 173) rfl ?_); refine Kd.R_lit (Kd.int .i8) (w0 := w18) w18.heap.size 51 ?hg (N := 173) ?hd (xs := []) (inner := []) (ok := fun _ => True) (okp := fun _ => True) ?hr ?hp (fun _ hk => hk) trivial (Below.refl _ _) (Nat.le_refl _) (by simp) ?_; (case hd => rfl); (case hg => rfl); (case hr => first | (go_simp; done) | (go_simp; rfl)); (case hp => exact (Reps.none _ _)); intro v173 w19 ho hb hgr _; have HV0 := Aside0.mk ho; have HB0 := Aside0.mk hb; clear ho hb hgr))
  obtain ⟨hgb, ss, f, hLM⟩ := HGG.out
  obtain ⟨g16, cap16, hvg, _, _, _⟩ := Kd.R_form hLM.sp (by rw [hLM.len]; exact HGP.out)
  rw [hLM.len] at hvg
  subst hvg
  have HRW := Aside0.mk (fun W (hb : Below w18.heap.size w18 W) => (H10.out.below (hm.done rfl)).below hb)
  have HMM := Aside0.mk (fun W (hb : Below w18.heap.size w18 W) => hm.after hb)
  have HLW := Aside0.mk (fun W (hb : Below w18.heap.size w18 W) => ((hLM.below HBG.out).below (hm.done rfl)).below hb)
  have HRL := Aside0.mk (fun j => Nat.le_trans (grpN_row_le m m.length j) h8m)
  have hJL := joinB_le (grpN m m.length) 8 HRL.out
  have HJL := Aside0.mk (fun i (hi : i ≤ (grpN m m.length).length) => show (joinB (grpN m m.length) i).length ≤ 1000 by have := hJL i; have := HGL.out; omega)
  clear hm hLM hgb HGG H10 HBG hJL
  generalize grpN m m.length = G at *
  have hGp := HGP.out
  have hGl := HGL.out
  have HW0 : Aside0 (WA w18 v173 (joinB G 0) w19) := ⟨HB0.out, HV0.out⟩
  clear HB0 HV0
  go_loopw [25, 24] (fun v25 v24 wr => ∃ i : Nat, i ≤ G.length ∧ v25 = .int .i64 i ∧ Aside0 (WA w18 v24 (joinB G i) wr)) (fun v25 _ _ => G.length - (intOf v25).toNat)
  case atStart => exact ⟨0, by omega, rfl, HW0⟩
  case round =>
   clear HW0
   obtain ⟨i, hi, rfl, HW⟩ := hrel
   obtain ⟨A24, c24, hv⟩ := Kd.R_slice HW.out.2
   subst hv
   by_cases hlt : i < G.length
   ·have HAT := Aside0.mk (fun W hb => (HLW.out W hb).at_ i hlt)
    have hx8 := HRL.out i
    have hxne := HGF.out i hlt
    have HJ := Aside0.mk (show joinB G (i + 1) = (if i = 0 then joinB G i else joinB G i ++ [-10]) ++ G.getD i [] from rfl)
    have hjl := HJL.out i hi
    generalize G.getD i [] = x at *
    generalize joinB G i = J at *
    have HAT : Aside0 (∀ W, Below w18.heap.size w18 W → ∃ A c, W.cell? ⟨g16, i, none⟩ = some (.slice A x.length c) ∧ x.length ≤ c ∧ Kd.C (Kd.int .i8) W A x.length x) := ⟨HAT.out⟩
    obtain ⟨Ax, cx, hcell, hcl, hC⟩ := HAT.out wr HW.out.1
    have HC := Aside0.mk hC
    have HSM2 := Aside0.mk (small_sum hjl (show x.length ≤ 1000 by omega))
    have hx0 : ((x.length : Int) == 0) = false := by
     rw [beq_eq_false_iff_ne]
     intro h0
     exact hxne (List.eq_nil_of_length_eq_zero (by omega))
    clear hC hcl hxne hjl hx8
    by_cases hi0 : i = 0
    ·subst hi0
     rw [if_pos rfl] at HJ
     go_wp2_with (first
      | ((with_reducible refine gate_builtin (b := .append) (xs := #[.tmp 191, .tmp 195]) rfl ?_); at_builtin; refine R_append_rows2 (Kd.int .i8) (w0 := w18) w18.heap.size rfl (.tmp 191) (.tmp 195) 24 27 51 51 (.int .i8 0) 1 rfl Tryz.underlying24 Tryz.underlying27 infoI8 rfl (by decide) (by decide) (.slice A24 J.length c24) J x Ax x.length cx (fun _ => True) (fun _ => False) rfl rfl HW.out.2 HC.out (fun _ _ h => h) (fun _ h => h.elim) (fun _ _ => trivial) HW.out.1 HW.out.1.size HSM2.out.1 ?_; intro v196 w21 ho hb _ _; have HW9 := Aside0.mk (show WA w18 v196 (J ++ x) w21 from ⟨hb, ho⟩); clear ho hb))
     go_roundw
     case rel => exact ⟨0 + 1, by omega, by go_num, by rw [HJ.out]; exact HW9⟩
     case measure => simp [intOf]; omega
    ·have hp1 : (0 : Int) < (i : Int) := by omega
     have hp2 : 0 < i := by omega
     rw [if_neg hi0] at HJ
     clear hi0 HC
     go_wp2_with (first
      | ((with_reducible refine gate_builtin (b := .append) (xs := #[.tmp 188, .tmp 189]) rfl ?_); at_builtin; refine Kd.R_append (Kd.int .i8) (w0 := w18) w18.heap.size rfl (.tmp 188) (.tmp 189) 24 51 (.int .i8 0) 1 rfl Tryz.underlying24 infoI8 rfl (by decide) (by decide) (.slice A24 J.length c24) J (-10) _ (fun _ => True) (fun _ => False) rfl rfl (by rfl) (fun _ hk => hk.elim) (fun _ _ => trivial) HW.out.2 HW.out.1 HW.out.1.size HSM2.out.2.1 ?_; intro v190 w20 ho hb _ _; obtain ⟨A19, c19, rfl⟩ := Kd.R_slice ho; have HW2 := Aside0.mk (show Below w18.heap.size w18 w20 ∧ Kd.R (Kd.int .i8) 51 w20 w18.heap.size (fun _ => True) (.slice A19 (J.length + 1) c19) (J ++ [-10]) from ⟨hb, by have hq := ho; rw [List.length_append] at hq; exact hq⟩); obtain ⟨Ay, cy, hcell2, hcl2, hC2⟩ := HAT.out w20 hb; have HC2 := Aside0.mk hC2; clear ho hb hcl2 hC2 hcell)
      | ((with_reducible refine gate_builtin (b := .append) (xs := #[.tmp 191, .tmp 195]) rfl ?_); at_builtin; refine R_append_rows2 (Kd.int .i8) (w0 := w18) w18.heap.size rfl (.tmp 191) (.tmp 195) 24 27 51 51 (.int .i8 0) 1 rfl Tryz.underlying24 Tryz.underlying27 infoI8 rfl (by decide) (by decide) (.slice A19 (J.length + 1) c19) (J ++ [-10]) x Ay x.length cy (fun _ => True) (fun _ => False) rfl rfl HW2.out.2 HC2.out (fun _ _ h => h) (fun _ h => h.elim) (fun _ _ => trivial) HW2.out.1 HW2.out.1.size (by rw [List.length_append, List.length_singleton]; exact HSM2.out.2.2) ?_; intro v196 w21 ho hb _ _; have HW9 := Aside0.mk (show WA w18 v196 (J ++ [-10] ++ x) w21 from ⟨hb, ho⟩); clear ho hb))
     go_roundw
     case rel => exact ⟨i + 1, by omega, by go_num, by rw [HJ.out]; exact HW9⟩
     case measure => simp [intOf]; omega
   ·have hI : i = G.length := by omega
    have hJm : joinB G i = m := by rw [hI, HGJ.out, List.take_length]
    rw [hJm] at HW ⊢
    have HRO := Aside0.mk (HRW.out wr HW.out.1)
    have HCA := Aside0.mk (Kd.R_reads' HW.out.2)
    have HBW := Aside0.mk HW.out.1
    clear hI hJm HW
    go_wp2_with (go_at_call 16; refine (HA3.out _ _ _ _ _ ⟨HCA.out.2.2, HCA.out.2.1⟩ (HRO.out.C 2 rfl)).mono ?_; rintro e w22 ⟨rfl, hb⟩; have HBX := Aside0.mk (below_then HBW.out hb); clear hb)
    have HSF := Aside0.mk HAF.out.sum
    have HB1f := Aside0.mk HAF.out.b1
    have HB2f := Aside0.mk HAF.out.b2
    generalize hsg : (G.length : Int) - 1 = s0 at *
    have hs0 : 0 ≤ s0 ∧ s0 ≤ 8 := by omega
    have HSG := Aside0.mk hsg
    clear hsg
    go_loopw [28, 26, 27] (fun v28 v26 v27 wr => ∃ i : Nat, i ≤ 40 ∧ v28 = .int .i64 i ∧ v26 = .int .i64 (mxs 0 FL i) ∧ v27 = .int .i64 (s0 + sumN FL i) ∧ Aside0 (Below w18.heap.size w18 wr)) (fun v28 _ _ _ => 40 - (intOf v28).toNat)
    case atStart => exact ⟨0, by omega, rfl, rfl, by simp [sumN], HBX⟩
    case round =>
     clear HBX
     obtain ⟨j, hj, rfl, rfl, rfl, HBX⟩ := hrel
     by_cases hltj : j < 40
     ·have hc1 := (HMM.out _ HBX.out).get (n := 1) rfl j (by omega)
      have hbj := HB1f.out j hltj
      have hsj := sumN_le FL 8 j (fun q hq => HB1f.out q (by omega))
      have HMX := Aside0.mk (show mxs 0 FL (j + 1) = max (mxs 0 FL j) (rd FL (j : Int)) by rw [mxs]; unfold mx; split <;> omega)
      have HSN := Aside0.mk (show s0 + sumN FL (j + 1) = s0 + sumN FL j + rd FL (j : Int) by rw [sumN]; omega)
      generalize mxs 0 FL j = a1 at *
      generalize sumN FL j = a2 at *
      generalize rd FL (j : Int) = a3 at *
      go_wp2_with fail
      go_roundw
      case rel => exact ⟨j + 1, by omega, by go_num, by rw [HMX.out], by rw [HSN.out], HBX⟩
      case measure => simp [intOf]; omega
     ·have hJ40 : j = 40 := by omega
      rw [show mxs 0 FL j = mxs 0 FL 40 by rw [hJ40], show sumN FL j = sumN FL 40 by rw [hJ40]]
      clear hJ40
      have hsj40 := sumN_le FL 8 40 (fun q hq => HB1f.out q hq)
      generalize mxs 0 FL 40 = a1 at *
      generalize sumN FL 40 = a2 at *
      go_wp2_with fail
      go_loopw [29, 26, 27] (fun v29 v26 v27 wr => ∃ i : Nat, i ≤ 4 ∧ v29 = .int .i64 i ∧ v26 = .int .i64 (mxs a1 SB i) ∧ v27 = .int .i64 (s0 + a2 + sumN SB i) ∧ Aside0 (Below w18.heap.size w18 wr)) (fun v29 _ _ _ => 4 - (intOf v29).toNat)
      case atStart => exact ⟨0, by omega, rfl, rfl, by simp [sumN], HBX⟩
      case round =>
       clear HBX
       obtain ⟨q, hq, rfl, rfl, rfl, HBX⟩ := hrel
       by_cases hltq : q < 4
       ·have hc1 := (HMM.out _ HBX.out).get (n := 0) rfl q (by omega)
        have hbq := HB2f.out q hltq
        have hsq := sumN_le SB 8 q (fun z hz => HB2f.out z (by omega))
        have HMX := Aside0.mk (show mxs a1 SB (q + 1) = max (mxs a1 SB q) (rd SB (q : Int)) by rw [mxs]; unfold mx; split <;> omega)
        have HSN := Aside0.mk (show s0 + a2 + sumN SB (q + 1) = s0 + a2 + sumN SB q + rd SB (q : Int) by rw [sumN]; omega)
        generalize mxs a1 SB q = b1 at *
        generalize sumN SB q = b2 at *
        generalize rd SB (q : Int) = b3 at *
        go_wp2_with fail
        go_roundw
        case rel => exact ⟨q + 1, by omega, by go_num, by rw [HMX.out], by rw [HSN.out], HBX⟩
        case measure => simp [intOf]; omega
       ·have hQ4 : q = 4 := by omega
        rw [show mxs a1 SB q = ST by rw [hQ4]; exact HSM.out.symm, show s0 + a2 + sumN SB q = (h.length : Int) by rw [hQ4]; have := HSF.out; omega]
        clear hQ4 hsj40
        obtain ⟨r1, hr0, hr1, hr2⟩ := a2At_some HB2.out 0 (h.length : Int) (by omega) (by omega)
        obtain ⟨r2, hk0, hk1, hk2⟩ := a2At_some HB2.out 1 40 (by omega) (by omega)
        obtain ⟨a, rfl⟩ := Int.eq_ofNat_of_zero_le hr1
        have hla : a < h.length := by omega
        have HT1 := Aside0.mk (fun W hC => a2AtS A1 c1 l' 0 (h.length : Int) (a : Int) hr0 W hC hc')
        have HT2 := Aside0.mk (fun W hC => a2AtS A1 c1 l' 1 40 r2 hk0 W hC hc')
        clear hr0 hk0 hr1 hr2
        have HBX0 := HBX
        obtain ⟨adh, hadh⟩ := someOf ((HRW.out _ HBX.out).C 4 rfl).1 (by omega)
        subst hadh
        obtain ⟨add, hadd⟩ := someOf ((HRW.out _ HBX.out).C 2 rfl).1 (by omega)
        subst hadd
        by_cases h0 : 0 ≤ rd h (a : Int)
        ·obtain ⟨m', e', hbs⟩ := readH_set HE.out hla h0 hk1 (show r2 ≤ 39 by omega)
         have hlm' : m'.length = m.length := by rw [hbs.len', HLM.out]
         have HI1 := Aside0.mk (fun A c W hh => callIfI A c W HE.out a r2 hla hk1 (by omega) h0 e' hh)
         have HI2 := Aside0.mk (fun A c W hh => callIfS A c W HE.out a r2 hla hk1 (by omega) h0 e' hh)
         have HI3 := Aside0.mk (fun A c W hh => callSpI A c W HE.out a r2 hla hk1 (by omega) h0 e' hlm' hh)
         have HI4 := Aside0.mk (fun A c W hh => callSpS A c W HE.out a r2 hla hk1 (by omega) h0 e' hlm' hh)
         have HQ1 := Aside0.mk (fun A c B d W => alikeS A c B d W m' (by omega))
         have hLl := offL_le m m' m.length
         have HLL := Aside0.mk (show (offL m m' m.length).length ≤ 1000 by omega)
         have HME := Aside0.mk (fun x => offL_mem m m' m.length x)
         have HBS := Aside0.mk hbs
         have HLP := Aside0.mk hlm'
         generalize offL m m' m.length = L at *
         have HQ2 := Aside0.mk (fun A c B d W => sameN A c B d W L HLL.out)
         have HCY := Aside0.mk (fun W (hC : Kd.C (Kd.int .i8) W (some adh) h.length h) => cellOf hC a hla)
         have hk3 : r2 ≤ 39 := by omega
         have HY0 := Aside0.mk h0
         clear h0 e' hbs hlm' hLl hk2
         generalize hy : rd h (a : Int) = y at *
         have HYE := Aside0.mk hy
         have hy2 : decide (0 ≤ y) = true := decide_eq_true HY0.out
         have hy3 : 0 ≤ y := HY0.out
         clear hy
         go_wp2_with (first
          | (go_at_call 21; refine (HT1.out _ (Kd.C_below HR'.out (HRW.out _ HBX.out).bel)).mono ?_; rintro e w30 ⟨rfl, hb⟩; have HX1 := Aside0.mk (HRW.out _ (below_then HBX.out hb)); clear HT1; clear hb)
          | (go_at_call 21; refine (HT2.out _ (Kd.C_below HR'.out HX1.out.bel)).mono ?_; rintro e w31 ⟨rfl, hb⟩; have HX2 := Aside0.mk (HX1.out.below hb); clear HT2; clear HX1; clear hb)
          | (go_at_call 22; refine (HI1.out _ _ _ (HX2.out.C 4 rfl)).mono ?_; rintro e w32 ⟨Ao, co, rfl, ho, hb⟩; have HX3 := Aside0.mk (HX2.out.add ho hb); clear HX2; clear ho hb)
          | (go_at_call 23; refine (HI2.out _ _ _ (HX3.out.C 5 rfl)).mono ?_; rintro e w33 ⟨Aq, cq, rfl, ho, hb⟩; have HX4 := Aside0.mk (HX3.out.add ho hb); clear HX3; clear ho hb)
          | (go_at_call 24; refine (HI3.out _ _ _ (HX4.out.C 6 rfl)).mono ?_; rintro e w34 ⟨As, cs, rfl, ho, hb⟩; have HX5 := Aside0.mk (HX4.out.below hb); have HN1 := Aside0.mk ho; clear HX4; clear ho hb)
          | (go_at_call 25; refine (HI4.out _ _ _ (HX5.out.C 6 rfl)).mono ?_; rintro e w35 ⟨Au, cu, rfl, ho, hb⟩; have HX6 := Aside0.mk (HX5.out.below hb); have HN2 := Aside0.mk ho; replace HN1 := Aside0.mk (Kd.R_below HN1.out hb); clear HX5; clear ho hb)
          | (go_at_call 16; refine (HQ1.out _ _ _ _ _ (HX6.out.C 1 rfl) (HX6.out.C 0 rfl)).mono ?_; rintro e w36 ⟨rfl, hb⟩; have HX7 := Aside0.mk (HX6.out.below hb); replace HN1 := Aside0.mk (Kd.R_below HN1.out hb); replace HN2 := Aside0.mk (Kd.R_below HN2.out hb); clear HX6; clear hb)
          | (go_at_call 26; refine (HQ2.out _ _ _ _ _ ⟨(Kd.R_reads' HN1.out).2.2, (Kd.R_reads' HN1.out).2.1⟩ ⟨(Kd.R_reads' HN2.out).2.2, (Kd.R_reads' HN2.out).2.1⟩).mono ?_; rintro e w37 ⟨rfl, hb⟩; have HX8 := Aside0.mk (HX7.out.below hb); have hcy := HCY.out _ (HX8.out.C 6 rfl).1; have HN3 := Aside0.mk (Kd.R_below HN2.out hb); clear HX7; clear HN2; clear hb))
         obtain ⟨adq, hadq⟩ := someOf (HX8.out.C 0 rfl).1 (by have := HLP.out; omega)
         subst hadq
         have HPD := Aside0.mk (HX8.out.C 4 rfl).1
         have HPQ := Aside0.mk (HX8.out.C 0 rfl).1
         have HPH := Aside0.mk (HX8.out.C 6 rfl).1
         have HPL2 := Aside0.mk (Kd.R_reads' HN3.out)
         have HBE := Aside0.mk HX8.out.bel
         clear hcy
         go_loopw [40] (fun v40 wr => ∃ i : Nat, i ≤ h.length ∧ v40 = .int .i64 i ∧ Aside0 (Below w37.heap.size w37 wr)) (fun v40 _ => h.length - (intOf v40).toNat)
         case atStart => exact ⟨0, by omega, rfl, ⟨Below.refl _ _⟩⟩
         case round =>
          obtain ⟨i, hi, rfl, HB⟩ := hrel
          have HBI := Aside0.mk (HB.out)
          have HLIS := Aside0.mk (Kd.C_below HPL2.out.2.2 HB.out)
          have hca := cellOf (Kd.C_below HPH.out HB.out) a hla
          rw [HYE.out] at hca
          by_cases hlt : i < h.length
          ·have hcd := cellOf (Kd.C_below HPD.out HB.out) i (by have := HLM.out; omega)
           have hcm := cellOf (Kd.C_below HPQ.out HB.out) i (by have := HLM.out; have := HLP.out; omega)
           have hci := cellOf (Kd.C_below HPH.out HB.out) i hlt
           have him : i < m.length := by have := HLM.out; omega
           have him' : i < m'.length := by have := HLM.out; have := HLP.out; omega
           have hmem : decide ((i : Int) ∈ L) = decide (rd m (i : Int) ≠ rd m' (i : Int)) := by
            rw [decide_eq_decide, HME.out]
            constructor
            ·rintro ⟨j, h1, h2, h3⟩
             obtain rfl : j = i := by omega
             exact h3
            ·intro h3
             exact ⟨i, by have := HLM.out; omega, rfl, h3⟩
           have HHS : Aside0 (∀ n, Calls Tryz.prog 27 #[.slice Au L.length cu, .int .i64 (i : Int)] (wr.drewN n) fun e w' => e = .returned (.bool (decide (rd m (i : Int) ≠ rd m' (i : Int)))) ∧ ∃ q, w' = (wr.drewN n).drewN q) := ⟨fun n => by
            have := hasS Au cu (wr.drewN n) L (i : Int) HLL.out (Kd.C_drewN HLIS.out n) HPL2.out.2.1
            rw [hmem] at this
            exact this.mono fun e w' ⟨h1, h2⟩ => ⟨h1, h2.out⟩⟩
           have hoff := HBS.out.off i hlt
           clear hmem
           by_cases heq : rd m (i : Int) = rd m' (i : Int)
           ·rw [decide_eq_false (fun hn => hn heq)] at HHS
            rw [heq] at hcd
            generalize rd m' (i : Int) = u at *
            generalize rd h (i : Int) = z at *
            clear hoff heq
            go_wp2
            repeat (go_quiet ((go_at_call 27; refine Calls.quiet_of (HHS.out _))); try go_wp2)
            go_roundw
            case rel => exact ⟨i + 1, by omega, by go_num, ⟨Below.drawn3 HBI.out _⟩⟩
            case measure => simp [intOf]; omega
           ·rw [decide_eq_true heq] at HHS
            obtain ⟨ho1, ho2, ho3, ho4⟩ := hoff.resolve_left heq
            rw [HYE.out] at ho2
            rw [ho1] at hcm
            rw [ho2] at hcd
            have hyr : (y != r2) = true := by rw [bne_iff_ne]; intro e3; exact heq (by rw [ho1, ho2, e3])
            have hA1 : decide ((i : Int) < (a : Int)) = false := decide_eq_false (by omega)
            have hA2 : decide (i < a) = false := decide_eq_false (by omega)
            clear hoff heq ho1 ho2
            by_cases hai : a < i
            ·have hz := ho4 hai
             have hB1 : decide ((a : Int) < (i : Int)) = true := decide_eq_true (by omega)
             have hB2 : decide (a < i) = true := decide_eq_true hai
             have hB3 : decide ((i : Int) > (a : Int)) = true := decide_eq_true (by omega)
             generalize rd h (i : Int) = z at *
             have hz1 : decide (0 ≤ z) = false := decide_eq_false (by omega)
             clear ho3 ho4
             go_wp2
             repeat (go_quiet ((go_at_call 27; refine Calls.quiet_of (HHS.out _))); try go_wp2)
             go_roundw
             case rel => exact ⟨i + 1, by omega, by go_num, ⟨Below.drawn3 HBI.out _⟩⟩
             case measure => simp [intOf]; omega
            ·have hB1 : decide ((a : Int) < (i : Int)) = false := decide_eq_false (by omega)
             have hB2 : decide (a < i) = false := decide_eq_false hai
             have hB3 : decide ((i : Int) > (a : Int)) = false := decide_eq_false (by omega)
             clear ho4
             generalize rd h (i : Int) = z at *
             go_wp2
             repeat (go_quiet ((go_at_call 27; refine Calls.quiet_of (HHS.out _))); try go_wp2)
             go_roundw
             case rel => exact ⟨i + 1, by omega, by go_num, ⟨Below.drawn3 HBI.out _⟩⟩
             case measure => simp [intOf]; omega
          ·have how := HBS.out.own hla
           rw [HYE.out] at how
           have hmem : decide ((a : Int) ∈ L) = decide (y ≠ r2) := by
            rw [decide_eq_decide, HME.out, ← how.1, ← how.2]
            constructor
            ·rintro ⟨j, h1, h2, h3⟩
             obtain rfl : j = a := by omega
             exact h3
            ·intro h3
             exact ⟨a, by have := HLM.out; omega, rfl, h3⟩
           have HHS : Aside0 (∀ n, Calls Tryz.prog 27 #[.slice Au L.length cu, .int .i64 (a : Int)] (wr.drewN n) fun e w' => e = .returned (.bool (decide (y ≠ r2))) ∧ ∃ q, w' = (wr.drewN n).drewN q) := ⟨fun n => by
            have := hasS Au cu (wr.drewN n) L (a : Int) HLL.out (Kd.C_drewN HLIS.out n) HPL2.out.2.1
            rw [hmem] at this
            exact this.mono fun e w' ⟨h1, h2⟩ => ⟨h1, h2.out⟩⟩
           clear how hmem
           by_cases hyk : y = r2
           ·rw [decide_eq_false (fun hn => hn hyk)] at HHS
            have hyr : (y != r2) = false := by rw [hyk]; simp
            clear hyk
            go_wp2
            repeat (go_quiet ((go_at_call 27; refine Calls.quiet_of (HHS.out _))); try go_wp2)
            go_ret
            exact ⟨rfl, Below.drawn3 (below_then HBE.out HBI.out) _⟩
           ·rw [decide_eq_true hyk] at HHS
            have hyr : (y != r2) = true := by rw [bne_iff_ne]; exact hyk
            clear hyk
            go_wp2
            repeat (go_quiet ((go_at_call 27; refine Calls.quiet_of (HHS.out _))); try go_wp2)
            go_ret
            exact ⟨rfl, Below.drawn3 (below_then HBE.out HBI.out) _⟩
        ·have HI1 := Aside0.mk (fun A c W hh => callIfIno A c W HE.out a r2 hla hk1 (by omega) h0 hh)
         have HI2 := Aside0.mk (fun A c W hh => callIfSno A c W HE.out a r2 hla hk1 (by omega) h0 hh)
         have HI3 := Aside0.mk (fun A c W hh => callSpIno A c W HE.out a r2 hla hk1 (by omega) h0 hh)
         have HI4 := Aside0.mk (fun A c W hh => callSpSno A c W HE.out a r2 hla hk1 (by omega) h0 hh)
         have HQ1 := Aside0.mk (fun A c B d W => alikeS A c B d W [] (by simp))
         have HQ2 := Aside0.mk (fun A c B d W => sameN A c B d W [] (by simp))
         have hneg : rd h (a : Int) < 0 := by omega
         have HNG := Aside0.mk hneg
         have hnd : decide (rd h (a : Int) ≥ 0) = false := by simp; omega
         have HND := Aside0.mk hnd
         have HCY := Aside0.mk (fun W (hC : Kd.C (Kd.int .i8) W (some adh) h.length h) => cellOf hC a hla)
         clear h0 hneg hnd
         generalize hy : rd h (a : Int) = y at *
         have hy1 : ¬ 0 ≤ y := by have := HNG.out; omega
         have hy2 : decide (0 ≤ y) = false := decide_eq_false hy1
         clear hy HND HNG
         go_wp2_with (first
          | (go_at_call 21; refine (HT1.out _ (Kd.C_below HR'.out (HRW.out _ HBX.out).bel)).mono ?_; rintro e w30 ⟨rfl, hb⟩; have HX1 := Aside0.mk (HRW.out _ (below_then HBX.out hb)); clear HT1; clear hb)
          | (go_at_call 21; refine (HT2.out _ (Kd.C_below HR'.out HX1.out.bel)).mono ?_; rintro e w31 ⟨rfl, hb⟩; have HX2 := Aside0.mk (HX1.out.below hb); clear HT2; clear HX1; clear hb)
          | (go_at_call 22; refine (HI1.out _ _ _ (HX2.out.C 4 rfl)).mono ?_; rintro e w32 ⟨Ao, co, rfl, ho, hb⟩; have HX3 := Aside0.mk (HX2.out.add ho hb); clear HX2; clear ho hb)
          | (go_at_call 23; refine (HI2.out _ _ _ (HX3.out.C 5 rfl)).mono ?_; rintro e w33 ⟨Aq, cq, rfl, ho, hb⟩; have HX4 := Aside0.mk (HX3.out.add ho hb); clear HX3; clear ho hb)
          | (go_at_call 24; refine (HI3.out _ _ _ (HX4.out.C 6 rfl)).mono ?_; rintro e w34 ⟨As, cs, rfl, ho, hb⟩; have HX5 := Aside0.mk (HX4.out.below hb); have HN1 := Aside0.mk ho; clear HX4; clear ho hb)
          | (go_at_call 25; refine (HI4.out _ _ _ (HX5.out.C 6 rfl)).mono ?_; rintro e w35 ⟨Au, cu, rfl, ho, hb⟩; have HX6 := Aside0.mk (HX5.out.below hb); have HN2 := Aside0.mk ho; replace HN1 := Aside0.mk (Kd.R_below HN1.out hb); clear HX5; clear ho hb)
          | (go_at_call 16; refine (HQ1.out _ _ _ _ _ (HX6.out.C 1 rfl) (HX6.out.C 0 rfl)).mono ?_; rintro e w36 ⟨rfl, hb⟩; have HX7 := Aside0.mk (HX6.out.below hb); replace HN1 := Aside0.mk (Kd.R_below HN1.out hb); replace HN2 := Aside0.mk (Kd.R_below HN2.out hb); clear HX6; clear hb)
          | (go_at_call 26; refine (HQ2.out _ _ _ _ _ ⟨(Kd.R_reads' HN1.out).2.2, (Kd.R_reads' HN1.out).2.1⟩ ⟨(Kd.R_reads' HN2.out).2.2, (Kd.R_reads' HN2.out).2.1⟩).mono ?_; rintro e w37 ⟨rfl, hb⟩; have HX8 := Aside0.mk (HX7.out.below hb); have hcy := HCY.out _ (HX8.out.C 6 rfl).1; clear HX7; clear hb))
         go_ret
         exact ⟨rfl, HX8.out.bel⟩
end Go.Proofs.YtpbomchjcgndoaaGreatDoor.Arr
namespace Go.Proofs.YtpbomchjcgndoaaGreatDoor.Open
open Go.RowKit Go.Proofs.YtpbomchjcgndoaaGreatDoorW.PrintWords Go.Proofs.YtpbomchjcgndoaaGreatDoor.U Go.Deep
set_option linter.unusedVariables false
set_option linter.unusedSimpArgs false
def Opens {α : Type} (P : Program) (t : TypeId) (d : Kd α) (wf : α → Prop) : Prop :=
 ∀ {H : Type} (enc : TypeId × Value → H) (w : World) (held : Bool) (fuel : Nat) (cs : List Value) (x : DataW H × List MemPlace),
  DataW.trod enc P w 0 (fun _ => true) held fuel t cs = some x → ∃ a, d.K w a cs ∧ wf a
section
variable {P : Program} {t : TypeId}
theorem opens_int {k : IntKind} (ht : P.underlying t = some (.int k)) : Opens P t (Kd.int k) (WfI k) := by
 intro H enc w held fuel cs x h
 obtain ⟨n, rfl, _, hw⟩ := DataW.trod_int ht h
 exact ⟨n, rfl, hw⟩
theorem list_of {α : Type} (n : Nat) (p : Nat → α → Prop) (h : ∀ i, i < n → ∃ a, p i a) : ∃ l : List α, l.length = n ∧ ∀ (i : Nat) (a : α), l[i]? = some a → p i a := by
 induction n with
 | zero => exact ⟨[], rfl, fun i a hi => by simp at hi⟩
 | succ n ih =>
  obtain ⟨l, hl, hp⟩ := ih (fun i hi => h i (by omega))
  obtain ⟨a, ha⟩ := h n (by omega)
  refine ⟨l ++ [a], by simp [hl], fun i b hb => ?_⟩
  rcases Nat.lt_or_ge i l.length with hi | hi
  ·rw [List.getElem?_append_left hi] at hb; exact hp i b hb
  ·rw [List.getElem?_append_right hi] at hb
   have : i - l.length = 0 := by
    rcases Nat.eq_zero_or_pos (i - l.length) with h0 | h0
    ·exact h0
    ·rw [List.getElem?_eq_none (by simp; omega)] at hb; cases hb
   rw [this] at hb
   simp at hb
   subst hb
   obtain rfl : i = n := by omega
   exact ha
theorem add_mul (a : Addr) (i m j : Nat) : (a.add (i * m)).add j = a.add (i * m + j) := by
 unfold Addr.add
 by_cases h1 : i * m = 0 <;> by_cases h2 : j = 0 <;> simp [h1, h2] <;> omega
theorem opens_slice {α : Type} {e : TypeId} {d : Kd α} {wf : α → Prop} (ht : P.underlying t = some (.slice e)) (hc : P.cellsOf e = d.sz) (he : Opens P e d wf) : Opens P t (Kd.slice e d) (WfL wf) := by
 intro H enc w held fuel cs x h
 rcases open_slice ht h with ⟨rfl, _⟩ | ⟨a, len, cap, m, n, D, Pl, rfl, hb, hl, hm, hmm, rfl, hx⟩
 ·exact ⟨[], ⟨none, 0, rfl, Nat.le_refl _, Kd.C_nil d w⟩, by simp [WfL, maxLen]⟩
 ·simp only [if_true] at hmm
  subst hmm
  have each : ∀ i, i < len → ∃ y : α, (∃ cs', w.cells? 0 (a.add (i * P.cellsOf e)) (P.cellsOf e) = some cs' ∧ d.K w y cs') ∧ wf y := by
   intro i hi
   obtain ⟨cs', h1, h2⟩ := hx i (by omega)
   obtain ⟨y, hy, hwf⟩ := he enc w held n cs' _ h2
   exact ⟨y, ⟨cs', h1, hy⟩, hwf⟩
  obtain ⟨l, hll, hp⟩ := list_of len _ each
  refine ⟨l, ⟨some a, m, by rw [hll], by omega, ⟨rfl, by rw [hll]; unfold maxLen at hm; omega, fun _ => ⟨a, rfl, fun j y hj => ?_⟩⟩⟩, by rw [hll]; omega, fun y hy => ?_⟩
  ·obtain ⟨⟨cs', h1, h2⟩, _⟩ := hp j y hj
   refine ⟨cs', d.K_len h2, h2, fun i u hu => ?_⟩
   obtain ⟨_, hlen, hcell⟩ := World.cells?_some h1
   have hi : i < P.cellsOf e := by rw [← hlen]; exact (List.getElem?_eq_some_iff.1 hu).1
   have := hcell i hi
   rw [add_mul, hc, hu] at this
   exact this
  ·obtain ⟨j, hj, rfl⟩ := List.getElem_of_mem hy
   exact (hp j _ (List.getElem?_eq_getElem hj)).2
end
end Go.Proofs.YtpbomchjcgndoaaGreatDoor.Open
namespace Go.Proofs.YtpbomchjcgndoaaGreatDoor.fnSubstitutes
open Go.ChangeShapes Go.WideShapes Go.ChangeAt Go.RowKit Go.Proofs.YtpbomchjcgndoaaGreatDoor.U Go.Proofs.YtpbomchjcgndoaaGreatDoorW.PrintWords Go.Proofs.YtpbomchjcgndoaaGreatDoor.Arr
open Go.ChangeMaps (open_string shut_string)
set_option linter.unusedVariables false
theorem own : ownKnob Tryz.prog.godebug = none := by kernel_rfl
theorem laidOut : laidOutB Tryz.prog = true := by kernel_rfl
theorem wrap {H : Type} {enc : TypeId × Value → H} {a : Assume} {C : Checked} {os : Os} {f : FuncId} {fn : Func} {s : ChangeSpec} {conds : List PathCond} {apart fresh handsOn again : Bool} {X : World → Array Value → Prop}
  (hX : ∀ (w w' : World) (args : Array Value), w.heap = w'.heap → X w args → X w' args)
  (own : ownKnob C.prog.godebug = none) (started : os.Started) (noInit : C.prog.inits.idxOf? f = none) (hfn : C.prog.funcs[f]? = some fn)
  (witness : ∃ (w : World) (tape : Tape) (i : Input), w.os = os ∧ (w.forCall tape i).Shaped C.prog ∧ i.vars = [] ∧ Input.okWide C.prog (w.forCall tape i) .any w.heap.size f i ∧
   ((s.pre enc C.prog fn conds apart (w.forCall tape i).memory i.args ∧ X (w.forCall tape i).memory i.args) ∧ sizedMet enc C.prog fn (OpenSpec.ofChange s) apart (w.forCall tape i).memory i.args) ∧ a.holds C.prog (lone (Frame.enter C.prog f i.args .normal) [] (w.forCall tape i)))
  (contract : ∀ (W : World) (base : Nat) (args : Array Value) (ds gs : List (DataW H)) (before : List MemPlace),
   (∀ (j : Nat) t v, fn.params[j]? = some t → args[j]? = some v → Value.okWide C.prog W .any base t v) →
   DataW.Whole enc C.prog fn.params.toList s.vars apart W args.toList ds gs before → X W args → W.ShapedOpen C.prog →
   Calls C.prog f args W fun e W' => ∃ v, e = .returned v ∧ s.post enc C.prog fn apart fresh handsOn again W args v W') :
  ReturnsInHanded a C os f .any (fun w args => (s.pre enc C.prog fn conds apart w args ∧ X w args) ∧ sizedMet enc C.prog fn (OpenSpec.ofChange s) apart w args) (s.post enc C.prog fn apart fresh handsOn again) := by
 refine returnsInHanded_of_calls own started noInit witness ?_
 intro w tape i _ hsh _ hok hpre hholds
 obtain ⟨_, _, _, fn', hfn', _, _, _, _, hval⟩ := hok
 have e : fn' = fn := Option.some.inj (hfn'.symm.trans hfn)
 subst e
 obtain ⟨⟨⟨ds, gs, before, hw, hc⟩, hx⟩, hz⟩ := hpre
 have hw' := DataW.Whole.of_heap (w' := w.forCall tape i) (by rfl) hw
 refine (contract (w.forCall tape i) w.heap.size i.args ds gs before hval hw' (hX _ _ _ (by rfl) hx) hsh).mono fun e W' ⟨v, he, hp⟩ => ?_
 subst he
 exact ChangeSpec.post_blind hp
set_option maxRecDepth 100000 in
theorem rowOf (u : TypeId) (h : Tryz.prog.typeName? 3 u = some "*errors.errorString") : u = 157 := by
 have star : "*" ++ "errors.errorString" = "*errors.errorString" := by decide
 exact typeName_ptr_named (nm := "errors.errorString") (by rw [star]; kernel_rfl) (by kernel_rfl) (by decide) u (by rw [star]; exact h)
set_option maxRecDepth 100000 in
theorem door_of {W : World} (hL : laidMetH Tryz.prog Rows.fnSubstitutesRow.laid W) (hs : W.ShapedOpen Tryz.prog) : Door W := by
 rw [MakeChecks.laidMetH_plain _ _ _ (by kernel_rfl)] at hL
 have h4 := hL.tail.tail.tail.tail
 obtain ⟨a0, s0, hv0, _⟩ := laid_sentinel (g := 2) (ti := 94) (tp := 157) (te := 159) h4 (by kernel_rfl) (by kernel_rfl) Tryz.underlying94 rowOf Tryz.underlying157 Tryz.underlying159 rfl rfl Tryz.underlying9 (by kernel_rfl) (by kernel_rfl)
 obtain ⟨a1, s1, hv1, _⟩ := laid_sentinel (g := 1) (ti := 94) (tp := 157) (te := 159) h4.tail (by kernel_rfl) (by kernel_rfl) Tryz.underlying94 rowOf Tryz.underlying157 Tryz.underlying159 rfl rfl Tryz.underlying9 (by kernel_rfl) (by kernel_rfl)
 have c0 := World.var?_cell (g := 2) (by kernel_rfl) hv0 0
 have c1 := World.var?_cell (g := 1) (by kernel_rfl) hv1 0
 refine ⟨lay146.s1_3 W hs, ⟨_, _, show W.cell? ⟨1, 0, none⟩ = _ by simpa using c1⟩, ⟨_, _, show W.cell? ⟨2, 0, none⟩ = _ by simpa using c0⟩, ?_⟩
 exact Lib.tabIs_of_head (g := 3) (t := 146) (e := 88) (n := 20) (by kernel_rfl) (by kernel_rfl) (by kernel_rfl) (by kernel_rfl) (by kernel_rfl) (by kernel_rfl) (show laidMet Tryz.prog (("internal/strconv.uint64pow10", Lib.tabData .u64 Lib.pow10Tab) :: _) W from hL.tail.tail)
set_option maxRecDepth 100000 in
theorem door_met (os : Os) (args : Array Value) : laidMetH Tryz.prog Rows.fnSubstitutesRow.laid ((World.laidAll Tryz.prog os Rows.fnSubstitutesRow.laid).forCall (fun _ _ => 0) ⟨#[], args, []⟩).memory := by
 rw [MakeChecks.laidMetH_plain _ _ _ (by kernel_rfl)]
 exact laidMet_laidAll _ (by kernel_rfl) (by kernel_rfl)
set_option maxRecDepth 100000 in
theorem lifted (os : Os) (started : os.Started) (H : Type) (enc : TypeId × Value → H) :
  ReturnsInHanded {} Tryz.checked os 3 .any (fun w args => (Rows.fnSubstitutesSpec.pre enc Tryz.prog Tryz.f3 [] false w args ∧ laidMetH Tryz.prog Rows.fnSubstitutesRow.laid w) ∧ sizedMet enc Tryz.prog Tryz.f3 (OpenSpec.ofChange Rows.fnSubstitutesSpec) false w args)
   (Rows.fnSubstitutesSpec.post enc Tryz.prog Tryz.f3 false true false false) := by
 refine wrap (C := Tryz.checked) (X := fun w _ => laidMetH Tryz.prog Rows.fnSubstitutesRow.laid w) (fun _ _ _ hh h => h.of_heap hh) own started (by kernel_rfl) Tryz.func3
  (ChangeSpec.witness_shaped (enc := enc) (C := Tryz.checked) (os := os) (X := fun w _ => laidMetH Tryz.prog Rows.fnSubstitutesRow.laid w) false (World.laidAll Tryz.prog os Rows.fnSubstitutesRow.laid) #[.slice none 0 0, .slice none 0 0] 8 (World.laidAll_os _ _ _) (World.shaped_of_ZipB (by kernel_rfl) (by kernel_rfl)) (by kernel_rfl) (by kernel_rfl) (by kernel_rfl) (door_met os _)) ?_
 intro W base args ds gs before hval0 hW hL hs
 have hval : ∀ (j : Nat) t v, Tryz.f3.params[j]? = some t → args[j]? = some v → Value.okWide Tryz.prog W .any base t v := hval0
 have hW' := hW
 obtain ⟨p, q, hA0, hV, rfl, hfz, hnd⟩ := hW
 have hA : DataW.TrodAll enc Tryz.prog W 0 (fun _ => true) true Tryz.f3.params.toList args.toList ds p := hA0
 rw [Tryz.params3] at hA hval
 obtain ⟨v0, vs0, d0, ds0, p0, q0, hargs, rfl, rfl, h0, r0⟩ := trodAll_cons hA
 obtain ⟨v1, vs1, d1, ds1, p1, q1, rfl, rfl, rfl, h1, r1⟩ := trodAll_cons r0
 obtain ⟨rfl, rfl, rfl⟩ := trodAll_nil r1
 obtain rfl : args = #[v0, v1] := by cases args; simp_all
 obtain ⟨rfl, rfl⟩ := trodVars_none hV
 obtain ⟨a0, len0, cap0, rfl⟩ := okWide_slice Tryz.underlying22 (hval 0 22 v0 rfl rfl)
 have k0 := h0
 have lt0 : ∀ x ∈ p0, x.block < W.heap.size := by obtain ⟨m, hm⟩ := k0; exact DataW.trod_lt m _ _ _ hm
 obtain ⟨l0, hK0, wf0⟩ : ∃ l, Kd.K (Kd.slice 5 (Kd.int .u8)) W l [.slice a0 len0 cap0] ∧ (WfL (WfI .u8)) l := by
  obtain ⟨fuel, hf⟩ := h0
  exact (Open.opens_slice (d := (Kd.int .u8)) Tryz.underlying22 (by kernel_rfl) (Open.opens_int Tryz.underlying5)) enc W true fuel _ _ hf
 obtain ⟨A0, c0, e0, hc0, hC0⟩ := hK0
 injection e0 with e0 _
 injection e0 with ea0 el0 ec0
 subst ea0 el0 ec0
 obtain ⟨a1, len1, cap1, rfl⟩ := okWide_slice Tryz.underlying22 (hval 1 22 v1 rfl rfl)
 have k1 := h1
 have lt1 : ∀ x ∈ p1, x.block < W.heap.size := by obtain ⟨m, hm⟩ := k1; exact DataW.trod_lt m _ _ _ hm
 obtain ⟨l1, hK1, wf1⟩ : ∃ l, Kd.K (Kd.slice 5 (Kd.int .u8)) W l [.slice a1 len1 cap1] ∧ (WfL (WfI .u8)) l := by
  obtain ⟨fuel, hf⟩ := h1
  exact (Open.opens_slice (d := (Kd.int .u8)) Tryz.underlying22 (by kernel_rfl) (Open.opens_int Tryz.underlying5)) enc W true fuel _ _ hf
 obtain ⟨A1, c1, e1, hc1, hC1⟩ := hK1
 injection e1 with e1 _
 injection e1 with ea1 el1 ec1
 subst ea1 el1 ec1
 clear hA0 hval0
 refine (Arr.law_FnSubstitutes W _ _ l0 hC0 hc0 wf0 _ _ l1 hC1 hc1 wf1 (door_of hL hs)).mono ?_
 rintro e W' ⟨rfl, bel⟩
 exact ⟨_, rfl, _, _, _, [], _, [], hW', trodAll_mk1 (shut_bool Tryz.underlying4 _), (trodAll_cons_mk (Below.trod laidOut (by kernel_rfl) (of_decide_eq_true (by kernel_rfl)) k0 bel lt0) (trodAll_cons_mk (Below.trod laidOut (by kernel_rfl) (of_decide_eq_true (by kernel_rfl)) k1 bel lt1) trodAll_mk0)), rfl, bel.frame _, fun h => by cases h⟩
theorem over : Rows.fnSubstitutesRow.holds Tryz.pinned (OpenSpec.ofChange Rows.fnSubstitutesSpec) :=
 OpenClaim.holds_of_wide 3 Tryz.f3 rfl rfl rfl rfl rfl rfl rfl ⟨rfl, rfl, rfl, rfl, rfl⟩ rfl rfl rfl rfl rfl (by kernel_rfl) Tryz.func3 (by kernel_rfl)
  (of_decide_eq_true (by kernel_rfl)) (by unfold Func.isWrapper; first | (rw [if_pos (by decide +kernel)]; kernel_rfl) | (rw [if_neg (by decide +kernel)]; exact ⟨rfl, rfl⟩))
  (fun os started H enc _ => lifted os started H enc)
theorem proved : Rows.FnSubstitutesSaid := over
end Go.Proofs.YtpbomchjcgndoaaGreatDoor.fnSubstitutes
