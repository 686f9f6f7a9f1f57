/- The texts that the statement FnStocks needs, part 4: contracts of the program's functions and plain laws, without what it does not reach. No condition beyond what each theorem says. -/
import Derived.Below
import Derived.Deep.Draws
import Derived.Deep.AppendLies
import Derived.Maps.AppendAt
import Derived.OwnWalk
import Derived.Laws.BytesArg
import Derived.Laws.MakeOwn
import Derived.Laws.OwnMore
import Derived.Deep.OwnRows
import Derived.Tactics
import Derived.Lib.ConvBytes
import Derived.Laws.Slices
import Derived.WalkKit
import Derived.KernelRfl
import Derived.RowKit3
import Derived.Deep.LoopGhost
import Derived.Deep.QuietTactic
import Derived.BigQuiet
import Derived.WideLaws
import Derived.Deep.DeepCutAuto
import Derived.Deep.CutBlock
import Derived.Deep.RegionHeld3
import Derived.Laws.Rows
import Derived.Lib.AppendStr
import Derived.ArgAppend
import Derived.Laws.IdiomCopy
import Derived.RowKit
import Derived.Laws.Tables
import Derived.BigFrame
import Derived.Laws.CopyRow
import Derived.Laws.ResultCell
import Derived.OrdersHeld
import Derived.Laws.BitsLemmas
import Derived.Laws.StructEq
import Derived.Test.YthaoopbfggnceaaGreatDoorProg
import Derived.WalkSpells
import Derived.StillTailTactics
import Derived.Laws.BitsAllLaws
import Derived.ProofKit
import Derived.OpenShut
import Derived.ChangeSame
import Derived.Shelf.Strconv.Itoa4
import Derived.Shelf.Strings.OnBuilder
import Derived.Lib.SplitLaws
import Derived.Lib.ParseIntB
import Derived.Lib.CountLaws
import Derived.Shelf.Strings.SplitShaped
import Derived.Shelf.Strings.Shaped
import Derived.Shelf.Small.Wraps
import Derived.Shelf.Strconv.ErrVarParseInt
import Derived.Lib.SmallJoins
import Derived.Lib.AppendIntMem
import Derived.Lib.ParseIntBTie
import Derived.Deep.Slices
import Derived.Test.YthaoopbfggnceaaGreatDoorRows
import Derived.ShutString
import Derived.ChangeOld
import Derived.SizedLaws
import Derived.HandedShaped
import Derived.LaidMore
import Derived.Lay
import Derived.Stop.Joined
import Derived.Stop.LaidErr
import Derived.Lib.LaidTab
import Derived.Test.YthaoopbfggnceaaGreatDoorCards
import Derived.Test.YthaoopbfggnceaaGreatDoorTie
import Derived.SevenTiedAt
import Derived.Test.YthaoopbfggnceaaGreatDoorZFnStocks3
namespace Go.Proofs.YthaoopbfggnceaaGreatDoor.Arr
open Go.RowKit Go.Proofs.YthaoopbfggnceaaGreatDoorW.PrintWords Go.Proofs.YthaoopbfggnceaaGreatDoorW.PrintLast Go.Proofs.YthaoopbfggnceaaGreatDoorW.PrintMore Go.Proofs.YthaoopbfggnceaaGreatDoor.U Go.Proofs.YthaoopbfggnceaaGreatDoor.L
set_option linter.unusedVariables false
set_option linter.unusedSimpArgs false
theorem tail_eq (y : List Int) (a b : Int) (h1 : 1 ≤ y.length) (h8 : y.length ≤ 100) :
  (if 0 ≤ (wrap64 ((y.length : Int) - 1)) then (if (wrap64 ((y.length : Int) - 1)) < (y.length : Int) then (if (rd y (wrap64 ((y.length : Int) - 1))) = (-10) then (if (wrap64 ((y.length : Int) - 1)) ≤ (y.length : Int) then (some ((y.take ((wrap64 ((y.length : Int) - 1)) : Int).toNat), a, b)) else (none)) else (some (y, a, b))) else (none)) else (none)) = some ((if rd y ((y.length : Int) - 1) = -10 then y.take (y.length - 1) else y), a, b) := by
 have hw : wrap64 ((y.length : Int) - 1) = (y.length : Int) - 1 := w64 (by omega) (by omega)
 rw [hw, if_pos (by omega), if_pos (by omega)]
 by_cases h : rd y ((y.length : Int) - 1) = -10
 ·rw [if_pos h, if_pos h, if_pos (by omega), show ((y.length : Int) - 1).toNat = y.length - 1 by omega]
 ·rw [if_neg h, if_neg h]
theorem ev_of {α : Type} {o : Option α} {r : α} (h : o = some r) : Ev (fun _ => o) r := by rw [h]; exact cons rfl
theorem meant_l0 {c : List Int} (hc : Byt c) : ∀ (n : Nat) (out : List Int) (p sd : Int), n ≤ 6 → 0 ≤ p → p + 2 * (n : Int) ≤ 1000000 → out.length + 2 * n ≤ 12 → (∀ x ∈ out, PlainN x) → Alt out → (n = 0 → 1 ≤ out.length) →
  ∃ m p' sd', Ev (fun k => spec_l02Meant.l0 k out (n : Int) c p sd) (m, p', sd') ∧ plainM m = true ∧ 0 ≤ p' ∧ p' ≤ p + 2 * (n : Int)
 | 0, out, p, sd, hn, h0, h1, hl, hp, ha, hne => by
  have hne := hne rfl
  by_cases h8 : (out.length : Int) > 8
  ·have hl8 : (out.take 8).length = 8 := by rw [List.length_take]; omega
   refine ⟨_, p, sd, ?_, cut_plain (m := out.take 8) (fun x hx => hp x (List.mem_of_mem_take hx)) (alt_take ha 8 (by omega)) (by omega) (by omega), h0, by omega⟩
   refine Ev.step (fun k => by rw [spec_l02Meant.l0]) ?_
   refine neg (by omega) ?_
   refine pos h8 ?_
   refine pos (by omega) ?_
   refine bindc rfl ?_
   exact ev_of (tail_eq (out.take 8) p sd (by omega) (by omega))
  ·refine ⟨_, p, sd, ?_, cut_plain hp ha hne (by omega), h0, by omega⟩
   refine Ev.step (fun k => by rw [spec_l02Meant.l0]) ?_
   refine neg (by omega) ?_
   refine neg h8 ?_
   exact ev_of (tail_eq out p sd (by omega) (by omega))
 | n + 1, out, p, sd, hn, h0, h1, hl, hp, ha, hne => by
  obtain ⟨x, s1, e1, hx⟩ := among_some hc p sd [0, 1, 2, 3, 25, 39] h0 (by omega) (by decide) (by decide)
  obtain ⟨b, s2, e2⟩ := one_some hc (p + 1) s1 6 (by omega) (by omega) (by omega) (by omega)
  have hx8 : IntKind.i8.wrap x = x ∧ 0 ≤ x ∧ x ≤ 39 := by
   simp only [List.mem_cons, List.not_mem_nil, or_false] at hx
   rcases hx with rfl | rfl | rfl | rfl | rfl | rfl <;> decide
  have hp1 : ∀ y ∈ out ++ [x], PlainN y := fun y hy => by
   rcases List.mem_append.1 hy with hy | hy
   ·exact hp y hy
   ·rw [List.mem_singleton.1 hy]; exact .inr hx8.2
  have ha1 : Alt (out ++ [x]) := alt_snoc ha x (fun e => by omega)
  have hl1 : (out ++ [x]).length = out.length + 1 := by simp
  have hw : wrap64 (((n + 1 : Nat) : Int) - 1) = (n : Int) := by rw [w64 (by omega) (by omega)]; omega
  have key : ∃ out2 : List Int, out2.length ≤ out.length + 2 ∧ 1 ≤ out2.length ∧ (∀ y ∈ out2, PlainN y) ∧ Alt out2 ∧ ∀ r, Ev (fun k => spec_l02Meant.l0 k out2 (n : Int) c (p + 2) s2) r → Ev (fun k => spec_l02Meant.l0 k out ((n + 1 : Nat) : Int) c p sd) r := by
   have hsame : ∀ (o : List Int) r, Ev (fun k => spec_l02Meant.l0 k o (n : Int) c (p + 2) s2) r → Ev (fun k => spec_l02Meant.l0 k o (wrap64 (((n + 1 : Nat) : Int) - 1)) c (p + 1 + 1) s2) r := fun o r h => by
    rw [hw, show p + 1 + 1 = p + 2 by omega]; exact h
   by_cases hb : b = true ∧ ((n + 1 : Nat) : Int) > 1 ∧ ((out ++ [x]).length : Int) < 6
   ·obtain ⟨hb1, hb2, hb3⟩ := hb
    refine ⟨out ++ [x] ++ [-10], by simp, by simp, fun y hy => ?_, alt_snoc ha1 (-10) (fun _ => ⟨by omega, ?_⟩), fun r hr => ?_⟩
    ·rcases List.mem_append.1 hy with hy | hy
     ·exact hp1 y hy
     ·rw [List.mem_singleton.1 hy]; exact .inl rfl
    ·rw [hl1, show ((out.length + 1 : Nat) : Int) - 1 = (out.length : Int) by omega, rd_app_end]; omega
    ·refine Ev.step (fun k => by rw [spec_l02Meant.l0]) ?_
     refine pos (by omega) ?_
     refine bindc e1 ?_
     refine pos (by omega) ?_
     refine bindc rfl ?_
     refine bindc e2 ?_
     dsimp only
     rw [hx8.1]
     exact pos hb1 (pos hb2 (pos hb3 (pos (by omega) (hsame _ r hr))))
   ·refine ⟨out ++ [x], by omega, by omega, hp1, ha1, fun r hr => ?_⟩
    refine Ev.step (fun k => by rw [spec_l02Meant.l0]) ?_
    refine pos (by omega) ?_
    refine bindc e1 ?_
    refine pos (by omega) ?_
    refine bindc rfl ?_
    refine bindc e2 ?_
    dsimp only
    rw [hx8.1]
    by_cases h1b : b = true
    ·refine pos h1b ?_
     by_cases h2b : ((n + 1 : Nat) : Int) > 1
     ·exact pos h2b (neg (fun h3b => hb ⟨h1b, h2b, h3b⟩) (hsame _ r hr))
     ·exact neg h2b (hsame _ r hr)
    ·exact neg h1b (hsame _ r hr)
  obtain ⟨out2, hl2, hne2, hp2, ha2, hgo⟩ := key
  obtain ⟨m, p', sd', hev, hm, hp0, hp9⟩ := meant_l0 hc n out2 (p + 2) s2 (by omega) (by omega) (by omega) (by omega) hp2 ha2 (fun _ => hne2)
  exact ⟨m, p', sd', hgo _ hev, hm, hp0, by omega⟩
theorem meant_some {c : List Int} (hc : Byt c) (p sd : Int) (h0 : 0 ≤ p) (h1 : p ≤ 900000) : ∃ m p' sd', Ev (fun k => spec_l02Meant.f k c p sd) (m, p', sd') ∧ plainM m = true ∧ 0 ≤ p' ∧ p' ≤ p + 13 := by
 obtain ⟨x, s1, e1, hx0, hx1⟩ := pick_some hc p sd 6 h0 (by omega) (by omega) (by omega)
 obtain ⟨n, rfl⟩ := Int.eq_ofNat_of_zero_le hx0
 obtain ⟨m, p', sd', hev, hm, hp0, hp9⟩ := meant_l0 hc (n + 1) [] (p + 1) s1 (by omega) (by omega) (by omega) (by simp; omega) (by simp) (fun i hi => absurd hi (by simp)) (fun h => by omega)
 refine ⟨m, p', sd', ?_, hm, hp0, by omega⟩
 unfold spec_l02Meant.f
 refine bindc e1 ?_
 dsimp only
 rw [show wrap64 (1 + (n : Int)) = ((n + 1 : Nat) : Int) by rw [w64 (by omega) (by omega)]; omega]
 exact hev
end Go.Proofs.YthaoopbfggnceaaGreatDoor.Arr
namespace Go.Proofs.YthaoopbfggnceaaGreatDoor.Arr
open Go.RowKit Go.Proofs.YthaoopbfggnceaaGreatDoorW.PrintWords Go.Proofs.YthaoopbfggnceaaGreatDoorW.PrintLast Go.Proofs.YthaoopbfggnceaaGreatDoorW.PrintMore Go.Proofs.YthaoopbfggnceaaGreatDoor.U Go.Proofs.YthaoopbfggnceaaGreatDoor.L
set_option linter.unusedVariables false
set_option linter.unusedSimpArgs false
structure Both (m h : List Int) (s : Nat) : Prop where
 mean : runH m h.length = some (m.take h.length, s)
 hoist : ∃ o, runH h h.length = some (o, s) ∧ o.length = h.length
theorem Both.start (m : List Int) : Both m [] 0 := ⟨by simp [runH], [], rfl, rfl⟩
theorem Both.brk {m h : List Int} {s : Nat} (b : Both m h s) (ho : okH m = true) (hl : h.length < m.length) (h10 : rd m (h.length : Int) = -10) : Both m (h ++ [-10]) (h.length + 1) := by
 obtain ⟨hm, o, hh, hol⟩ := b
 have hnn : runH m (h.length + 1) ≠ none := fun e => by
  rw [okH_none (i := h.length + 1) hl e] at ho
  cases ho
 have hlen : (m.take h.length).length = h.length := by rw [List.length_take]; omega
 rw [runH, hm, Option.bind_some] at hnn
 have hs : s ≠ h.length := fun e => by
  apply hnn
  unfold stepH
  dsimp only
  rw [if_pos h10, hlen, if_pos e]
 refine ⟨?_, o ++ [-10], ?_, by simp [hol]⟩
 ·rw [List.length_append, List.length_singleton, runH, hm, Option.bind_some, take_step m _ hl]
  unfold stepH
  dsimp only
  rw [if_pos h10, hlen, if_neg hs]
 ·rw [runH_snoc, hh, Option.bind_some]
  unfold stepH
  dsimp only
  rw [if_pos rfl, hol, if_neg hs]
theorem Both.flag {m h : List Int} {s : Nat} (b : Both m h s) (hp : ∀ x ∈ m, PlainN x) (hl : h.length < m.length) (h10 : rd m (h.length : Int) ≠ -10) : Both m (h ++ [rd m (h.length : Int)]) s ∧ ∀ n : Int, 1 ≤ n → n ≤ 4 → (s : Int) + n - 1 < (h.length : Int) → Both m (h ++ [-n]) s := by
 obtain ⟨hm, o, hh, hol⟩ := b
 have hx : 0 ≤ rd m (h.length : Int) ∧ rd m (h.length : Int) ≤ 39 := by
  rcases hp _ (show rd m (h.length : Int) ∈ m by rw [rd_get m _ hl]; exact List.getElem_mem _) with h | h
  ·exact absurd h h10
  ·exact h
 have hmm : ∀ y : Int, runH m (h ++ [y]).length = some (m.take (h ++ [y]).length, s) := fun y => by
  rw [List.length_append, List.length_singleton, runH, hm, Option.bind_some, take_step m _ hl]
  unfold stepH
  dsimp only
  rw [if_neg h10, if_pos hx]
 refine ⟨⟨hmm _, o ++ [rd m (h.length : Int)], ?_, by simp [hol]⟩, fun n h1 h4 hs => ⟨hmm _, o ++ [rd o ((s : Int) + n - 1)], ?_, by simp [hol]⟩⟩
 ·rw [runH_snoc, hh, Option.bind_some]
  unfold stepH
  dsimp only
  rw [if_neg h10, if_pos hx]
 ·rw [runH_snoc, hh, Option.bind_some]
  unfold stepH
  dsimp only
  rw [if_neg (by omega), if_neg (by omega), if_pos (by omega), hol, if_pos (by omega), show (s : Int) + - -n - 1 = (s : Int) + n - 1 by omega]
theorem Both.whole {m h : List Int} {s : Nat} (b : Both m h s) (hp : plainM m = true) (hl : h.length = m.length) : okH h = true := by
 obtain ⟨hm, o, hh, hol⟩ := b
 obtain ⟨hN, h1, h8⟩ := plainM_N hp
 obtain ⟨s', hs', hlt, _⟩ := plainM_read hp
 rw [hl] at hm
 rw [hs'] at hm
 simp only [Option.some.injEq, Prod.mk.injEq] at hm
 unfold okH readH
 rw [if_pos (by omega), hh]
 dsimp only
 rw [if_pos (by omega)]
 rfl
theorem set_snoc (h : List Int) (x y : Int) : (h ++ [x]).set h.length y = h ++ [y] := by
 rw [List.set_append_right _ _ (Nat.le_refl _), Nat.sub_self]; rfl
theorem drawn_l0 {c : List Int} (hc : Byt c) {m : List Int} (hp : plainM m = true) : ∀ (d : Nat) (h : List Int) (s : Nat) (p sd : Int), h.length + d = m.length → s ≤ h.length → Both m h s → 0 ≤ p → p + (d : Int) ≤ 1000000 →
  ∃ h' p' sd', Ev (fun k => spec_l02Drawn.l0 k m h (s : Int) (h.length : Int) c p sd) (h', p', sd') ∧ okH h' = true ∧ 0 ≤ p' ∧ p' ≤ p + (d : Int)
 | 0, h, s, p, sd, hd, hs, hb, h0, h1 => by
  refine ⟨h, p, sd, ?_, hb.whole hp (by omega), h0, by omega⟩
  refine Ev.step (fun k => by rw [spec_l02Drawn.l0]) ?_
  exact neg (by omega) (cons rfl)
 | d + 1, h, s, p, sd, hd, hs, hb, h0, h1 => by
  obtain ⟨hN, _, h8⟩ := plainM_N hp
  have ho : okH m = true := by unfold plainM at hp; rw [Bool.and_eq_true] at hp; exact hp.1
  have hl : h.length < m.length := by omega
  have hw : wrap64 ((h.length : Int) + 1) = ((h.length + 1 : Nat) : Int) := by rw [w64 (by omega) (by omega)]; omega
  have hlen : ∀ y : Int, (h ++ [y]).length = h.length + 1 := fun y => by simp
  by_cases h10 : rd m (h.length : Int) = -10
  ·obtain ⟨h', p', sd', hev, hok, hp0, hp9⟩ := drawn_l0 hc hp d (h ++ [-10]) (h.length + 1) p sd (by rw [hlen]; omega) (by rw [hlen]; omega) (hb.brk ho hl h10) h0 (by omega)
   refine ⟨h', p', sd', ?_, hok, hp0, by omega⟩
   rw [hlen] at hev
   refine Ev.step (fun k => by rw [spec_l02Drawn.l0]) ?_
   refine pos (by omega) ?_
   refine pos (by omega) ?_
   refine pos (by omega) ?_
   refine bindc rfl ?_
   refine pos h10 ?_
   rw [hw, h10]
   exact hev
  ·obtain ⟨x, s1, e1, hx0, hx1⟩ := pick_some hc p sd 5 h0 (by omega) (by omega) (by omega)
   obtain ⟨hf, hsub⟩ := hb.flag hN hl h10
   have key : ∃ y : Int, Both m (h ++ [y]) s ∧ ∀ r, Ev (fun k => spec_l02Drawn.l0 k m (h ++ [y]) (s : Int) ((h.length + 1 : Nat) : Int) c (p + 1) s1) r → Ev (fun k => spec_l02Drawn.l0 k m h (s : Int) (h.length : Int) c p sd) r := by
    by_cases hx : 0 < x ∧ (s : Int) + x - 1 < (h.length : Int)
    ·refine ⟨-x, hsub x (by omega) (by omega) hx.2, fun r hr => ?_⟩
     have hws : wrap64 ((wrap64 ((s : Int) + x)) - 1) = (s : Int) + x - 1 := by unfold wrap64; omega
     have hwx : IntKind.i8.wrap (wrap64 (-x)) = -x := by
      rw [w64 (by omega) (by omega)]
      have : x = 1 ∨ x = 2 ∨ x = 3 ∨ x = 4 := by omega
      rcases this with rfl | rfl | rfl | rfl <;> decide
     refine Ev.step (fun k => by rw [spec_l02Drawn.l0]) ?_
     refine pos (by omega) ?_
     refine pos (by omega) ?_
     refine pos (by omega) ?_
     refine bindc rfl ?_
     refine neg h10 ?_
     refine bindc e1 ?_
     refine pos hx.1 ?_
     refine pos (by dsimp only; rw [hws]; exact hx.2) ?_
     refine pos (by rw [hlen]; omega) ?_
     dsimp only
     rw [hwx, hw, show ((h.length : Int)).toNat = h.length from rfl, set_snoc]
     exact hr
    ·refine ⟨rd m (h.length : Int), hf, fun r hr => ?_⟩
     have hr2 : Ev (fun k => spec_l02Drawn.l0 k m (h ++ [rd m (h.length : Int)]) (s : Int) (wrap64 ((h.length : Int) + 1)) c (p + 1) s1) r := by rw [hw]; exact hr
     have hws : wrap64 ((wrap64 ((s : Int) + x)) - 1) = (s : Int) + x - 1 := by unfold wrap64; omega
     refine Ev.step (fun k => by rw [spec_l02Drawn.l0]) ?_
     refine pos (by omega) ?_
     refine pos (by omega) ?_
     refine pos (by omega) ?_
     refine bindc rfl ?_
     refine neg h10 ?_
     refine bindc e1 ?_
     by_cases hx2 : x > 0
     ·refine pos hx2 ?_
      exact neg (fun hh => hx ⟨hx2, by dsimp only at hh; rw [hws] at hh; exact hh⟩) hr2
     ·exact neg hx2 hr2
   obtain ⟨y, hby, hgo⟩ := key
   obtain ⟨h', p', sd', hev, hok, hp0, hp9⟩ := drawn_l0 hc hp d (h ++ [y]) s (p + 1) s1 (by rw [hlen]; omega) (by rw [hlen]; omega) hby (by omega) (by omega)
   rw [hlen] at hev
   exact ⟨h', p', sd', hgo _ hev, hok, hp0, by omega⟩
theorem drawn_some {c : List Int} (hc : Byt c) (p sd : Int) (h0 : 0 ≤ p) (h1 : p ≤ 800000) : ∃ h p' sd', Ev (fun k => spec_l02Drawn.f k c p sd) (h, p', sd') ∧ okH h = true ∧ 0 ≤ p' ∧ p' ≤ p + 30 := by
 obtain ⟨m, p1, s1, hev, hm, hp0, hp9⟩ := meant_some hc p sd h0 (by omega)
 obtain ⟨_, _, h8⟩ := plainM_N hm
 obtain ⟨h', p', sd', hev2, hok, hq0, hq9⟩ := drawn_l0 hc hm m.length [] 0 p1 s1 (by simp) (by simp) (Both.start m) hp0 (by omega)
 refine ⟨h', p', sd', ?_, hok, hq0, by omega⟩
 unfold spec_l02Drawn.f
 exact Ev.bind hev hev2
theorem A2Hoist_some {c : List Int} (hc : Byt c) : ∃ h, Ev (fun k => spec_A2Hoist.f k c) h ∧ okH h = true := by
 obtain ⟨h, p', sd', hev, hm, _⟩ := drawn_some hc 0 0 (by omega) (by omega)
 refine ⟨h, ?_, hm⟩
 unfold spec_A2Hoist.f
 exact bindc (show spec_l00From.f c = some (c, 0, 0) from rfl) (Ev.bind hev (cons rfl))
end Go.Proofs.YthaoopbfggnceaaGreatDoor.Arr
namespace Go.Proofs.YthaoopbfggnceaaGreatDoor.Arr
open Go.RowKit Go.Proofs.YthaoopbfggnceaaGreatDoorW.PrintWords Go.Proofs.YthaoopbfggnceaaGreatDoorW.PrintLast Go.Proofs.YthaoopbfggnceaaGreatDoorW.PrintMore Go.Proofs.YthaoopbfggnceaaGreatDoor.U Go.Proofs.YthaoopbfggnceaaGreatDoor.L
set_option linter.unusedVariables false
set_option linter.unusedSimpArgs false
theorem Mem.only {w W : World} {M : List Ent} (h : Mem w W M) (k : Nat) {e : Ent} (hk : M[k]? = some e) (ho : ∀ f ∈ M, f ≠ e → f.own = true) : Mem w W [e] := by
 refine ⟨h.os, h.tape, h.output, h.size, fun j hj hn => h.block j hj (fun f hf hfj => ?_), fun f hf => ?_, fun m n f f2 h1 h2 _ => ?_⟩
 ·by_cases hfe : f = e
  ·exact hn e (by simp) (by rw [← hfe]; exact hfj)
  ·have := (h.ent f hf).2 (ho f hf hfe); omega
 ·rw [List.mem_singleton] at hf; subst hf; exact h.ent _ (List.mem_of_getElem? hk)
 ·have h3 := (List.getElem?_eq_some_iff.1 h1).1
  have h4 := (List.getElem?_eq_some_iff.1 h2).1
  simp at h3 h4; omega
theorem Mem.belowOf {w0 w W : World} {M : List Ent} (h : Mem w W M) (hB : Below w0.heap.size w0 w) (hg : ∀ e ∈ M, e.own = true ∨ w0.heap.size ≤ e.g) : Below w0.heap.size w0 W := by
 have hm := (Mem.start w0).after hB
 have hmW : Mem w0 W [] := ⟨h.os.trans hm.os, h.tape.trans hm.tape, h.output.trans hm.output, Nat.le_trans hm.size h.size, fun k hk _ => (h.block k (Nat.lt_of_lt_of_le hk hm.size) (fun e he hek => by
  rcases hg e he with ho | hge
  ·have := (h.ent e he).2 ho
   have := hm.size
   omega
  ·omega)).trans (hm.block k hk (by simp)), by simp, fun m n e f h1 => by simp at h1⟩
 exact hmW.done rfl
theorem Mem.through {w w1 w2 : World} {M : List Ent} {g : Nat} {cs : Array Value} {t : TypeId} (h : Mem w w1 M) (h2 : Mem w1 w2 [⟨g, cs, t, false⟩]) (hg : w.heap.size ≤ g) (hne : ∀ e ∈ M, e.g ≠ g) : Mem w w2 M := by
 have keep : ∀ k, k < w1.heap.size → k ≠ g → w2.heap[k]? = w1.heap[k]? := fun k hk hkg => h2.block k hk (fun e he => by
  rw [List.mem_singleton] at he; subst he; exact fun h => hkg h.symm)
 refine ⟨h2.os.trans h.os, h2.tape.trans h.tape, h2.output.trans h.output, Nat.le_trans h.size h2.size, fun k hk hn => (keep k (Nat.lt_of_lt_of_le hk h.size) (by omega)).trans (h.block k hk hn), fun e he => ?_, h.apart⟩
 obtain ⟨h3, h4⟩ := h.ent e he
 exact ⟨(keep e.g (lt_of_some h3) (hne e he)).trans h3, h4⟩
section
variable {P : Program} {ops : Array Oper} {rest : List Oper} {o : Oper} {a : Act} {w0 w : World} {M : List Ent} {Q : Exit → Act → World → Prop}
theorem st_lit6 (hgd : o.guard = none) (d : Nat) (hdst : o.dst = some d) (t : TypeId) {k : IntKind} {z0 z1 z2 z3 z4 z5 : Int} (ho : o.op = .buildSlice t 6 #[(0, .const (.int k z0)), (1, .const (.int k z1)), (2, .const (.int k z2)), (3, .const (.int k z3)), (4, .const (.int k z4)), (5, .const (.int k z5))]) (hm : Mem w0 w M) {e : TypeId} (hu : P.underlying t = some (.slice e))
  (he : OneTy P e) (hz : ZeroTy P e (vals k [0]))
  (h : ∀ g w1, Mem w0 w1 (⟨g, vals k [z0, z1, z2, z3, z4, z5], e, true⟩ :: M) → wpList P ops Q rest (a.put (some d) (.slice (some ⟨g, 0, none⟩) 6 6)) w1) : wpList P ops Q (o :: rest) a w := by
 obtain ⟨zz, hz, hzc⟩ := hz
 obtain ⟨_, hi⟩ := he
 refine wpList_plain hgd fun K hK => ?_
 rw [← hdst] at h
 unfold Oper.wp execOp
 cases hq : P.info? e with
 | none => simp [hq] at hi
 | some i =>
  have hs : i.size = 1 := by simpa [hq] using hi
  have hz' : i.zero = some zz := by simpa [hq] using hz
  have hf := fill_int (k := k) (z := z0) (cells := (Array.range (6 * 1)).map (zz.cells[· % zz.cells.size]!)) (off := 0) (place := fun i => some (i * 1, 1)) (i := 0) (rest := [(1, .int k z1), (2, .int k z2), (3, .int k z3), (4, .int k z4), (5, .int k z5)]) (by simp) (by simp)
  rw [fill_int (k := k) (z := z1) (off := 1) (by simp) (by simp), fill_int (k := k) (z := z2) (off := 2) (by simp) (by simp), fill_int (k := k) (z := z3) (off := 3) (by simp) (by simp), fill_int (k := k) (z := z4) (off := 4) (by simp) (by simp), fill_int (k := k) (z := z5) (off := 5) (by simp) (by simp)] at hf
  have hc : ((((((((Array.range (6 * 1)).map (zz.cells[· % zz.cells.size]!)).setIfInBounds 0 (.int k z0)).setIfInBounds 1 (.int k z1)).setIfInBounds 2 (.int k z2)).setIfInBounds 3 (.int k z3)).setIfInBounds 4 (.int k z4)).setIfInBounds 5 (.int k z5)) = vals k [z0, z1, z2, z3, z4, z5] := by
   rw [show Array.range (6 * 1) = #[0, 1, 2, 3, 4, 5] from rfl]
   generalize (fun x => zz.cells[x % zz.cells.size]!) = f
   simp [vals]
  rw [hc] at hf
  have hrun : (Instr.buildSlice t 6 #[(0, .int k z0), (1, .int k z1), (2, .int k z2), (3, .int k z3), (4, .int k z4), (5, .int k z5)]).run P w = .ok (.slice (some ⟨w.heap.size, 0, none⟩) 6 6) (w.alloc (.cells (vals k [z0, z1, z2, z3, z4, z5]) e)) := by
   simp only [Instr.buildSlice, Sem.run_bind, run_underlying hu w, Result.andThen_ok, sizeOf, typeInfo, run_program, hq, Sem.run_pure, hs, zeroValue, hz']
   rw [if_neg (by omega), if_neg (by omega)]
   simp only [Sem.run_bind, Sem.run_pure, Result.andThen_ok, hq, hz', hf, run_program]
   simp [Instr.fill, newRow, Sem.run_bind]
  simp only [ho, List.map_toArray, List.map_cons, List.map_nil, Act.eval, Sem.run_bind, hrun, Sem.run_pure, Result.andThen_ok]
  exact hK _ _ (h _ _ (hm.new _ _))
end
theorem kindsAt (i : Nat) (hi : i < 6) : 0 ≤ rd [0, 1, 2, 3, 25, 39] (i : Int) ∧ rd [0, 1, 2, 3, 25, 39] (i : Int) < 40 := by
 have : i = 0 ∨ i = 1 ∨ i = 2 ∨ i = 3 ∨ i = 4 ∨ i = 5 := by omega
 rcases this with rfl | rfl | rfl | rfl | rfl | rfl <;> decide
section
variable {P : Program} {w : World} {o : Oper} {a : Act}
theorem y_cellD {ty : TypeId} {x : Operand} {p : Addr} {v : Value} (ho : o.op = .load ty x) (hx : a.eval x = .pointer (some p)) (h1 : OneTy P ty) (hc : w.cell? p = some v) : (execOp a.eval o).run P w = .ok (.value v) w := by
 have hd := h1.1
 unfold execOp
 have hagg : (isAgg ty).run P w = .ok false w := by
  unfold isAgg
  cases hu : P.underlying ty with
  | none => simp [hu] at hd
  | some d =>
   rw [Sem.run_bind, run_underlying hu w]
   cases d <;> simp_all
 simp only [ho, hx, Instr.loadAt, Instr.sureAddr, Sem.run_bind, Sem.run_pure, Result.andThen_ok, loadVar, hagg]
 simp [run_load, hc]
theorem y_setD {ty : TypeId} {x y : Operand} (ho : o.op = .store ty x y) {g i : Nat} {k : IntKind} {u : Int} (hx : a.eval x = .pointer (some ⟨g, i, none⟩)) (hy : a.eval y = .int k u) (h1 : OneTy P ty) {old : Value} (hc : w.cell? ⟨g, i, none⟩ = some old) (hf : w.frozen? ⟨g, i, none⟩ = false) :
  (execOp a.eval o).run P w = .ok .skip (w.setCell ⟨g, i, none⟩ (.int k u)) := by
 have hst : (storeVar ty ⟨g, i, none⟩ (.int k u)).run P w = .ok () (w.setCell ⟨g, i, none⟩ (.int k u)) := run_store1 h1.2 rfl hc hf rfl
 unfold execOp
 simp only [ho, hx, hy, Instr.storeAt, Instr.sureAddr, Sem.run_bind, Sem.run_pure, Result.andThen_ok, hst]
end
theorem set_mem {w0 w : World} {M : List Ent} (h : Mem w0 w M) (n : Nat) {g : Nat} {k : IntKind} {L : List Int} {t : TypeId} {o : Bool} (hn : M[n]? = some ⟨g, vals k L, t, o⟩) (i : Nat) (u : Int) : Mem w0 (w.setCell ⟨g, i, none⟩ (.int k u)) (M.set n ⟨g, vals k (L.set i u), t, o⟩) := by
 rw [← vals_set]
 exact h.set hn i _
theorem w16D {x : Int} (h0 : 0 ≤ x) (h1 : x ≤ 20) : IntKind.i16.wrap x = x := by
 unfold IntKind.wrap; simp [IntKind.signed, IntKind.bits]; omega
theorem okL_setD {L : List Int} (h : okL L = true) (j : Nat) {n : Int} (h0 : 0 ≤ n) (h1 : n ≤ 20) : okL (L.set j n) = true := by
 unfold okL at h ⊢
 rw [List.all_eq_true] at h ⊢
 intro x hx
 rcases List.mem_or_eq_of_mem_set hx with h2 | h2
 ·exact h x h2
 ·subst h2; simp [okx]; omega
theorem pick_mem (g : Nat) (c : List Int) (p sd n : Int) (A : Option Addr) (c' : Nat) (w0 w1 W : World) (M : List Ent) (hm : Mem w1 W M) (k : Nat) (hk : M[k]? = some ⟨g, #[.slice A c.length c', .int .i64 p, .int .u64 sd], 89, false⟩) (hg : w0.heap.size ≤ g) (hM : Below w0.heap.size w0 W) (hr : Kd.C (Kd.int .u8) w0 A c.length c) (hc : Byt c) (h0 : 0 ≤ p) (h1 : p ≤ 1000000000) (hn : 2 ≤ n) (hn2 : n ≤ 200) :
  Calls Tryz.prog 48 #[.pointer (some ⟨g, 0, none⟩), .int .i64 n] W fun e W' => ∃ (v : Int) (A' : Option Addr) (d' : Nat) (sd' : Int), e = .returned (.int .i64 v) ∧ 0 ≤ v ∧ v < n ∧ Kd.C (Kd.int .u8) w0 A' c.length c ∧ Mem w1 W' (M.set k ⟨g, #[.slice A' c.length d', .int .i64 (p + 1), .int .u64 sd'], 89, false⟩) := by
 obtain ⟨v, s', e1, hv0, hv1⟩ := pick_some hc p sd n h0 h1 hn hn2
 refine (spec_l00Src_pick.calls g c p sd n v (p + 1) s' w0 W ⟨A, c', hm.mem hk, hg, hr⟩ hM e1).mono ?_
 rintro e W' ⟨rfl, ⟨A', d', hb, _, hr'⟩, hB, hK⟩
 have m1 := (Mem.start w0).after hM
 have m2 := (Mem.start w0).after hB
 exact ⟨v, A', d', s', rfl, hv0, hv1, hr', hm.upd hk (m2.os.trans m1.os.symm) (m2.tape.trans m1.tape.symm) (m2.output.trans m1.output.symm) hK.1 hb (fun j hj hne => hK.2 j hj hne (by simp))⟩
set_option maxHeartbeats 8000000 in
set_option maxRecDepth 100000 in
theorem l04Drawn_calls (g : Nat) (c : List Int) (p sd : Int) (A0 : Option Addr) (c0 : Nat) (w0 w : World) (hb0 : w.heap[g]? = some (.cells #[.slice A0 c.length c0, .int .i64 p, .int .u64 sd] 89 (0, 0))) (hg : w0.heap.size ≤ g) (hr : Kd.C (Kd.int .u8) w0 A0 c.length c) (hB : Below w0.heap.size w0 w) (hc : Byt c) (h0 : 0 ≤ p) (h1 : p ≤ 1000) :
  Calls Tryz.prog 20 #[.pointer (some ⟨g, 0, none⟩)] w fun e w' => ∃ L, e = .returned (.agg (vals .i16 L)) ∧ L.length = 44 ∧ okL L = true ∧ ∃ cs, Mem w w' [⟨g, cs, 89, false⟩] := by
 have hm := Mem.given hb0
 have HGE := Aside0.mk hg
 have HBE := Aside0.mk hB
 have HR := Aside0.mk hr
 have HC := Aside0.mk hc
 have HZ := Aside0.mk (show okL (zs 44) = true from by decide)
 have HP := Aside0.mk (And.intro h0 h1)
 have hz : (zs 44).length = 44 := zs_length
 clear hr hc hb0 hg hB h0 h1
 go_enter Tryz.func20, Tryz.ntmps20
 go_wp2_with (first
  | (first | fail | ((with_reducible refine gt_alloc 2 28 ?_); refine st_alloc rfl 2 rfl 28 rfl hm zero28 ?_; clear hm; intro g2 w2 hm) | ((with_reducible refine gt_build 28 ?_); refine st_zero rfl 28 rfl built28 ?_) | ((with_reducible refine gt_alloc 3 28 ?_); refine st_alloc rfl 3 rfl 28 rfl hm zero28 ?_; clear hm; intro g3 w3 hm) | ((with_reducible refine gt_store 28 ?_); (first | (refine st_full rfl 28 _ _ rfl hm rfl rfl 0 rfl agg28 (by first | omega | assumption | (simp only [lens]; first | omega | assumption) | (simp [lens]; done) | (simp [lens]; omega)) (by first | omega | assumption | (simp only [lens]; first | omega | assumption) | (simp [lens]; done) | (simp [lens]; omega)) ?_) | (refine st_full rfl 28 _ _ rfl hm rfl rfl 1 rfl agg28 (by first | omega | assumption | (simp only [lens]; first | omega | assumption) | (simp [lens]; done) | (simp [lens]; omega)) (by first | omega | assumption | (simp only [lens]; first | omega | assumption) | (simp [lens]; done) | (simp [lens]; omega)) ?_) | (refine st_full rfl 28 _ _ rfl hm rfl rfl 2 rfl agg28 (by first | omega | assumption | (simp only [lens]; first | omega | assumption) | (simp [lens]; done) | (simp [lens]; omega)) (by first | omega | assumption | (simp only [lens]; first | omega | assumption) | (simp [lens]; done) | (simp [lens]; omega)) ?_) | (refine st_full rfl 28 _ _ rfl hm rfl rfl 3 rfl agg28 (by first | omega | assumption | (simp only [lens]; first | omega | assumption) | (simp [lens]; done) | (simp [lens]; omega)) (by first | omega | assumption | (simp only [lens]; first | omega | assumption) | (simp [lens]; done) | (simp [lens]; omega)) ?_)); clear hm; intro ws hm; simp only [List.set_cons_zero, List.set_cons_succ] at hm) | ((with_reducible refine gt_load 2 ?_); (first | (refine st_get rfl 2 _ rfl hm rfl 0 rfl one2 (by first | omega | assumption | (simp only [lens]; first | omega | assumption) | (simp [lens]; done) | (simp [lens]; omega)) ?_) | (refine st_get rfl 2 _ rfl hm rfl 1 rfl one2 (by first | omega | assumption | (simp only [lens]; first | omega | assumption) | (simp [lens]; done) | (simp [lens]; omega)) ?_) | (refine st_get rfl 2 _ rfl hm rfl 2 rfl one2 (by first | omega | assumption | (simp only [lens]; first | omega | assumption) | (simp [lens]; done) | (simp [lens]; omega)) ?_) | (refine st_get rfl 2 _ rfl hm rfl 3 rfl one2 (by first | omega | assumption | (simp only [lens]; first | omega | assumption) | (simp [lens]; done) | (simp [lens]; omega)) ?_))) | ((with_reducible refine gt_field 28 0 ?_); refine st_field rfl 28 _ 0 rfl rfl field28_0 ?_) | ((with_reducible refine gt_elem 25 ?_); refine st_elem rfl 25 _ _ rfl rfl rfl arr25 (by first | omega | assumption | (simp only [lens]; first | omega | assumption) | (simp [lens]; done) | (simp [lens]; omega)) (by first | omega | assumption | (simp only [lens]; first | omega | assumption) | (simp [lens]; done) | (simp [lens]; omega)) ?_) | ((with_reducible refine gt_store 24 ?_); (first | (refine st_set rfl 24 _ _ rfl hm rfl rfl 0 rfl one24 (by first | omega | assumption | (simp only [lens]; first | omega | assumption) | (simp [lens]; done) | (simp [lens]; omega)) ?_) | (refine st_set rfl 24 _ _ rfl hm rfl rfl 1 rfl one24 (by first | omega | assumption | (simp only [lens]; first | omega | assumption) | (simp [lens]; done) | (simp [lens]; omega)) ?_) | (refine st_set rfl 24 _ _ rfl hm rfl rfl 2 rfl one24 (by first | omega | assumption | (simp only [lens]; first | omega | assumption) | (simp [lens]; done) | (simp [lens]; omega)) ?_) | (refine st_set rfl 24 _ _ rfl hm rfl rfl 3 rfl one24 (by first | omega | assumption | (simp only [lens]; first | omega | assumption) | (simp [lens]; done) | (simp [lens]; omega)) ?_)); clear hm; intro ws hm; simp only [List.set_cons_zero, List.set_cons_succ] at hm) | ((with_reducible refine gt_field 28 1 ?_); refine st_field rfl 28 _ 1 rfl rfl field28_1 ?_) | ((with_reducible refine gt_elem 26 ?_); refine st_elem rfl 26 _ _ rfl rfl rfl arr26 (by first | omega | assumption | (simp only [lens]; first | omega | assumption) | (simp [lens]; done) | (simp [lens]; omega)) (by first | omega | assumption | (simp only [lens]; first | omega | assumption) | (simp [lens]; done) | (simp [lens]; omega)) ?_) | ((with_reducible refine gt_load 28 ?_); (first | (refine st_load rfl 28 _ rfl hm rfl 0 rfl agg28 (by first | omega | assumption | (simp only [lens]; first | omega | assumption) | (simp [lens]; done) | (simp [lens]; omega)) ?_) | (refine st_load rfl 28 _ rfl hm rfl 1 rfl agg28 (by first | omega | assumption | (simp only [lens]; first | omega | assumption) | (simp [lens]; done) | (simp [lens]; omega)) ?_) | (refine st_load rfl 28 _ rfl hm rfl 2 rfl agg28 (by first | omega | assumption | (simp only [lens]; first | omega | assumption) | (simp [lens]; done) | (simp [lens]; omega)) ?_) | (refine st_load rfl 28 _ rfl hm rfl 3 rfl agg28 (by first | omega | assumption | (simp only [lens]; first | omega | assumption) | (simp [lens]; done) | (simp [lens]; omega)) ?_))))
  | (refine st_lit6 rfl 8 rfl 85 rfl hm Tryz.underlying85 one2 zero2 ?_; clear hm; intro g8 w8 hm))
 go_loopw [5] (fun v5 wr => ∃ (i : Nat) (L : List Int) (A : Option Addr) (c' : Nat) (p' sd' : Int), i ≤ 6 ∧ v5 = .int .i64 i ∧ L.length = 44 ∧ okL L = true ∧ 0 ≤ p' ∧ p' ≤ 2000 + (i : Int) ∧ Kd.C (Kd.int .u8) w0 A c.length c ∧ Mem w wr [⟨g8, vals .i64 [0, 1, 2, 3, 25, 39], 2, true⟩, ⟨g3, vals .i16 L, 28, true⟩, ⟨g2, vals .i16 (zs 44), 28, true⟩, ⟨g, #[.slice A c.length c', .int .i64 p', .int .u64 sd'], 89, false⟩]) (fun v5 _ => 6 - (intOf v5).toNat)
 case atStart => exact ⟨0, zs 44, A0, c0, p, sd, by omega, rfl, hz, HZ.out, by have := HP.out; omega, by have := HP.out; omega, HR.out, hm⟩
 case round =>
  obtain ⟨i, L, A, c', p', sd', hi, rfl, hl, hok, hp0, hp1, hr', hm⟩ := hrel
  by_cases hlt : i < 6
  ·have HM := Aside0.mk hm
   have HOK := Aside0.mk hok
   have HL := Aside0.mk hl
   have HR1 := Aside0.mk hr'
   have HK := kindsAt i hlt
   clear hm hok hr'
   generalize hkd : rd [0, 1, 2, 3, 25, 39] (i : Int) = kd at *
   have HKD := Aside0.mk hkd
   clear hkd
   obtain ⟨kn, rfl⟩ := Int.eq_ofNat_of_zero_le HK.1
   have hkn : kn < 40 := by omega
   go_wp2_with fail
   refine start_ (n := 10) (S := fun w' => w'.cell? ⟨g8, i, none⟩ = some (.int .i64 (kn : Int))) (ds := [9]) #[false, false, false, false, false, false, false, false, false, false] (by kernel_rfl) rfl rfl (by have := (HM.out.drawn (ws.drawn + 1)).get (n := 0) rfl i (by simp; omega); rw [HKD.out] at this; exact this) (fun hHeld => ?_)
   refine pure_ (i := 0) (N := some 15) (v := ?_) (a' := ?_) #[true, false, false, false, false, false, false, false, false, false] rfl rfl (by kernel_rfl) (fun _ _ _ h => h) (Or.inl ⟨by rfl, ?_⟩) ?_ ?_
   rotate_left
   ·intro w'
    go_simp
    with_reducible rfl
   rotate_left
   ·simp only [Act.put, List.setIfInBounds_toArray, List.set_cons_zero, List.set_cons_succ, i64_w, i32_w]
    rfl
   refine pure_ (i := 1) (N := some 16) (v := ?_) (a' := ?_) #[true, true, false, false, false, false, false, false, false, false] rfl rfl (by kernel_rfl) (fun _ _ _ h => h) (Or.inl ⟨by rfl, ?_⟩) ?_ ?_
   rotate_left
   ·intro w'
    go_simp
    with_reducible rfl
   rotate_left
   ·simp only [Act.put, List.setIfInBounds_toArray, List.set_cons_zero, List.set_cons_succ, i64_w, i32_w]
    rfl
   refine pure_ (i := 2) (N := some 17) (v := ?_) (a' := ?_) #[true, true, true, false, false, false, false, false, false, false] rfl rfl (by kernel_rfl) (fun _ _ _ h => h) (Or.inl ⟨by rfl, ?_⟩) ?_ ?_
   rotate_left
   ·intro w'
    go_simp
    with_reducible rfl
   rotate_left
   ·simp only [Act.put, List.setIfInBounds_toArray, List.set_cons_zero, List.set_cons_succ, i64_w, i32_w]
    rfl
   refine pure_ (i := 4) (N := some 19) (v := ?_) (a' := ?_) #[true, true, true, false, true, false, false, false, false, false] rfl rfl (by kernel_rfl) (fun _ _ _ h => h) (Or.inl ⟨by rfl, ?_⟩) ?_ ?_
   rotate_left
   ·intro w'
    go_simp
    with_reducible rfl
   rotate_left
   ·simp only [Act.put, List.setIfInBounds_toArray, List.set_cons_zero, List.set_cons_succ, i64_w, i32_w]
    rfl
   refine pure_ (i := 7) (N := some 22) (v := ?_) (a' := ?_) #[true, true, true, false, true, false, false, true, false, false] rfl rfl (by kernel_rfl) (fun _ _ _ h => h) (Or.inl ⟨by rfl, ?_⟩) ?_ ?_
   rotate_left
   ·intro w'
    go_simp
    with_reducible rfl
   rotate_left
   ·simp only [Act.put, List.setIfInBounds_toArray, List.set_cons_zero, List.set_cons_succ, i64_w, i32_w]
    rfl
   refine take_ (i := 3) (N := some 18) (v := .int .i64 (kn : Int)) (a' := ?_) #[true, true, true, true, true, false, false, true, false, false] rfl rfl (by kernel_rfl) (fun _ _ _ h => h) (Or.inl ⟨by rfl, ?_⟩) hHeld ?_ ?_
   ·intro w' s0
    exact y_cellD (by rfl) (by rfl) one2 s0
   rotate_left
   ·simp only [Act.put, List.setIfInBounds_toArray, List.set_cons_zero, List.set_cons_succ, i64_w, i32_w]
    rfl
   refine one_ (i := 5) (N := some 20) #[true, true, true, true, true, true, false, true, false, false] rfl rfl (by kernel_rfl) (by decide) (fun K hK => ?_)
   refine goes_ Tryz.func48 (by kernel_rfl) rfl #[.pointer (some ⟨g, 0, none⟩), .int .i64 4] (by rfl) rfl rfl (by simp only [List.map_toArray, List.map_cons, List.map_nil]; rfl) ?_
   refine (pick_mem g c p' sd' 4 A c' w0 _ _ _ (HM.out.drawn _) 3 rfl HGE.out ((HM.out.drawn _).belowOf HBE.out (by simp [HGE.out])) HR1.out HC.out hp0 (by omega) (by omega) (by omega)).mono ?_
   rintro e w1 ⟨v, A', d', sd2, rfl, hv0, hv1, hr2, hm2⟩
   have HM2 := Aside0.mk hm2
   have HR2 := Aside0.mk hr2
   clear hm2 hr2
   refine ⟨_, rfl, ?_⟩
   refine hK.out _ _ (by have := HM2.out.get (n := 0) rfl i (by simp; omega); rw [HKD.out] at this; exact this) (fun hHeld => ?_)
   clear hK K
   refine norm_ (a' := ?_) ?_ ?_
   rotate_left
   ·show Act.put _ (some 20) _ = _
    simp only [Act.put, List.setIfInBounds_toArray, List.set_cons_zero, List.set_cons_succ, i64_w, i32_w]
    rfl
   refine pure_ (i := 6) (N := some 21) (v := ?_) (a' := ?_) #[true, true, true, true, true, true, true, true, false, false] rfl rfl (by kernel_rfl) (fun _ _ _ h => h) (Or.inl ⟨by rfl, ?_⟩) ?_ ?_
   rotate_left
   ·intro w'
    go_simp
    with_reducible rfl
   rotate_left
   ·simp only [Act.put, List.setIfInBounds_toArray, List.set_cons_zero, List.set_cons_succ, i64_w, i32_w]
    rfl
   refine pure_ (i := 8) (N := some 23) (v := ?_) (a' := ?_) #[true, true, true, true, true, true, true, true, true, false] rfl rfl (by kernel_rfl) (fun _ _ _ h => h) (Or.inl ⟨by rfl, ?_⟩) ?_ ?_
   rotate_left
   ·intro w'
    go_simp
    with_reducible rfl
   rotate_left
   ·simp only [Act.put, List.setIfInBounds_toArray, List.set_cons_zero, List.set_cons_succ, i64_w, i32_w]
    rfl
   refine last_ (i := 9) (N := none) #[true, true, true, true, true, true, true, true, true, true] rfl rfl (by kernel_rfl) (by decide) (fun K hK => ?_)
   refine skip_ (by rfl) rfl (y_setD (k := .i16) (u := IntKind.i16.wrap v) (g := g3) (i := kn) (by rfl) (by rfl) (by rfl) one24 (HM2.out.get (n := 1) rfl kn (by rw [HL.out]; omega)) (HM2.out.frozen (n := 1) rfl kn)) ?_
   refine hK.out _ _ ?_
   clear hK K
   refine done_ (by kernel_rfl) ?_
   skip
   have HM3 := Aside0.mk (set_mem HM2.out 1 rfl kn (IntKind.i16.wrap v))
   have HW := Aside0.mk (w16D hv0 (show v ≤ 20 by omega))
   rw [HW.out] at HM3
   clear HW HM2
   go_wp2_with fail
   go_roundw
   case rel => exact ⟨i + 1, L.set kn v, A', d', p' + 1, sd2, by omega, by go_num, by rw [List.length_set]; exact HL.out, okL_setD HOK.out kn hv0 (by omega), by omega, by omega, HR2.out, HM3.out⟩
   case measure => simp [intOf]; omega
  ·have HI6 := Aside0.mk (show i = 6 by omega)
   have HOK0 := Aside0.mk hok
   have HL0 := Aside0.mk hl
   have HR0 := Aside0.mk hr'
   clear hok hr'
   go_wp2_with (first | fail | ((with_reducible refine gt_alloc 2 28 ?_); refine st_alloc rfl 2 rfl 28 rfl hm zero28 ?_; clear hm; intro g2 w2 hm) | ((with_reducible refine gt_build 28 ?_); refine st_zero rfl 28 rfl built28 ?_) | ((with_reducible refine gt_alloc 3 28 ?_); refine st_alloc rfl 3 rfl 28 rfl hm zero28 ?_; clear hm; intro g3 w3 hm) | ((with_reducible refine gt_store 28 ?_); (first | (refine st_full rfl 28 _ _ rfl hm rfl rfl 0 rfl agg28 (by first | omega | assumption | (simp only [lens]; first | omega | assumption) | (simp [lens]; done) | (simp [lens]; omega)) (by first | omega | assumption | (simp only [lens]; first | omega | assumption) | (simp [lens]; done) | (simp [lens]; omega)) ?_) | (refine st_full rfl 28 _ _ rfl hm rfl rfl 1 rfl agg28 (by first | omega | assumption | (simp only [lens]; first | omega | assumption) | (simp [lens]; done) | (simp [lens]; omega)) (by first | omega | assumption | (simp only [lens]; first | omega | assumption) | (simp [lens]; done) | (simp [lens]; omega)) ?_) | (refine st_full rfl 28 _ _ rfl hm rfl rfl 2 rfl agg28 (by first | omega | assumption | (simp only [lens]; first | omega | assumption) | (simp [lens]; done) | (simp [lens]; omega)) (by first | omega | assumption | (simp only [lens]; first | omega | assumption) | (simp [lens]; done) | (simp [lens]; omega)) ?_) | (refine st_full rfl 28 _ _ rfl hm rfl rfl 3 rfl agg28 (by first | omega | assumption | (simp only [lens]; first | omega | assumption) | (simp [lens]; done) | (simp [lens]; omega)) (by first | omega | assumption | (simp only [lens]; first | omega | assumption) | (simp [lens]; done) | (simp [lens]; omega)) ?_)); clear hm; intro ws hm; simp only [List.set_cons_zero, List.set_cons_succ] at hm) | ((with_reducible refine gt_load 2 ?_); (first | (refine st_get rfl 2 _ rfl hm rfl 0 rfl one2 (by first | omega | assumption | (simp only [lens]; first | omega | assumption) | (simp [lens]; done) | (simp [lens]; omega)) ?_) | (refine st_get rfl 2 _ rfl hm rfl 1 rfl one2 (by first | omega | assumption | (simp only [lens]; first | omega | assumption) | (simp [lens]; done) | (simp [lens]; omega)) ?_) | (refine st_get rfl 2 _ rfl hm rfl 2 rfl one2 (by first | omega | assumption | (simp only [lens]; first | omega | assumption) | (simp [lens]; done) | (simp [lens]; omega)) ?_) | (refine st_get rfl 2 _ rfl hm rfl 3 rfl one2 (by first | omega | assumption | (simp only [lens]; first | omega | assumption) | (simp [lens]; done) | (simp [lens]; omega)) ?_))) | ((with_reducible refine gt_field 28 0 ?_); refine st_field rfl 28 _ 0 rfl rfl field28_0 ?_) | ((with_reducible refine gt_elem 25 ?_); refine st_elem rfl 25 _ _ rfl rfl rfl arr25 (by first | omega | assumption | (simp only [lens]; first | omega | assumption) | (simp [lens]; done) | (simp [lens]; omega)) (by first | omega | assumption | (simp only [lens]; first | omega | assumption) | (simp [lens]; done) | (simp [lens]; omega)) ?_) | ((with_reducible refine gt_store 24 ?_); (first | (refine st_set rfl 24 _ _ rfl hm rfl rfl 0 rfl one24 (by first | omega | assumption | (simp only [lens]; first | omega | assumption) | (simp [lens]; done) | (simp [lens]; omega)) ?_) | (refine st_set rfl 24 _ _ rfl hm rfl rfl 1 rfl one24 (by first | omega | assumption | (simp only [lens]; first | omega | assumption) | (simp [lens]; done) | (simp [lens]; omega)) ?_) | (refine st_set rfl 24 _ _ rfl hm rfl rfl 2 rfl one24 (by first | omega | assumption | (simp only [lens]; first | omega | assumption) | (simp [lens]; done) | (simp [lens]; omega)) ?_) | (refine st_set rfl 24 _ _ rfl hm rfl rfl 3 rfl one24 (by first | omega | assumption | (simp only [lens]; first | omega | assumption) | (simp [lens]; done) | (simp [lens]; omega)) ?_)); clear hm; intro ws hm; simp only [List.set_cons_zero, List.set_cons_succ] at hm) | ((with_reducible refine gt_field 28 1 ?_); refine st_field rfl 28 _ 1 rfl rfl field28_1 ?_) | ((with_reducible refine gt_elem 26 ?_); refine st_elem rfl 26 _ _ rfl rfl rfl arr26 (by first | omega | assumption | (simp only [lens]; first | omega | assumption) | (simp [lens]; done) | (simp [lens]; omega)) (by first | omega | assumption | (simp only [lens]; first | omega | assumption) | (simp [lens]; done) | (simp [lens]; omega)) ?_) | ((with_reducible refine gt_load 28 ?_); (first | (refine st_load rfl 28 _ rfl hm rfl 0 rfl agg28 (by first | omega | assumption | (simp only [lens]; first | omega | assumption) | (simp [lens]; done) | (simp [lens]; omega)) ?_) | (refine st_load rfl 28 _ rfl hm rfl 1 rfl agg28 (by first | omega | assumption | (simp only [lens]; first | omega | assumption) | (simp [lens]; done) | (simp [lens]; omega)) ?_) | (refine st_load rfl 28 _ rfl hm rfl 2 rfl agg28 (by first | omega | assumption | (simp only [lens]; first | omega | assumption) | (simp [lens]; done) | (simp [lens]; omega)) ?_) | (refine st_load rfl 28 _ rfl hm rfl 3 rfl agg28 (by first | omega | assumption | (simp only [lens]; first | omega | assumption) | (simp [lens]; done) | (simp [lens]; omega)) ?_))))
   go_loopw [6] (fun v6 wr => ∃ (i : Nat) (L : List Int) (A : Option Addr) (c' : Nat) (p' sd' : Int), i ≤ 4 ∧ v6 = .int .i64 i ∧ L.length = 44 ∧ okL L = true ∧ 0 ≤ p' ∧ p' ≤ 3000 + (i : Int) ∧ Kd.C (Kd.int .u8) w0 A c.length c ∧ Mem w wr [⟨g8, vals .i64 [0, 1, 2, 3, 25, 39], 2, true⟩, ⟨g3, vals .i16 L, 28, true⟩, ⟨g2, vals .i16 (zs 44), 28, true⟩, ⟨g, #[.slice A c.length c', .int .i64 p', .int .u64 sd'], 89, false⟩]) (fun v6 _ => 4 - (intOf v6).toNat)
   case atStart => exact ⟨0, L, A, c', p', sd', by omega, rfl, HL0.out, HOK0.out, hp0, by omega, HR0.out, hm⟩
   case round =>
    clear hm
    obtain ⟨j, L, A, c', p', sd', hj, rfl, hl, hok, hp0, hp1, hr', hm⟩ := hrel
    by_cases hlt : j < 4
    ·have HOK := Aside0.mk hok
     have HL := Aside0.mk hl
     have HR1 := Aside0.mk hr'
     clear hok hr'
     go_wp2_with (first
      | (go_at_call 48; refine (pick_mem g c p' sd' 3 A c' w0 _ _ _ hm 3 rfl HGE.out (hm.belowOf HBE.out (by simp [HGE.out])) HR1.out HC.out hp0 (by omega) (by omega) (by omega)).mono ?_; rintro e w1 ⟨v, A', d', sd2, rfl, hv0, hv1, hr2, hm2⟩; clear hm; have hm := hm2; clear hm2; simp only [List.set_cons_zero, List.set_cons_succ] at hm; have HR2 := Aside0.mk hr2; clear hr2)
      | (first | fail | ((with_reducible refine gt_alloc 2 28 ?_); refine st_alloc rfl 2 rfl 28 rfl hm zero28 ?_; clear hm; intro g2 w2 hm) | ((with_reducible refine gt_build 28 ?_); refine st_zero rfl 28 rfl built28 ?_) | ((with_reducible refine gt_alloc 3 28 ?_); refine st_alloc rfl 3 rfl 28 rfl hm zero28 ?_; clear hm; intro g3 w3 hm) | ((with_reducible refine gt_store 28 ?_); (first | (refine st_full rfl 28 _ _ rfl hm rfl rfl 0 rfl agg28 (by first | omega | assumption | (simp only [lens]; first | omega | assumption) | (simp [lens]; done) | (simp [lens]; omega)) (by first | omega | assumption | (simp only [lens]; first | omega | assumption) | (simp [lens]; done) | (simp [lens]; omega)) ?_) | (refine st_full rfl 28 _ _ rfl hm rfl rfl 1 rfl agg28 (by first | omega | assumption | (simp only [lens]; first | omega | assumption) | (simp [lens]; done) | (simp [lens]; omega)) (by first | omega | assumption | (simp only [lens]; first | omega | assumption) | (simp [lens]; done) | (simp [lens]; omega)) ?_) | (refine st_full rfl 28 _ _ rfl hm rfl rfl 2 rfl agg28 (by first | omega | assumption | (simp only [lens]; first | omega | assumption) | (simp [lens]; done) | (simp [lens]; omega)) (by first | omega | assumption | (simp only [lens]; first | omega | assumption) | (simp [lens]; done) | (simp [lens]; omega)) ?_) | (refine st_full rfl 28 _ _ rfl hm rfl rfl 3 rfl agg28 (by first | omega | assumption | (simp only [lens]; first | omega | assumption) | (simp [lens]; done) | (simp [lens]; omega)) (by first | omega | assumption | (simp only [lens]; first | omega | assumption) | (simp [lens]; done) | (simp [lens]; omega)) ?_)); clear hm; intro ws hm; simp only [List.set_cons_zero, List.set_cons_succ] at hm) | ((with_reducible refine gt_load 2 ?_); (first | (refine st_get rfl 2 _ rfl hm rfl 0 rfl one2 (by first | omega | assumption | (simp only [lens]; first | omega | assumption) | (simp [lens]; done) | (simp [lens]; omega)) ?_) | (refine st_get rfl 2 _ rfl hm rfl 1 rfl one2 (by first | omega | assumption | (simp only [lens]; first | omega | assumption) | (simp [lens]; done) | (simp [lens]; omega)) ?_) | (refine st_get rfl 2 _ rfl hm rfl 2 rfl one2 (by first | omega | assumption | (simp only [lens]; first | omega | assumption) | (simp [lens]; done) | (simp [lens]; omega)) ?_) | (refine st_get rfl 2 _ rfl hm rfl 3 rfl one2 (by first | omega | assumption | (simp only [lens]; first | omega | assumption) | (simp [lens]; done) | (simp [lens]; omega)) ?_))) | ((with_reducible refine gt_field 28 0 ?_); refine st_field rfl 28 _ 0 rfl rfl field28_0 ?_) | ((with_reducible refine gt_elem 25 ?_); refine st_elem rfl 25 _ _ rfl rfl rfl arr25 (by first | omega | assumption | (simp only [lens]; first | omega | assumption) | (simp [lens]; done) | (simp [lens]; omega)) (by first | omega | assumption | (simp only [lens]; first | omega | assumption) | (simp [lens]; done) | (simp [lens]; omega)) ?_) | ((with_reducible refine gt_store 24 ?_); (first | (refine st_set rfl 24 _ _ rfl hm rfl rfl 0 rfl one24 (by first | omega | assumption | (simp only [lens]; first | omega | assumption) | (simp [lens]; done) | (simp [lens]; omega)) ?_) | (refine st_set rfl 24 _ _ rfl hm rfl rfl 1 rfl one24 (by first | omega | assumption | (simp only [lens]; first | omega | assumption) | (simp [lens]; done) | (simp [lens]; omega)) ?_) | (refine st_set rfl 24 _ _ rfl hm rfl rfl 2 rfl one24 (by first | omega | assumption | (simp only [lens]; first | omega | assumption) | (simp [lens]; done) | (simp [lens]; omega)) ?_) | (refine st_set rfl 24 _ _ rfl hm rfl rfl 3 rfl one24 (by first | omega | assumption | (simp only [lens]; first | omega | assumption) | (simp [lens]; done) | (simp [lens]; omega)) ?_)); clear hm; intro ws hm; simp only [List.set_cons_zero, List.set_cons_succ] at hm) | ((with_reducible refine gt_field 28 1 ?_); refine st_field rfl 28 _ 1 rfl rfl field28_1 ?_) | ((with_reducible refine gt_elem 26 ?_); refine st_elem rfl 26 _ _ rfl rfl rfl arr26 (by first | omega | assumption | (simp only [lens]; first | omega | assumption) | (simp [lens]; done) | (simp [lens]; omega)) (by first | omega | assumption | (simp only [lens]; first | omega | assumption) | (simp [lens]; done) | (simp [lens]; omega)) ?_) | ((with_reducible refine gt_load 28 ?_); (first | (refine st_load rfl 28 _ rfl hm rfl 0 rfl agg28 (by first | omega | assumption | (simp only [lens]; first | omega | assumption) | (simp [lens]; done) | (simp [lens]; omega)) ?_) | (refine st_load rfl 28 _ rfl hm rfl 1 rfl agg28 (by first | omega | assumption | (simp only [lens]; first | omega | assumption) | (simp [lens]; done) | (simp [lens]; omega)) ?_) | (refine st_load rfl 28 _ rfl hm rfl 2 rfl agg28 (by first | omega | assumption | (simp only [lens]; first | omega | assumption) | (simp [lens]; done) | (simp [lens]; omega)) ?_) | (refine st_load rfl 28 _ rfl hm rfl 3 rfl agg28 (by first | omega | assumption | (simp only [lens]; first | omega | assumption) | (simp [lens]; done) | (simp [lens]; omega)) ?_)))))
     have HM3 := Aside0.mk hm
     clear hm
     go_roundw
     case rel => exact ⟨j + 1, L.set (0 + 40 + (j : Int).toNat) v, A', d', p' + 1, sd2, by omega, by go_num, by rw [List.length_set]; exact HL.out, okL_setD HOK.out _ hv0 (by omega), by omega, by omega, HR2.out, HM3.out⟩
     case measure => simp [intOf]; omega
    ·have HI4 := Aside0.mk (show j = 4 by omega)
     have HOK := Aside0.mk hok
     clear hok hr'
     go_wp2_with (first | fail | ((with_reducible refine gt_alloc 2 28 ?_); refine st_alloc rfl 2 rfl 28 rfl hm zero28 ?_; clear hm; intro g2 w2 hm) | ((with_reducible refine gt_build 28 ?_); refine st_zero rfl 28 rfl built28 ?_) | ((with_reducible refine gt_alloc 3 28 ?_); refine st_alloc rfl 3 rfl 28 rfl hm zero28 ?_; clear hm; intro g3 w3 hm) | ((with_reducible refine gt_store 28 ?_); (first | (refine st_full rfl 28 _ _ rfl hm rfl rfl 0 rfl agg28 (by first | omega | assumption | (simp only [lens]; first | omega | assumption) | (simp [lens]; done) | (simp [lens]; omega)) (by first | omega | assumption | (simp only [lens]; first | omega | assumption) | (simp [lens]; done) | (simp [lens]; omega)) ?_) | (refine st_full rfl 28 _ _ rfl hm rfl rfl 1 rfl agg28 (by first | omega | assumption | (simp only [lens]; first | omega | assumption) | (simp [lens]; done) | (simp [lens]; omega)) (by first | omega | assumption | (simp only [lens]; first | omega | assumption) | (simp [lens]; done) | (simp [lens]; omega)) ?_) | (refine st_full rfl 28 _ _ rfl hm rfl rfl 2 rfl agg28 (by first | omega | assumption | (simp only [lens]; first | omega | assumption) | (simp [lens]; done) | (simp [lens]; omega)) (by first | omega | assumption | (simp only [lens]; first | omega | assumption) | (simp [lens]; done) | (simp [lens]; omega)) ?_) | (refine st_full rfl 28 _ _ rfl hm rfl rfl 3 rfl agg28 (by first | omega | assumption | (simp only [lens]; first | omega | assumption) | (simp [lens]; done) | (simp [lens]; omega)) (by first | omega | assumption | (simp only [lens]; first | omega | assumption) | (simp [lens]; done) | (simp [lens]; omega)) ?_)); clear hm; intro ws hm; simp only [List.set_cons_zero, List.set_cons_succ] at hm) | ((with_reducible refine gt_load 2 ?_); (first | (refine st_get rfl 2 _ rfl hm rfl 0 rfl one2 (by first | omega | assumption | (simp only [lens]; first | omega | assumption) | (simp [lens]; done) | (simp [lens]; omega)) ?_) | (refine st_get rfl 2 _ rfl hm rfl 1 rfl one2 (by first | omega | assumption | (simp only [lens]; first | omega | assumption) | (simp [lens]; done) | (simp [lens]; omega)) ?_) | (refine st_get rfl 2 _ rfl hm rfl 2 rfl one2 (by first | omega | assumption | (simp only [lens]; first | omega | assumption) | (simp [lens]; done) | (simp [lens]; omega)) ?_) | (refine st_get rfl 2 _ rfl hm rfl 3 rfl one2 (by first | omega | assumption | (simp only [lens]; first | omega | assumption) | (simp [lens]; done) | (simp [lens]; omega)) ?_))) | ((with_reducible refine gt_field 28 0 ?_); refine st_field rfl 28 _ 0 rfl rfl field28_0 ?_) | ((with_reducible refine gt_elem 25 ?_); refine st_elem rfl 25 _ _ rfl rfl rfl arr25 (by first | omega | assumption | (simp only [lens]; first | omega | assumption) | (simp [lens]; done) | (simp [lens]; omega)) (by first | omega | assumption | (simp only [lens]; first | omega | assumption) | (simp [lens]; done) | (simp [lens]; omega)) ?_) | ((with_reducible refine gt_store 24 ?_); (first | (refine st_set rfl 24 _ _ rfl hm rfl rfl 0 rfl one24 (by first | omega | assumption | (simp only [lens]; first | omega | assumption) | (simp [lens]; done) | (simp [lens]; omega)) ?_) | (refine st_set rfl 24 _ _ rfl hm rfl rfl 1 rfl one24 (by first | omega | assumption | (simp only [lens]; first | omega | assumption) | (simp [lens]; done) | (simp [lens]; omega)) ?_) | (refine st_set rfl 24 _ _ rfl hm rfl rfl 2 rfl one24 (by first | omega | assumption | (simp only [lens]; first | omega | assumption) | (simp [lens]; done) | (simp [lens]; omega)) ?_) | (refine st_set rfl 24 _ _ rfl hm rfl rfl 3 rfl one24 (by first | omega | assumption | (simp only [lens]; first | omega | assumption) | (simp [lens]; done) | (simp [lens]; omega)) ?_)); clear hm; intro ws hm; simp only [List.set_cons_zero, List.set_cons_succ] at hm) | ((with_reducible refine gt_field 28 1 ?_); refine st_field rfl 28 _ 1 rfl rfl field28_1 ?_) | ((with_reducible refine gt_elem 26 ?_); refine st_elem rfl 26 _ _ rfl rfl rfl arr26 (by first | omega | assumption | (simp only [lens]; first | omega | assumption) | (simp [lens]; done) | (simp [lens]; omega)) (by first | omega | assumption | (simp only [lens]; first | omega | assumption) | (simp [lens]; done) | (simp [lens]; omega)) ?_) | ((with_reducible refine gt_load 28 ?_); (first | (refine st_load rfl 28 _ rfl hm rfl 0 rfl agg28 (by first | omega | assumption | (simp only [lens]; first | omega | assumption) | (simp [lens]; done) | (simp [lens]; omega)) ?_) | (refine st_load rfl 28 _ rfl hm rfl 1 rfl agg28 (by first | omega | assumption | (simp only [lens]; first | omega | assumption) | (simp [lens]; done) | (simp [lens]; omega)) ?_) | (refine st_load rfl 28 _ rfl hm rfl 2 rfl agg28 (by first | omega | assumption | (simp only [lens]; first | omega | assumption) | (simp [lens]; done) | (simp [lens]; omega)) ?_) | (refine st_load rfl 28 _ rfl hm rfl 3 rfl agg28 (by first | omega | assumption | (simp only [lens]; first | omega | assumption) | (simp [lens]; done) | (simp [lens]; omega)) ?_))))
     have HM4 := Aside0.mk hm
     ((try simp only [Exit.inBlock, Exit.then]); (first | (refine ret_cell hm rfl rfl 2 rfl agg28 (by first | omega | assumption | (simp only [lens]; first | omega | assumption) | (simp [lens]; done) | (simp [lens]; omega)) rfl ?_) | (refine ret_cell_tmp hm rfl rfl 2 rfl agg28 (by first | omega | assumption | (simp only [lens]; first | omega | assumption) | (simp [lens]; done) | (simp [lens]; omega)) rfl ?_)))
     exact ⟨L, rfl, hl, HOK.out, _, HM4.out.only 3 rfl (by intro f hf hne; simp only [List.mem_cons, List.not_mem_nil, or_false] at hf; rcases hf with rfl | rfl | rfl | rfl <;> first | rfl | exact absurd rfl hne)⟩
theorem ne_ent {w W : World} {g g2 : Nat} {cs cs' : Array Value} {t t' : TypeId} {o : Bool} (hm : Mem w W [⟨g2, cs, t, o⟩]) (h : W.heap[g]? = some (.cells cs' t' (0, 0))) (ht : t ≠ t') : ∀ e ∈ [(⟨g2, cs, t, o⟩ : Ent)], e.g ≠ g := fun e he hge => by
 rw [List.mem_singleton] at he
 subst he
 have h1 := hm.mem (n := 0) rfl
 rw [show g2 = g from hge, h] at h1
 injection h1 with h1
 injection h1 with _ h2
 exact ht h2.symm
set_option maxHeartbeats 4000000 in
set_option maxRecDepth 100000 in
theorem A2Locker_calls (A0 : Option Addr) (c0 : Nat) (c : List Int) (w : World) (hr : Kd.C (Kd.int .u8) w A0 c.length c) (hcc : c.length ≤ c0) (hc : Byt c) :
  Calls Tryz.prog 5 #[.slice A0 c.length c0] w fun e w' => ∃ L, e = .returned (.agg (vals .i16 L)) ∧ L.length = 44 ∧ okL L = true ∧ Below w.heap.size w w' := by
 have hm := Mem.start w
 have HR := Aside0.mk hr
 have HC := Aside0.mk hc
 have hz : (zs 44).length = 44 := zs_length
 clear hr hc
 go_enter Tryz.func5, Tryz.ntmps5
 go_wp2_with (first
  | (first | fail | ((with_reducible refine gt_alloc 2 28 ?_); refine st_alloc rfl 2 rfl 28 rfl hm zero28 ?_; clear hm; intro g2 w2 hm) | ((with_reducible refine gt_store 28 ?_); (first | (refine st_full rfl 28 _ _ rfl hm rfl rfl 0 rfl agg28 (by first | omega | assumption | (simp only [lens]; first | omega | assumption) | (simp [lens]; done) | (simp [lens]; omega)) (by first | omega | assumption | (simp only [lens]; first | omega | assumption) | (simp [lens]; done) | (simp [lens]; omega)) ?_) | (refine st_full rfl 28 _ _ rfl hm rfl rfl 1 rfl agg28 (by first | omega | assumption | (simp only [lens]; first | omega | assumption) | (simp [lens]; done) | (simp [lens]; omega)) (by first | omega | assumption | (simp only [lens]; first | omega | assumption) | (simp [lens]; done) | (simp [lens]; omega)) ?_) | (refine st_full rfl 28 _ _ rfl hm rfl rfl 2 rfl agg28 (by first | omega | assumption | (simp only [lens]; first | omega | assumption) | (simp [lens]; done) | (simp [lens]; omega)) (by first | omega | assumption | (simp only [lens]; first | omega | assumption) | (simp [lens]; done) | (simp [lens]; omega)) ?_)); clear hm; intro ws hm; simp only [List.set_cons_zero, List.set_cons_succ] at hm))
  | (go_at_call 21; go_loud (refine (spec_l00From.calls A0 c0 c c 0 0 w _ (hm.done rfl) HR.out hcc rfl).mono ?_; rintro e w1 ⟨g, rfl, ⟨A', c', hb0, hg, hr'⟩, hB1, hB2⟩; replace hm := hm.after hB2; have HB0 := Aside0.mk hb0; have HR' := Aside0.mk hr'; have HG := Aside0.mk hg; have HB1 := Aside0.mk hB1; clear hb0 hr' hg hB1 hB2))
  | (go_at_call 20; refine (l04Drawn_calls g c 0 0 A' c' _ _ HB0.out HG.out HR'.out HB1.out HC.out (by omega) (by omega)).mono ?_; rintro e w2 ⟨L, rfl, hl, hok, cs, hm2⟩; have HM2 := Aside0.mk (hm.through hm2 HG.out (ne_ent hm HB0.out (by decide))); clear hm hm2; have hm := HM2.out; clear HM2; have HOK := Aside0.mk hok; clear hok))
 have HM4 := Aside0.mk hm
 ((try simp only [Exit.inBlock, Exit.then]); (first | (refine ret_cell hm rfl rfl 0 rfl agg28 (by first | omega | assumption | (simp only [lens]; first | omega | assumption) | (simp [lens]; done) | (simp [lens]; omega)) rfl ?_) | (refine ret_cell_tmp hm rfl rfl 0 rfl agg28 (by first | omega | assumption | (simp only [lens]; first | omega | assumption) | (simp [lens]; done) | (simp [lens]; omega)) rfl ?_)))
 exact ⟨L, rfl, hl, HOK.out, HM4.out.done rfl⟩
end Go.Proofs.YthaoopbfggnceaaGreatDoor.Arr
namespace Go.Proofs.YthaoopbfggnceaaGreatDoor.Arr
open Go.Shelf Go.Proofs
set_option maxRecDepth 100000
def ren173 : Ren :=
 {
  f := fun x =>
   match x with
   | 173 => 63
   | 246 => 88
   | 283 => 106
   | 284 => 107
   | 285 => 108
   | 286 => 109
   | 129 => 121
   | 317 => 120
   | 318 => 122
   | 319 => 123
   | 320 => 124
   | 337 => 126
   | 338 => 127
   | n => n,
  t := fun x =>
   match x with
   | 2 => 2
   | 3 => 3
   | 9 => 9
   | 4 => 4
   | 171 => 143
   | 0 => 0
   | 53 => 87
   | 37 => 22
   | 5 => 5
   | 173 => 146
   | 212 => 161
   | 51 => 151
   | 20 => 20
   | 213 => 162
   | 46 => 128
   | 232 => 173
   | 233 => 174
   | n => n,
  g := fun x =>
   match x with
   | 17 => 3
   | 18 => 6
   | 19 => 7
   | n => n }
theorem lay173 : Lays.n173 Go.Proofs.Tryz.prog ren173 where
 mixed := by kernel_rfl
 f129 := Eq.trans Go.Proofs.Tryz.func121 (congrArg some (by kernel_rfl))
 f173 := Eq.trans Go.Proofs.Tryz.func63 (congrArg some (by kernel_rfl))
 f246 := Eq.trans Go.Proofs.Tryz.func88 (congrArg some (by kernel_rfl))
 f283 := Eq.trans Go.Proofs.Tryz.func106 (congrArg some (by kernel_rfl))
 f284 := Eq.trans Go.Proofs.Tryz.func107 (congrArg some (by kernel_rfl))
 f285 := Eq.trans Go.Proofs.Tryz.func108 (congrArg some (by kernel_rfl))
 f286 := Eq.trans Go.Proofs.Tryz.func109 (congrArg some (by kernel_rfl))
 f317 := Eq.trans Go.Proofs.Tryz.func120 (congrArg some (by kernel_rfl))
 f318 := Eq.trans Go.Proofs.Tryz.func122 (congrArg some (by kernel_rfl))
 f319 := Eq.trans Go.Proofs.Tryz.func123 (congrArg some (by kernel_rfl))
 f320 := Eq.trans Go.Proofs.Tryz.func124 (congrArg some (by kernel_rfl))
 f337 := Eq.trans Go.Proofs.Tryz.func126 (congrArg some (by kernel_rfl))
 f338 := Eq.trans Go.Proofs.Tryz.func127 (congrArg some (by kernel_rfl))
 t0 := Go.Proofs.Tryz.underlying0
 a0 := Go.Proofs.Tryz.isAgg0
 z0 := Go.Proofs.Tryz.sizeOf0
 v0 := Go.Proofs.Tryz.zeroValue0
 t2 := Go.Proofs.Tryz.underlying2
 a2 := Go.Proofs.Tryz.isAgg2
 z2 := Go.Proofs.Tryz.sizeOf2
 v2 := Go.Proofs.Tryz.zeroValue2
 t3 := Go.Proofs.Tryz.underlying3
 a3 := Go.Proofs.Tryz.isAgg3
 z3 := Go.Proofs.Tryz.sizeOf3
 v3 := Go.Proofs.Tryz.zeroValue3
 t4 := Go.Proofs.Tryz.underlying4
 a4 := Go.Proofs.Tryz.isAgg4
 z4 := Go.Proofs.Tryz.sizeOf4
 v4 := Go.Proofs.Tryz.zeroValue4
 t5 := Go.Proofs.Tryz.underlying5
 a5 := Go.Proofs.Tryz.isAgg5
 z5 := Go.Proofs.Tryz.sizeOf5
 v5 := Go.Proofs.Tryz.zeroValue5
 t9 := Go.Proofs.Tryz.underlying9
 a9 := Go.Proofs.Tryz.isAgg9
 z9 := Go.Proofs.Tryz.sizeOf9
 v9 := Go.Proofs.Tryz.zeroValue9
 t20 := Go.Proofs.Tryz.underlying20
 a20 := Go.Proofs.Tryz.isAgg20
 z20 := Go.Proofs.Tryz.sizeOf20
 v20 := Go.Proofs.Tryz.zeroValue20
 t37 := Go.Proofs.Tryz.underlying22
 a37 := Go.Proofs.Tryz.isAgg22
 z37 := Go.Proofs.Tryz.sizeOf22
 v37 := Go.Proofs.Tryz.zeroValue22
 t46 := Go.Proofs.Tryz.underlying128
 a46 := Go.Proofs.Tryz.isAgg128
 z46 := Go.Proofs.Tryz.sizeOf128
 v46 := Go.Proofs.Tryz.zeroValue128
 t51 := Go.Proofs.Tryz.underlying151
 a51 := Go.Proofs.Tryz.isAgg151
 z51 := Go.Proofs.Tryz.sizeOf151
 v51 := Go.Proofs.Tryz.zeroValue151
 t53 := Go.Proofs.Tryz.underlying87
 a53 := Go.Proofs.Tryz.isAgg87
 z53 := Go.Proofs.Tryz.sizeOf87
 v53 := Go.Proofs.Tryz.zeroValue87
 t171 := Go.Proofs.Tryz.underlying143
 a171 := Go.Proofs.Tryz.isAgg143
 z171 := Go.Proofs.Tryz.sizeOf143
 v171 := Go.Proofs.Tryz.zeroValue143
 t173 := Go.Proofs.Tryz.underlying146
 a173 := Go.Proofs.Tryz.isAgg146
 z173 := Go.Proofs.Tryz.sizeOf146
 v173 := Go.Proofs.Tryz.zeroValue146
 t212 := Go.Proofs.Tryz.underlying161
 a212 := Go.Proofs.Tryz.isAgg161
 z212 := Go.Proofs.Tryz.sizeOf161
 v212 := Go.Proofs.Tryz.zeroValue161
 t213 := Go.Proofs.Tryz.underlying162
 a213 := Go.Proofs.Tryz.isAgg162
 z213 := Go.Proofs.Tryz.sizeOf162
 t232 := Go.Proofs.Tryz.underlying173
 a232 := Go.Proofs.Tryz.isAgg173
 z232 := Go.Proofs.Tryz.sizeOf173
 v232 := Go.Proofs.Tryz.zeroValue173
 t233 := Go.Proofs.Tryz.underlying174
 a233 := Go.Proofs.Tryz.isAgg174
 z233 := Go.Proofs.Tryz.sizeOf174
 v233 := Go.Proofs.Tryz.zeroValue174
 g17 := by kernel_rfl
 g18 := by kernel_rfl
 g19 := by kernel_rfl
def ren156 : Ren :=
 {
  f := fun x =>
   match x with
   | 156 => 35
   | 165 => 64
   | 166 => 65
   | 169 => 66
   | 240 => 89
   | 241 => 90
   | 276 => 110
   | 277 => 111
   | n => n,
  t := fun x =>
   match x with
   | 31 => 61
   | 9 => 9
   | 3 => 3
   | 4 => 4
   | 0 => 0
   | 20 => 20
   | 72 => 104
   | 76 => 106
   | 70 => 102
   | 37 => 22
   | 75 => 98
   | 127 => 126
   | 164 => 148
   | 5 => 5
   | 80 => 108
   | n => n,
  g := fun n => n }
theorem lay156 : Lays.n156 Go.Proofs.Tryz.prog ren156 where
 mixed := by kernel_rfl
 f156 := Eq.trans Go.Proofs.Tryz.func35 (congrArg some (by kernel_rfl))
 f165 := Eq.trans Go.Proofs.Tryz.func64 (congrArg some (by kernel_rfl))
 f166 := Eq.trans Go.Proofs.Tryz.func65 (congrArg some (by kernel_rfl))
 f169 := Eq.trans Go.Proofs.Tryz.func66 (congrArg some (by kernel_rfl))
 f240 := Eq.trans Go.Proofs.Tryz.func89 (congrArg some (by kernel_rfl))
 f241 := Eq.trans Go.Proofs.Tryz.func90 (congrArg some (by kernel_rfl))
 f276 := Eq.trans Go.Proofs.Tryz.func110 (congrArg some (by kernel_rfl))
 f277 := Eq.trans Go.Proofs.Tryz.func111 (congrArg some (by kernel_rfl))
 t0 := Go.Proofs.Tryz.underlying0
 a0 := Go.Proofs.Tryz.isAgg0
 z0 := Go.Proofs.Tryz.sizeOf0
 v0 := Go.Proofs.Tryz.zeroValue0
 t3 := Go.Proofs.Tryz.underlying3
 a3 := Go.Proofs.Tryz.isAgg3
 z3 := Go.Proofs.Tryz.sizeOf3
 v3 := Go.Proofs.Tryz.zeroValue3
 t4 := Go.Proofs.Tryz.underlying4
 a4 := Go.Proofs.Tryz.isAgg4
 z4 := Go.Proofs.Tryz.sizeOf4
 v4 := Go.Proofs.Tryz.zeroValue4
 t9 := Go.Proofs.Tryz.underlying9
 a9 := Go.Proofs.Tryz.isAgg9
 z9 := Go.Proofs.Tryz.sizeOf9
 v9 := Go.Proofs.Tryz.zeroValue9
 t20 := Go.Proofs.Tryz.underlying20
 a20 := Go.Proofs.Tryz.isAgg20
 z20 := Go.Proofs.Tryz.sizeOf20
 v20 := Go.Proofs.Tryz.zeroValue20
 t31 := Go.Proofs.Tryz.underlying61
 a31 := Go.Proofs.Tryz.isAgg61
 z31 := Go.Proofs.Tryz.sizeOf61
 v31 := Go.Proofs.Tryz.zeroValue61
 t37 := Go.Proofs.Tryz.underlying22
 a37 := Go.Proofs.Tryz.isAgg22
 z37 := Go.Proofs.Tryz.sizeOf22
 v37 := Go.Proofs.Tryz.zeroValue22
 t70 := Go.Proofs.Tryz.underlying102
 a70 := Go.Proofs.Tryz.isAgg102
 z70 := Go.Proofs.Tryz.sizeOf102
 v70 := Go.Proofs.Tryz.zeroValue102
 t72 := Go.Proofs.Tryz.underlying104
 a72 := Go.Proofs.Tryz.isAgg104
 z72 := Go.Proofs.Tryz.sizeOf104
 v72 := Go.Proofs.Tryz.zeroValue104
 t75 := Go.Proofs.Tryz.underlying98
 a75 := Go.Proofs.Tryz.isAgg98
 z75 := Go.Proofs.Tryz.sizeOf98
 v75 := Go.Proofs.Tryz.zeroValue98
 t76 := Go.Proofs.Tryz.underlying106
 a76 := Go.Proofs.Tryz.isAgg106
 z76 := Go.Proofs.Tryz.sizeOf106
 v76 := Go.Proofs.Tryz.zeroValue106
 t127 := Go.Proofs.Tryz.underlying126
 a127 := Go.Proofs.Tryz.isAgg126
 z127 := Go.Proofs.Tryz.sizeOf126
 v127 := Go.Proofs.Tryz.zeroValue126
 t164 := Go.Proofs.Tryz.underlying148
 a164 := Go.Proofs.Tryz.isAgg148
 z164 := Go.Proofs.Tryz.sizeOf148
 v164 := Go.Proofs.Tryz.zeroValue148
theorem extra156 : Builder.Extra Go.Proofs.Tryz.prog ren156 where
 sizeBuilder := by kernel_rfl
 liesBuilder := by kernel_rfl
 t5 := Go.Proofs.Tryz.underlying5
 a5 := Go.Proofs.Tryz.isAgg5
 z5 := Go.Proofs.Tryz.sizeOf5
 v5 := Go.Proofs.Tryz.zeroValue5
 infoByte := by kernel_rfl
 cellsByte := by kernel_rfl
 sizeByte := by kernel_rfl
 neB5 := by decide
end Go.Proofs.YthaoopbfggnceaaGreatDoor.Arr
namespace Go.Proofs.YthaoopbfggnceaaGreatDoor.Arr
open Go.RowKit Go.Proofs.YthaoopbfggnceaaGreatDoorW.PrintWords Go.Proofs.YthaoopbfggnceaaGreatDoorW.PrintLast Go.Proofs.YthaoopbfggnceaaGreatDoorW.PrintMore Go.Proofs.YthaoopbfggnceaaGreatDoor.U Go.Proofs.YthaoopbfggnceaaGreatDoor.L
set_option linter.unusedVariables false
set_option linter.unusedSimpArgs false
theorem bs_app_data (a b : Array UInt8) : (⟨a⟩ : ByteArray) ++ ⟨b⟩ = ⟨a ++ b⟩ := by
 apply ByteArray.ext
 simp
theorem bs_size (l : List UInt8) : (⟨l.toArray⟩ : ByteArray).size = l.length := by simp [ByteArray.size]
def dg (n : Nat) : List UInt8 := if n < 10 then [UInt8.ofNat (48 + n)] else [UInt8.ofNat (48 + n / 10), UInt8.ofNat (48 + n % 10)]
theorem dg_dec {n : Nat} (h : n < 100) : Lib.decDigits n = dg n := by
 unfold dg
 by_cases h1 : n < 10
 ·rw [if_pos h1, Lib.decDigits, dif_pos h1]
 ·rw [if_neg h1, Lib.decDigits, dif_neg h1, Lib.decDigits, dif_pos (by omega)]
  rfl
theorem dg_len (n : Nat) : (dg n).length ≤ 2 := by
 unfold dg
 split <;> simp
theorem format_calls (n : Nat) (h : n < 100) (w : World) : Calls Tryz.prog 63 #[.int .i64 (n : Int), .int .i64 10] w fun e w' => e = .returned (.string ⟨(dg n).toArray⟩) ∧ w' = w := by
 rw [← dg_dec h]
 exact Any.strconv_FormatInt_10_small lay173 n h w
theorem decimal_calls (n : Nat) (h : n < 100) (w : World) : Calls Tryz.prog 34 #[.int .i64 (n : Int)] w fun e w' => e = .returned (.string ⟨(dg n).toArray⟩) ∧ Below w.heap.size w w' := by
 have HF := Aside0.mk (fun W => format_calls n h W)
 go_enter Tryz.func34, Tryz.ntmps34
 go_wp2_with (go_at_call 63; refine (HF.out _).mono ?_; rintro e w1 ⟨rfl, rfl⟩)
 go_ret
 exact ⟨rfl, Below.refl _ _⟩
def wd (j : Nat) (n : Int) : List UInt8 := if j < 40 then (dg j ++ [120]) ++ dg n.toNat else (([115] ++ dg (j - 39)) ++ [120]) ++ dg n.toNat
def wds (L : List Int) : Nat → List (List UInt8)
 | 0 => []
 | j + 1 => if 0 < rd L (j : Int) then wds L j ++ [wd j (rd L (j : Int))] else wds L j
def spT (L : List Int) : Nat → List UInt8
 | 0 => []
 | j + 1 => if 0 < rd L (j : Int) then spT L j ++ (32 :: wd j (rd L (j : Int))) else spT L j
theorem wd_len (j : Nat) (n : Int) : (wd j n).length ≤ 6 := by
 unfold wd
 have h1 := dg_len j
 have h2 := dg_len (j - 39)
 have h3 := dg_len n.toNat
 split <;> simp <;> omega
theorem wds_len (L : List Int) : ∀ j, (wds L j).length ≤ j
 | 0 => Nat.le_refl _
 | j + 1 => by
  rw [wds]
  have := wds_len L j
  split
  ·simp
   omega
  ·omega
theorem spT_len (L : List Int) : ∀ j, (spT L j).length ≤ 7 * j
 | 0 => Nat.le_refl _
 | j + 1 => by
  rw [spT]
  have := spT_len L j
  have := wd_len j (rd L (j : Int))
  split
  ·simp
   omega
  ·omega
theorem spT_wds (L : List Int) : ∀ j, spT L j = Lib.joinTail [32] (wds L j)
 | 0 => rfl
 | j + 1 => by
  rw [spT, wds]
  split
  ·rw [spT_wds L j]
   simp [Lib.joinTail]
  ·exact spT_wds L j
def lockT (L : List Int) : List UInt8 := if wds L 44 = [] then [45] else Lib.join (wds L 44) [32]
theorem lockT_spec (L : List Int) : lockT L = if spT L 44 = [] then [45] else (spT L 44).drop 1 := by
 unfold lockT
 rw [spT_wds]
 cases h : wds L 44 with
 | nil => rfl
 | cons x r =>
  rw [if_neg (by simp), if_neg (by simp [Lib.joinTail]), Lib.join_cons]
  simp [Lib.joinTail]
theorem join_len (xs : List (List UInt8)) (h : ∀ x ∈ xs, x.length ≤ 6) : (Lib.join xs [32]).length ≤ 7 * xs.length := by
 cases xs with
 | nil => simp [Lib.join_nil]
 | cons x r =>
  rw [Lib.join_cons]
  have key : ∀ r : List (List UInt8), (∀ x ∈ r, x.length ≤ 6) → (Lib.joinTail [32] r).length ≤ 7 * r.length := by
   intro r
   induction r with
   | nil => intro _; simp [Lib.joinTail]
   | cons y r ih =>
    intro hr
    have h1 := ih (fun x hx => hr x (by simp [hx]))
    have h2 := hr y (by simp)
    show (([32] ++ y) ++ Lib.joinTail [32] r).length ≤ 7 * (r.length + 1)
    rw [List.length_append]
    have h3 : ([32] ++ y : List UInt8).length = y.length + 1 := by simp
    omega
  have h1 := key r (fun y hy => h y (by simp [hy]))
  have h2 := h x (by simp)
  simp
  omega
theorem wds_mem (L : List Int) : ∀ j, ∀ x ∈ wds L j, x.length ≤ 6
 | 0, x, hx => by cases hx
 | j + 1, x, hx => by
  rw [wds] at hx
  split at hx
  ·rcases List.mem_append.1 hx with h | h
   ·exact wds_mem L j x h
   ·rw [List.mem_singleton] at h
    rw [h]
    exact wd_len _ _
  ·exact wds_mem L j x hx
end Go.Proofs.YthaoopbfggnceaaGreatDoor.Arr
namespace Go.Proofs.YthaoopbfggnceaaGreatDoor.Arr
open Go.RowKit Go.Proofs.YthaoopbfggnceaaGreatDoorW.PrintWords Go.Proofs.YthaoopbfggnceaaGreatDoorW.PrintLast Go.Proofs.YthaoopbfggnceaaGreatDoorW.PrintMore Go.Proofs.YthaoopbfggnceaaGreatDoor.U Go.Proofs.YthaoopbfggnceaaGreatDoor.L
set_option linter.unusedVariables false
set_option linter.unusedSimpArgs false
def sp (c : UInt8) : List UInt8 → List (List UInt8)
 | [] => [[]]
 | x :: r => if x = c then [] :: sp c r else match sp c r with | h :: t => (x :: h) :: t | [] => [[x]]
theorem sp_no (c : UInt8) : ∀ (l : List UInt8), (∀ x ∈ l, x ≠ c) → sp c l = [l]
 | [], _ => rfl
 | x :: r, h => by
  rw [sp, if_neg (h x (List.mem_cons_self ..)), sp_no c r (fun y hy => h y (List.mem_cons_of_mem _ hy))]
theorem sp_cut (c : UInt8) (b : List UInt8) : ∀ (a : List UInt8), (∀ x ∈ a, x ≠ c) → sp c (a ++ c :: b) = a :: sp c b
 | [], _ => by rw [List.nil_append, sp, if_pos rfl]
 | x :: r, h => by
  rw [List.cons_append, sp, if_neg (h x (List.mem_cons_self ..)), sp_cut c b r (fun y hy => h y (List.mem_cons_of_mem _ hy))]
theorem sp_join (c : UInt8) : ∀ (ws : List (List UInt8)) (w : List UInt8), (∀ x ∈ w, x ≠ c) → (∀ v ∈ ws, ∀ x ∈ v, x ≠ c) → sp c (w ++ Lib.joinTail [c] ws) = w :: ws
 | [], w, h, _ => by rw [show Lib.joinTail [c] [] = [] from rfl, List.append_nil, sp_no c w h]
 | v :: ws, w, h, hs => by
  rw [show Lib.joinTail [c] (v :: ws) = c :: (v ++ Lib.joinTail [c] ws) from by simp [Lib.joinTail], sp_cut c _ w h, sp_join c ws v (hs v (List.mem_cons_self ..)) (fun u hu => hs u (List.mem_cons_of_mem _ hu))]
theorem sp_len (c : UInt8) : ∀ l : List UInt8, (sp c l).length ≤ l.length + 1
 | [] => Nat.le_refl _
 | x :: r => by
  have := sp_len c r
  rw [sp]
  split
  ·simp only [List.length_cons]; omega
  ·split
   ·rename_i h t e
    rw [e] at this
    simp only [List.length_cons] at this ⊢; omega
   ·simp
theorem sp_mem (c : UInt8) : ∀ (l : List UInt8), ∀ v ∈ sp c l, v.length ≤ l.length
 | [], v, h => by simp [sp] at h; simp [h]
 | x :: r, v, h => by
  have ih := sp_mem c r
  rw [sp] at h
  split at h
  ·rcases List.mem_cons.1 h with rfl | h
   ·simp
   ·exact Nat.le_trans (ih v h) (by simp)
  ·split at h
   ·rename_i a t e
    rw [e] at ih
    rcases List.mem_cons.1 h with rfl | h
    ·have := ih a (List.mem_cons_self ..)
     simp only [List.length_cons]; omega
    ·exact Nat.le_trans (ih v (List.mem_cons_of_mem _ h)) (by simp)
   ·simp at h; simp [h]
theorem index_one (c : UInt8) (b : List UInt8) : ∀ a : List UInt8, (∀ x ∈ a, x ≠ c) → Lib.index (a ++ c :: b) [c] = (a.length : Int)
 | [], _ => by simp [Lib.index]
 | x :: r, h => by
  have ih := index_one c b r (fun y hy => h y (List.mem_cons_of_mem _ hy))
  have hx : ¬ (([c] : List UInt8).isPrefixOf (x :: (r ++ c :: b))) = true := by
   simp only [List.isPrefixOf, Bool.and_true, beq_iff_eq]
   exact fun e => h x (List.mem_cons_self ..) e.symm
  rw [List.cons_append, Lib.index, if_neg hx, ih, if_neg (by simp only [beq_iff_eq]; omega)]
  simp
theorem index_no (c : UInt8) : ∀ a : List UInt8, (∀ x ∈ a, x ≠ c) → Lib.index a [c] = -1
 | [], _ => by simp [Lib.index]
 | x :: r, h => by
  have ih := index_no c r (fun y hy => h y (List.mem_cons_of_mem _ hy))
  have hx : ¬ (([c] : List UInt8).isPrefixOf (x :: r)) = true := by
   simp only [List.isPrefixOf, Bool.and_true, beq_iff_eq]
   exact fun e => h x (List.mem_cons_self ..) e.symm
  rw [Lib.index, if_neg hx, ih]
  simp
theorem at_first (c : UInt8) : ∀ l : List UInt8, (∀ x ∈ l, x ≠ c) ∨ ∃ a b, l = a ++ c :: b ∧ ∀ x ∈ a, x ≠ c
 | [] => Or.inl (by simp)
 | x :: r => by
  by_cases h : x = c
  ·exact Or.inr ⟨[], r, by simp [h], by simp⟩
  ·rcases at_first c r with h1 | ⟨a, b, rfl, h1⟩
   ·refine Or.inl fun y hy => ?_
    rcases List.mem_cons.1 hy with rfl | hy
    ·exact h
    ·exact h1 y hy
   ·refine Or.inr ⟨x :: a, b, rfl, fun y hy => ?_⟩
    rcases List.mem_cons.1 hy with rfl | hy
    ·exact h
    ·exact h1 y hy
theorem splitB_sp (c : UInt8) : ∀ (n : Nat) (s : ByteArray), s.size ≤ n → (Lib.splitB ⟨#[c]⟩ 0 (Lib.countB s ⟨#[c]⟩) s).map (·.data.toList) = sp c s.data.toList
 | n, s, hn => by
  rcases at_first c s.data.toList with h | ⟨a, b, e, h⟩
  ·have hi : Lib.indexB s ⟨#[c]⟩ = -1 := index_no c _ h
   rw [Lib.splitB_miss _ _ _ _ hi, sp_no c _ h]
   rfl
  ·have hi : Lib.indexB s ⟨#[c]⟩ = (a.length : Int) := by
    show Lib.index s.data.toList [c] = _
    rw [e]; exact index_one c b a h
   have hz : s.size = a.length + (b.length + 1) := by
    have : s.size = s.data.toList.length := (Array.length_toList).symm
    rw [this, e]; simp
   have h1 : (s.extract 0 (a.length + 0)).data.toList = a := by
    rw [Lib.extract_from_zero, e]; simp
   have h2 : (s.extract (a.length + (⟨#[c]⟩ : ByteArray).size) s.size).data.toList = b := by
    rw [show (⟨#[c]⟩ : ByteArray).size = 1 from rfl]
    have : s.extract (a.length + 1) s.size = s.extract (a.length + 1) s.data.size := rfl
    simp only [ByteArray.data_extract, Array.toList_extract]
    rw [e]
    simp [List.extract, hz]
    exact List.take_of_length_le (by omega)
   rw [Lib.countB_hit s ⟨#[c]⟩ a.length (Nat.le_refl 1) hi, Nat.add_comm, Lib.splitB_hit _ _ _ _ _ hi, List.map_cons, h1, e, sp_cut c b a h]
   match n, hn with
   | 0, hn => omega
   | n + 1, hn =>
    rw [splitB_sp c n _ (by
     have : (s.extract (a.length + (⟨#[c]⟩ : ByteArray).size) s.size).size = b.length := by
      rw [← h2]; exact (Array.length_toList).symm
     omega), h2]
def numGo : Int → List UInt8 → Int × Bool
 | n, [] => (n, true)
 | n, c :: r => if c.toNat < 48 ∨ 57 < c.toNat then (0, false) else numGo (10 * n + ((c.toNat - 48 : Nat) : Int)) r
def numS (s : List UInt8) : Int × Bool := if s = [] ∨ 9 < s.length ∨ (s.head? = some 48 ∧ 1 < s.length) then (0, false) else numGo 0 s
theorem numS_dg : ∀ k : Fin 100, numS (dg k.val) = ((k.val : Int), true) := by decide +kernel
theorem dg_inj {k j : Nat} (hk : k < 100) (hj : j < 100) (h : dg k = dg j) : k = j := by
 have h1 := numS_dg ⟨k, hk⟩
 have h2 := numS_dg ⟨j, hj⟩
 simp only at h1 h2
 rw [h, h2] at h1
 have := congrArg Prod.fst h1
 simp only at this
 omega
def numI (most : Nat) (s : List UInt8) : Option Nat := (List.range (most + 1)).find? fun k => dg k == s
theorem numI_some {most k : Nat} {s : List UInt8} (hm : most < 100) (h : numI most s = some k) : k ≤ most ∧ dg k = s := by
 have h1 := List.find?_some h
 have h2 := List.mem_of_find?_eq_some h
 simp only [beq_iff_eq] at h1
 simp only [List.mem_range] at h2
 exact ⟨by omega, h1⟩
theorem numI_eq {most k : Nat} (hm : most < 100) (hk : k ≤ most) : numI most (dg k) = some k := by
 rcases hx : numI most (dg k) with _ | j
 ·have := List.find?_eq_none.1 hx k (by simp; omega)
  simp at this
 ·obtain ⟨h1, h2⟩ := numI_some hm hx
  rw [dg_inj (by omega) (by omega) h2]
theorem parse_dg : ∀ k : Fin 100, Lib.parseIntB 64 (dg k.val) = .ok (k.val : Int) := by decide +kernel
theorem numI_none {most : Nat} (hm : most < 100) {s : List UInt8} (h : ∀ v : Int, Lib.parseIntB 64 s ≠ .ok v) : numI most s = none := by
 rcases hx : numI most s with _ | j
 ·rfl
 ·obtain ⟨h1, h2⟩ := numI_some hm hx
  exact absurd (h2 ▸ parse_dg ⟨j, by omega⟩) (h _)
theorem numI_ok {most : Nat} (hm : most < 100) {s : List UInt8} {v : Int} (h : Lib.parseIntB 64 s = .ok v) :
  (Lib.itoa v = s ∧ 0 ≤ v ∧ v ≤ most → numI most s = some v.toNat) ∧ (¬ (Lib.itoa v = s ∧ 0 ≤ v ∧ v ≤ most) → numI most s = none) := by
 refine ⟨fun ⟨h1, h2, h3⟩ => ?_, fun h1 => ?_⟩
 ·have : dg v.toNat = s := by
   rw [← h1, ← dg_dec (by omega)]
   unfold Lib.itoa
   rw [if_neg (by omega)]
  rw [← this]
  exact numI_eq hm (by omega)
 ·rcases hx : numI most s with _ | j
  ·rfl
  ·obtain ⟨h2, h3⟩ := numI_some hm hx
   have h4 := parse_dg ⟨j, by omega⟩
   simp only at h4
   rw [h3, h] at h4
   obtain rfl : v = (j : Int) := by injection h4
   refine absurd ⟨?_, by omega, by omega⟩ h1
   rw [← h3, ← dg_dec (by omega)]
   unfold Lib.itoa
   rw [if_neg (by omega)]
   congr 1
def wordP (sub : Bool) (ps : List (List UInt8)) : Option (Nat × Int) :=
 match ps with
 | [a, b] =>
  if (numS a).2 = true ∧ (numS b).2 = true ∧ (1 ≤ (numS b).1 ∧ (numS b).1 ≤ 20) ∧ (numS a).1 < 40 ∧ (sub = true → 1 ≤ (numS a).1 ∧ (numS a).1 ≤ 4) then
   some (if sub = true then 39 + (numS a).1.toNat else (numS a).1.toNat, (numS b).1)
  else none
 | _ => none
def wordS : List UInt8 → Option (Nat × Int)
 | [] => none
 | c :: r => if c = 115 then wordP true (sp 120 r) else wordP false (sp 120 (c :: r))
def wordI (w : List UInt8) : Option (Nat × Int) :=
 match numI 39 (Lib.trimPrefix (Lib.cut w [120]).1 [115]), numI 20 (Lib.cut w [120]).2.1 with
 | some k, some n => if Lib.hasPrefix (Lib.cut w [120]).1 [115] = true then (if 1 ≤ k ∧ k ≤ 4 then some (39 + k, (n : Int)) else none) else some (k, (n : Int))
 | _, _ => none
def goS : List (List UInt8) → List Int → Option (List Int)
 | [], L => some L
 | w :: ws, L => match wordS w with | none => none | some (j, n) => goS ws (L.set j n)
def goI (text : List UInt8) : List (List UInt8) → List Int → Option (List Int)
 | [], L => some L
 | w :: ws, L => if text = [45] then goI text ws L else match wordI w with | none => none | some (j, n) => goI text ws (L.set j n)
def zeros44 : List Int := List.replicate 44 0
def readS (text : List UInt8) : Option (List Int) :=
 if text = [45] then some zeros44 else match goS (sp 32 text) zeros44 with | none => none | some L => if lockT L = text then some L else none
def readI (text : List UInt8) : Option (List Int) :=
 match goI text (sp 32 text) zeros44 with | none => none | some L => if (if okL L = true then lockT L else []) = text then some L else none
theorem words_fin : ∀ (j : Fin 44) (n : Fin 20), wordS (wd j.val ((n.val : Int) + 1)) = some (j.val, (n.val : Int) + 1) ∧ wordI (wd j.val ((n.val : Int) + 1)) = some (j.val, (n.val : Int) + 1) ∧
  (wd j.val ((n.val : Int) + 1)).all (fun x => x != 32) = true ∧ (wd j.val ((n.val : Int) + 1) != [45]) = true := by decide +kernel
theorem words_at (j : Nat) (n : Int) (hj : j < 44) (h1 : 1 ≤ n) (h2 : n ≤ 20) : wordS (wd j n) = some (j, n) ∧ wordI (wd j n) = some (j, n) ∧ (∀ x ∈ wd j n, x ≠ 32) ∧ wd j n ≠ [45] := by
 obtain ⟨m, rfl⟩ : ∃ m : Nat, n = (m : Int) + 1 := ⟨(n - 1).toNat, by omega⟩
 obtain ⟨a, b, c, d⟩ := words_fin ⟨j, hj⟩ ⟨m, by omega⟩
 exact ⟨a, b, fun x hx => by simpa using List.all_eq_true.1 c x hx, by simpa using d⟩
theorem wds_at (L : List Int) : ∀ j, ∀ x ∈ wds L j, ∃ i, i < j ∧ 0 < rd L (i : Int) ∧ x = wd i (rd L (i : Int))
 | 0, x, h => by simp [wds] at h
 | j + 1, x, h => by
  rw [wds] at h
  split at h
  ·rcases List.mem_append.1 h with h | h
   ·obtain ⟨i, a, b, c⟩ := wds_at L j x h
    exact ⟨i, by omega, b, c⟩
   ·simp at h
    exact ⟨j, by omega, by assumption, h⟩
  ·obtain ⟨i, a, b, c⟩ := wds_at L j x h
   exact ⟨i, by omega, b, c⟩
theorem goS_app (b : List (List UInt8)) : ∀ (a : List (List UInt8)) (L : List Int), goS (a ++ b) L = (goS a L).bind (goS b)
 | [], L => rfl
 | w :: a, L => by
  rw [List.cons_append, goS, goS]
  split
  ·rfl
  ·exact goS_app b a _
theorem goI_app (t : List UInt8) (ht : t ≠ [45]) (b : List (List UInt8)) : ∀ (a : List (List UInt8)) (L : List Int), goI t (a ++ b) L = (goI t a L).bind (goI t b)
 | [], L => rfl
 | w :: a, L => by
  rw [List.cons_append, goI, goI, if_neg ht, if_neg ht]
  split
  ·rfl
  ·exact goI_app t ht b a _
theorem okL_at {L : List Int} (h : okL L = true) (j : Nat) (hj : j < L.length) : 0 ≤ rd L (j : Int) ∧ rd L (j : Int) ≤ 20 := by
 have := List.all_eq_true.1 h _ (rd_in L j hj)
 unfold okx at this
 exact of_decide_eq_true this
theorem rd_at (L : List Int) (j : Nat) (hj : j < L.length) : L[j]? = some (rd L (j : Int)) := by
 rw [rd_get L j hj]; simp [List.getElem?_eq_getElem hj]
theorem fill_step (L : List Int) (j : Nat) (hl : L.length = 44) (hj : j < 44) : (L.take j ++ List.replicate (44 - j) (0 : Int)).set j (rd L (j : Int)) = L.take (j + 1) ++ List.replicate (44 - (j + 1)) (0 : Int) := by
 have ht : (L.take j).length = j := by simp; omega
 rw [show 44 - j = (44 - (j + 1)) + 1 by omega, List.replicate_succ, List.set_append_right _ _ (by omega), ht, Nat.sub_self, List.set_cons_zero, List.take_add_one, rd_at L j (by omega)]
 simp
theorem fill_keep (L : List Int) (j : Nat) (hl : L.length = 44) (hj : j < 44) (h0 : rd L (j : Int) = 0) : L.take j ++ List.replicate (44 - j) (0 : Int) = L.take (j + 1) ++ List.replicate (44 - (j + 1)) (0 : Int) := by
 rw [show 44 - j = (44 - (j + 1)) + 1 by omega, List.replicate_succ, List.take_add_one, rd_at L j (by omega), h0]
 simp
theorem goS_wds (L : List Int) (hl : L.length = 44) (hok : okL L = true) : ∀ j, j ≤ 44 → goS (wds L j) zeros44 = some (L.take j ++ List.replicate (44 - j) (0 : Int))
 | 0, _ => rfl
 | j + 1, h => by
  have hb := okL_at hok j (by omega)
  rw [wds]
  split
  ·rename_i hp
   rw [goS_app, goS_wds L hl hok j (by omega)]
   show goS [wd j (rd L (j : Int))] _ = _
   rw [goS, (words_at j _ (by omega) (by omega) hb.2).1]
   show some _ = _
   rw [fill_step L j hl (by omega)]
  ·rw [goS_wds L hl hok j (by omega), fill_keep L j hl (by omega) (by omega)]
theorem goI_wds (t : List UInt8) (ht : t ≠ [45]) (L : List Int) (hl : L.length = 44) (hok : okL L = true) : ∀ j, j ≤ 44 → goI t (wds L j) zeros44 = some (L.take j ++ List.replicate (44 - j) (0 : Int))
 | 0, _ => rfl
 | j + 1, h => by
  have hb := okL_at hok j (by omega)
  rw [wds]
  split
  ·rename_i hp
   rw [goI_app t ht, goI_wds t ht L hl hok j (by omega)]
   show goI t [wd j (rd L (j : Int))] _ = _
   rw [goI, if_neg ht, (words_at j _ (by omega) (by omega) hb.2).2.1]
   show some _ = _
   rw [fill_step L j hl (by omega)]
  ·rw [goI_wds t ht L hl hok j (by omega), fill_keep L j hl (by omega) (by omega)]
theorem lockT_split (L : List Int) (hl : L.length = 44) (hok : okL L = true) (hne : wds L 44 ≠ []) : sp 32 (lockT L) = wds L 44 ∧ lockT L ≠ [45] := by
 have hw : ∀ v ∈ wds L 44, (∀ x ∈ v, x ≠ 32) ∧ v ≠ [45] := fun v hv => by
  obtain ⟨i, hi, hp, rfl⟩ := wds_at L 44 v hv
  have hb := okL_at hok i (by omega)
  exact ⟨(words_at i _ hi (by omega) hb.2).2.2.1, (words_at i _ hi (by omega) hb.2).2.2.2⟩
 have h1 : sp 32 (lockT L) = wds L 44 := by
  unfold lockT
  rw [if_neg hne]
  rcases hx : wds L 44 with _ | ⟨v, ws⟩
  ·exact absurd hx hne
  ·rw [Lib.join_cons]
   rw [hx] at hw
   exact sp_join 32 ws v (hw v (List.mem_cons_self ..)).1 (fun u hu => (hw u (List.mem_cons_of_mem _ hu)).1)
 refine ⟨h1, fun e => ?_⟩
 rw [e] at h1
 have : [45] ∈ wds L 44 := by rw [← h1]; decide
 exact (hw _ this).2 rfl
theorem wds_nil (L : List Int) (hl : L.length = 44) (hok : okL L = true) (hne : wds L 44 = []) : L = zeros44 := by
 have h := goS_wds L hl hok 44 (Nat.le_refl _)
 rw [hne] at h
 have h2 := Option.some.inj h
 rw [List.take_of_length_le (by omega)] at h2
 simpa using h2.symm
theorem read_whole (L : List Int) (hl : L.length = 44) (hok : okL L = true) : readS (lockT L) = some L ∧ readI (lockT L) = some L := by
 by_cases hne : wds L 44 = []
 ·obtain rfl := wds_nil L hl hok hne
  have : lockT zeros44 = [45] := by unfold lockT; rw [if_pos hne]
  rw [this]
  decide +kernel
 ·obtain ⟨h1, h2⟩ := lockT_split L hl hok hne
  have h3 : L.take 44 ++ List.replicate (44 - 44) (0 : Int) = L := by rw [List.take_of_length_le (by omega)]; simp
  constructor
  ·unfold readS
   rw [if_neg h2, h1, goS_wds L hl hok 44 (Nat.le_refl _), h3]
   show (if lockT L = lockT L then _ else _) = _
   rw [if_pos rfl]
  ·unfold readI
   rw [h1, goI_wds _ h2 L hl hok 44 (Nat.le_refl _), h3]
   show (if (if okL L = true then lockT L else []) = lockT L then _ else _) = _
   rw [if_pos hok, if_pos rfl]
theorem okL_set {L : List Int} (h : okL L = true) (j : Nat) {n : Int} (h0 : 0 ≤ n) (h1 : n ≤ 20) : okL (L.set j n) = true := by
 refine List.all_eq_true.2 fun x hx => ?_
 rcases List.mem_or_eq_of_mem_set hx with hx | rfl
 ·exact List.all_eq_true.1 h x hx
 ·unfold okx
  exact decide_eq_true ⟨h0, h1⟩
theorem zeros_ok : zeros44.length = 44 ∧ okL zeros44 = true := by decide +kernel
end Go.Proofs.YthaoopbfggnceaaGreatDoor.Arr
namespace Go.Proofs.YthaoopbfggnceaaGreatDoor.Arr
open Go.RowKit Go.Proofs.YthaoopbfggnceaaGreatDoorW.PrintWords Go.Proofs.YthaoopbfggnceaaGreatDoorW.PrintLast Go.Proofs.YthaoopbfggnceaaGreatDoorW.PrintMore Go.Proofs.YthaoopbfggnceaaGreatDoor.U Go.Proofs.YthaoopbfggnceaaGreatDoor.L
set_option linter.unusedVariables false
set_option linter.unusedSimpArgs false
theorem okL_bdT {L : List Int} (h : okL L = true) (j : Nat) (hj : j < L.length) : 0 ≤ rd L (j : Int) ∧ rd L (j : Int) ≤ 20 := by
 have := List.all_eq_true.1 h _ (rd_in L j hj)
 unfold okx at this
 exact of_decide_eq_true this
theorem below_thenT {w w1 w2 : World} (h1 : Below w.heap.size w w1) (h2 : Below w1.heap.size w1 w2) : Below w.heap.size w w2 := h1.trans (h2.mono h1.size)
theorem FrBelow.read {w w1 : World} (h : Below w.heap.size w w1) {p : Addr} {v : Value} (hc : w.cell? p = some v) : w1.cell? p = some v :=
 (World.cell?_of_block (w := w) (h.block p.block (World.block_lt_of_cell? w _ hc))).trans hc
section
variable {P : Program} {o : Oper} {a : Act} {w : World}
end
end Go.Proofs.YthaoopbfggnceaaGreatDoor.Arr
namespace Go.Proofs.YthaoopbfggnceaaGreatDoor.Arr
open Go.RowKit Go.Proofs.YthaoopbfggnceaaGreatDoorW.PrintWords Go.Proofs.YthaoopbfggnceaaGreatDoorW.PrintLast Go.Proofs.YthaoopbfggnceaaGreatDoorW.PrintMore Go.Proofs.YthaoopbfggnceaaGreatDoor.U Go.Proofs.YthaoopbfggnceaaGreatDoor.L
set_option linter.unusedVariables false
set_option linter.unusedSimpArgs false
theorem Mem.addT {w0 w : World} {g : Nat} {cs : Array Value} {t : TypeId} (h : Below w0.heap.size w0 w) (hg : w.heap[g]? = some (.cells cs t (0, 0))) (hb : w0.heap.size ≤ g) : Mem w0 w [⟨g, cs, t, true⟩] := by
 have h0 := (Mem.start w0).after h
 refine ⟨h0.os, h0.tape, h0.output, h0.size, fun k hk hn => h0.block k hk (fun e he => by cases he), fun e he => ?_, fun m n e f hm hn hef => ?_⟩
 ·rw [List.mem_singleton] at he
  subst he
  exact ⟨hg, fun _ => hb⟩
 ·rcases m with _ | m <;> rcases n with _ | n <;> simp_all
abbrev txs (l : List (List UInt8)) : List ByteArray := l.map fun x => ⟨x.toArray⟩
structure WT (w : World) (g : Nat) (L : List Int) (v : Value) (l : List (List UInt8)) (W : World) : Prop where
 bel : Below w.heap.size w W
 ge : w.heap.size ≤ g
 box : W.heap[g]? = some (.cells (vals .i16 L) 28 (0, 0))
 own : Kd.R Kd.string 9 W w.heap.size (fun k => k ≠ g) v (txs l)
section
variable {w W W1 : World} {g : Nat} {L : List Int} {v v1 : Value} {l l1 : List (List UInt8)}
theorem WT.below (h : WT w g L v l W) (hb : Below W.heap.size W W1) : WT w g L v l W1 := ⟨below_thenT h.bel hb, h.ge, (hb.block _ (lt_of_some h.box)).trans h.box, Kd.R_below h.own hb⟩
theorem WT.grown (h : WT w g L v l W) (ho : Kd.R Kd.string 9 W1 w.heap.size (fun k => k ≠ g) v1 (txs l1)) (hb : Below w.heap.size w W1) (hg : W.grownBy W1 v.ownBlock) : WT w g L v1 l1 W1 :=
 ⟨hb, h.ge, (hg.block _ (lt_of_some h.box) (Kd.R_away h.own (fun k hk => hk))).trans h.box, ho⟩
theorem WT.fresh (h : WT w g L v l W) {k : Nat} (hk : W.heap.size ≤ k) : k ≠ g := by
 have := lt_of_some h.box
 omega
end
theorem infoStrT : (Tryz.prog.info? 9).map (fun i => (i.zero, i.size, i.bytes)) = some (some (.string ByteArray.empty), 1, 16) := by kernel_rfl
theorem decimalI_calls (z : Int) (h0 : 0 ≤ z) (h : z < 100) (w : World) : Calls Tryz.prog 34 #[.int .i64 z] w fun e w' => e = .returned (.string ⟨(dg z.toNat).toArray⟩) ∧ Below w.heap.size w w' := by
 obtain ⟨n, rfl⟩ := Int.eq_ofNat_of_zero_le h0
 rw [Int.toNat_natCast]
 exact decimal_calls n (by omega) w
theorem join_calls (bk c : Nat) (l : List (List UInt8)) (w : World) (hc : ∀ (j : Nat) x, (txs l)[j]? = some x → w.cell? ⟨bk, 0 + j, none⟩ = some (.string x)) (hbk : bk < w.heap.size) (hn : l.length ≤ 44) (hcap : l.length ≤ c) (h6 : ∀ x ∈ l, x.length ≤ 6) :
  Calls Tryz.prog 35 #[.slice (some ⟨bk, 0, none⟩) l.length c, .string ⟨#[32]⟩] w fun e w' => e = .returned (.string ⟨(Lib.join l [32]).toArray⟩) ∧ Below w.heap.size w w' := by
 have hmap : (txs l).map (·.data.toList) = l := by
  rw [List.map_map]
  have : ((fun x : ByteArray => x.data.toList) ∘ fun x : List UInt8 => (⟨x.toArray⟩ : ByteArray)) = id := by funext x; simp
  rw [this, List.map_id]
 have h := Any.strings_Join lay156 extra156 bk 0 c (txs l) ⟨#[32]⟩ w hc hbk (by simp; omega) (by simpa using hcap) (by
  rw [hmap]
  have := join_len l h6
  show (Lib.join l [32]).length ≤ _
  omega)
 rw [hmap, List.length_map] at h
 exact h
theorem rd_drop40 (L : List Int) (i : Nat) (h : 40 + i < L.length) : rd (L.drop 40) (i : Int) = rd L ((40 + i : Nat) : Int) := by
 rw [rd_get _ i (by simp; omega), rd_get L (40 + i) h, List.getElem_drop]
theorem txt_cell {W : World} {bk n : Nat} {xs : List ByteArray} (h : Kd.C Kd.string W (some ⟨bk, 0, none⟩) n xs) {j : Nat} {y : ByteArray} (hj : xs[j]? = some y) : W.cell? ⟨bk, 0 + j, none⟩ = some (.string y) := by
 have hl := (List.getElem?_eq_some_iff.1 hj).1
 obtain ⟨hn, _, h3⟩ := h
 obtain ⟨ad, e2, hcell⟩ := h3 (by omega)
 cases e2
 obtain ⟨cs, _, hk, hq⟩ := hcell j _ hj
 have hk : cs = [Value.string y] := hk
 have := hq 0 _ (by rw [hk]; rfl)
 rcases Nat.eq_zero_or_pos j with h0 | h0
 ·subst h0
  simpa [Addr.add, Kd.string, Kd.scalar] using this
 ·have hj0 : ¬ j = 0 := by omega
  simpa [Addr.add, Kd.string, Kd.scalar, hj0] using this
set_option maxHeartbeats 8000000 in
set_option maxRecDepth 100000 in
theorem implText_calls (L : List Int) (w : World) (hl : L.length = 44) (hw : Fits .i16 L) :
  Calls Tryz.prog 10 #[.agg (vals .i16 L)] w fun e w' => e = .returned (.string ⟨(if okL L = true then lockT L else []).toArray⟩) ∧ Below w.heap.size w w' := by
 have hm := Mem.start w
 have HV := Aside0.mk (fun W => implValid_calls L W hl hw)
 by_cases hok : okL L = true
 ·rw [if_pos hok]
  rw [hok] at HV
  have HB0 := Aside0.mk (fun (j : Nat) (hj : j < 44) => okL_bdT hok j (show j < L.length by omega))
  have HMW := Aside0.mk (wds_mem L)
  have HLN := Aside0.mk (wds_len L)
  have HT := Aside0.mk (show lockT L = if wds L 44 = [] then [45] else Lib.join (wds L 44) [32] from rfl)
  generalize lockT L = T at *
  clear hok hw
  go_enter Tryz.func10, Tryz.ntmps10
  go_wp2_with (first
   | (first | fail | ((with_reducible refine gt_box 1 28 ?_); refine st_box rfl 1 rfl 28 _ rfl hm (v := .agg (vals _ _)) rfl (cs := vals _ _) rfl ?_; clear hm; intro g1 w1 hm) | ((with_reducible refine gt_load 28 ?_); (first | (refine st_load rfl 28 _ rfl hm rfl 0 rfl agg28 (by first | omega | assumption | (simp only [lens]; first | omega | assumption) | (simp [lens]; done) | (simp [lens]; omega)) ?_) | (refine st_load rfl 28 _ rfl hm rfl 1 rfl agg28 (by first | omega | assumption | (simp only [lens]; first | omega | assumption) | (simp [lens]; done) | (simp [lens]; omega)) ?_) | (refine st_load rfl 28 _ rfl hm rfl 2 rfl agg28 (by first | omega | assumption | (simp only [lens]; first | omega | assumption) | (simp [lens]; done) | (simp [lens]; omega)) ?_))) | ((with_reducible refine gt_field 28 0 ?_); refine st_field rfl 28 _ 0 rfl rfl field28_0 ?_) | ((with_reducible refine gt_load 25 ?_); (first | (refine st_part rfl 25 _ rfl hm rfl 0 rfl agg25 (by first | omega | assumption | (simp only [lens]; first | omega | assumption) | (simp [lens]; done) | (simp [lens]; omega)) ?_) | (refine st_part rfl 25 _ rfl hm rfl 1 rfl agg25 (by first | omega | assumption | (simp only [lens]; first | omega | assumption) | (simp [lens]; done) | (simp [lens]; omega)) ?_) | (refine st_part rfl 25 _ rfl hm rfl 2 rfl agg25 (by first | omega | assumption | (simp only [lens]; first | omega | assumption) | (simp [lens]; done) | (simp [lens]; omega)) ?_))) | ((with_reducible refine gt_index 25 ?_); refine st_index rfl 25 _ _ rfl rfl rfl arr25 (by first | omega | assumption | (simp only [lens]; first | omega | assumption) | (simp [lens]; done) | (simp [lens]; omega)) (by first | omega | assumption | (simp only [lens]; first | omega | assumption) | (simp [lens]; done) | (simp [lens]; omega)) (by first | omega | assumption | (simp only [lens]; first | omega | assumption) | (simp [lens]; done) | (simp [lens]; omega)) ?_) | ((with_reducible refine gt_field 28 1 ?_); refine st_field rfl 28 _ 1 rfl rfl field28_1 ?_) | ((with_reducible refine gt_load 26 ?_); (first | (refine st_part rfl 26 _ rfl hm rfl 0 rfl agg26 (by first | omega | assumption | (simp only [lens]; first | omega | assumption) | (simp [lens]; done) | (simp [lens]; omega)) ?_) | (refine st_part rfl 26 _ rfl hm rfl 1 rfl agg26 (by first | omega | assumption | (simp only [lens]; first | omega | assumption) | (simp [lens]; done) | (simp [lens]; omega)) ?_) | (refine st_part rfl 26 _ rfl hm rfl 2 rfl agg26 (by first | omega | assumption | (simp only [lens]; first | omega | assumption) | (simp [lens]; done) | (simp [lens]; omega)) ?_))) | ((with_reducible refine gt_index 26 ?_); refine st_index rfl 26 _ _ rfl rfl rfl arr26 (by first | omega | assumption | (simp only [lens]; first | omega | assumption) | (simp [lens]; done) | (simp [lens]; omega)) (by first | omega | assumption | (simp only [lens]; first | omega | assumption) | (simp [lens]; done) | (simp [lens]; omega)) (by first | omega | assumption | (simp only [lens]; first | omega | assumption) | (simp [lens]; done) | (simp [lens]; omega)) ?_))
   | (go_at_call 11; refine (HV.out _).mono ?_; rintro e wa ⟨rfl, hb⟩; replace hm := hm.after hb; clear hb)
   | ((with_reducible refine gate_dst (N := 11) rfl ?_); refine Kd.R_lit Kd.string (w0 := w) w.heap.size 9 ?hg (N := 11) ?hd (xs := []) (inner := []) (ok := fun k => k ≠ g1) (okp := fun k => k ≠ g1) ?hr ?hp (fun _ hk => hk) (show _ ≠ g1 by have := lt_of_some (hm.mem (n := 0) rfl); omega) (hm.done rfl) (hm.done rfl).size (by simp) ?_; (case hd => rfl); (case hg => rfl); (case hr => first | (go_simp; done) | (go_simp; rfl)); (case hp => exact (Reps.none _ _)); intro v11 w3 ho hb hgr _; have HWT := Aside0.mk (WT.mk (l := []) hb ((hm.ent _ (List.mem_cons_self ..)).2 rfl) ((hgr.block _ (lt_of_some (hm.mem (n := 0) rfl)) (by simp)).trans (hm.mem (n := 0) rfl)) ho); replace hm := Mem.addT HWT.out.bel HWT.out.box HWT.out.ge; clear ho hb hgr))
  have HWTa := HWT
  go_loopw [14, 3] (fun v14 v3 wr => ∃ i : Nat, i ≤ 40 ∧ v14 = .int .i64 i ∧ Aside0 (WT w g1 L v3 (wds L i) wr)) (fun v14 _ _ => 40 - (intOf v14).toNat)
  case atStart => exact ⟨0, by omega, rfl, HWTa⟩
  case round =>
   clear hm HWT HWTa
   obtain ⟨i, hi, rfl, HO⟩ := hrel
   have hm := Mem.addT HO.out.bel HO.out.box HO.out.ge
   obtain ⟨A3, c3, hv3⟩ := Kd.R_slice HO.out.own
   rw [txs, List.length_map] at hv3
   subst hv3
   by_cases hlt : i < 40
   ·have HR := Aside0.mk (rd_take L i 40 (by omega) (by omega))
    have hbi := HB0.out i (by omega)
    rw [← HR.out] at hbi
    have hln := HLN.out i
    have HSU := Aside0.mk (show wds L (i + 1) = if 0 < rd (L.take 40) (i : Int) then wds L i ++ [wd i (rd (L.take 40) (i : Int))] else wds L i by rw [HR.out]; rfl)
    have hw64 : wrap64 (rd (L.take 40) (i : Int)) = rd (L.take 40) (i : Int) := w64 (by omega) (by omega)
    have hdi := dg_len i
    have hdn := dg_len (rd (L.take 40) (i : Int)).toNat
    by_cases hpos : 0 < rd (L.take 40) (i : Int)
    ·rw [if_pos hpos] at HSU
     have HWD := Aside0.mk (show ((((⟨(dg i).toArray⟩ : ByteArray) ++ ⟨#[120]⟩) ++ ⟨(dg (rd (L.take 40) (i : Int)).toNat).toArray⟩) : ByteArray) = ⟨(wd i (rd (L.take 40) (i : Int))).toArray⟩ by unfold wd; rw [if_pos hlt]; simp [bs_app_data])
     have hg1 : ¬ (9223372036854775807 < (dg i).length + 1) := by omega
     have hg2 : ¬ (9223372036854775807 < (dg i).length + 1 + (dg (rd (L.take 40) (i : Int)).toNat).length) := by omega
     go_wp2_with (first
      | (first | fail | ((with_reducible refine gt_box 1 28 ?_); refine st_box rfl 1 rfl 28 _ rfl hm (v := .agg (vals _ _)) rfl (cs := vals _ _) rfl ?_; clear hm; intro g1 w1 hm) | ((with_reducible refine gt_load 28 ?_); (first | (refine st_load rfl 28 _ rfl hm rfl 0 rfl agg28 (by first | omega | assumption | (simp only [lens]; first | omega | assumption) | (simp [lens]; done) | (simp [lens]; omega)) ?_) | (refine st_load rfl 28 _ rfl hm rfl 1 rfl agg28 (by first | omega | assumption | (simp only [lens]; first | omega | assumption) | (simp [lens]; done) | (simp [lens]; omega)) ?_) | (refine st_load rfl 28 _ rfl hm rfl 2 rfl agg28 (by first | omega | assumption | (simp only [lens]; first | omega | assumption) | (simp [lens]; done) | (simp [lens]; omega)) ?_))) | ((with_reducible refine gt_field 28 0 ?_); refine st_field rfl 28 _ 0 rfl rfl field28_0 ?_) | ((with_reducible refine gt_load 25 ?_); (first | (refine st_part rfl 25 _ rfl hm rfl 0 rfl agg25 (by first | omega | assumption | (simp only [lens]; first | omega | assumption) | (simp [lens]; done) | (simp [lens]; omega)) ?_) | (refine st_part rfl 25 _ rfl hm rfl 1 rfl agg25 (by first | omega | assumption | (simp only [lens]; first | omega | assumption) | (simp [lens]; done) | (simp [lens]; omega)) ?_) | (refine st_part rfl 25 _ rfl hm rfl 2 rfl agg25 (by first | omega | assumption | (simp only [lens]; first | omega | assumption) | (simp [lens]; done) | (simp [lens]; omega)) ?_))) | ((with_reducible refine gt_index 25 ?_); refine st_index rfl 25 _ _ rfl rfl rfl arr25 (by first | omega | assumption | (simp only [lens]; first | omega | assumption) | (simp [lens]; done) | (simp [lens]; omega)) (by first | omega | assumption | (simp only [lens]; first | omega | assumption) | (simp [lens]; done) | (simp [lens]; omega)) (by first | omega | assumption | (simp only [lens]; first | omega | assumption) | (simp [lens]; done) | (simp [lens]; omega)) ?_) | ((with_reducible refine gt_field 28 1 ?_); refine st_field rfl 28 _ 1 rfl rfl field28_1 ?_) | ((with_reducible refine gt_load 26 ?_); (first | (refine st_part rfl 26 _ rfl hm rfl 0 rfl agg26 (by first | omega | assumption | (simp only [lens]; first | omega | assumption) | (simp [lens]; done) | (simp [lens]; omega)) ?_) | (refine st_part rfl 26 _ rfl hm rfl 1 rfl agg26 (by first | omega | assumption | (simp only [lens]; first | omega | assumption) | (simp [lens]; done) | (simp [lens]; omega)) ?_) | (refine st_part rfl 26 _ rfl hm rfl 2 rfl agg26 (by first | omega | assumption | (simp only [lens]; first | omega | assumption) | (simp [lens]; done) | (simp [lens]; omega)) ?_))) | ((with_reducible refine gt_index 26 ?_); refine st_index rfl 26 _ _ rfl rfl rfl arr26 (by first | omega | assumption | (simp only [lens]; first | omega | assumption) | (simp [lens]; done) | (simp [lens]; omega)) (by first | omega | assumption | (simp only [lens]; first | omega | assumption) | (simp [lens]; done) | (simp [lens]; omega)) (by first | omega | assumption | (simp only [lens]; first | omega | assumption) | (simp [lens]; done) | (simp [lens]; omega)) ?_))
      | (go_at_call 34; refine (decimalI_calls _ (by omega) (by omega) _).mono ?_; rintro e wa ⟨rfl, hb⟩; replace hm := hm.after hb; replace HO := Aside0.mk (HO.out.below hb); (try simp only [Int.toNat_natCast]); clear hb)
      | ((with_reducible refine gate_builtin (b := .append) (xs := #[.tmp 20, .tmp 28]) rfl ?_); at_builtin; refine Kd.R_append Kd.string (w0 := w) w.heap.size rfl (.tmp 20) (.tmp 28) 61 9 (.string ByteArray.empty) 16 rfl Tryz.underlying61 infoStrT rfl (by decide) (by decide) (.slice A3 (wds L i).length c3) (txs (wds L i)) _ _ (fun k => k ≠ g1) (fun _ => False) rfl rfl (by rfl) (fun _ hk => hk.elim) (fun k hk => HO.out.fresh hk) HO.out.own HO.out.bel HO.out.bel.size (by simp; omega) ?_; intro v4 w9 ho9 hb9 hg9 _; rw [HWD.out] at ho9; have HO9 := Aside0.mk (HO.out.grown (l1 := wds L (i + 1)) (by rw [HSU.out, txs, List.map_append]; exact ho9) hb9 hg9); clear ho9 hb9 hg9))
     go_roundw
     case rel => exact ⟨i + 1, by omega, by go_num, HO9⟩
     case measure => simp [intOf]; omega
    ·rw [if_neg hpos] at HSU
     go_wp2_with (first | fail | ((with_reducible refine gt_box 1 28 ?_); refine st_box rfl 1 rfl 28 _ rfl hm (v := .agg (vals _ _)) rfl (cs := vals _ _) rfl ?_; clear hm; intro g1 w1 hm) | ((with_reducible refine gt_load 28 ?_); (first | (refine st_load rfl 28 _ rfl hm rfl 0 rfl agg28 (by first | omega | assumption | (simp only [lens]; first | omega | assumption) | (simp [lens]; done) | (simp [lens]; omega)) ?_) | (refine st_load rfl 28 _ rfl hm rfl 1 rfl agg28 (by first | omega | assumption | (simp only [lens]; first | omega | assumption) | (simp [lens]; done) | (simp [lens]; omega)) ?_) | (refine st_load rfl 28 _ rfl hm rfl 2 rfl agg28 (by first | omega | assumption | (simp only [lens]; first | omega | assumption) | (simp [lens]; done) | (simp [lens]; omega)) ?_))) | ((with_reducible refine gt_field 28 0 ?_); refine st_field rfl 28 _ 0 rfl rfl field28_0 ?_) | ((with_reducible refine gt_load 25 ?_); (first | (refine st_part rfl 25 _ rfl hm rfl 0 rfl agg25 (by first | omega | assumption | (simp only [lens]; first | omega | assumption) | (simp [lens]; done) | (simp [lens]; omega)) ?_) | (refine st_part rfl 25 _ rfl hm rfl 1 rfl agg25 (by first | omega | assumption | (simp only [lens]; first | omega | assumption) | (simp [lens]; done) | (simp [lens]; omega)) ?_) | (refine st_part rfl 25 _ rfl hm rfl 2 rfl agg25 (by first | omega | assumption | (simp only [lens]; first | omega | assumption) | (simp [lens]; done) | (simp [lens]; omega)) ?_))) | ((with_reducible refine gt_index 25 ?_); refine st_index rfl 25 _ _ rfl rfl rfl arr25 (by first | omega | assumption | (simp only [lens]; first | omega | assumption) | (simp [lens]; done) | (simp [lens]; omega)) (by first | omega | assumption | (simp only [lens]; first | omega | assumption) | (simp [lens]; done) | (simp [lens]; omega)) (by first | omega | assumption | (simp only [lens]; first | omega | assumption) | (simp [lens]; done) | (simp [lens]; omega)) ?_) | ((with_reducible refine gt_field 28 1 ?_); refine st_field rfl 28 _ 1 rfl rfl field28_1 ?_) | ((with_reducible refine gt_load 26 ?_); (first | (refine st_part rfl 26 _ rfl hm rfl 0 rfl agg26 (by first | omega | assumption | (simp only [lens]; first | omega | assumption) | (simp [lens]; done) | (simp [lens]; omega)) ?_) | (refine st_part rfl 26 _ rfl hm rfl 1 rfl agg26 (by first | omega | assumption | (simp only [lens]; first | omega | assumption) | (simp [lens]; done) | (simp [lens]; omega)) ?_) | (refine st_part rfl 26 _ rfl hm rfl 2 rfl agg26 (by first | omega | assumption | (simp only [lens]; first | omega | assumption) | (simp [lens]; done) | (simp [lens]; omega)) ?_))) | ((with_reducible refine gt_index 26 ?_); refine st_index rfl 26 _ _ rfl rfl rfl arr26 (by first | omega | assumption | (simp only [lens]; first | omega | assumption) | (simp [lens]; done) | (simp [lens]; omega)) (by first | omega | assumption | (simp only [lens]; first | omega | assumption) | (simp [lens]; done) | (simp [lens]; omega)) (by first | omega | assumption | (simp only [lens]; first | omega | assumption) | (simp [lens]; done) | (simp [lens]; omega)) ?_))
     go_roundw
     case rel => exact ⟨i + 1, by omega, by go_num, by rw [HSU.out]; exact HO⟩
     case measure => simp [intOf]; omega
   ·have HI := Aside0.mk (show i = 40 by omega)
    generalize hW0 : wds L i = W0 at *
    have HW0 := Aside0.mk (show wds L 40 = W0 by rw [← HI.out]; exact hW0)
    clear hW0
    go_wp2_with (first | fail | ((with_reducible refine gt_box 1 28 ?_); refine st_box rfl 1 rfl 28 _ rfl hm (v := .agg (vals _ _)) rfl (cs := vals _ _) rfl ?_; clear hm; intro g1 w1 hm) | ((with_reducible refine gt_load 28 ?_); (first | (refine st_load rfl 28 _ rfl hm rfl 0 rfl agg28 (by first | omega | assumption | (simp only [lens]; first | omega | assumption) | (simp [lens]; done) | (simp [lens]; omega)) ?_) | (refine st_load rfl 28 _ rfl hm rfl 1 rfl agg28 (by first | omega | assumption | (simp only [lens]; first | omega | assumption) | (simp [lens]; done) | (simp [lens]; omega)) ?_) | (refine st_load rfl 28 _ rfl hm rfl 2 rfl agg28 (by first | omega | assumption | (simp only [lens]; first | omega | assumption) | (simp [lens]; done) | (simp [lens]; omega)) ?_))) | ((with_reducible refine gt_field 28 0 ?_); refine st_field rfl 28 _ 0 rfl rfl field28_0 ?_) | ((with_reducible refine gt_load 25 ?_); (first | (refine st_part rfl 25 _ rfl hm rfl 0 rfl agg25 (by first | omega | assumption | (simp only [lens]; first | omega | assumption) | (simp [lens]; done) | (simp [lens]; omega)) ?_) | (refine st_part rfl 25 _ rfl hm rfl 1 rfl agg25 (by first | omega | assumption | (simp only [lens]; first | omega | assumption) | (simp [lens]; done) | (simp [lens]; omega)) ?_) | (refine st_part rfl 25 _ rfl hm rfl 2 rfl agg25 (by first | omega | assumption | (simp only [lens]; first | omega | assumption) | (simp [lens]; done) | (simp [lens]; omega)) ?_))) | ((with_reducible refine gt_index 25 ?_); refine st_index rfl 25 _ _ rfl rfl rfl arr25 (by first | omega | assumption | (simp only [lens]; first | omega | assumption) | (simp [lens]; done) | (simp [lens]; omega)) (by first | omega | assumption | (simp only [lens]; first | omega | assumption) | (simp [lens]; done) | (simp [lens]; omega)) (by first | omega | assumption | (simp only [lens]; first | omega | assumption) | (simp [lens]; done) | (simp [lens]; omega)) ?_) | ((with_reducible refine gt_field 28 1 ?_); refine st_field rfl 28 _ 1 rfl rfl field28_1 ?_) | ((with_reducible refine gt_load 26 ?_); (first | (refine st_part rfl 26 _ rfl hm rfl 0 rfl agg26 (by first | omega | assumption | (simp only [lens]; first | omega | assumption) | (simp [lens]; done) | (simp [lens]; omega)) ?_) | (refine st_part rfl 26 _ rfl hm rfl 1 rfl agg26 (by first | omega | assumption | (simp only [lens]; first | omega | assumption) | (simp [lens]; done) | (simp [lens]; omega)) ?_) | (refine st_part rfl 26 _ rfl hm rfl 2 rfl agg26 (by first | omega | assumption | (simp only [lens]; first | omega | assumption) | (simp [lens]; done) | (simp [lens]; omega)) ?_))) | ((with_reducible refine gt_index 26 ?_); refine st_index rfl 26 _ _ rfl rfl rfl arr26 (by first | omega | assumption | (simp only [lens]; first | omega | assumption) | (simp [lens]; done) | (simp [lens]; omega)) (by first | omega | assumption | (simp only [lens]; first | omega | assumption) | (simp [lens]; done) | (simp [lens]; omega)) (by first | omega | assumption | (simp only [lens]; first | omega | assumption) | (simp [lens]; done) | (simp [lens]; omega)) ?_))
    go_loopw [33, 3] (fun v33 v3 wr => ∃ i2 : Nat, i2 ≤ 4 ∧ v33 = .int .i64 i2 ∧ Aside0 (WT w g1 L v3 (wds L (40 + i2)) wr)) (fun v33 _ _ => 4 - (intOf v33).toNat)
    case atStart => exact ⟨0, by omega, rfl, by rw [HW0.out]; exact HO⟩
    case round =>
     clear hm HO
     obtain ⟨i2, hi2, rfl, HO⟩ := hrel
     have hm := Mem.addT HO.out.bel HO.out.box HO.out.ge
     obtain ⟨A3, c3, hv3⟩ := Kd.R_slice HO.out.own
     rw [txs, List.length_map] at hv3
     subst hv3
     have hln := HLN.out (40 + i2)
     by_cases hlt2 : i2 < 4
     ·have HR := Aside0.mk ((rd_take (L.drop 40) i2 4 (by omega) (by simp; omega)).trans (rd_drop40 L i2 (by omega)))
      have hbi := HB0.out (40 + i2) (by omega)
      rw [← HR.out] at hbi
      have HSU := Aside0.mk (show wds L (40 + (i2 + 1)) = if 0 < rd ((L.drop 40).take 4) (i2 : Int) then wds L (40 + i2) ++ [wd (40 + i2) (rd ((L.drop 40).take 4) (i2 : Int))] else wds L (40 + i2) by rw [HR.out]; rfl)
      have hw64 : wrap64 (rd ((L.drop 40).take 4) (i2 : Int)) = rd ((L.drop 40).take 4) (i2 : Int) := w64 (by omega) (by omega)
      have hwi : wrap64 ((i2 : Int) + 1) = (i2 : Int) + 1 := w64 (by omega) (by omega)
      have hdi := dg_len (i2 + 1)
      have hdn := dg_len (rd ((L.drop 40).take 4) (i2 : Int)).toNat
      by_cases hpos : 0 < rd ((L.drop 40).take 4) (i2 : Int)
      ·rw [if_pos hpos] at HSU
       have HWD := Aside0.mk (show (((((⟨#[115]⟩ : ByteArray) ++ ⟨(dg (i2 + 1)).toArray⟩) ++ ⟨#[120]⟩) ++ ⟨(dg (rd ((L.drop 40).take 4) (i2 : Int)).toNat).toArray⟩) : ByteArray) = ⟨(wd (40 + i2) (rd ((L.drop 40).take 4) (i2 : Int))).toArray⟩ by unfold wd; rw [if_neg (by omega), show 40 + i2 - 39 = i2 + 1 by omega]; simp [bs_app_data])
       have hg1 : ¬ (9223372036854775807 < 1 + (dg (i2 + 1)).length) := by omega
       have hg2 : ¬ (9223372036854775807 < 1 + (dg (i2 + 1)).length + 1) := by omega
       have hg3 : ¬ (9223372036854775807 < 1 + (dg (i2 + 1)).length + 1 + (dg (rd ((L.drop 40).take 4) (i2 : Int)).toNat).length) := by omega
       go_wp2_with (first
        | (first | fail | ((with_reducible refine gt_box 1 28 ?_); refine st_box rfl 1 rfl 28 _ rfl hm (v := .agg (vals _ _)) rfl (cs := vals _ _) rfl ?_; clear hm; intro g1 w1 hm) | ((with_reducible refine gt_load 28 ?_); (first | (refine st_load rfl 28 _ rfl hm rfl 0 rfl agg28 (by first | omega | assumption | (simp only [lens]; first | omega | assumption) | (simp [lens]; done) | (simp [lens]; omega)) ?_) | (refine st_load rfl 28 _ rfl hm rfl 1 rfl agg28 (by first | omega | assumption | (simp only [lens]; first | omega | assumption) | (simp [lens]; done) | (simp [lens]; omega)) ?_) | (refine st_load rfl 28 _ rfl hm rfl 2 rfl agg28 (by first | omega | assumption | (simp only [lens]; first | omega | assumption) | (simp [lens]; done) | (simp [lens]; omega)) ?_))) | ((with_reducible refine gt_field 28 0 ?_); refine st_field rfl 28 _ 0 rfl rfl field28_0 ?_) | ((with_reducible refine gt_load 25 ?_); (first | (refine st_part rfl 25 _ rfl hm rfl 0 rfl agg25 (by first | omega | assumption | (simp only [lens]; first | omega | assumption) | (simp [lens]; done) | (simp [lens]; omega)) ?_) | (refine st_part rfl 25 _ rfl hm rfl 1 rfl agg25 (by first | omega | assumption | (simp only [lens]; first | omega | assumption) | (simp [lens]; done) | (simp [lens]; omega)) ?_) | (refine st_part rfl 25 _ rfl hm rfl 2 rfl agg25 (by first | omega | assumption | (simp only [lens]; first | omega | assumption) | (simp [lens]; done) | (simp [lens]; omega)) ?_))) | ((with_reducible refine gt_index 25 ?_); refine st_index rfl 25 _ _ rfl rfl rfl arr25 (by first | omega | assumption | (simp only [lens]; first | omega | assumption) | (simp [lens]; done) | (simp [lens]; omega)) (by first | omega | assumption | (simp only [lens]; first | omega | assumption) | (simp [lens]; done) | (simp [lens]; omega)) (by first | omega | assumption | (simp only [lens]; first | omega | assumption) | (simp [lens]; done) | (simp [lens]; omega)) ?_) | ((with_reducible refine gt_field 28 1 ?_); refine st_field rfl 28 _ 1 rfl rfl field28_1 ?_) | ((with_reducible refine gt_load 26 ?_); (first | (refine st_part rfl 26 _ rfl hm rfl 0 rfl agg26 (by first | omega | assumption | (simp only [lens]; first | omega | assumption) | (simp [lens]; done) | (simp [lens]; omega)) ?_) | (refine st_part rfl 26 _ rfl hm rfl 1 rfl agg26 (by first | omega | assumption | (simp only [lens]; first | omega | assumption) | (simp [lens]; done) | (simp [lens]; omega)) ?_) | (refine st_part rfl 26 _ rfl hm rfl 2 rfl agg26 (by first | omega | assumption | (simp only [lens]; first | omega | assumption) | (simp [lens]; done) | (simp [lens]; omega)) ?_))) | ((with_reducible refine gt_index 26 ?_); refine st_index rfl 26 _ _ rfl rfl rfl arr26 (by first | omega | assumption | (simp only [lens]; first | omega | assumption) | (simp [lens]; done) | (simp [lens]; omega)) (by first | omega | assumption | (simp only [lens]; first | omega | assumption) | (simp [lens]; done) | (simp [lens]; omega)) (by first | omega | assumption | (simp only [lens]; first | omega | assumption) | (simp [lens]; done) | (simp [lens]; omega)) ?_))
        | (go_at_call 34; refine (decimalI_calls _ (by omega) (by omega) _).mono ?_; rintro e wa ⟨rfl, hb⟩; replace hm := hm.after hb; replace HO := Aside0.mk (HO.out.below hb); clear hb)
        | ((with_reducible refine gate_builtin (b := .append) (xs := #[.tmp 39, .tmp 49]) rfl ?_); at_builtin; refine Kd.R_append Kd.string (w0 := w) w.heap.size rfl (.tmp 39) (.tmp 49) 61 9 (.string ByteArray.empty) 16 rfl Tryz.underlying61 infoStrT rfl (by decide) (by decide) (.slice A3 (wds L (40 + i2)).length c3) (txs (wds L (40 + i2))) _ _ (fun k => k ≠ g1) (fun _ => False) rfl rfl (by rfl) (fun _ hk => hk.elim) (fun k hk => HO.out.fresh hk) HO.out.own HO.out.bel HO.out.bel.size (by simp; omega) ?_; intro v4 w9 ho9 hb9 hg9 _; rw [HWD.out] at ho9; have HO9 := Aside0.mk (HO.out.grown (l1 := wds L (40 + (i2 + 1))) (by rw [HSU.out, txs, List.map_append]; exact ho9) hb9 hg9); clear ho9 hb9 hg9))
       go_roundw
       case rel => exact ⟨i2 + 1, by omega, by go_num, HO9⟩
       case measure => simp [intOf]; omega
      ·rw [if_neg hpos] at HSU
       go_wp2_with (first | fail | ((with_reducible refine gt_box 1 28 ?_); refine st_box rfl 1 rfl 28 _ rfl hm (v := .agg (vals _ _)) rfl (cs := vals _ _) rfl ?_; clear hm; intro g1 w1 hm) | ((with_reducible refine gt_load 28 ?_); (first | (refine st_load rfl 28 _ rfl hm rfl 0 rfl agg28 (by first | omega | assumption | (simp only [lens]; first | omega | assumption) | (simp [lens]; done) | (simp [lens]; omega)) ?_) | (refine st_load rfl 28 _ rfl hm rfl 1 rfl agg28 (by first | omega | assumption | (simp only [lens]; first | omega | assumption) | (simp [lens]; done) | (simp [lens]; omega)) ?_) | (refine st_load rfl 28 _ rfl hm rfl 2 rfl agg28 (by first | omega | assumption | (simp only [lens]; first | omega | assumption) | (simp [lens]; done) | (simp [lens]; omega)) ?_))) | ((with_reducible refine gt_field 28 0 ?_); refine st_field rfl 28 _ 0 rfl rfl field28_0 ?_) | ((with_reducible refine gt_load 25 ?_); (first | (refine st_part rfl 25 _ rfl hm rfl 0 rfl agg25 (by first | omega | assumption | (simp only [lens]; first | omega | assumption) | (simp [lens]; done) | (simp [lens]; omega)) ?_) | (refine st_part rfl 25 _ rfl hm rfl 1 rfl agg25 (by first | omega | assumption | (simp only [lens]; first | omega | assumption) | (simp [lens]; done) | (simp [lens]; omega)) ?_) | (refine st_part rfl 25 _ rfl hm rfl 2 rfl agg25 (by first | omega | assumption | (simp only [lens]; first | omega | assumption) | (simp [lens]; done) | (simp [lens]; omega)) ?_))) | ((with_reducible refine gt_index 25 ?_); refine st_index rfl 25 _ _ rfl rfl rfl arr25 (by first | omega | assumption | (simp only [lens]; first | omega | assumption) | (simp [lens]; done) | (simp [lens]; omega)) (by first | omega | assumption | (simp only [lens]; first | omega | assumption) | (simp [lens]; done) | (simp [lens]; omega)) (by first | omega | assumption | (simp only [lens]; first | omega | assumption) | (simp [lens]; done) | (simp [lens]; omega)) ?_) | ((with_reducible refine gt_field 28 1 ?_); refine st_field rfl 28 _ 1 rfl rfl field28_1 ?_) | ((with_reducible refine gt_load 26 ?_); (first | (refine st_part rfl 26 _ rfl hm rfl 0 rfl agg26 (by first | omega | assumption | (simp only [lens]; first | omega | assumption) | (simp [lens]; done) | (simp [lens]; omega)) ?_) | (refine st_part rfl 26 _ rfl hm rfl 1 rfl agg26 (by first | omega | assumption | (simp only [lens]; first | omega | assumption) | (simp [lens]; done) | (simp [lens]; omega)) ?_) | (refine st_part rfl 26 _ rfl hm rfl 2 rfl agg26 (by first | omega | assumption | (simp only [lens]; first | omega | assumption) | (simp [lens]; done) | (simp [lens]; omega)) ?_))) | ((with_reducible refine gt_index 26 ?_); refine st_index rfl 26 _ _ rfl rfl rfl arr26 (by first | omega | assumption | (simp only [lens]; first | omega | assumption) | (simp [lens]; done) | (simp [lens]; omega)) (by first | omega | assumption | (simp only [lens]; first | omega | assumption) | (simp [lens]; done) | (simp [lens]; omega)) (by first | omega | assumption | (simp only [lens]; first | omega | assumption) | (simp [lens]; done) | (simp [lens]; omega)) ?_))
       go_roundw
       case rel => exact ⟨i2 + 1, by omega, by go_num, by rw [HSU.out]; exact HO⟩
       case measure => simp [intOf]; omega
     ·have HI2 := Aside0.mk (show i2 = 4 by omega)
      have h6 := HMW.out 44
      generalize hW1 : wds L (40 + i2) = W1 at *
      have HW1 := Aside0.mk (show wds L 44 = W1 by rw [← hW1, HI2.out])
      rw [HW1.out] at HT h6
      clear hW1
      cases W1 with
      | nil =>
       have HTE := Aside0.mk (HT.out.trans (if_pos rfl))
       go_wp2_with fail
       go_ret
       exact ⟨by rw [HTE.out]; rfl, HO.out.bel⟩
      | cons x r =>
       have HTE := Aside0.mk (HT.out.trans (if_neg (by simp)))
       have hn0 : (((x :: r).length : Int) == 0) = false := by rw [beq_eq_false_iff_ne]; simp; omega
       obtain ⟨bk, cap, hv, _, hbk, _⟩ := Kd.R_form HO.out.own (by simp)
       rw [txs, List.length_map] at hv
       injection hv with hA _ hc
       subst hA hc
       have HRD := Aside0.mk (Kd.R_reads' HO.out.own)
       have HCL := Aside0.mk (fun (j : Nat) y (hj : (txs (x :: r))[j]? = some y) => txt_cell HRD.out.2.2 hj)
       have HJ := Aside0.mk (join_calls bk c3 (x :: r) wr HCL.out hbk (by omega) (by have := HRD.out.2.1; exact this) h6)
       generalize hlx : (x :: r).length = nx at *
       go_wp2_with (go_at_call 35; refine HJ.out.mono ?_; rintro e wa ⟨rfl, hb⟩; have HB9 := Aside0.mk (below_thenT HO.out.bel hb); clear hb)
       go_ret
       exact ⟨by rw [HTE.out]; rfl, HB9.out⟩
 ·rw [if_neg hok]
  rw [show okL L = false by cases h : okL L with | true => exact absurd h hok | false => rfl] at HV
  clear hok hw
  go_enter Tryz.func10, Tryz.ntmps10
  go_wp2_with (first
   | (first | fail | ((with_reducible refine gt_box 1 28 ?_); refine st_box rfl 1 rfl 28 _ rfl hm (v := .agg (vals _ _)) rfl (cs := vals _ _) rfl ?_; clear hm; intro g1 w1 hm) | ((with_reducible refine gt_load 28 ?_); (first | (refine st_load rfl 28 _ rfl hm rfl 0 rfl agg28 (by first | omega | assumption | (simp only [lens]; first | omega | assumption) | (simp [lens]; done) | (simp [lens]; omega)) ?_) | (refine st_load rfl 28 _ rfl hm rfl 1 rfl agg28 (by first | omega | assumption | (simp only [lens]; first | omega | assumption) | (simp [lens]; done) | (simp [lens]; omega)) ?_) | (refine st_load rfl 28 _ rfl hm rfl 2 rfl agg28 (by first | omega | assumption | (simp only [lens]; first | omega | assumption) | (simp [lens]; done) | (simp [lens]; omega)) ?_))) | ((with_reducible refine gt_field 28 0 ?_); refine st_field rfl 28 _ 0 rfl rfl field28_0 ?_) | ((with_reducible refine gt_load 25 ?_); (first | (refine st_part rfl 25 _ rfl hm rfl 0 rfl agg25 (by first | omega | assumption | (simp only [lens]; first | omega | assumption) | (simp [lens]; done) | (simp [lens]; omega)) ?_) | (refine st_part rfl 25 _ rfl hm rfl 1 rfl agg25 (by first | omega | assumption | (simp only [lens]; first | omega | assumption) | (simp [lens]; done) | (simp [lens]; omega)) ?_) | (refine st_part rfl 25 _ rfl hm rfl 2 rfl agg25 (by first | omega | assumption | (simp only [lens]; first | omega | assumption) | (simp [lens]; done) | (simp [lens]; omega)) ?_))) | ((with_reducible refine gt_index 25 ?_); refine st_index rfl 25 _ _ rfl rfl rfl arr25 (by first | omega | assumption | (simp only [lens]; first | omega | assumption) | (simp [lens]; done) | (simp [lens]; omega)) (by first | omega | assumption | (simp only [lens]; first | omega | assumption) | (simp [lens]; done) | (simp [lens]; omega)) (by first | omega | assumption | (simp only [lens]; first | omega | assumption) | (simp [lens]; done) | (simp [lens]; omega)) ?_) | ((with_reducible refine gt_field 28 1 ?_); refine st_field rfl 28 _ 1 rfl rfl field28_1 ?_) | ((with_reducible refine gt_load 26 ?_); (first | (refine st_part rfl 26 _ rfl hm rfl 0 rfl agg26 (by first | omega | assumption | (simp only [lens]; first | omega | assumption) | (simp [lens]; done) | (simp [lens]; omega)) ?_) | (refine st_part rfl 26 _ rfl hm rfl 1 rfl agg26 (by first | omega | assumption | (simp only [lens]; first | omega | assumption) | (simp [lens]; done) | (simp [lens]; omega)) ?_) | (refine st_part rfl 26 _ rfl hm rfl 2 rfl agg26 (by first | omega | assumption | (simp only [lens]; first | omega | assumption) | (simp [lens]; done) | (simp [lens]; omega)) ?_))) | ((with_reducible refine gt_index 26 ?_); refine st_index rfl 26 _ _ rfl rfl rfl arr26 (by first | omega | assumption | (simp only [lens]; first | omega | assumption) | (simp [lens]; done) | (simp [lens]; omega)) (by first | omega | assumption | (simp only [lens]; first | omega | assumption) | (simp [lens]; done) | (simp [lens]; omega)) (by first | omega | assumption | (simp only [lens]; first | omega | assumption) | (simp [lens]; done) | (simp [lens]; omega)) ?_))
   | (go_at_call 11; refine (HV.out _).mono ?_; rintro e wa ⟨rfl, hb⟩; replace hm := hm.after hb; clear hb))
  go_ret
  exact ⟨rfl, hm.done rfl⟩
end Go.Proofs.YthaoopbfggnceaaGreatDoor.Arr
namespace Go.Proofs.YthaoopbfggnceaaGreatDoor.Arr
open Go.Shelf Go.Proofs
set_option maxRecDepth 100000
def ren146 : Ren :=
 {
  f := fun x =>
   match x with
   | 146 => 29
   | 221 => 59
   | 268 => 81
   | 138 => 82
   | 143 => 83
   | 195 => 94
   | 197 => 95
   | 218 => 96
   | 219 => 84
   | 260 => 112
   | 217 => 97
   | 225 => 98
   | 224 => 99
   | 267 => 100
   | 266 => 113
   | 314 => 114
   | n => n,
  t := fun x =>
   match x with
   | 9 => 9
   | 31 => 61
   | 3 => 3
   | 4 => 4
   | 0 => 0
   | 105 => 132
   | 21 => 21
   | 5 => 5
   | 46 => 128
   | 119 => 165
   | 139 => 168
   | 138 => 167
   | 146 => 152
   | 51 => 151
   | n => n,
  g := fun x =>
   match x with
   | 1 => 0
   | 3 => 4
   | 4 => 5
   | n => n }
theorem lay146 : LaysM.n146 Go.Proofs.Tryz.prog ren146 where
 mixed := by kernel_rfl
 f138 := Eq.trans Go.Proofs.Tryz.func82 (congrArg some (by kernel_rfl))
 f143 := Eq.trans Go.Proofs.Tryz.func83 (congrArg some (by kernel_rfl))
 f146 := Eq.trans Go.Proofs.Tryz.func29 (congrArg some (by kernel_rfl))
 f195 := Eq.trans Go.Proofs.Tryz.func94 (congrArg some (by kernel_rfl))
 f197 := Eq.trans Go.Proofs.Tryz.func95 (congrArg some (by kernel_rfl))
 f217 := Eq.trans Go.Proofs.Tryz.func97 (congrArg some (by kernel_rfl))
 f218 := Eq.trans Go.Proofs.Tryz.func96 (congrArg some (by kernel_rfl))
 f219 := Eq.trans Go.Proofs.Tryz.func84 (congrArg some (by kernel_rfl))
 f221 := Eq.trans Go.Proofs.Tryz.func59 (congrArg some (by kernel_rfl))
 f224 := Eq.trans Go.Proofs.Tryz.func99 (congrArg some (by kernel_rfl))
 f225 := Eq.trans Go.Proofs.Tryz.func98 (congrArg some (by kernel_rfl))
 f260 := Eq.trans Go.Proofs.Tryz.func112 (congrArg some (by kernel_rfl))
 f266 := Eq.trans Go.Proofs.Tryz.func113 (congrArg some (by kernel_rfl))
 f267 := Eq.trans Go.Proofs.Tryz.func100 (congrArg some (by kernel_rfl))
 f268 := Eq.trans Go.Proofs.Tryz.func81 (congrArg some (by kernel_rfl))
 f314 := Eq.trans Go.Proofs.Tryz.func114 (congrArg some (by kernel_rfl))
 t0 := Go.Proofs.Tryz.underlying0
 a0 := Go.Proofs.Tryz.isAgg0
 z0 := Go.Proofs.Tryz.sizeOf0
 v0 := Go.Proofs.Tryz.zeroValue0
 t3 := Go.Proofs.Tryz.underlying3
 a3 := Go.Proofs.Tryz.isAgg3
 z3 := Go.Proofs.Tryz.sizeOf3
 v3 := Go.Proofs.Tryz.zeroValue3
 t4 := Go.Proofs.Tryz.underlying4
 a4 := Go.Proofs.Tryz.isAgg4
 z4 := Go.Proofs.Tryz.sizeOf4
 v4 := Go.Proofs.Tryz.zeroValue4
 t5 := Go.Proofs.Tryz.underlying5
 a5 := Go.Proofs.Tryz.isAgg5
 z5 := Go.Proofs.Tryz.sizeOf5
 v5 := Go.Proofs.Tryz.zeroValue5
 t9 := Go.Proofs.Tryz.underlying9
 a9 := Go.Proofs.Tryz.isAgg9
 z9 := Go.Proofs.Tryz.sizeOf9
 v9 := Go.Proofs.Tryz.zeroValue9
 t21 := Go.Proofs.Tryz.underlying21
 a21 := Go.Proofs.Tryz.isAgg21
 z21 := Go.Proofs.Tryz.sizeOf21
 v21 := Go.Proofs.Tryz.zeroValue21
 t31 := Go.Proofs.Tryz.underlying61
 a31 := Go.Proofs.Tryz.isAgg61
 z31 := Go.Proofs.Tryz.sizeOf61
 v31 := Go.Proofs.Tryz.zeroValue61
 t46 := Go.Proofs.Tryz.underlying128
 a46 := Go.Proofs.Tryz.isAgg128
 z46 := Go.Proofs.Tryz.sizeOf128
 v46 := Go.Proofs.Tryz.zeroValue128
 t51 := Go.Proofs.Tryz.underlying151
 a51 := Go.Proofs.Tryz.isAgg151
 z51 := Go.Proofs.Tryz.sizeOf151
 v51 := Go.Proofs.Tryz.zeroValue151
 t105 := Go.Proofs.Tryz.underlying132
 a105 := Go.Proofs.Tryz.isAgg132
 z105 := Go.Proofs.Tryz.sizeOf132
 v105 := Go.Proofs.Tryz.zeroValue132
 t119 := Go.Proofs.Tryz.underlying165
 a119 := Go.Proofs.Tryz.isAgg165
 z119 := Go.Proofs.Tryz.sizeOf165
 t138 := Go.Proofs.Tryz.underlying167
 a138 := Go.Proofs.Tryz.isAgg167
 z138 := Go.Proofs.Tryz.sizeOf167
 v138 := Go.Proofs.Tryz.zeroValue167
 t139 := Go.Proofs.Tryz.underlying168
 a139 := Go.Proofs.Tryz.isAgg168
 z139 := Go.Proofs.Tryz.sizeOf168
 v139 := Go.Proofs.Tryz.zeroValue168
 t146 := Go.Proofs.Tryz.underlying152
 a146 := Go.Proofs.Tryz.isAgg152
 z146 := Go.Proofs.Tryz.sizeOf152
 v146 := Go.Proofs.Tryz.zeroValue152
 g1 := by kernel_rfl
 g3 := by kernel_rfl
 g4 := by kernel_rfl
 i0 := Eq.refl (some (some (Value.tuple #[]), 1, 0))
 i3 := Eq.refl (some (some (Value.int IntKind.i64 0), 1, 8))
 i4 := Eq.refl (some (some (Value.bool false), 1, 1))
 i5 := Eq.refl (some (some (Value.int IntKind.u8 0), 1, 1))
 i9 := Eq.refl (some (some (Value.string { data := #[] }), 1, 16))
 i21 := Eq.refl (some (some (Value.int IntKind.i32 0), 1, 4))
 i31 := Eq.refl (some (some (Value.slice none 0 0), 1, 24))
 i46 := Eq.refl (some (some (Value.int IntKind.u64 0), 1, 8))
 i51 := Eq.refl (some (some (Value.int IntKind.u32 0), 1, 4))
 i105 := Eq.refl (some (some (Value.tuple #[Value.int IntKind.i32 0, Value.int IntKind.i64 0]), 1, 0))
 i138 := Eq.refl (some (some (Value.agg #[Value.int IntKind.u8 0, Value.int IntKind.u8 0]), 2, 2))
 i139 := Eq.refl (some (some (Value.agg #[Value.int IntKind.u8 0, Value.int IntKind.u8 0, Value.int IntKind.u8 0, Value.int IntKind.u8 0, Value.int IntKind.u8 0, Value.int IntKind.u8 0, Value.int IntKind.u8 0, Value.int IntKind.u8 0, Value.int IntKind.u8 0, Value.int IntKind.u8 0, Value.int IntKind.u8 0, Value.int IntKind.u8 0, Value.int IntKind.u8 0, Value.int IntKind.u8 0, Value.int IntKind.u8 0, Value.int IntKind.u8 0, Value.int IntKind.u8 0, Value.int IntKind.u8 0, Value.int IntKind.u8 0, Value.int IntKind.u8 0, Value.int IntKind.u8 0, Value.int IntKind.u8 0, Value.int IntKind.u8 0, Value.int IntKind.u8 0, Value.int IntKind.u8 0, Value.int IntKind.u8 0, Value.int IntKind.u8 0, Value.int IntKind.u8 0, Value.int IntKind.u8 0, Value.int IntKind.u8 0, Value.int IntKind.u8 0, Value.int IntKind.u8 0]), 32, 32))
 i146 := Eq.refl (some (some (Value.tuple #[Value.int IntKind.u32 0, Value.int IntKind.u32 0]), 1, 0))
 m1 := by kernel_rfl
 s1_3 := fun w h => cell_of_shapedOpen_int (zero := #[.int .i64 0]) (t := 3) h (of_decide_eq_true (by kernel_rfl)) (by kernel_rfl) rfl (by kernel_rfl) (by kernel_rfl) Go.Proofs.Tryz.underlying3
 m3 := by kernel_rfl
 m4 := by kernel_rfl
def ren145 : Ren :=
 {
  f := fun x =>
   match x with
   | 145 => 30
   | 220 => 60
   | 219 => 84
   | 217 => 97
   | 225 => 98
   | 224 => 99
   | 267 => 100
   | 266 => 113
   | 314 => 114
   | n => n,
  t := fun x =>
   match x with
   | 9 => 9
   | 4 => 4
   | 59 => 63
   | 3 => 3
   | 5 => 5
   | 46 => 128
   | 146 => 152
   | 51 => 151
   | n => n,
  g := fun x =>
   match x with
   | 1 => 0
   | n => n }
theorem lay145 : LaysM.n145 Go.Proofs.Tryz.prog ren145 where
 mixed := by kernel_rfl
 f145 := Eq.trans Go.Proofs.Tryz.func30 (congrArg some (by kernel_rfl))
 f217 := Eq.trans Go.Proofs.Tryz.func97 (congrArg some (by kernel_rfl))
 f219 := Eq.trans Go.Proofs.Tryz.func84 (congrArg some (by kernel_rfl))
 f220 := Eq.trans Go.Proofs.Tryz.func60 (congrArg some (by kernel_rfl))
 f224 := Eq.trans Go.Proofs.Tryz.func99 (congrArg some (by kernel_rfl))
 f225 := Eq.trans Go.Proofs.Tryz.func98 (congrArg some (by kernel_rfl))
 f266 := Eq.trans Go.Proofs.Tryz.func113 (congrArg some (by kernel_rfl))
 f267 := Eq.trans Go.Proofs.Tryz.func100 (congrArg some (by kernel_rfl))
 f314 := Eq.trans Go.Proofs.Tryz.func114 (congrArg some (by kernel_rfl))
 t3 := Go.Proofs.Tryz.underlying3
 a3 := Go.Proofs.Tryz.isAgg3
 z3 := Go.Proofs.Tryz.sizeOf3
 v3 := Go.Proofs.Tryz.zeroValue3
 t4 := Go.Proofs.Tryz.underlying4
 a4 := Go.Proofs.Tryz.isAgg4
 z4 := Go.Proofs.Tryz.sizeOf4
 v4 := Go.Proofs.Tryz.zeroValue4
 t5 := Go.Proofs.Tryz.underlying5
 a5 := Go.Proofs.Tryz.isAgg5
 z5 := Go.Proofs.Tryz.sizeOf5
 v5 := Go.Proofs.Tryz.zeroValue5
 t9 := Go.Proofs.Tryz.underlying9
 a9 := Go.Proofs.Tryz.isAgg9
 z9 := Go.Proofs.Tryz.sizeOf9
 v9 := Go.Proofs.Tryz.zeroValue9
 t46 := Go.Proofs.Tryz.underlying128
 a46 := Go.Proofs.Tryz.isAgg128
 z46 := Go.Proofs.Tryz.sizeOf128
 v46 := Go.Proofs.Tryz.zeroValue128
 t51 := Go.Proofs.Tryz.underlying151
 a51 := Go.Proofs.Tryz.isAgg151
 z51 := Go.Proofs.Tryz.sizeOf151
 v51 := Go.Proofs.Tryz.zeroValue151
 t59 := Go.Proofs.Tryz.underlying63
 a59 := Go.Proofs.Tryz.isAgg63
 z59 := Go.Proofs.Tryz.sizeOf63
 v59 := Go.Proofs.Tryz.zeroValue63
 t146 := Go.Proofs.Tryz.underlying152
 a146 := Go.Proofs.Tryz.isAgg152
 z146 := Go.Proofs.Tryz.sizeOf152
 v146 := Go.Proofs.Tryz.zeroValue152
 g1 := by kernel_rfl
 i3 := Eq.refl (some (some (Value.int IntKind.i64 0), 1, 8))
 i4 := Eq.refl (some (some (Value.bool false), 1, 1))
 i5 := Eq.refl (some (some (Value.int IntKind.u8 0), 1, 1))
 i9 := Eq.refl (some (some (Value.string { data := #[] }), 1, 16))
 i46 := Eq.refl (some (some (Value.int IntKind.u64 0), 1, 8))
 i51 := Eq.refl (some (some (Value.int IntKind.u32 0), 1, 4))
 i59 := Eq.refl (some (some (Value.tuple #[Value.string { data := #[] }, Value.string { data := #[] }, Value.bool false]), 1, 0))
 i146 := Eq.refl (some (some (Value.tuple #[Value.int IntKind.u32 0, Value.int IntKind.u32 0]), 1, 0))
 m1 := by kernel_rfl
 s1_3 := fun w h => cell_of_shapedOpen_int (zero := #[.int .i64 0]) (t := 3) h (of_decide_eq_true (by kernel_rfl)) (by kernel_rfl) rfl (by kernel_rfl) (by kernel_rfl) Go.Proofs.Tryz.underlying3
def ren103 : Ren :=
 {
  f := fun x =>
   match x with
   | 103 => 31
   | 210 => 61
   | 206 => 85
   | n => n,
  t := fun x =>
   match x with
   | 9 => 9
   | 4 => 4
   | 24 => 65
   | 3 => 3
   | n => n,
  g := fun n => n }
theorem lay103 : Lays.n103 Go.Proofs.Tryz.prog ren103 where
 mixed := by kernel_rfl
 f103 := Eq.trans Go.Proofs.Tryz.func31 (congrArg some (by kernel_rfl))
 f206 := Eq.trans Go.Proofs.Tryz.func85 (congrArg some (by kernel_rfl))
 f210 := Eq.trans Go.Proofs.Tryz.func61 (congrArg some (by kernel_rfl))
 t3 := Go.Proofs.Tryz.underlying3
 a3 := Go.Proofs.Tryz.isAgg3
 z3 := Go.Proofs.Tryz.sizeOf3
 v3 := Go.Proofs.Tryz.zeroValue3
 t4 := Go.Proofs.Tryz.underlying4
 a4 := Go.Proofs.Tryz.isAgg4
 z4 := Go.Proofs.Tryz.sizeOf4
 v4 := Go.Proofs.Tryz.zeroValue4
 t9 := Go.Proofs.Tryz.underlying9
 a9 := Go.Proofs.Tryz.isAgg9
 z9 := Go.Proofs.Tryz.sizeOf9
 v9 := Go.Proofs.Tryz.zeroValue9
 t24 := Go.Proofs.Tryz.underlying65
 a24 := Go.Proofs.Tryz.isAgg65
 z24 := Go.Proofs.Tryz.sizeOf65
 v24 := Go.Proofs.Tryz.zeroValue65
def ren174 : Ren :=
 {
  f := fun x =>
   match x with
   | 174 => 62
   | 247 => 86
   | 245 => 87
   | 287 => 101
   | 279 => 102
   | 280 => 103
   | 281 => 104
   | 282 => 105
   | 321 => 115
   | 322 => 116
   | 316 => 117
   | 171 => 119
   | 205 => 118
   | 243 => 125
   | 246 => 88
   | 283 => 106
   | 284 => 107
   | 285 => 108
   | 286 => 109
   | 129 => 121
   | 317 => 120
   | 318 => 122
   | 319 => 123
   | 320 => 124
   | 337 => 126
   | 338 => 127
   | n => n,
  t := fun x =>
   match x with
   | 9 => 9
   | 3 => 3
   | 2 => 2
   | 75 => 98
   | 85 => 99
   | 4 => 4
   | 167 => 136
   | 5 => 5
   | 53 => 87
   | 175 => 137
   | 46 => 128
   | 168 => 139
   | 37 => 22
   | 0 => 0
   | 210 => 158
   | 21 => 21
   | 127 => 126
   | 145 => 171
   | 143 => 169
   | 171 => 143
   | 173 => 146
   | 212 => 161
   | 51 => 151
   | 20 => 20
   | 213 => 162
   | 232 => 173
   | 233 => 174
   | 80 => 108
   | n => n,
  g := fun x =>
   match x with
   | 15 => 1
   | 16 => 2
   | 17 => 3
   | 18 => 6
   | 19 => 7
   | n => n }
theorem lay174 : LaysC.n174 Go.Proofs.Tryz.prog ren174 where
 mixed := by kernel_rfl
 f129 := Eq.trans Go.Proofs.Tryz.func121 (congrArg some (by kernel_rfl))
 f171 := Eq.trans Go.Proofs.Tryz.func119 (congrArg some (by kernel_rfl))
 f174 := Eq.trans Go.Proofs.Tryz.func62 (congrArg some (by kernel_rfl))
 f205 := Eq.trans Go.Proofs.Tryz.func118 (congrArg some (by kernel_rfl))
 f243 := Eq.trans Go.Proofs.Tryz.func125 (congrArg some (by kernel_rfl))
 f245 := Eq.trans Go.Proofs.Tryz.func87 (congrArg some (by kernel_rfl))
 f246 := Eq.trans Go.Proofs.Tryz.func88 (congrArg some (by kernel_rfl))
 f247 := Eq.trans Go.Proofs.Tryz.func86 (congrArg some (by kernel_rfl))
 f279 := Eq.trans Go.Proofs.Tryz.func102 (congrArg some (by kernel_rfl))
 f280 := Eq.trans Go.Proofs.Tryz.func103 (congrArg some (by kernel_rfl))
 f281 := Eq.trans Go.Proofs.Tryz.func104 (congrArg some (by kernel_rfl))
 f282 := Eq.trans Go.Proofs.Tryz.func105 (congrArg some (by kernel_rfl))
 f283 := Eq.trans Go.Proofs.Tryz.func106 (congrArg some (by kernel_rfl))
 f284 := Eq.trans Go.Proofs.Tryz.func107 (congrArg some (by kernel_rfl))
 f285 := Eq.trans Go.Proofs.Tryz.func108 (congrArg some (by kernel_rfl))
 f286 := Eq.trans Go.Proofs.Tryz.func109 (congrArg some (by kernel_rfl))
 f287 := Eq.trans Go.Proofs.Tryz.func101 (congrArg some (by kernel_rfl))
 f316 := Eq.trans Go.Proofs.Tryz.func117 (congrArg some (by kernel_rfl))
 f317 := Eq.trans Go.Proofs.Tryz.func120 (congrArg some (by kernel_rfl))
 f318 := Eq.trans Go.Proofs.Tryz.func122 (congrArg some (by kernel_rfl))
 f319 := Eq.trans Go.Proofs.Tryz.func123 (congrArg some (by kernel_rfl))
 f320 := Eq.trans Go.Proofs.Tryz.func124 (congrArg some (by kernel_rfl))
 f321 := Eq.trans Go.Proofs.Tryz.func115 (congrArg some (by kernel_rfl))
 f322 := Eq.trans Go.Proofs.Tryz.func116 (congrArg some (by kernel_rfl))
 f337 := Eq.trans Go.Proofs.Tryz.func126 (congrArg some (by kernel_rfl))
 f338 := Eq.trans Go.Proofs.Tryz.func127 (congrArg some (by kernel_rfl))
 t0 := Go.Proofs.Tryz.underlying0
 a0 := Go.Proofs.Tryz.isAgg0
 z0 := Go.Proofs.Tryz.sizeOf0
 v0 := Go.Proofs.Tryz.zeroValue0
 t2 := Go.Proofs.Tryz.underlying2
 a2 := Go.Proofs.Tryz.isAgg2
 z2 := Go.Proofs.Tryz.sizeOf2
 v2 := Go.Proofs.Tryz.zeroValue2
 t3 := Go.Proofs.Tryz.underlying3
 a3 := Go.Proofs.Tryz.isAgg3
 z3 := Go.Proofs.Tryz.sizeOf3
 v3 := Go.Proofs.Tryz.zeroValue3
 t4 := Go.Proofs.Tryz.underlying4
 a4 := Go.Proofs.Tryz.isAgg4
 z4 := Go.Proofs.Tryz.sizeOf4
 v4 := Go.Proofs.Tryz.zeroValue4
 t5 := Go.Proofs.Tryz.underlying5
 a5 := Go.Proofs.Tryz.isAgg5
 z5 := Go.Proofs.Tryz.sizeOf5
 v5 := Go.Proofs.Tryz.zeroValue5
 t9 := Go.Proofs.Tryz.underlying9
 a9 := Go.Proofs.Tryz.isAgg9
 z9 := Go.Proofs.Tryz.sizeOf9
 v9 := Go.Proofs.Tryz.zeroValue9
 t20 := Go.Proofs.Tryz.underlying20
 a20 := Go.Proofs.Tryz.isAgg20
 z20 := Go.Proofs.Tryz.sizeOf20
 v20 := Go.Proofs.Tryz.zeroValue20
 t21 := Go.Proofs.Tryz.underlying21
 a21 := Go.Proofs.Tryz.isAgg21
 z21 := Go.Proofs.Tryz.sizeOf21
 v21 := Go.Proofs.Tryz.zeroValue21
 t37 := Go.Proofs.Tryz.underlying22
 a37 := Go.Proofs.Tryz.isAgg22
 z37 := Go.Proofs.Tryz.sizeOf22
 v37 := Go.Proofs.Tryz.zeroValue22
 t46 := Go.Proofs.Tryz.underlying128
 a46 := Go.Proofs.Tryz.isAgg128
 z46 := Go.Proofs.Tryz.sizeOf128
 v46 := Go.Proofs.Tryz.zeroValue128
 t51 := Go.Proofs.Tryz.underlying151
 a51 := Go.Proofs.Tryz.isAgg151
 z51 := Go.Proofs.Tryz.sizeOf151
 v51 := Go.Proofs.Tryz.zeroValue151
 t53 := Go.Proofs.Tryz.underlying87
 a53 := Go.Proofs.Tryz.isAgg87
 z53 := Go.Proofs.Tryz.sizeOf87
 v53 := Go.Proofs.Tryz.zeroValue87
 t75 := Go.Proofs.Tryz.underlying98
 a75 := Go.Proofs.Tryz.isAgg98
 z75 := Go.Proofs.Tryz.sizeOf98
 v75 := Go.Proofs.Tryz.zeroValue98
 t85 := Go.Proofs.Tryz.underlying99
 a85 := Go.Proofs.Tryz.isAgg99
 z85 := Go.Proofs.Tryz.sizeOf99
 v85 := Go.Proofs.Tryz.zeroValue99
 t127 := Go.Proofs.Tryz.underlying126
 a127 := Go.Proofs.Tryz.isAgg126
 z127 := Go.Proofs.Tryz.sizeOf126
 v127 := Go.Proofs.Tryz.zeroValue126
 t143 := Go.Proofs.Tryz.underlying169
 a143 := Go.Proofs.Tryz.isAgg169
 z143 := Go.Proofs.Tryz.sizeOf169
 v143 := Go.Proofs.Tryz.zeroValue169
 t145 := Go.Proofs.Tryz.underlying171
 a145 := Go.Proofs.Tryz.isAgg171
 z145 := Go.Proofs.Tryz.sizeOf171
 v145 := Go.Proofs.Tryz.zeroValue171
 t167 := Go.Proofs.Tryz.underlying136
 a167 := Go.Proofs.Tryz.isAgg136
 z167 := Go.Proofs.Tryz.sizeOf136
 v167 := Go.Proofs.Tryz.zeroValue136
 t168 := Go.Proofs.Tryz.underlying139
 a168 := Go.Proofs.Tryz.isAgg139
 z168 := Go.Proofs.Tryz.sizeOf139
 v168 := Go.Proofs.Tryz.zeroValue139
 t171 := Go.Proofs.Tryz.underlying143
 a171 := Go.Proofs.Tryz.isAgg143
 z171 := Go.Proofs.Tryz.sizeOf143
 v171 := Go.Proofs.Tryz.zeroValue143
 t173 := Go.Proofs.Tryz.underlying146
 a173 := Go.Proofs.Tryz.isAgg146
 z173 := Go.Proofs.Tryz.sizeOf146
 v173 := Go.Proofs.Tryz.zeroValue146
 t175 := Go.Proofs.Tryz.underlying137
 a175 := Go.Proofs.Tryz.isAgg137
 z175 := Go.Proofs.Tryz.sizeOf137
 v175 := Go.Proofs.Tryz.zeroValue137
 t210 := Go.Proofs.Tryz.underlying158
 a210 := Go.Proofs.Tryz.isAgg158
 z210 := Go.Proofs.Tryz.sizeOf158
 v210 := Go.Proofs.Tryz.zeroValue158
 t212 := Go.Proofs.Tryz.underlying161
 a212 := Go.Proofs.Tryz.isAgg161
 z212 := Go.Proofs.Tryz.sizeOf161
 v212 := Go.Proofs.Tryz.zeroValue161
 t213 := Go.Proofs.Tryz.underlying162
 a213 := Go.Proofs.Tryz.isAgg162
 z213 := Go.Proofs.Tryz.sizeOf162
 t232 := Go.Proofs.Tryz.underlying173
 a232 := Go.Proofs.Tryz.isAgg173
 z232 := Go.Proofs.Tryz.sizeOf173
 v232 := Go.Proofs.Tryz.zeroValue173
 t233 := Go.Proofs.Tryz.underlying174
 a233 := Go.Proofs.Tryz.isAgg174
 z233 := Go.Proofs.Tryz.sizeOf174
 v233 := Go.Proofs.Tryz.zeroValue174
 g15 := by kernel_rfl
 g16 := by kernel_rfl
 g17 := by kernel_rfl
 g18 := by kernel_rfl
 g19 := by kernel_rfl
 t80 := Go.Proofs.Tryz.underlying108
 a80 := Go.Proofs.Tryz.isAgg108
 z80 := Go.Proofs.Tryz.sizeOf108
 v80 := Go.Proofs.Tryz.zeroValue108
 i0 := Eq.refl (some (some (Value.tuple #[]), 1, 0))
 i2 := Eq.refl (some (some (Value.int IntKind.i64 0), 1, 8))
 i3 := Eq.refl (some (some (Value.int IntKind.i64 0), 1, 8))
 i4 := Eq.refl (some (some (Value.bool false), 1, 1))
 i5 := Eq.refl (some (some (Value.int IntKind.u8 0), 1, 1))
 i9 := Eq.refl (some (some (Value.string { data := #[] }), 1, 16))
 i20 := by kernel_rfl
 i21 := Eq.refl (some (some (Value.int IntKind.i32 0), 1, 4))
 i37 := Eq.refl (some (some (Value.slice none 0 0), 1, 24))
 i46 := Eq.refl (some (some (Value.int IntKind.u64 0), 1, 8))
 i51 := Eq.refl (some (some (Value.int IntKind.u32 0), 1, 4))
 i53 := Eq.refl (some (some (Value.int IntKind.u64 0), 1, 8))
 i75 := by kernel_rfl
 i80 := by kernel_rfl
 i85 := Eq.refl (some (some (Value.tuple #[Value.int IntKind.i64 0, Value.nilIface]), 1, 0))
 i127 := Eq.refl (some (some (Value.pointer none), 1, 8))
 i143 := Eq.refl (some (some (Value.pointer none), 1, 8))
 i145 := Eq.refl (some (some (Value.agg #[Value.string { data := #[] }]), 1, 16))
 i167 := Eq.refl (some (some (Value.int IntKind.i64 0), 1, 8))
 i168 := Eq.refl (some (some (Value.pointer none), 1, 8))
 i171 := Eq.refl (some (some (Value.agg #[Value.int IntKind.u8 0, Value.int IntKind.u8 0, Value.int IntKind.u8 0, Value.int IntKind.u8 0, Value.int IntKind.u8 0, Value.int IntKind.u8 0, Value.int IntKind.u8 0, Value.int IntKind.u8 0, Value.int IntKind.u8 0, Value.int IntKind.u8 0, Value.int IntKind.u8 0, Value.int IntKind.u8 0, Value.int IntKind.u8 0, Value.int IntKind.u8 0, Value.int IntKind.u8 0, Value.int IntKind.u8 0, Value.int IntKind.u8 0, Value.int IntKind.u8 0, Value.int IntKind.u8 0, Value.int IntKind.u8 0, Value.int IntKind.u8 0, Value.int IntKind.u8 0, Value.int IntKind.u8 0, Value.int IntKind.u8 0]), 24, 24))
 i173 := Eq.refl (some (some (Value.tuple #[Value.slice none 0 0, Value.string { data := #[] }]), 1, 0))
 i175 := Eq.refl (some (some (Value.tuple #[Value.int IntKind.u64 0, Value.nilIface]), 1, 0))
 i210 := Eq.refl (some (some (Value.agg #[Value.string { data := #[] }, Value.string { data := #[] }, Value.nilIface]), 3, 48))
 i212 := Eq.refl (some (some (Value.agg #[Value.int IntKind.u64 0, Value.int IntKind.u64 0, Value.int IntKind.u64 0, Value.int IntKind.u64 0, Value.int IntKind.u64 0, Value.int IntKind.u64 0, Value.int IntKind.u64 0, Value.int IntKind.u64 0, Value.int IntKind.u64 0, Value.int IntKind.u64 0, Value.int IntKind.u64 0, Value.int IntKind.u64 0, Value.int IntKind.u64 0, Value.int IntKind.u64 0, Value.int IntKind.u64 0, Value.int IntKind.u64 0, Value.int IntKind.u64 0, Value.int IntKind.u64 0, Value.int IntKind.u64 0, Value.int IntKind.u64 0]), 20, 160))
 i232 := Eq.refl (some (some (Value.agg #[Value.int IntKind.u8 0, Value.int IntKind.u8 0, Value.int IntKind.u8 0, Value.int IntKind.u8 0, Value.int IntKind.u8 0, Value.int IntKind.u8 0, Value.int IntKind.u8 0, Value.int IntKind.u8 0, Value.int IntKind.u8 0, Value.int IntKind.u8 0, Value.int IntKind.u8 0, Value.int IntKind.u8 0, Value.int IntKind.u8 0, Value.int IntKind.u8 0, Value.int IntKind.u8 0, Value.int IntKind.u8 0, Value.int IntKind.u8 0, Value.int IntKind.u8 0, Value.int IntKind.u8 0, Value.int IntKind.u8 0, Value.int IntKind.u8 0, Value.int IntKind.u8 0, Value.int IntKind.u8 0, Value.int IntKind.u8 0, Value.int IntKind.u8 0, Value.int IntKind.u8 0, Value.int IntKind.u8 0, Value.int IntKind.u8 0, Value.int IntKind.u8 0, Value.int IntKind.u8 0, Value.int IntKind.u8 0, Value.int IntKind.u8 0]), 32, 32))
 i233 := Eq.refl (some (some (Value.agg (let y := let y := let y := let y := [Value.int IntKind.u8 0, Value.int IntKind.u8 0, Value.int IntKind.u8 0, Value.int IntKind.u8 0]; Value.int IntKind.u8 0 :: Value.int IntKind.u8 0 :: Value.int IntKind.u8 0 :: Value.int IntKind.u8 0 :: y; let y := Value.int IntKind.u8 0 :: Value.int IntKind.u8 0 :: Value.int IntKind.u8 0 :: Value.int IntKind.u8 0 :: y; Value.int IntKind.u8 0 :: Value.int IntKind.u8 0 :: Value.int IntKind.u8 0 :: Value.int IntKind.u8 0 :: y; let y := let y := Value.int IntKind.u8 0 :: Value.int IntKind.u8 0 :: Value.int IntKind.u8 0 :: Value.int IntKind.u8 0 :: y; Value.int IntKind.u8 0 :: Value.int IntKind.u8 0 :: Value.int IntKind.u8 0 :: Value.int IntKind.u8 0 :: y; let y := Value.int IntKind.u8 0 :: Value.int IntKind.u8 0 :: Value.int IntKind.u8 0 :: Value.int IntKind.u8 0 :: y; Value.int IntKind.u8 0 :: Value.int IntKind.u8 0 :: Value.int IntKind.u8 0 :: Value.int IntKind.u8 0 :: y; let y := let y := let y := Value.int IntKind.u8 0 :: Value.int IntKind.u8 0 :: Value.int IntKind.u8 0 :: Value.int IntKind.u8 0 :: y; Value.int IntKind.u8 0 :: Value.int IntKind.u8 0 :: Value.int IntKind.u8 0 :: Value.int IntKind.u8 0 :: y; let y := Value.int IntKind.u8 0 :: Value.int IntKind.u8 0 :: Value.int IntKind.u8 0 :: Value.int IntKind.u8 0 :: y; Value.int IntKind.u8 0 :: Value.int IntKind.u8 0 :: Value.int IntKind.u8 0 :: Value.int IntKind.u8 0 :: y; let y := let y := Value.int IntKind.u8 0 :: Value.int IntKind.u8 0 :: Value.int IntKind.u8 0 :: Value.int IntKind.u8 0 :: y; Value.int IntKind.u8 0 :: Value.int IntKind.u8 0 :: Value.int IntKind.u8 0 :: Value.int IntKind.u8 0 :: y; let y := Value.int IntKind.u8 0 :: Value.int IntKind.u8 0 :: Value.int IntKind.u8 0 :: Value.int IntKind.u8 0 :: y; Value.int IntKind.u8 0 :: Value.int IntKind.u8 0 :: Value.int IntKind.u8 0 :: Value.int IntKind.u8 0 :: y).toArray), 64, 64))
 m15 := by kernel_rfl
 m16 := by kernel_rfl
 m17 := by kernel_rfl
 m18 := by kernel_rfl
 m19 := by kernel_rfl
 c0 := Eq.refl (some false)
 c2 := Eq.refl (some true)
 c3 := Eq.refl (some true)
 c4 := Eq.refl (some true)
 c5 := Eq.refl (some true)
 c9 := Eq.refl (some true)
 c20 := Eq.refl (some true)
 c21 := Eq.refl (some true)
 c37 := Eq.refl (some false)
 c46 := Eq.refl (some true)
 c51 := Eq.refl (some true)
 c53 := Eq.refl (some true)
 c75 := Eq.refl (some true)
 c80 := Eq.refl (some false)
 c85 := Eq.refl (some false)
 c127 := Eq.refl (some true)
 c143 := Eq.refl (some true)
 c145 := Eq.refl (some true)
 c167 := Eq.refl (some true)
 c168 := Eq.refl (some true)
 c171 := Eq.refl (some true)
 c173 := Eq.refl (some false)
 c175 := Eq.refl (some false)
 c210 := Eq.refl (some true)
 c212 := Eq.refl (some true)
 c213 := Eq.refl (some true)
 c232 := Eq.refl (some true)
 c233 := Eq.refl (some true)
def renM173 : Ren :=
 {
  f := fun x =>
   match x with
   | 173 => 63
   | 246 => 88
   | 283 => 106
   | 284 => 107
   | 285 => 108
   | 286 => 109
   | 129 => 121
   | 317 => 120
   | 318 => 122
   | 319 => 123
   | 320 => 124
   | 337 => 126
   | 338 => 127
   | n => n,
  t := fun x =>
   match x with
   | 2 => 2
   | 3 => 3
   | 9 => 9
   | 4 => 4
   | 171 => 143
   | 0 => 0
   | 53 => 87
   | 37 => 22
   | 5 => 5
   | 173 => 146
   | 212 => 161
   | 51 => 151
   | 20 => 20
   | 213 => 162
   | 46 => 128
   | 232 => 173
   | 233 => 174
   | n => n,
  g := fun x =>
   match x with
   | 17 => 3
   | 18 => 6
   | 19 => 7
   | n => n }
theorem layM173 : LaysM.n173 Go.Proofs.Tryz.prog renM173 where
 mixed := by kernel_rfl
 f129 := Eq.trans Go.Proofs.Tryz.func121 (congrArg some (by kernel_rfl))
 f173 := Eq.trans Go.Proofs.Tryz.func63 (congrArg some (by kernel_rfl))
 f246 := Eq.trans Go.Proofs.Tryz.func88 (congrArg some (by kernel_rfl))
 f283 := Eq.trans Go.Proofs.Tryz.func106 (congrArg some (by kernel_rfl))
 f284 := Eq.trans Go.Proofs.Tryz.func107 (congrArg some (by kernel_rfl))
 f285 := Eq.trans Go.Proofs.Tryz.func108 (congrArg some (by kernel_rfl))
 f286 := Eq.trans Go.Proofs.Tryz.func109 (congrArg some (by kernel_rfl))
 f317 := Eq.trans Go.Proofs.Tryz.func120 (congrArg some (by kernel_rfl))
 f318 := Eq.trans Go.Proofs.Tryz.func122 (congrArg some (by kernel_rfl))
 f319 := Eq.trans Go.Proofs.Tryz.func123 (congrArg some (by kernel_rfl))
 f320 := Eq.trans Go.Proofs.Tryz.func124 (congrArg some (by kernel_rfl))
 f337 := Eq.trans Go.Proofs.Tryz.func126 (congrArg some (by kernel_rfl))
 f338 := Eq.trans Go.Proofs.Tryz.func127 (congrArg some (by kernel_rfl))
 t0 := Go.Proofs.Tryz.underlying0
 a0 := Go.Proofs.Tryz.isAgg0
 z0 := Go.Proofs.Tryz.sizeOf0
 v0 := Go.Proofs.Tryz.zeroValue0
 t2 := Go.Proofs.Tryz.underlying2
 a2 := Go.Proofs.Tryz.isAgg2
 z2 := Go.Proofs.Tryz.sizeOf2
 v2 := Go.Proofs.Tryz.zeroValue2
 t3 := Go.Proofs.Tryz.underlying3
 a3 := Go.Proofs.Tryz.isAgg3
 z3 := Go.Proofs.Tryz.sizeOf3
 v3 := Go.Proofs.Tryz.zeroValue3
 t4 := Go.Proofs.Tryz.underlying4
 a4 := Go.Proofs.Tryz.isAgg4
 z4 := Go.Proofs.Tryz.sizeOf4
 v4 := Go.Proofs.Tryz.zeroValue4
 t5 := Go.Proofs.Tryz.underlying5
 a5 := Go.Proofs.Tryz.isAgg5
 z5 := Go.Proofs.Tryz.sizeOf5
 v5 := Go.Proofs.Tryz.zeroValue5
 t9 := Go.Proofs.Tryz.underlying9
 a9 := Go.Proofs.Tryz.isAgg9
 z9 := Go.Proofs.Tryz.sizeOf9
 v9 := Go.Proofs.Tryz.zeroValue9
 t20 := Go.Proofs.Tryz.underlying20
 a20 := Go.Proofs.Tryz.isAgg20
 z20 := Go.Proofs.Tryz.sizeOf20
 v20 := Go.Proofs.Tryz.zeroValue20
 t37 := Go.Proofs.Tryz.underlying22
 a37 := Go.Proofs.Tryz.isAgg22
 z37 := Go.Proofs.Tryz.sizeOf22
 v37 := Go.Proofs.Tryz.zeroValue22
 t46 := Go.Proofs.Tryz.underlying128
 a46 := Go.Proofs.Tryz.isAgg128
 z46 := Go.Proofs.Tryz.sizeOf128
 v46 := Go.Proofs.Tryz.zeroValue128
 t51 := Go.Proofs.Tryz.underlying151
 a51 := Go.Proofs.Tryz.isAgg151
 z51 := Go.Proofs.Tryz.sizeOf151
 v51 := Go.Proofs.Tryz.zeroValue151
 t53 := Go.Proofs.Tryz.underlying87
 a53 := Go.Proofs.Tryz.isAgg87
 z53 := Go.Proofs.Tryz.sizeOf87
 v53 := Go.Proofs.Tryz.zeroValue87
 t171 := Go.Proofs.Tryz.underlying143
 a171 := Go.Proofs.Tryz.isAgg143
 z171 := Go.Proofs.Tryz.sizeOf143
 v171 := Go.Proofs.Tryz.zeroValue143
 t173 := Go.Proofs.Tryz.underlying146
 a173 := Go.Proofs.Tryz.isAgg146
 z173 := Go.Proofs.Tryz.sizeOf146
 v173 := Go.Proofs.Tryz.zeroValue146
 t212 := Go.Proofs.Tryz.underlying161
 a212 := Go.Proofs.Tryz.isAgg161
 z212 := Go.Proofs.Tryz.sizeOf161
 v212 := Go.Proofs.Tryz.zeroValue161
 t213 := Go.Proofs.Tryz.underlying162
 a213 := Go.Proofs.Tryz.isAgg162
 z213 := Go.Proofs.Tryz.sizeOf162
 t232 := Go.Proofs.Tryz.underlying173
 a232 := Go.Proofs.Tryz.isAgg173
 z232 := Go.Proofs.Tryz.sizeOf173
 v232 := Go.Proofs.Tryz.zeroValue173
 t233 := Go.Proofs.Tryz.underlying174
 a233 := Go.Proofs.Tryz.isAgg174
 z233 := Go.Proofs.Tryz.sizeOf174
 v233 := Go.Proofs.Tryz.zeroValue174
 g17 := by kernel_rfl
 g18 := by kernel_rfl
 g19 := by kernel_rfl
 i0 := Eq.refl (some (some (Value.tuple #[]), 1, 0))
 i2 := Eq.refl (some (some (Value.int IntKind.i64 0), 1, 8))
 i3 := Eq.refl (some (some (Value.int IntKind.i64 0), 1, 8))
 i4 := Eq.refl (some (some (Value.bool false), 1, 1))
 i5 := Eq.refl (some (some (Value.int IntKind.u8 0), 1, 1))
 i9 := Eq.refl (some (some (Value.string { data := #[] }), 1, 16))
 i20 := by kernel_rfl
 i37 := Eq.refl (some (some (Value.slice none 0 0), 1, 24))
 i46 := Eq.refl (some (some (Value.int IntKind.u64 0), 1, 8))
 i51 := Eq.refl (some (some (Value.int IntKind.u32 0), 1, 4))
 i53 := Eq.refl (some (some (Value.int IntKind.u64 0), 1, 8))
 i171 := Eq.refl (some (some (Value.agg #[Value.int IntKind.u8 0, Value.int IntKind.u8 0, Value.int IntKind.u8 0, Value.int IntKind.u8 0, Value.int IntKind.u8 0, Value.int IntKind.u8 0, Value.int IntKind.u8 0, Value.int IntKind.u8 0, Value.int IntKind.u8 0, Value.int IntKind.u8 0, Value.int IntKind.u8 0, Value.int IntKind.u8 0, Value.int IntKind.u8 0, Value.int IntKind.u8 0, Value.int IntKind.u8 0, Value.int IntKind.u8 0, Value.int IntKind.u8 0, Value.int IntKind.u8 0, Value.int IntKind.u8 0, Value.int IntKind.u8 0, Value.int IntKind.u8 0, Value.int IntKind.u8 0, Value.int IntKind.u8 0, Value.int IntKind.u8 0]), 24, 24))
 i173 := Eq.refl (some (some (Value.tuple #[Value.slice none 0 0, Value.string { data := #[] }]), 1, 0))
 i212 := Eq.refl (some (some (Value.agg #[Value.int IntKind.u64 0, Value.int IntKind.u64 0, Value.int IntKind.u64 0, Value.int IntKind.u64 0, Value.int IntKind.u64 0, Value.int IntKind.u64 0, Value.int IntKind.u64 0, Value.int IntKind.u64 0, Value.int IntKind.u64 0, Value.int IntKind.u64 0, Value.int IntKind.u64 0, Value.int IntKind.u64 0, Value.int IntKind.u64 0, Value.int IntKind.u64 0, Value.int IntKind.u64 0, Value.int IntKind.u64 0, Value.int IntKind.u64 0, Value.int IntKind.u64 0, Value.int IntKind.u64 0, Value.int IntKind.u64 0]), 20, 160))
 i232 := Eq.refl (some (some (Value.agg #[Value.int IntKind.u8 0, Value.int IntKind.u8 0, Value.int IntKind.u8 0, Value.int IntKind.u8 0, Value.int IntKind.u8 0, Value.int IntKind.u8 0, Value.int IntKind.u8 0, Value.int IntKind.u8 0, Value.int IntKind.u8 0, Value.int IntKind.u8 0, Value.int IntKind.u8 0, Value.int IntKind.u8 0, Value.int IntKind.u8 0, Value.int IntKind.u8 0, Value.int IntKind.u8 0, Value.int IntKind.u8 0, Value.int IntKind.u8 0, Value.int IntKind.u8 0, Value.int IntKind.u8 0, Value.int IntKind.u8 0, Value.int IntKind.u8 0, Value.int IntKind.u8 0, Value.int IntKind.u8 0, Value.int IntKind.u8 0, Value.int IntKind.u8 0, Value.int IntKind.u8 0, Value.int IntKind.u8 0, Value.int IntKind.u8 0, Value.int IntKind.u8 0, Value.int IntKind.u8 0, Value.int IntKind.u8 0, Value.int IntKind.u8 0]), 32, 32))
 i233 := Eq.refl (some (some (Value.agg (let y := let y := let y := let y := [Value.int IntKind.u8 0, Value.int IntKind.u8 0, Value.int IntKind.u8 0, Value.int IntKind.u8 0]; Value.int IntKind.u8 0 :: Value.int IntKind.u8 0 :: Value.int IntKind.u8 0 :: Value.int IntKind.u8 0 :: y; let y := Value.int IntKind.u8 0 :: Value.int IntKind.u8 0 :: Value.int IntKind.u8 0 :: Value.int IntKind.u8 0 :: y; Value.int IntKind.u8 0 :: Value.int IntKind.u8 0 :: Value.int IntKind.u8 0 :: Value.int IntKind.u8 0 :: y; let y := let y := Value.int IntKind.u8 0 :: Value.int IntKind.u8 0 :: Value.int IntKind.u8 0 :: Value.int IntKind.u8 0 :: y; Value.int IntKind.u8 0 :: Value.int IntKind.u8 0 :: Value.int IntKind.u8 0 :: Value.int IntKind.u8 0 :: y; let y := Value.int IntKind.u8 0 :: Value.int IntKind.u8 0 :: Value.int IntKind.u8 0 :: Value.int IntKind.u8 0 :: y; Value.int IntKind.u8 0 :: Value.int IntKind.u8 0 :: Value.int IntKind.u8 0 :: Value.int IntKind.u8 0 :: y; let y := let y := let y := Value.int IntKind.u8 0 :: Value.int IntKind.u8 0 :: Value.int IntKind.u8 0 :: Value.int IntKind.u8 0 :: y; Value.int IntKind.u8 0 :: Value.int IntKind.u8 0 :: Value.int IntKind.u8 0 :: Value.int IntKind.u8 0 :: y; let y := Value.int IntKind.u8 0 :: Value.int IntKind.u8 0 :: Value.int IntKind.u8 0 :: Value.int IntKind.u8 0 :: y; Value.int IntKind.u8 0 :: Value.int IntKind.u8 0 :: Value.int IntKind.u8 0 :: Value.int IntKind.u8 0 :: y; let y := let y := Value.int IntKind.u8 0 :: Value.int IntKind.u8 0 :: Value.int IntKind.u8 0 :: Value.int IntKind.u8 0 :: y; Value.int IntKind.u8 0 :: Value.int IntKind.u8 0 :: Value.int IntKind.u8 0 :: Value.int IntKind.u8 0 :: y; let y := Value.int IntKind.u8 0 :: Value.int IntKind.u8 0 :: Value.int IntKind.u8 0 :: Value.int IntKind.u8 0 :: y; Value.int IntKind.u8 0 :: Value.int IntKind.u8 0 :: Value.int IntKind.u8 0 :: Value.int IntKind.u8 0 :: y).toArray), 64, 64))
 m17 := by kernel_rfl
 m18 := by kernel_rfl
 m19 := by kernel_rfl
end Go.Proofs.YthaoopbfggnceaaGreatDoor.Arr
namespace Go.Proofs.YthaoopbfggnceaaGreatDoor.Arr
open Go.RowKit Go.Proofs.YthaoopbfggnceaaGreatDoorW.PrintWords Go.Proofs.YthaoopbfggnceaaGreatDoorW.PrintLast Go.Proofs.YthaoopbfggnceaaGreatDoorW.PrintMore Go.Proofs.YthaoopbfggnceaaGreatDoor.U Go.Proofs.YthaoopbfggnceaaGreatDoor.L
set_option linter.unusedVariables false
set_option linter.unusedSimpArgs false
theorem Below.drawn3 {B : Nat} {a w : World} (h : Below B a w) (n : Nat) : Below B a (w.drewN n) := h.trans ⟨rfl, rfl, rfl, Nat.le_refl _, fun _ _ => rfl⟩
structure Door (w : World) : Prop where
 len : ∃ m, w.cell? ⟨0, 0, none⟩ = some (.int .i64 m)
 syn : ∃ te pe, w.cell? ⟨1, 0, none⟩ = some (.iface te pe)
 rng : ∃ te pe, w.cell? ⟨2, 0, none⟩ = some (.iface te pe)
 pow : Lib.TabIs Tryz.prog w "internal/strconv.uint64pow10" .u64 Lib.pow10Tab
theorem Door.below {w w1 : World} (h : Door w) (hb : Below w.heap.size w w1) : Door w1 := by
 obtain ⟨⟨m, h1⟩, ⟨a, b, h2⟩, ⟨c, d, h3⟩, h4⟩ := h
 exact ⟨⟨m, FrBelow.read hb h1⟩, ⟨a, b, FrBelow.read hb h2⟩, ⟨c, d, FrBelow.read hb h3⟩, Go.Joins.tab_stays (g := 3) (by kernel_rfl) h4 hb (Nat.le_refl _)⟩
theorem parse_ok (l : List UInt8) (hl : l.length ≤ 1048576) (w : World) (v : Int) (hx : Lib.parseIntB 64 l = .ok v) :
  Calls Tryz.prog 62 #[.string ⟨l.toArray⟩, .int .i64 10, .int .i64 64] w fun e w' => e = .returned (.tuple #[.int .i64 v, .nilIface]) ∧ Below w.heap.size w w' := by
 have hs : (⟨l.toArray⟩ : ByteArray).size = l.length := bs_size l
 have hd : (⟨l.toArray⟩ : ByteArray).data.toList = l := by simp
 refine (Any.strconv_ParseInt_10_at64_ok lay174 ⟨l.toArray⟩ (by omega) v (by rw [hd]; exact hx) w).mono ?_
 rintro e w' ⟨rfl, hw⟩
 refine ⟨rfl, ?_⟩
 rcases hw with rfl | ⟨t, rfl⟩
 ·exact Below.refl _ _
 ·exact Lib.bytesWorld_below _ _ _
theorem parse_no (l : List UInt8) (hl : l.length ≤ 1048576) (w : World) (hD : Door w) (hx : ∀ v : Int, Lib.parseIntB 64 l ≠ .ok v) :
  Calls Tryz.prog 62 #[.string ⟨l.toArray⟩, .int .i64 10, .int .i64 64] w fun e w' => ∃ (n : Int) (t : TypeId) (p : Value), e = .returned (.tuple #[.int .i64 n, .iface t p]) ∧ Below w.heap.size w w' := by
 have hs : (⟨l.toArray⟩ : ByteArray).size = l.length := bs_size l
 have hd : (⟨l.toArray⟩ : ByteArray).data.toList = l := by simp
 rcases hy : Lib.parseIntB 64 l with v | _ | _
 ·exact absurd hy (hx v)
 ·obtain ⟨te, pe, hc⟩ := hD.syn
  refine (Any.strconv_ParseInt_10_at64_syntax lay174 ⟨l.toArray⟩ (by omega) (by rw [hd]; exact hy) (.iface te pe) w hc (Or.inr ⟨te, pe, rfl⟩)).mono ?_
  rintro e w' ⟨N, rfl, _, _, hb⟩
  exact ⟨_, _, _, rfl, hb⟩
 ·obtain ⟨te, pe, hc⟩ := hD.rng
  refine (Any.strconv_ParseInt_10_at64_range lay174 ⟨l.toArray⟩ (by omega) (by rw [hd]; exact hy) (.iface te pe) w hc (Or.inr ⟨te, pe, rfl⟩)).mono ?_
  rintro e w' ⟨N, rfl, _, _, hb⟩
  exact ⟨_, _, _, rfl, hb⟩
theorem decimalA_calls (v : Int) (h0 : -9223372036854775808 ≤ v) (h1 : v ≤ 9223372036854775807) (w : World) (hD : Door w) :
  Calls Tryz.prog 34 #[.int .i64 v] w fun e w' => e = .returned (.string ⟨(Lib.itoa v).toArray⟩) ∧ Below w.heap.size w w' := by
 have HF := Aside0.mk (Any.strconv_FormatInt_10 layM173 v h0 h1 w hD.pow)
 go_enter Tryz.func34, Tryz.ntmps34
 go_wp2_with (go_at_call 63; refine HF.out.mono ?_; rintro e w1 ⟨rfl, k, os, rfl⟩)
 go_ret
 exact ⟨rfl, Go.Lib.below_grow _ _ (Nat.le_refl _) _ _⟩
set_option maxHeartbeats 4000000 in
set_option maxRecDepth 100000 in
theorem number_calls (l : List UInt8) (hl : l.length ≤ 1048576) (most : Nat) (hm : most < 100) (w : World) (hD : Door w) :
  Calls Tryz.prog 32 #[.string ⟨l.toArray⟩, .int .i64 (most : Int)] w fun e w' =>
   e = .returned (.tuple #[.int .i64 (((numI most l).getD 0 : Nat) : Int), .bool (numI most l).isSome]) ∧ Below w.heap.size w w' := by
 by_cases hp : ∃ v : Int, Lib.parseIntB 64 l = .ok v
 ·obtain ⟨v, hv⟩ := hp
  have HP := Aside0.mk (fun W => parse_ok l hl W v hv)
  have hbd := Go.Lib.parseIntB_bounds hv
  have hb1 := hbd.1
  have hb2 := hbd.2
  have hN := numI_ok hm hv
  have HD := Aside0.mk (fun W hW => decimalA_calls v (by omega) (by omega) W hW)
  clear hbd hv
  go_enter Tryz.func32, Tryz.ntmps32
  have HW := Aside0.mk (fun W => impl_within.calls v 0 (most : Int) (decide (0 ≤ v ∧ v ≤ (most : Int))) W (by
   unfold impl_within.f
   by_cases h : 0 ≤ v <;> simp [h]))
  go_wp2_with (first
   | (go_at_call 62; refine (HP.out _).mono ?_; rintro e w1 ⟨rfl, hb1⟩)
   | (go_at_call 34; refine (HD.out _ (hD.below hb1)).mono ?_; rintro e w2 ⟨rfl, hb2⟩)
   | (go_at_call 33; refine (HW.out _).mono ?_; rintro e w3 ⟨rfl, n3, rfl⟩))
  ·rename_i he h2
   go_ret2
   simp only [Bool.not_eq_true', decide_eq_false_iff_not] at h2
   rw [hN.2 (by omega)]
   exact ⟨rfl, Below.drawn3 (hb1.trans (hb2.mono hb1.size)) n3⟩
  ·rename_i he h2
   go_ret2
   simp only [Bool.not_eq_false', decide_eq_true_eq] at h2
   rw [hN.1 ⟨he, h2⟩, Option.getD_some, Int.toNat_of_nonneg h2.1]
   exact ⟨rfl, Below.drawn3 (hb1.trans (hb2.mono hb1.size)) n3⟩
  ·rename_i he
   go_ret2
   rw [hN.2 (fun h => he h.1)]
   exact ⟨rfl, hb1.trans (hb2.mono hb1.size)⟩
 ·have hp' : ∀ v : Int, Lib.parseIntB 64 l ≠ .ok v := fun v h => hp ⟨v, h⟩
  have HP := Aside0.mk (fun W hW => parse_no l hl W hW hp')
  have hN := numI_none hm hp'
  rw [hN]
  clear hp hp'
  go_enter Tryz.func32, Tryz.ntmps32
  go_wp2_with (go_at_call 62; refine (HP.out _ hD).mono ?_; rintro e w1 ⟨n, t, p, rfl, hb1⟩)
  go_ret2
  exact ⟨rfl, hb1⟩
end Go.Proofs.YthaoopbfggnceaaGreatDoor.Arr
namespace Go.Proofs.YthaoopbfggnceaaGreatDoor.Arr
open Go.RowKit Go.Proofs.YthaoopbfggnceaaGreatDoorW.PrintWords Go.Proofs.YthaoopbfggnceaaGreatDoorW.PrintLast Go.Proofs.YthaoopbfggnceaaGreatDoorW.PrintMore Go.Proofs.YthaoopbfggnceaaGreatDoor.U Go.Proofs.YthaoopbfggnceaaGreatDoor.L
set_option linter.unusedVariables false
set_option linter.unusedSimpArgs false
theorem Mem.drawn3 {w0 w : World} {M : List Ent} (h : Mem w0 w M) (n : Nat) : Mem w0 (w.drewN n) M := h.after (Below.drawn3 (Below.refl _ _) n)
def readRes (o : Option (List Int)) : Value := match o with | some L => .tuple #[.agg (vals .i16 L), .int .i64 0] | none => .tuple #[.agg (vals .i16 (zs 44)), .int .i64 5]
def TxAt (R : List Ent) (bk : Nat) (ws : List (List UInt8)) : Prop := ∀ W, Held R W → ∀ j x, ws[j]? = some x → W.cell? ⟨bk, j, none⟩ = some (.string ⟨x.toArray⟩)
theorem rd_wsX (WS : List (List UInt8)) (i : Nat) (h : i < WS.length) : WS[i]? = some WS[i] := List.getElem?_eq_getElem h
end Go.Proofs.YthaoopbfggnceaaGreatDoor.Arr
namespace Go.Proofs.YthaoopbfggnceaaGreatDoor.Arr
open Go.RowKit Go.Proofs.YthaoopbfggnceaaGreatDoorW.PrintWords Go.Proofs.YthaoopbfggnceaaGreatDoorW.PrintLast Go.Proofs.YthaoopbfggnceaaGreatDoorW.PrintMore Go.Proofs.YthaoopbfggnceaaGreatDoor.U Go.Proofs.YthaoopbfggnceaaGreatDoor.L
set_option linter.unusedVariables false
set_option linter.unusedSimpArgs false
theorem okL_fits {L : List Int} (h : okL L = true) : Fits .i16 L := fun z hz => by
 have := List.all_eq_true.1 h z hz
 unfold okx at this
 have := of_decide_eq_true this
 have h1 : IntKind.i16.min = -32768 := by decide
 have h2 : IntKind.i16.max = 32767 := by decide
 simp only [Lit.wf, h1, h2, Bool.and_eq_true, decide_eq_true_eq]
 omega
theorem splitI_calls (l : List UInt8) (hl : l.length ≤ 1048576) (w : World) (hD : Door w) : Calls Tryz.prog 29 #[.string ⟨l.toArray⟩, .string ⟨#[32]⟩] w
  fun e w' => ∃ bk R, e = .returned (.slice (some ⟨bk, 0, none⟩) (sp 32 l).length (sp 32 l).length) ∧ newEnts w' w.heap.size = R ∧ R.all (·.own) = true ∧ TxAt R bk (sp 32 l) ∧ Below w.heap.size w w' := by
 obtain ⟨m, hm⟩ := hD.len
 have hn : (Lib.splitB ⟨#[32]⟩ 0 (Lib.countB ⟨l.toArray⟩ ⟨#[32]⟩) ⟨l.toArray⟩).length = Lib.countB ⟨l.toArray⟩ ⟨#[32]⟩ + 1 := Lib.splitB_all ⟨#[32]⟩ (Nat.le_refl 1) 0 _ _ rfl
 have hs := splitB_sp 32 l.length ⟨l.toArray⟩ (by rw [bs_size]; exact Nat.le_refl _)
 rw [show (⟨l.toArray⟩ : ByteArray).data.toList = l by simp] at hs
 have hl2 : Lib.countB ⟨l.toArray⟩ ⟨#[32]⟩ + 1 = (sp 32 l).length := by rw [← hn, ← hs, List.length_map]
 refine (Any.strings_Split { lay146 with } lay146.i9 ⟨l.toArray⟩ ⟨#[32]⟩ m w (by rw [bs_size]; omega) hm (Nat.le_refl 1)).mono ?_
 rintro e w' ⟨rfl, rfl⟩
 rw [hl2]
 generalize Lib.splitB ⟨#[32]⟩ 0 (Lib.countB ⟨l.toArray⟩ ⟨#[32]⟩) ⟨l.toArray⟩ = xs at *
 refine ⟨w.heap.size, _, rfl, rfl, newEnts_own, fun W hh j x hj => ?_, Below.alloc (Below.refl _ _) (Nat.le_refl _) _⟩
 have hc := hh ⟨w.heap.size, (xs.map Value.string).toArray, ren146.t 9, true⟩ (List.mem_filterMap.2 ⟨w.heap.size, List.mem_range.2 (by simp), entOf_cells (Nat.le_refl _) (show (w.heap.push _)[w.heap.size]? = _ by simp)⟩)
 rw [cell_of_row W w.heap.size j _ _ (0, 0) hc, List.getElem?_toArray, List.getElem?_map]
 have hj2 : (xs.map (·.data.toList))[j]? = some x := by rw [hs]; exact hj
 rw [List.getElem?_map] at hj2
 rcases hy : xs[j]? with _ | y
 ·rw [hy] at hj2; cases hj2
 ·rw [hy] at hj2
  injection hj2 with hj2
  subst hj2
  rfl
theorem cut_len (x : List UInt8) : (Lib.cut x [120]).1.length ≤ x.length ∧ (Lib.cut x [120]).2.1.length ≤ x.length := by
 unfold Lib.cut
 split
 ·simp only [List.length_take, List.length_drop]
  omega
 ·simp
theorem trim_len (x : List UInt8) : (Lib.trimPrefix x [115]).length ≤ x.length := by
 unfold Lib.trimPrefix
 split <;> simp
theorem cutI_calls (x : List UInt8) (hl : x.length ≤ 1048576) (w : World) (hD : Door w) : Calls Tryz.prog 30 #[.string ⟨x.toArray⟩, .string ⟨#[120]⟩] w
  fun e w' => e = .returned (.tuple #[.string ⟨(Lib.cut x [120]).1.toArray⟩, .string ⟨(Lib.cut x [120]).2.1.toArray⟩, .bool (Lib.cut x [120]).2.2]) ∧ ∃ n, w' = w.drewN n := by
 obtain ⟨m, hm⟩ := hD.len
 have := Any.strings_Cut { lay145 with } ⟨x.toArray⟩ ⟨#[120]⟩ m w (by rw [bs_size]; omega) hm
 rw [show (⟨x.toArray⟩ : ByteArray).data.toList = x by simp] at this
 exact this
theorem prefI_calls (x : List UInt8) (w : World) : Calls Tryz.prog 31 #[.string ⟨x.toArray⟩, .string ⟨#[115]⟩] w
  fun e w' => e = .returned (.tuple #[.string ⟨(Lib.trimPrefix x [115]).toArray⟩, .bool (Lib.hasPrefix x [115])]) ∧ w' = w := by
 have := Any.strings_CutPrefix lay103 ⟨x.toArray⟩ ⟨#[115]⟩ w
 rw [show (⟨x.toArray⟩ : ByteArray).data.toList = x by simp] at this
 exact this
theorem numK_calls (l : List UInt8) (hl : l.length ≤ 1048576) (w : World) (hD : Door w) : Calls Tryz.prog 32 #[.string ⟨l.toArray⟩, .int .i64 39] w fun e w' =>
   e = .returned (.tuple #[.int .i64 (((numI 39 l).getD 0 : Nat) : Int), .bool (numI 39 l).isSome]) ∧ Below w.heap.size w w' := number_calls l hl 39 (by omega) w hD
theorem numN_calls (l : List UInt8) (hl : l.length ≤ 1048576) (w : World) (hD : Door w) : Calls Tryz.prog 32 #[.string ⟨l.toArray⟩, .int .i64 20] w fun e w' =>
   e = .returned (.tuple #[.int .i64 (((numI 20 l).getD 0 : Nat) : Int), .bool (numI 20 l).isSome]) ∧ Below w.heap.size w w' := number_calls l hl 20 (by omega) w hD
set_option maxHeartbeats 8000000 in
set_option maxRecDepth 100000 in
theorem implRead_calls (l : List UInt8) (hl : l.length ≤ 1048576) (w : World) (hD0 : Door w) :
  Calls Tryz.prog 9 #[.string ⟨l.toArray⟩] w fun e w' => e = .returned (readRes (readI l)) ∧ Below w.heap.size w w' := by
 have hm := Mem.start w
 have HD := Aside0.mk (fun W (hb : Below w.heap.size w W) => hD0.below hb)
 have HS := Aside0.mk (fun W hW => splitI_calls l hl W hW)
 have hwl := sp_len 32 l
 have HWM := Aside0.mk (sp_mem 32 l)
 have HQ := Aside0.mk (show readI l = match goI l (sp 32 l) zeros44 with | none => none | some L => if (if okL L = true then lockT L else []) = l then some L else none from rfl)
 generalize sp 32 l = WS at *
 generalize readI l = V at *
 go_enter Tryz.func9, Tryz.ntmps9
 go_wp2_with (first
  | (first | fail | ((with_reducible refine gt_alloc 2 28 ?_); refine st_alloc rfl 2 rfl 28 rfl hm zero28 ?_; clear hm; intro g2 w2 hm) | ((with_reducible refine gt_build 28 ?_); refine st_zero rfl 28 rfl built28 ?_) | ((with_reducible refine gt_alloc 4 28 ?_); refine st_alloc rfl 4 rfl 28 rfl hm zero28 ?_; clear hm; intro g4 w4 hm) | ((with_reducible refine gt_store 28 ?_); (first | (refine st_full rfl 28 _ _ rfl hm rfl rfl 0 rfl agg28 (by first | omega | assumption | (simp only [lens]; first | omega | assumption) | (simp [lens]; done) | (simp [lens]; omega)) (by first | omega | assumption | (simp only [lens]; first | omega | assumption) | (simp [lens]; done) | (simp [lens]; omega)) ?_) | (refine st_full rfl 28 _ _ rfl hm rfl rfl 1 rfl agg28 (by first | omega | assumption | (simp only [lens]; first | omega | assumption) | (simp [lens]; done) | (simp [lens]; omega)) (by first | omega | assumption | (simp only [lens]; first | omega | assumption) | (simp [lens]; done) | (simp [lens]; omega)) ?_) | (refine st_full rfl 28 _ _ rfl hm rfl rfl 2 rfl agg28 (by first | omega | assumption | (simp only [lens]; first | omega | assumption) | (simp [lens]; done) | (simp [lens]; omega)) (by first | omega | assumption | (simp only [lens]; first | omega | assumption) | (simp [lens]; done) | (simp [lens]; omega)) ?_) | (refine st_full rfl 28 _ _ rfl hm rfl rfl 3 rfl agg28 (by first | omega | assumption | (simp only [lens]; first | omega | assumption) | (simp [lens]; done) | (simp [lens]; omega)) (by first | omega | assumption | (simp only [lens]; first | omega | assumption) | (simp [lens]; done) | (simp [lens]; omega)) ?_)); clear hm; intro ws hm; simp only [List.set_cons_zero, List.set_cons_succ] at hm) | ((with_reducible refine gt_field 28 1 ?_); refine st_field rfl 28 _ 1 rfl rfl field28_1 ?_) | ((with_reducible refine gt_elem 26 ?_); refine st_elem rfl 26 _ _ rfl rfl rfl arr26 (by first | omega | assumption | (simp only [lens]; first | omega | assumption) | (simp [lens]; done) | (simp [lens]; omega)) (by first | omega | assumption | (simp only [lens]; first | omega | assumption) | (simp [lens]; done) | (simp [lens]; omega)) ?_) | ((with_reducible refine gt_store 24 ?_); (first | (refine st_set rfl 24 _ _ rfl hm rfl rfl 0 rfl one24 (by first | omega | assumption | (simp only [lens]; first | omega | assumption) | (simp [lens]; done) | (simp [lens]; omega)) ?_) | (refine st_set rfl 24 _ _ rfl hm rfl rfl 1 rfl one24 (by first | omega | assumption | (simp only [lens]; first | omega | assumption) | (simp [lens]; done) | (simp [lens]; omega)) ?_) | (refine st_set rfl 24 _ _ rfl hm rfl rfl 2 rfl one24 (by first | omega | assumption | (simp only [lens]; first | omega | assumption) | (simp [lens]; done) | (simp [lens]; omega)) ?_) | (refine st_set rfl 24 _ _ rfl hm rfl rfl 3 rfl one24 (by first | omega | assumption | (simp only [lens]; first | omega | assumption) | (simp [lens]; done) | (simp [lens]; omega)) ?_)); clear hm; intro ws hm; simp only [List.set_cons_zero, List.set_cons_succ] at hm) | ((with_reducible refine gt_field 28 0 ?_); refine st_field rfl 28 _ 0 rfl rfl field28_0 ?_) | ((with_reducible refine gt_elem 25 ?_); refine st_elem rfl 25 _ _ rfl rfl rfl arr25 (by first | omega | assumption | (simp only [lens]; first | omega | assumption) | (simp [lens]; done) | (simp [lens]; omega)) (by first | omega | assumption | (simp only [lens]; first | omega | assumption) | (simp [lens]; done) | (simp [lens]; omega)) ?_) | ((with_reducible refine gt_load 28 ?_); (first | (refine st_load rfl 28 _ rfl hm rfl 0 rfl agg28 (by first | omega | assumption | (simp only [lens]; first | omega | assumption) | (simp [lens]; done) | (simp [lens]; omega)) ?_) | (refine st_load rfl 28 _ rfl hm rfl 1 rfl agg28 (by first | omega | assumption | (simp only [lens]; first | omega | assumption) | (simp [lens]; done) | (simp [lens]; omega)) ?_) | (refine st_load rfl 28 _ rfl hm rfl 2 rfl agg28 (by first | omega | assumption | (simp only [lens]; first | omega | assumption) | (simp [lens]; done) | (simp [lens]; omega)) ?_) | (refine st_load rfl 28 _ rfl hm rfl 3 rfl agg28 (by first | omega | assumption | (simp only [lens]; first | omega | assumption) | (simp [lens]; done) | (simp [lens]; omega)) ?_))))
  | (go_at_call 29; refine (HS.out _ (HD.out _ (hm.done rfl))).mono ?_; rintro e wa ⟨bk, R, rfl, hR, ho, HT, hb⟩; replace hm := hm.grow hb; rw [hR] at hm; clear hb hR))
 go_loopw [20] (fun v20 wr => ∃ (i : Nat) (L : List Int), i ≤ WS.length ∧ v20 = .int .i64 i ∧ L.length = 44 ∧ okL L = true ∧ Aside0 (V = match goI l (WS.drop i) L with | none => none | some L => if (if okL L = true then lockT L else []) = l then some L else none) ∧ Mem w wr (⟨g4, vals .i16 L, 28, true⟩ :: ⟨g2, vals .i16 (zs 44), 28, true⟩ :: R)) (fun v20 _ => WS.length - (intOf v20).toNat)
 case atStart => exact ⟨0, zeros44, by omega, rfl, zeros_ok.1, zeros_ok.2, HQ, hm⟩
 case round =>
  clear hm
  obtain ⟨i, L, hi, rfl, hLl, hok, HQ, hm⟩ := hrel
  by_cases hlt : i < WS.length
  ·by_cases hdash : l = [45]
   ·subst hdash
    have hwi := rd_wsX WS i hlt
    generalize hx : WS[i] = x at *
    have HX := Aside0.mk hx
    clear hx
    have hc := HT wr (fun e he => (hm.ent e (by simp [he])).1) i x hwi
    have hxl : x.length ≤ 1048576 := Nat.le_trans (HWM.out x (List.mem_of_getElem? hwi)) hl
    rw [List.drop_eq_getElem_cons hlt, HX.out, goI, if_pos rfl] at HQ
    have HCUT := Aside0.mk (fun W hW => cutI_calls x hxl W hW)
    have hcl := cut_len x
    have HWI := Aside0.mk (show wordI x = match numI 39 (Lib.trimPrefix (Lib.cut x [120]).1 [115]), numI 20 (Lib.cut x [120]).2.1 with
     | some k, some n => if Lib.hasPrefix (Lib.cut x [120]).1 [115] = true then (if 1 ≤ k ∧ k ≤ 4 then some (39 + k, (n : Int)) else none) else some (k, (n : Int))
     | _, _ => none from rfl)
    generalize wordI x = WP at *
    generalize Lib.cut x [120] = cu at *
    obtain ⟨hd, rs, fd⟩ := cu
    dsimp only at HCUT hcl HWI
    have HPRE := Aside0.mk (fun W => prefI_calls hd W)
    have htl := trim_len hd
    generalize Lib.trimPrefix hd [115] = tp at *
    generalize Lib.hasPrefix hd [115] = sub at *
    have HNA := Aside0.mk (fun W hW => numK_calls tp (by omega) W hW)
    have HNB := Aside0.mk (fun W hW => numN_calls rs (by omega) W hW)
    have HKA := Aside0.mk (fun k (h : numI 39 tp = some k) => (numI_some (by omega) h).1)
    have HKB := Aside0.mk (fun k (h : numI 20 rs = some k) => (numI_some (by omega) h).1)
    generalize numI 39 tp = na at *
    generalize numI 20 rs = nb0 at *
    have HIN := Aside0.mk (fun W => impl_within.calls (((na.getD 0 : Nat)) : Int) 1 4 (decide (1 ≤ ((na.getD 0 : Nat) : Int) ∧ ((na.getD 0 : Nat) : Int) ≤ 4)) W (by unfold impl_within.f; by_cases h : (1 : Int) ≤ ((na.getD 0 : Nat) : Int) <;> simp [h]))
    go_wp2_with (first
     | (first | fail | ((with_reducible refine gt_alloc 2 28 ?_); refine st_alloc rfl 2 rfl 28 rfl hm zero28 ?_; clear hm; intro g2 w2 hm) | ((with_reducible refine gt_build 28 ?_); refine st_zero rfl 28 rfl built28 ?_) | ((with_reducible refine gt_alloc 4 28 ?_); refine st_alloc rfl 4 rfl 28 rfl hm zero28 ?_; clear hm; intro g4 w4 hm) | ((with_reducible refine gt_store 28 ?_); (first | (refine st_full rfl 28 _ _ rfl hm rfl rfl 0 rfl agg28 (by first | omega | assumption | (simp only [lens]; first | omega | assumption) | (simp [lens]; done) | (simp [lens]; omega)) (by first | omega | assumption | (simp only [lens]; first | omega | assumption) | (simp [lens]; done) | (simp [lens]; omega)) ?_) | (refine st_full rfl 28 _ _ rfl hm rfl rfl 1 rfl agg28 (by first | omega | assumption | (simp only [lens]; first | omega | assumption) | (simp [lens]; done) | (simp [lens]; omega)) (by first | omega | assumption | (simp only [lens]; first | omega | assumption) | (simp [lens]; done) | (simp [lens]; omega)) ?_) | (refine st_full rfl 28 _ _ rfl hm rfl rfl 2 rfl agg28 (by first | omega | assumption | (simp only [lens]; first | omega | assumption) | (simp [lens]; done) | (simp [lens]; omega)) (by first | omega | assumption | (simp only [lens]; first | omega | assumption) | (simp [lens]; done) | (simp [lens]; omega)) ?_) | (refine st_full rfl 28 _ _ rfl hm rfl rfl 3 rfl agg28 (by first | omega | assumption | (simp only [lens]; first | omega | assumption) | (simp [lens]; done) | (simp [lens]; omega)) (by first | omega | assumption | (simp only [lens]; first | omega | assumption) | (simp [lens]; done) | (simp [lens]; omega)) ?_)); clear hm; intro ws hm; simp only [List.set_cons_zero, List.set_cons_succ] at hm) | ((with_reducible refine gt_field 28 1 ?_); refine st_field rfl 28 _ 1 rfl rfl field28_1 ?_) | ((with_reducible refine gt_elem 26 ?_); refine st_elem rfl 26 _ _ rfl rfl rfl arr26 (by first | omega | assumption | (simp only [lens]; first | omega | assumption) | (simp [lens]; done) | (simp [lens]; omega)) (by first | omega | assumption | (simp only [lens]; first | omega | assumption) | (simp [lens]; done) | (simp [lens]; omega)) ?_) | ((with_reducible refine gt_store 24 ?_); (first | (refine st_set rfl 24 _ _ rfl hm rfl rfl 0 rfl one24 (by first | omega | assumption | (simp only [lens]; first | omega | assumption) | (simp [lens]; done) | (simp [lens]; omega)) ?_) | (refine st_set rfl 24 _ _ rfl hm rfl rfl 1 rfl one24 (by first | omega | assumption | (simp only [lens]; first | omega | assumption) | (simp [lens]; done) | (simp [lens]; omega)) ?_) | (refine st_set rfl 24 _ _ rfl hm rfl rfl 2 rfl one24 (by first | omega | assumption | (simp only [lens]; first | omega | assumption) | (simp [lens]; done) | (simp [lens]; omega)) ?_) | (refine st_set rfl 24 _ _ rfl hm rfl rfl 3 rfl one24 (by first | omega | assumption | (simp only [lens]; first | omega | assumption) | (simp [lens]; done) | (simp [lens]; omega)) ?_)); clear hm; intro ws hm; simp only [List.set_cons_zero, List.set_cons_succ] at hm) | ((with_reducible refine gt_field 28 0 ?_); refine st_field rfl 28 _ 0 rfl rfl field28_0 ?_) | ((with_reducible refine gt_elem 25 ?_); refine st_elem rfl 25 _ _ rfl rfl rfl arr25 (by first | omega | assumption | (simp only [lens]; first | omega | assumption) | (simp [lens]; done) | (simp [lens]; omega)) (by first | omega | assumption | (simp only [lens]; first | omega | assumption) | (simp [lens]; done) | (simp [lens]; omega)) ?_) | ((with_reducible refine gt_load 28 ?_); (first | (refine st_load rfl 28 _ rfl hm rfl 0 rfl agg28 (by first | omega | assumption | (simp only [lens]; first | omega | assumption) | (simp [lens]; done) | (simp [lens]; omega)) ?_) | (refine st_load rfl 28 _ rfl hm rfl 1 rfl agg28 (by first | omega | assumption | (simp only [lens]; first | omega | assumption) | (simp [lens]; done) | (simp [lens]; omega)) ?_) | (refine st_load rfl 28 _ rfl hm rfl 2 rfl agg28 (by first | omega | assumption | (simp only [lens]; first | omega | assumption) | (simp [lens]; done) | (simp [lens]; omega)) ?_) | (refine st_load rfl 28 _ rfl hm rfl 3 rfl agg28 (by first | omega | assumption | (simp only [lens]; first | omega | assumption) | (simp [lens]; done) | (simp [lens]; omega)) ?_))))
     | (go_at_call 30; refine (HCUT.out _ (HD.out _ (hm.done (by simp [ho])))).mono ?_; rintro e wb ⟨rfl, nb, rfl⟩; replace hm := hm.drawn3 nb)
     | (go_at_call 31; refine (HPRE.out _).mono ?_; rintro e wc ⟨rfl, rfl⟩)
     | (go_at_call 32; first
       | (with_reducible refine (HNA.out _ (HD.out _ (hm.done (by simp [ho])))).mono ?_; rintro e wd ⟨rfl, hb⟩; replace hm := hm.after hb; clear hb)
       | (with_reducible refine (HNB.out _ (HD.out _ (hm.done (by simp [ho])))).mono ?_; rintro e we ⟨rfl, hb⟩; replace hm := hm.after hb; clear hb))
     | (go_at_call 33; refine (HIN.out _).mono ?_; rintro e wf ⟨rfl, nf, rfl⟩; replace hm := hm.drawn3 nf))
    refine ⟨⟨i + 1, L, by omega, rfl, hLl, hok, HQ, hm⟩, by simp [intOf]; omega⟩
   ·have hq45 : (l == [45]) = false := by simpa using hdash
    have hwi := rd_wsX WS i hlt
    generalize hx : WS[i] = x at *
    have HX := Aside0.mk hx
    clear hx
    have hc := HT wr (fun e he => (hm.ent e (by simp [he])).1) i x hwi
    have hxl : x.length ≤ 1048576 := Nat.le_trans (HWM.out x (List.mem_of_getElem? hwi)) hl
    rw [List.drop_eq_getElem_cons hlt, HX.out, goI, if_neg hdash] at HQ
    have HCUT := Aside0.mk (fun W hW => cutI_calls x hxl W hW)
    have hcl := cut_len x
    have HWI := Aside0.mk (show wordI x = match numI 39 (Lib.trimPrefix (Lib.cut x [120]).1 [115]), numI 20 (Lib.cut x [120]).2.1 with
     | some k, some n => if Lib.hasPrefix (Lib.cut x [120]).1 [115] = true then (if 1 ≤ k ∧ k ≤ 4 then some (39 + k, (n : Int)) else none) else some (k, (n : Int))
     | _, _ => none from rfl)
    generalize wordI x = WP at *
    generalize Lib.cut x [120] = cu at *
    obtain ⟨hd, rs, fd⟩ := cu
    dsimp only at HCUT hcl HWI
    have HPRE := Aside0.mk (fun W => prefI_calls hd W)
    have htl := trim_len hd
    generalize Lib.trimPrefix hd [115] = tp at *
    generalize Lib.hasPrefix hd [115] = sub at *
    have HNA := Aside0.mk (fun W hW => numK_calls tp (by omega) W hW)
    have HNB := Aside0.mk (fun W hW => numN_calls rs (by omega) W hW)
    have HKA := Aside0.mk (fun k (h : numI 39 tp = some k) => (numI_some (by omega) h).1)
    have HKB := Aside0.mk (fun k (h : numI 20 rs = some k) => (numI_some (by omega) h).1)
    generalize numI 39 tp = na at *
    generalize numI 20 rs = nb0 at *
    rcases na with _ | k
    ·have HVN : V = none := by rw [HQ.out, HWI.out] <;> rfl
     have HIN := Aside0.mk (fun W => impl_within.calls ((0 : Nat) : Int) 1 4 false W (by decide))
     rcases nb0 with _ | n
     ·go_wp2_with (first
       | (first | fail | ((with_reducible refine gt_alloc 2 28 ?_); refine st_alloc rfl 2 rfl 28 rfl hm zero28 ?_; clear hm; intro g2 w2 hm) | ((with_reducible refine gt_build 28 ?_); refine st_zero rfl 28 rfl built28 ?_) | ((with_reducible refine gt_alloc 4 28 ?_); refine st_alloc rfl 4 rfl 28 rfl hm zero28 ?_; clear hm; intro g4 w4 hm) | ((with_reducible refine gt_store 28 ?_); (first | (refine st_full rfl 28 _ _ rfl hm rfl rfl 0 rfl agg28 (by first | omega | assumption | (simp only [lens]; first | omega | assumption) | (simp [lens]; done) | (simp [lens]; omega)) (by first | omega | assumption | (simp only [lens]; first | omega | assumption) | (simp [lens]; done) | (simp [lens]; omega)) ?_) | (refine st_full rfl 28 _ _ rfl hm rfl rfl 1 rfl agg28 (by first | omega | assumption | (simp only [lens]; first | omega | assumption) | (simp [lens]; done) | (simp [lens]; omega)) (by first | omega | assumption | (simp only [lens]; first | omega | assumption) | (simp [lens]; done) | (simp [lens]; omega)) ?_) | (refine st_full rfl 28 _ _ rfl hm rfl rfl 2 rfl agg28 (by first | omega | assumption | (simp only [lens]; first | omega | assumption) | (simp [lens]; done) | (simp [lens]; omega)) (by first | omega | assumption | (simp only [lens]; first | omega | assumption) | (simp [lens]; done) | (simp [lens]; omega)) ?_) | (refine st_full rfl 28 _ _ rfl hm rfl rfl 3 rfl agg28 (by first | omega | assumption | (simp only [lens]; first | omega | assumption) | (simp [lens]; done) | (simp [lens]; omega)) (by first | omega | assumption | (simp only [lens]; first | omega | assumption) | (simp [lens]; done) | (simp [lens]; omega)) ?_)); clear hm; intro ws hm; simp only [List.set_cons_zero, List.set_cons_succ] at hm) | ((with_reducible refine gt_field 28 1 ?_); refine st_field rfl 28 _ 1 rfl rfl field28_1 ?_) | ((with_reducible refine gt_elem 26 ?_); refine st_elem rfl 26 _ _ rfl rfl rfl arr26 (by first | omega | assumption | (simp only [lens]; first | omega | assumption) | (simp [lens]; done) | (simp [lens]; omega)) (by first | omega | assumption | (simp only [lens]; first | omega | assumption) | (simp [lens]; done) | (simp [lens]; omega)) ?_) | ((with_reducible refine gt_store 24 ?_); (first | (refine st_set rfl 24 _ _ rfl hm rfl rfl 0 rfl one24 (by first | omega | assumption | (simp only [lens]; first | omega | assumption) | (simp [lens]; done) | (simp [lens]; omega)) ?_) | (refine st_set rfl 24 _ _ rfl hm rfl rfl 1 rfl one24 (by first | omega | assumption | (simp only [lens]; first | omega | assumption) | (simp [lens]; done) | (simp [lens]; omega)) ?_) | (refine st_set rfl 24 _ _ rfl hm rfl rfl 2 rfl one24 (by first | omega | assumption | (simp only [lens]; first | omega | assumption) | (simp [lens]; done) | (simp [lens]; omega)) ?_) | (refine st_set rfl 24 _ _ rfl hm rfl rfl 3 rfl one24 (by first | omega | assumption | (simp only [lens]; first | omega | assumption) | (simp [lens]; done) | (simp [lens]; omega)) ?_)); clear hm; intro ws hm; simp only [List.set_cons_zero, List.set_cons_succ] at hm) | ((with_reducible refine gt_field 28 0 ?_); refine st_field rfl 28 _ 0 rfl rfl field28_0 ?_) | ((with_reducible refine gt_elem 25 ?_); refine st_elem rfl 25 _ _ rfl rfl rfl arr25 (by first | omega | assumption | (simp only [lens]; first | omega | assumption) | (simp [lens]; done) | (simp [lens]; omega)) (by first | omega | assumption | (simp only [lens]; first | omega | assumption) | (simp [lens]; done) | (simp [lens]; omega)) ?_) | ((with_reducible refine gt_load 28 ?_); (first | (refine st_load rfl 28 _ rfl hm rfl 0 rfl agg28 (by first | omega | assumption | (simp only [lens]; first | omega | assumption) | (simp [lens]; done) | (simp [lens]; omega)) ?_) | (refine st_load rfl 28 _ rfl hm rfl 1 rfl agg28 (by first | omega | assumption | (simp only [lens]; first | omega | assumption) | (simp [lens]; done) | (simp [lens]; omega)) ?_) | (refine st_load rfl 28 _ rfl hm rfl 2 rfl agg28 (by first | omega | assumption | (simp only [lens]; first | omega | assumption) | (simp [lens]; done) | (simp [lens]; omega)) ?_) | (refine st_load rfl 28 _ rfl hm rfl 3 rfl agg28 (by first | omega | assumption | (simp only [lens]; first | omega | assumption) | (simp [lens]; done) | (simp [lens]; omega)) ?_))))
       | (go_at_call 30; refine (HCUT.out _ (HD.out _ (hm.done (by simp [ho])))).mono ?_; rintro e wb ⟨rfl, nb, rfl⟩; replace hm := hm.drawn3 nb)
       | (go_at_call 31; refine (HPRE.out _).mono ?_; rintro e wc ⟨rfl, rfl⟩)
       | (go_at_call 32; first
         | (with_reducible refine (HNA.out _ (HD.out _ (hm.done (by simp [ho])))).mono ?_; rintro e wd ⟨rfl, hb⟩; replace hm := hm.after hb; clear hb)
         | (with_reducible refine (HNB.out _ (HD.out _ (hm.done (by simp [ho])))).mono ?_; rintro e we ⟨rfl, hb⟩; replace hm := hm.after hb; clear hb))
       | (go_at_call 33; refine (HIN.out _).mono ?_; rintro e wf ⟨rfl, nf, rfl⟩; replace hm := hm.drawn3 nf))
      ((try simp only [Exit.inBlock, Exit.then]); (first | (refine ret_cell hm rfl rfl 1 rfl agg28 (by first | omega | assumption | (simp only [lens]; first | omega | assumption) | (simp [lens]; done) | (simp [lens]; omega)) rfl ?_) | (refine ret_cell_tmp hm rfl rfl 1 rfl agg28 (by first | omega | assumption | (simp only [lens]; first | omega | assumption) | (simp [lens]; done) | (simp [lens]; omega)) rfl ?_)))
      exact ⟨by rw [HVN]; rfl, hm.done (by simp [ho])⟩
     ·go_wp2_with (first
       | (first | fail | ((with_reducible refine gt_alloc 2 28 ?_); refine st_alloc rfl 2 rfl 28 rfl hm zero28 ?_; clear hm; intro g2 w2 hm) | ((with_reducible refine gt_build 28 ?_); refine st_zero rfl 28 rfl built28 ?_) | ((with_reducible refine gt_alloc 4 28 ?_); refine st_alloc rfl 4 rfl 28 rfl hm zero28 ?_; clear hm; intro g4 w4 hm) | ((with_reducible refine gt_store 28 ?_); (first | (refine st_full rfl 28 _ _ rfl hm rfl rfl 0 rfl agg28 (by first | omega | assumption | (simp only [lens]; first | omega | assumption) | (simp [lens]; done) | (simp [lens]; omega)) (by first | omega | assumption | (simp only [lens]; first | omega | assumption) | (simp [lens]; done) | (simp [lens]; omega)) ?_) | (refine st_full rfl 28 _ _ rfl hm rfl rfl 1 rfl agg28 (by first | omega | assumption | (simp only [lens]; first | omega | assumption) | (simp [lens]; done) | (simp [lens]; omega)) (by first | omega | assumption | (simp only [lens]; first | omega | assumption) | (simp [lens]; done) | (simp [lens]; omega)) ?_) | (refine st_full rfl 28 _ _ rfl hm rfl rfl 2 rfl agg28 (by first | omega | assumption | (simp only [lens]; first | omega | assumption) | (simp [lens]; done) | (simp [lens]; omega)) (by first | omega | assumption | (simp only [lens]; first | omega | assumption) | (simp [lens]; done) | (simp [lens]; omega)) ?_) | (refine st_full rfl 28 _ _ rfl hm rfl rfl 3 rfl agg28 (by first | omega | assumption | (simp only [lens]; first | omega | assumption) | (simp [lens]; done) | (simp [lens]; omega)) (by first | omega | assumption | (simp only [lens]; first | omega | assumption) | (simp [lens]; done) | (simp [lens]; omega)) ?_)); clear hm; intro ws hm; simp only [List.set_cons_zero, List.set_cons_succ] at hm) | ((with_reducible refine gt_field 28 1 ?_); refine st_field rfl 28 _ 1 rfl rfl field28_1 ?_) | ((with_reducible refine gt_elem 26 ?_); refine st_elem rfl 26 _ _ rfl rfl rfl arr26 (by first | omega | assumption | (simp only [lens]; first | omega | assumption) | (simp [lens]; done) | (simp [lens]; omega)) (by first | omega | assumption | (simp only [lens]; first | omega | assumption) | (simp [lens]; done) | (simp [lens]; omega)) ?_) | ((with_reducible refine gt_store 24 ?_); (first | (refine st_set rfl 24 _ _ rfl hm rfl rfl 0 rfl one24 (by first | omega | assumption | (simp only [lens]; first | omega | assumption) | (simp [lens]; done) | (simp [lens]; omega)) ?_) | (refine st_set rfl 24 _ _ rfl hm rfl rfl 1 rfl one24 (by first | omega | assumption | (simp only [lens]; first | omega | assumption) | (simp [lens]; done) | (simp [lens]; omega)) ?_) | (refine st_set rfl 24 _ _ rfl hm rfl rfl 2 rfl one24 (by first | omega | assumption | (simp only [lens]; first | omega | assumption) | (simp [lens]; done) | (simp [lens]; omega)) ?_) | (refine st_set rfl 24 _ _ rfl hm rfl rfl 3 rfl one24 (by first | omega | assumption | (simp only [lens]; first | omega | assumption) | (simp [lens]; done) | (simp [lens]; omega)) ?_)); clear hm; intro ws hm; simp only [List.set_cons_zero, List.set_cons_succ] at hm) | ((with_reducible refine gt_field 28 0 ?_); refine st_field rfl 28 _ 0 rfl rfl field28_0 ?_) | ((with_reducible refine gt_elem 25 ?_); refine st_elem rfl 25 _ _ rfl rfl rfl arr25 (by first | omega | assumption | (simp only [lens]; first | omega | assumption) | (simp [lens]; done) | (simp [lens]; omega)) (by first | omega | assumption | (simp only [lens]; first | omega | assumption) | (simp [lens]; done) | (simp [lens]; omega)) ?_) | ((with_reducible refine gt_load 28 ?_); (first | (refine st_load rfl 28 _ rfl hm rfl 0 rfl agg28 (by first | omega | assumption | (simp only [lens]; first | omega | assumption) | (simp [lens]; done) | (simp [lens]; omega)) ?_) | (refine st_load rfl 28 _ rfl hm rfl 1 rfl agg28 (by first | omega | assumption | (simp only [lens]; first | omega | assumption) | (simp [lens]; done) | (simp [lens]; omega)) ?_) | (refine st_load rfl 28 _ rfl hm rfl 2 rfl agg28 (by first | omega | assumption | (simp only [lens]; first | omega | assumption) | (simp [lens]; done) | (simp [lens]; omega)) ?_) | (refine st_load rfl 28 _ rfl hm rfl 3 rfl agg28 (by first | omega | assumption | (simp only [lens]; first | omega | assumption) | (simp [lens]; done) | (simp [lens]; omega)) ?_))))
       | (go_at_call 30; refine (HCUT.out _ (HD.out _ (hm.done (by simp [ho])))).mono ?_; rintro e wb ⟨rfl, nb, rfl⟩; replace hm := hm.drawn3 nb)
       | (go_at_call 31; refine (HPRE.out _).mono ?_; rintro e wc ⟨rfl, rfl⟩)
       | (go_at_call 32; first
         | (with_reducible refine (HNA.out _ (HD.out _ (hm.done (by simp [ho])))).mono ?_; rintro e wd ⟨rfl, hb⟩; replace hm := hm.after hb; clear hb)
         | (with_reducible refine (HNB.out _ (HD.out _ (hm.done (by simp [ho])))).mono ?_; rintro e we ⟨rfl, hb⟩; replace hm := hm.after hb; clear hb))
       | (go_at_call 33; refine (HIN.out _).mono ?_; rintro e wf ⟨rfl, nf, rfl⟩; replace hm := hm.drawn3 nf))
      ((try simp only [Exit.inBlock, Exit.then]); (first | (refine ret_cell hm rfl rfl 1 rfl agg28 (by first | omega | assumption | (simp only [lens]; first | omega | assumption) | (simp [lens]; done) | (simp [lens]; omega)) rfl ?_) | (refine ret_cell_tmp hm rfl rfl 1 rfl agg28 (by first | omega | assumption | (simp only [lens]; first | omega | assumption) | (simp [lens]; done) | (simp [lens]; omega)) rfl ?_)))
      exact ⟨by rw [HVN]; rfl, hm.done (by simp [ho])⟩
    ·rcases nb0 with _ | n
     ·have HVN : V = none := by rw [HQ.out, HWI.out] <;> rfl
      have HIN := Aside0.mk (fun W => impl_within.calls (k : Int) 1 4 (decide (1 ≤ (k : Int) ∧ (k : Int) ≤ 4)) W (by unfold impl_within.f; by_cases h : (1 : Int) ≤ (k : Int) <;> simp [h]))
      go_wp2_with (first
       | (first | fail | ((with_reducible refine gt_alloc 2 28 ?_); refine st_alloc rfl 2 rfl 28 rfl hm zero28 ?_; clear hm; intro g2 w2 hm) | ((with_reducible refine gt_build 28 ?_); refine st_zero rfl 28 rfl built28 ?_) | ((with_reducible refine gt_alloc 4 28 ?_); refine st_alloc rfl 4 rfl 28 rfl hm zero28 ?_; clear hm; intro g4 w4 hm) | ((with_reducible refine gt_store 28 ?_); (first | (refine st_full rfl 28 _ _ rfl hm rfl rfl 0 rfl agg28 (by first | omega | assumption | (simp only [lens]; first | omega | assumption) | (simp [lens]; done) | (simp [lens]; omega)) (by first | omega | assumption | (simp only [lens]; first | omega | assumption) | (simp [lens]; done) | (simp [lens]; omega)) ?_) | (refine st_full rfl 28 _ _ rfl hm rfl rfl 1 rfl agg28 (by first | omega | assumption | (simp only [lens]; first | omega | assumption) | (simp [lens]; done) | (simp [lens]; omega)) (by first | omega | assumption | (simp only [lens]; first | omega | assumption) | (simp [lens]; done) | (simp [lens]; omega)) ?_) | (refine st_full rfl 28 _ _ rfl hm rfl rfl 2 rfl agg28 (by first | omega | assumption | (simp only [lens]; first | omega | assumption) | (simp [lens]; done) | (simp [lens]; omega)) (by first | omega | assumption | (simp only [lens]; first | omega | assumption) | (simp [lens]; done) | (simp [lens]; omega)) ?_) | (refine st_full rfl 28 _ _ rfl hm rfl rfl 3 rfl agg28 (by first | omega | assumption | (simp only [lens]; first | omega | assumption) | (simp [lens]; done) | (simp [lens]; omega)) (by first | omega | assumption | (simp only [lens]; first | omega | assumption) | (simp [lens]; done) | (simp [lens]; omega)) ?_)); clear hm; intro ws hm; simp only [List.set_cons_zero, List.set_cons_succ] at hm) | ((with_reducible refine gt_field 28 1 ?_); refine st_field rfl 28 _ 1 rfl rfl field28_1 ?_) | ((with_reducible refine gt_elem 26 ?_); refine st_elem rfl 26 _ _ rfl rfl rfl arr26 (by first | omega | assumption | (simp only [lens]; first | omega | assumption) | (simp [lens]; done) | (simp [lens]; omega)) (by first | omega | assumption | (simp only [lens]; first | omega | assumption) | (simp [lens]; done) | (simp [lens]; omega)) ?_) | ((with_reducible refine gt_store 24 ?_); (first | (refine st_set rfl 24 _ _ rfl hm rfl rfl 0 rfl one24 (by first | omega | assumption | (simp only [lens]; first | omega | assumption) | (simp [lens]; done) | (simp [lens]; omega)) ?_) | (refine st_set rfl 24 _ _ rfl hm rfl rfl 1 rfl one24 (by first | omega | assumption | (simp only [lens]; first | omega | assumption) | (simp [lens]; done) | (simp [lens]; omega)) ?_) | (refine st_set rfl 24 _ _ rfl hm rfl rfl 2 rfl one24 (by first | omega | assumption | (simp only [lens]; first | omega | assumption) | (simp [lens]; done) | (simp [lens]; omega)) ?_) | (refine st_set rfl 24 _ _ rfl hm rfl rfl 3 rfl one24 (by first | omega | assumption | (simp only [lens]; first | omega | assumption) | (simp [lens]; done) | (simp [lens]; omega)) ?_)); clear hm; intro ws hm; simp only [List.set_cons_zero, List.set_cons_succ] at hm) | ((with_reducible refine gt_field 28 0 ?_); refine st_field rfl 28 _ 0 rfl rfl field28_0 ?_) | ((with_reducible refine gt_elem 25 ?_); refine st_elem rfl 25 _ _ rfl rfl rfl arr25 (by first | omega | assumption | (simp only [lens]; first | omega | assumption) | (simp [lens]; done) | (simp [lens]; omega)) (by first | omega | assumption | (simp only [lens]; first | omega | assumption) | (simp [lens]; done) | (simp [lens]; omega)) ?_) | ((with_reducible refine gt_load 28 ?_); (first | (refine st_load rfl 28 _ rfl hm rfl 0 rfl agg28 (by first | omega | assumption | (simp only [lens]; first | omega | assumption) | (simp [lens]; done) | (simp [lens]; omega)) ?_) | (refine st_load rfl 28 _ rfl hm rfl 1 rfl agg28 (by first | omega | assumption | (simp only [lens]; first | omega | assumption) | (simp [lens]; done) | (simp [lens]; omega)) ?_) | (refine st_load rfl 28 _ rfl hm rfl 2 rfl agg28 (by first | omega | assumption | (simp only [lens]; first | omega | assumption) | (simp [lens]; done) | (simp [lens]; omega)) ?_) | (refine st_load rfl 28 _ rfl hm rfl 3 rfl agg28 (by first | omega | assumption | (simp only [lens]; first | omega | assumption) | (simp [lens]; done) | (simp [lens]; omega)) ?_))))
       | (go_at_call 30; refine (HCUT.out _ (HD.out _ (hm.done (by simp [ho])))).mono ?_; rintro e wb ⟨rfl, nb, rfl⟩; replace hm := hm.drawn3 nb)
       | (go_at_call 31; refine (HPRE.out _).mono ?_; rintro e wc ⟨rfl, rfl⟩)
       | (go_at_call 32; first
         | (with_reducible refine (HNA.out _ (HD.out _ (hm.done (by simp [ho])))).mono ?_; rintro e wd ⟨rfl, hb⟩; replace hm := hm.after hb; clear hb)
         | (with_reducible refine (HNB.out _ (HD.out _ (hm.done (by simp [ho])))).mono ?_; rintro e we ⟨rfl, hb⟩; replace hm := hm.after hb; clear hb))
       | (go_at_call 33; refine (HIN.out _).mono ?_; rintro e wf ⟨rfl, nf, rfl⟩; replace hm := hm.drawn3 nf))
      ((try simp only [Exit.inBlock, Exit.then]); (first | (refine ret_cell hm rfl rfl 1 rfl agg28 (by first | omega | assumption | (simp only [lens]; first | omega | assumption) | (simp [lens]; done) | (simp [lens]; omega)) rfl ?_) | (refine ret_cell_tmp hm rfl rfl 1 rfl agg28 (by first | omega | assumption | (simp only [lens]; first | omega | assumption) | (simp [lens]; done) | (simp [lens]; omega)) rfl ?_)))
      exact ⟨by rw [HVN]; rfl, hm.done (by simp [ho])⟩
     ·have hk := HKA.out k rfl
      have hn := HKB.out n rfl
      cases sub
      ·have HV : Aside0 (V = match goI l (WS.drop (i + 1)) (L.set k (n : Int)) with | none => none | some L => if (if okL L = true then lockT L else []) = l then some L else none) := ⟨by rw [HQ.out, HWI.out] <;> rfl⟩
       clear HQ
       go_wp2_with (first
        | (first | fail | ((with_reducible refine gt_alloc 2 28 ?_); refine st_alloc rfl 2 rfl 28 rfl hm zero28 ?_; clear hm; intro g2 w2 hm) | ((with_reducible refine gt_build 28 ?_); refine st_zero rfl 28 rfl built28 ?_) | ((with_reducible refine gt_alloc 4 28 ?_); refine st_alloc rfl 4 rfl 28 rfl hm zero28 ?_; clear hm; intro g4 w4 hm) | ((with_reducible refine gt_store 28 ?_); (first | (refine st_full rfl 28 _ _ rfl hm rfl rfl 0 rfl agg28 (by first | omega | assumption | (simp only [lens]; first | omega | assumption) | (simp [lens]; done) | (simp [lens]; omega)) (by first | omega | assumption | (simp only [lens]; first | omega | assumption) | (simp [lens]; done) | (simp [lens]; omega)) ?_) | (refine st_full rfl 28 _ _ rfl hm rfl rfl 1 rfl agg28 (by first | omega | assumption | (simp only [lens]; first | omega | assumption) | (simp [lens]; done) | (simp [lens]; omega)) (by first | omega | assumption | (simp only [lens]; first | omega | assumption) | (simp [lens]; done) | (simp [lens]; omega)) ?_) | (refine st_full rfl 28 _ _ rfl hm rfl rfl 2 rfl agg28 (by first | omega | assumption | (simp only [lens]; first | omega | assumption) | (simp [lens]; done) | (simp [lens]; omega)) (by first | omega | assumption | (simp only [lens]; first | omega | assumption) | (simp [lens]; done) | (simp [lens]; omega)) ?_) | (refine st_full rfl 28 _ _ rfl hm rfl rfl 3 rfl agg28 (by first | omega | assumption | (simp only [lens]; first | omega | assumption) | (simp [lens]; done) | (simp [lens]; omega)) (by first | omega | assumption | (simp only [lens]; first | omega | assumption) | (simp [lens]; done) | (simp [lens]; omega)) ?_)); clear hm; intro ws hm; simp only [List.set_cons_zero, List.set_cons_succ] at hm) | ((with_reducible refine gt_field 28 1 ?_); refine st_field rfl 28 _ 1 rfl rfl field28_1 ?_) | ((with_reducible refine gt_elem 26 ?_); refine st_elem rfl 26 _ _ rfl rfl rfl arr26 (by first | omega | assumption | (simp only [lens]; first | omega | assumption) | (simp [lens]; done) | (simp [lens]; omega)) (by first | omega | assumption | (simp only [lens]; first | omega | assumption) | (simp [lens]; done) | (simp [lens]; omega)) ?_) | ((with_reducible refine gt_store 24 ?_); (first | (refine st_set rfl 24 _ _ rfl hm rfl rfl 0 rfl one24 (by first | omega | assumption | (simp only [lens]; first | omega | assumption) | (simp [lens]; done) | (simp [lens]; omega)) ?_) | (refine st_set rfl 24 _ _ rfl hm rfl rfl 1 rfl one24 (by first | omega | assumption | (simp only [lens]; first | omega | assumption) | (simp [lens]; done) | (simp [lens]; omega)) ?_) | (refine st_set rfl 24 _ _ rfl hm rfl rfl 2 rfl one24 (by first | omega | assumption | (simp only [lens]; first | omega | assumption) | (simp [lens]; done) | (simp [lens]; omega)) ?_) | (refine st_set rfl 24 _ _ rfl hm rfl rfl 3 rfl one24 (by first | omega | assumption | (simp only [lens]; first | omega | assumption) | (simp [lens]; done) | (simp [lens]; omega)) ?_)); clear hm; intro ws hm; simp only [List.set_cons_zero, List.set_cons_succ] at hm) | ((with_reducible refine gt_field 28 0 ?_); refine st_field rfl 28 _ 0 rfl rfl field28_0 ?_) | ((with_reducible refine gt_elem 25 ?_); refine st_elem rfl 25 _ _ rfl rfl rfl arr25 (by first | omega | assumption | (simp only [lens]; first | omega | assumption) | (simp [lens]; done) | (simp [lens]; omega)) (by first | omega | assumption | (simp only [lens]; first | omega | assumption) | (simp [lens]; done) | (simp [lens]; omega)) ?_) | ((with_reducible refine gt_load 28 ?_); (first | (refine st_load rfl 28 _ rfl hm rfl 0 rfl agg28 (by first | omega | assumption | (simp only [lens]; first | omega | assumption) | (simp [lens]; done) | (simp [lens]; omega)) ?_) | (refine st_load rfl 28 _ rfl hm rfl 1 rfl agg28 (by first | omega | assumption | (simp only [lens]; first | omega | assumption) | (simp [lens]; done) | (simp [lens]; omega)) ?_) | (refine st_load rfl 28 _ rfl hm rfl 2 rfl agg28 (by first | omega | assumption | (simp only [lens]; first | omega | assumption) | (simp [lens]; done) | (simp [lens]; omega)) ?_) | (refine st_load rfl 28 _ rfl hm rfl 3 rfl agg28 (by first | omega | assumption | (simp only [lens]; first | omega | assumption) | (simp [lens]; done) | (simp [lens]; omega)) ?_))))
        | (go_at_call 30; refine (HCUT.out _ (HD.out _ (hm.done (by simp [ho])))).mono ?_; rintro e wb ⟨rfl, nb, rfl⟩; replace hm := hm.drawn3 nb)
        | (go_at_call 31; refine (HPRE.out _).mono ?_; rintro e wc ⟨rfl, rfl⟩)
        | (go_at_call 32; first
          | (with_reducible refine (HNA.out _ (HD.out _ (hm.done (by simp [ho])))).mono ?_; rintro e wd ⟨rfl, hb⟩; replace hm := hm.after hb; clear hb)
          | (with_reducible refine (HNB.out _ (HD.out _ (hm.done (by simp [ho])))).mono ?_; rintro e we ⟨rfl, hb⟩; replace hm := hm.after hb; clear hb))
        | (go_at_call 33; refine (HIN.out _).mono ?_; rintro e wf ⟨rfl, nf, rfl⟩; replace hm := hm.drawn3 nf))
       refine ⟨⟨i + 1, L.set (k) (n : Int), by omega, rfl, by simpa using hLl, okL_set hok _ (by omega) (by omega), HV, ?_⟩, by simp [intOf]; omega⟩
       simpa using hm
      ·by_cases hin : 1 ≤ k ∧ k ≤ 4
       ·have HV : Aside0 (V = match goI l (WS.drop (i + 1)) (L.set (39 + k) (n : Int)) with | none => none | some L => if (if okL L = true then lockT L else []) = l then some L else none) := ⟨by rw [HQ.out, HWI.out]; simp only [if_pos hin, if_true]⟩
        clear HQ
        have HIN := Aside0.mk (fun W => impl_within.calls (k : Int) 1 4 true W (by unfold impl_within.f; by_cases h : (1 : Int) ≤ (k : Int) <;> simp [h] <;> omega))
        go_wp2_with (first
         | (first | fail | ((with_reducible refine gt_alloc 2 28 ?_); refine st_alloc rfl 2 rfl 28 rfl hm zero28 ?_; clear hm; intro g2 w2 hm) | ((with_reducible refine gt_build 28 ?_); refine st_zero rfl 28 rfl built28 ?_) | ((with_reducible refine gt_alloc 4 28 ?_); refine st_alloc rfl 4 rfl 28 rfl hm zero28 ?_; clear hm; intro g4 w4 hm) | ((with_reducible refine gt_store 28 ?_); (first | (refine st_full rfl 28 _ _ rfl hm rfl rfl 0 rfl agg28 (by first | omega | assumption | (simp only [lens]; first | omega | assumption) | (simp [lens]; done) | (simp [lens]; omega)) (by first | omega | assumption | (simp only [lens]; first | omega | assumption) | (simp [lens]; done) | (simp [lens]; omega)) ?_) | (refine st_full rfl 28 _ _ rfl hm rfl rfl 1 rfl agg28 (by first | omega | assumption | (simp only [lens]; first | omega | assumption) | (simp [lens]; done) | (simp [lens]; omega)) (by first | omega | assumption | (simp only [lens]; first | omega | assumption) | (simp [lens]; done) | (simp [lens]; omega)) ?_) | (refine st_full rfl 28 _ _ rfl hm rfl rfl 2 rfl agg28 (by first | omega | assumption | (simp only [lens]; first | omega | assumption) | (simp [lens]; done) | (simp [lens]; omega)) (by first | omega | assumption | (simp only [lens]; first | omega | assumption) | (simp [lens]; done) | (simp [lens]; omega)) ?_) | (refine st_full rfl 28 _ _ rfl hm rfl rfl 3 rfl agg28 (by first | omega | assumption | (simp only [lens]; first | omega | assumption) | (simp [lens]; done) | (simp [lens]; omega)) (by first | omega | assumption | (simp only [lens]; first | omega | assumption) | (simp [lens]; done) | (simp [lens]; omega)) ?_)); clear hm; intro ws hm; simp only [List.set_cons_zero, List.set_cons_succ] at hm) | ((with_reducible refine gt_field 28 1 ?_); refine st_field rfl 28 _ 1 rfl rfl field28_1 ?_) | ((with_reducible refine gt_elem 26 ?_); refine st_elem rfl 26 _ _ rfl rfl rfl arr26 (by first | omega | assumption | (simp only [lens]; first | omega | assumption) | (simp [lens]; done) | (simp [lens]; omega)) (by first | omega | assumption | (simp only [lens]; first | omega | assumption) | (simp [lens]; done) | (simp [lens]; omega)) ?_) | ((with_reducible refine gt_store 24 ?_); (first | (refine st_set rfl 24 _ _ rfl hm rfl rfl 0 rfl one24 (by first | omega | assumption | (simp only [lens]; first | omega | assumption) | (simp [lens]; done) | (simp [lens]; omega)) ?_) | (refine st_set rfl 24 _ _ rfl hm rfl rfl 1 rfl one24 (by first | omega | assumption | (simp only [lens]; first | omega | assumption) | (simp [lens]; done) | (simp [lens]; omega)) ?_) | (refine st_set rfl 24 _ _ rfl hm rfl rfl 2 rfl one24 (by first | omega | assumption | (simp only [lens]; first | omega | assumption) | (simp [lens]; done) | (simp [lens]; omega)) ?_) | (refine st_set rfl 24 _ _ rfl hm rfl rfl 3 rfl one24 (by first | omega | assumption | (simp only [lens]; first | omega | assumption) | (simp [lens]; done) | (simp [lens]; omega)) ?_)); clear hm; intro ws hm; simp only [List.set_cons_zero, List.set_cons_succ] at hm) | ((with_reducible refine gt_field 28 0 ?_); refine st_field rfl 28 _ 0 rfl rfl field28_0 ?_) | ((with_reducible refine gt_elem 25 ?_); refine st_elem rfl 25 _ _ rfl rfl rfl arr25 (by first | omega | assumption | (simp only [lens]; first | omega | assumption) | (simp [lens]; done) | (simp [lens]; omega)) (by first | omega | assumption | (simp only [lens]; first | omega | assumption) | (simp [lens]; done) | (simp [lens]; omega)) ?_) | ((with_reducible refine gt_load 28 ?_); (first | (refine st_load rfl 28 _ rfl hm rfl 0 rfl agg28 (by first | omega | assumption | (simp only [lens]; first | omega | assumption) | (simp [lens]; done) | (simp [lens]; omega)) ?_) | (refine st_load rfl 28 _ rfl hm rfl 1 rfl agg28 (by first | omega | assumption | (simp only [lens]; first | omega | assumption) | (simp [lens]; done) | (simp [lens]; omega)) ?_) | (refine st_load rfl 28 _ rfl hm rfl 2 rfl agg28 (by first | omega | assumption | (simp only [lens]; first | omega | assumption) | (simp [lens]; done) | (simp [lens]; omega)) ?_) | (refine st_load rfl 28 _ rfl hm rfl 3 rfl agg28 (by first | omega | assumption | (simp only [lens]; first | omega | assumption) | (simp [lens]; done) | (simp [lens]; omega)) ?_))))
         | (go_at_call 30; refine (HCUT.out _ (HD.out _ (hm.done (by simp [ho])))).mono ?_; rintro e wb ⟨rfl, nb, rfl⟩; replace hm := hm.drawn3 nb)
         | (go_at_call 31; refine (HPRE.out _).mono ?_; rintro e wc ⟨rfl, rfl⟩)
         | (go_at_call 32; first
           | (with_reducible refine (HNA.out _ (HD.out _ (hm.done (by simp [ho])))).mono ?_; rintro e wd ⟨rfl, hb⟩; replace hm := hm.after hb; clear hb)
           | (with_reducible refine (HNB.out _ (HD.out _ (hm.done (by simp [ho])))).mono ?_; rintro e we ⟨rfl, hb⟩; replace hm := hm.after hb; clear hb))
         | (go_at_call 33; refine (HIN.out _).mono ?_; rintro e wf ⟨rfl, nf, rfl⟩; replace hm := hm.drawn3 nf))
        refine ⟨⟨i + 1, L.set (39 + k) (n : Int), by omega, rfl, by simpa using hLl, okL_set hok _ (by omega) (by omega), HV, ?_⟩, by simp [intOf]; omega⟩
        rw [show 39 + k = 40 + (k - 1) by omega]
        simpa using hm
       ·have HVN : V = none := by rw [HQ.out, HWI.out]; simp only [if_neg hin, if_true]
        have HIN := Aside0.mk (fun W => impl_within.calls (k : Int) 1 4 false W (by unfold impl_within.f; by_cases h : (1 : Int) ≤ (k : Int) <;> simp [h] <;> omega))
        go_wp2_with (first
         | (first | fail | ((with_reducible refine gt_alloc 2 28 ?_); refine st_alloc rfl 2 rfl 28 rfl hm zero28 ?_; clear hm; intro g2 w2 hm) | ((with_reducible refine gt_build 28 ?_); refine st_zero rfl 28 rfl built28 ?_) | ((with_reducible refine gt_alloc 4 28 ?_); refine st_alloc rfl 4 rfl 28 rfl hm zero28 ?_; clear hm; intro g4 w4 hm) | ((with_reducible refine gt_store 28 ?_); (first | (refine st_full rfl 28 _ _ rfl hm rfl rfl 0 rfl agg28 (by first | omega | assumption | (simp only [lens]; first | omega | assumption) | (simp [lens]; done) | (simp [lens]; omega)) (by first | omega | assumption | (simp only [lens]; first | omega | assumption) | (simp [lens]; done) | (simp [lens]; omega)) ?_) | (refine st_full rfl 28 _ _ rfl hm rfl rfl 1 rfl agg28 (by first | omega | assumption | (simp only [lens]; first | omega | assumption) | (simp [lens]; done) | (simp [lens]; omega)) (by first | omega | assumption | (simp only [lens]; first | omega | assumption) | (simp [lens]; done) | (simp [lens]; omega)) ?_) | (refine st_full rfl 28 _ _ rfl hm rfl rfl 2 rfl agg28 (by first | omega | assumption | (simp only [lens]; first | omega | assumption) | (simp [lens]; done) | (simp [lens]; omega)) (by first | omega | assumption | (simp only [lens]; first | omega | assumption) | (simp [lens]; done) | (simp [lens]; omega)) ?_) | (refine st_full rfl 28 _ _ rfl hm rfl rfl 3 rfl agg28 (by first | omega | assumption | (simp only [lens]; first | omega | assumption) | (simp [lens]; done) | (simp [lens]; omega)) (by first | omega | assumption | (simp only [lens]; first | omega | assumption) | (simp [lens]; done) | (simp [lens]; omega)) ?_)); clear hm; intro ws hm; simp only [List.set_cons_zero, List.set_cons_succ] at hm) | ((with_reducible refine gt_field 28 1 ?_); refine st_field rfl 28 _ 1 rfl rfl field28_1 ?_) | ((with_reducible refine gt_elem 26 ?_); refine st_elem rfl 26 _ _ rfl rfl rfl arr26 (by first | omega | assumption | (simp only [lens]; first | omega | assumption) | (simp [lens]; done) | (simp [lens]; omega)) (by first | omega | assumption | (simp only [lens]; first | omega | assumption) | (simp [lens]; done) | (simp [lens]; omega)) ?_) | ((with_reducible refine gt_store 24 ?_); (first | (refine st_set rfl 24 _ _ rfl hm rfl rfl 0 rfl one24 (by first | omega | assumption | (simp only [lens]; first | omega | assumption) | (simp [lens]; done) | (simp [lens]; omega)) ?_) | (refine st_set rfl 24 _ _ rfl hm rfl rfl 1 rfl one24 (by first | omega | assumption | (simp only [lens]; first | omega | assumption) | (simp [lens]; done) | (simp [lens]; omega)) ?_) | (refine st_set rfl 24 _ _ rfl hm rfl rfl 2 rfl one24 (by first | omega | assumption | (simp only [lens]; first | omega | assumption) | (simp [lens]; done) | (simp [lens]; omega)) ?_) | (refine st_set rfl 24 _ _ rfl hm rfl rfl 3 rfl one24 (by first | omega | assumption | (simp only [lens]; first | omega | assumption) | (simp [lens]; done) | (simp [lens]; omega)) ?_)); clear hm; intro ws hm; simp only [List.set_cons_zero, List.set_cons_succ] at hm) | ((with_reducible refine gt_field 28 0 ?_); refine st_field rfl 28 _ 0 rfl rfl field28_0 ?_) | ((with_reducible refine gt_elem 25 ?_); refine st_elem rfl 25 _ _ rfl rfl rfl arr25 (by first | omega | assumption | (simp only [lens]; first | omega | assumption) | (simp [lens]; done) | (simp [lens]; omega)) (by first | omega | assumption | (simp only [lens]; first | omega | assumption) | (simp [lens]; done) | (simp [lens]; omega)) ?_) | ((with_reducible refine gt_load 28 ?_); (first | (refine st_load rfl 28 _ rfl hm rfl 0 rfl agg28 (by first | omega | assumption | (simp only [lens]; first | omega | assumption) | (simp [lens]; done) | (simp [lens]; omega)) ?_) | (refine st_load rfl 28 _ rfl hm rfl 1 rfl agg28 (by first | omega | assumption | (simp only [lens]; first | omega | assumption) | (simp [lens]; done) | (simp [lens]; omega)) ?_) | (refine st_load rfl 28 _ rfl hm rfl 2 rfl agg28 (by first | omega | assumption | (simp only [lens]; first | omega | assumption) | (simp [lens]; done) | (simp [lens]; omega)) ?_) | (refine st_load rfl 28 _ rfl hm rfl 3 rfl agg28 (by first | omega | assumption | (simp only [lens]; first | omega | assumption) | (simp [lens]; done) | (simp [lens]; omega)) ?_))))
         | (go_at_call 30; refine (HCUT.out _ (HD.out _ (hm.done (by simp [ho])))).mono ?_; rintro e wb ⟨rfl, nb, rfl⟩; replace hm := hm.drawn3 nb)
         | (go_at_call 31; refine (HPRE.out _).mono ?_; rintro e wc ⟨rfl, rfl⟩)
         | (go_at_call 32; first
           | (with_reducible refine (HNA.out _ (HD.out _ (hm.done (by simp [ho])))).mono ?_; rintro e wd ⟨rfl, hb⟩; replace hm := hm.after hb; clear hb)
           | (with_reducible refine (HNB.out _ (HD.out _ (hm.done (by simp [ho])))).mono ?_; rintro e we ⟨rfl, hb⟩; replace hm := hm.after hb; clear hb))
         | (go_at_call 33; refine (HIN.out _).mono ?_; rintro e wf ⟨rfl, nf, rfl⟩; replace hm := hm.drawn3 nf))
        ((try simp only [Exit.inBlock, Exit.then]); (first | (refine ret_cell hm rfl rfl 1 rfl agg28 (by first | omega | assumption | (simp only [lens]; first | omega | assumption) | (simp [lens]; done) | (simp [lens]; omega)) rfl ?_) | (refine ret_cell_tmp hm rfl rfl 1 rfl agg28 (by first | omega | assumption | (simp only [lens]; first | omega | assumption) | (simp [lens]; done) | (simp [lens]; omega)) rfl ?_)))
        exact ⟨by rw [HVN]; rfl, hm.done (by simp [ho])⟩
  ·have HI := Aside0.mk (show i = WS.length by omega)
   have HV := Aside0.mk (show V = if lockT L = l then some L else none by rw [HQ.out, HI.out, List.drop_length, goI]; simp only [if_pos hok])
   have HLT := Aside0.mk (fun W => implText_calls L W hLl (okL_fits hok))
   rw [if_pos hok] at HLT
   generalize lockT L = T at *
   by_cases he : T = l
   ·have HVL := Aside0.mk (HV.out.trans (if_pos he))
    go_wp2_with (first
     | (first | fail | ((with_reducible refine gt_alloc 2 28 ?_); refine st_alloc rfl 2 rfl 28 rfl hm zero28 ?_; clear hm; intro g2 w2 hm) | ((with_reducible refine gt_build 28 ?_); refine st_zero rfl 28 rfl built28 ?_) | ((with_reducible refine gt_alloc 4 28 ?_); refine st_alloc rfl 4 rfl 28 rfl hm zero28 ?_; clear hm; intro g4 w4 hm) | ((with_reducible refine gt_store 28 ?_); (first | (refine st_full rfl 28 _ _ rfl hm rfl rfl 0 rfl agg28 (by first | omega | assumption | (simp only [lens]; first | omega | assumption) | (simp [lens]; done) | (simp [lens]; omega)) (by first | omega | assumption | (simp only [lens]; first | omega | assumption) | (simp [lens]; done) | (simp [lens]; omega)) ?_) | (refine st_full rfl 28 _ _ rfl hm rfl rfl 1 rfl agg28 (by first | omega | assumption | (simp only [lens]; first | omega | assumption) | (simp [lens]; done) | (simp [lens]; omega)) (by first | omega | assumption | (simp only [lens]; first | omega | assumption) | (simp [lens]; done) | (simp [lens]; omega)) ?_) | (refine st_full rfl 28 _ _ rfl hm rfl rfl 2 rfl agg28 (by first | omega | assumption | (simp only [lens]; first | omega | assumption) | (simp [lens]; done) | (simp [lens]; omega)) (by first | omega | assumption | (simp only [lens]; first | omega | assumption) | (simp [lens]; done) | (simp [lens]; omega)) ?_) | (refine st_full rfl 28 _ _ rfl hm rfl rfl 3 rfl agg28 (by first | omega | assumption | (simp only [lens]; first | omega | assumption) | (simp [lens]; done) | (simp [lens]; omega)) (by first | omega | assumption | (simp only [lens]; first | omega | assumption) | (simp [lens]; done) | (simp [lens]; omega)) ?_)); clear hm; intro ws hm; simp only [List.set_cons_zero, List.set_cons_succ] at hm) | ((with_reducible refine gt_field 28 1 ?_); refine st_field rfl 28 _ 1 rfl rfl field28_1 ?_) | ((with_reducible refine gt_elem 26 ?_); refine st_elem rfl 26 _ _ rfl rfl rfl arr26 (by first | omega | assumption | (simp only [lens]; first | omega | assumption) | (simp [lens]; done) | (simp [lens]; omega)) (by first | omega | assumption | (simp only [lens]; first | omega | assumption) | (simp [lens]; done) | (simp [lens]; omega)) ?_) | ((with_reducible refine gt_store 24 ?_); (first | (refine st_set rfl 24 _ _ rfl hm rfl rfl 0 rfl one24 (by first | omega | assumption | (simp only [lens]; first | omega | assumption) | (simp [lens]; done) | (simp [lens]; omega)) ?_) | (refine st_set rfl 24 _ _ rfl hm rfl rfl 1 rfl one24 (by first | omega | assumption | (simp only [lens]; first | omega | assumption) | (simp [lens]; done) | (simp [lens]; omega)) ?_) | (refine st_set rfl 24 _ _ rfl hm rfl rfl 2 rfl one24 (by first | omega | assumption | (simp only [lens]; first | omega | assumption) | (simp [lens]; done) | (simp [lens]; omega)) ?_) | (refine st_set rfl 24 _ _ rfl hm rfl rfl 3 rfl one24 (by first | omega | assumption | (simp only [lens]; first | omega | assumption) | (simp [lens]; done) | (simp [lens]; omega)) ?_)); clear hm; intro ws hm; simp only [List.set_cons_zero, List.set_cons_succ] at hm) | ((with_reducible refine gt_field 28 0 ?_); refine st_field rfl 28 _ 0 rfl rfl field28_0 ?_) | ((with_reducible refine gt_elem 25 ?_); refine st_elem rfl 25 _ _ rfl rfl rfl arr25 (by first | omega | assumption | (simp only [lens]; first | omega | assumption) | (simp [lens]; done) | (simp [lens]; omega)) (by first | omega | assumption | (simp only [lens]; first | omega | assumption) | (simp [lens]; done) | (simp [lens]; omega)) ?_) | ((with_reducible refine gt_load 28 ?_); (first | (refine st_load rfl 28 _ rfl hm rfl 0 rfl agg28 (by first | omega | assumption | (simp only [lens]; first | omega | assumption) | (simp [lens]; done) | (simp [lens]; omega)) ?_) | (refine st_load rfl 28 _ rfl hm rfl 1 rfl agg28 (by first | omega | assumption | (simp only [lens]; first | omega | assumption) | (simp [lens]; done) | (simp [lens]; omega)) ?_) | (refine st_load rfl 28 _ rfl hm rfl 2 rfl agg28 (by first | omega | assumption | (simp only [lens]; first | omega | assumption) | (simp [lens]; done) | (simp [lens]; omega)) ?_) | (refine st_load rfl 28 _ rfl hm rfl 3 rfl agg28 (by first | omega | assumption | (simp only [lens]; first | omega | assumption) | (simp [lens]; done) | (simp [lens]; omega)) ?_))))
     | (go_at_call 10; refine (HLT.out _).mono ?_; rintro e wa ⟨rfl, hb⟩; replace hm := hm.after hb; clear hb))
    ((try simp only [Exit.inBlock, Exit.then]); (first | (refine ret_cell hm rfl rfl 1 rfl agg28 (by first | omega | assumption | (simp only [lens]; first | omega | assumption) | (simp [lens]; done) | (simp [lens]; omega)) rfl ?_) | (refine ret_cell_tmp hm rfl rfl 1 rfl agg28 (by first | omega | assumption | (simp only [lens]; first | omega | assumption) | (simp [lens]; done) | (simp [lens]; omega)) rfl ?_)))
    exact ⟨by rw [HVL.out]; rfl, hm.done (by simp [ho])⟩
   ·have HVL := Aside0.mk (HV.out.trans (if_neg he))
    go_wp2_with (first
     | (first | fail | ((with_reducible refine gt_alloc 2 28 ?_); refine st_alloc rfl 2 rfl 28 rfl hm zero28 ?_; clear hm; intro g2 w2 hm) | ((with_reducible refine gt_build 28 ?_); refine st_zero rfl 28 rfl built28 ?_) | ((with_reducible refine gt_alloc 4 28 ?_); refine st_alloc rfl 4 rfl 28 rfl hm zero28 ?_; clear hm; intro g4 w4 hm) | ((with_reducible refine gt_store 28 ?_); (first | (refine st_full rfl 28 _ _ rfl hm rfl rfl 0 rfl agg28 (by first | omega | assumption | (simp only [lens]; first | omega | assumption) | (simp [lens]; done) | (simp [lens]; omega)) (by first | omega | assumption | (simp only [lens]; first | omega | assumption) | (simp [lens]; done) | (simp [lens]; omega)) ?_) | (refine st_full rfl 28 _ _ rfl hm rfl rfl 1 rfl agg28 (by first | omega | assumption | (simp only [lens]; first | omega | assumption) | (simp [lens]; done) | (simp [lens]; omega)) (by first | omega | assumption | (simp only [lens]; first | omega | assumption) | (simp [lens]; done) | (simp [lens]; omega)) ?_) | (refine st_full rfl 28 _ _ rfl hm rfl rfl 2 rfl agg28 (by first | omega | assumption | (simp only [lens]; first | omega | assumption) | (simp [lens]; done) | (simp [lens]; omega)) (by first | omega | assumption | (simp only [lens]; first | omega | assumption) | (simp [lens]; done) | (simp [lens]; omega)) ?_) | (refine st_full rfl 28 _ _ rfl hm rfl rfl 3 rfl agg28 (by first | omega | assumption | (simp only [lens]; first | omega | assumption) | (simp [lens]; done) | (simp [lens]; omega)) (by first | omega | assumption | (simp only [lens]; first | omega | assumption) | (simp [lens]; done) | (simp [lens]; omega)) ?_)); clear hm; intro ws hm; simp only [List.set_cons_zero, List.set_cons_succ] at hm) | ((with_reducible refine gt_field 28 1 ?_); refine st_field rfl 28 _ 1 rfl rfl field28_1 ?_) | ((with_reducible refine gt_elem 26 ?_); refine st_elem rfl 26 _ _ rfl rfl rfl arr26 (by first | omega | assumption | (simp only [lens]; first | omega | assumption) | (simp [lens]; done) | (simp [lens]; omega)) (by first | omega | assumption | (simp only [lens]; first | omega | assumption) | (simp [lens]; done) | (simp [lens]; omega)) ?_) | ((with_reducible refine gt_store 24 ?_); (first | (refine st_set rfl 24 _ _ rfl hm rfl rfl 0 rfl one24 (by first | omega | assumption | (simp only [lens]; first | omega | assumption) | (simp [lens]; done) | (simp [lens]; omega)) ?_) | (refine st_set rfl 24 _ _ rfl hm rfl rfl 1 rfl one24 (by first | omega | assumption | (simp only [lens]; first | omega | assumption) | (simp [lens]; done) | (simp [lens]; omega)) ?_) | (refine st_set rfl 24 _ _ rfl hm rfl rfl 2 rfl one24 (by first | omega | assumption | (simp only [lens]; first | omega | assumption) | (simp [lens]; done) | (simp [lens]; omega)) ?_) | (refine st_set rfl 24 _ _ rfl hm rfl rfl 3 rfl one24 (by first | omega | assumption | (simp only [lens]; first | omega | assumption) | (simp [lens]; done) | (simp [lens]; omega)) ?_)); clear hm; intro ws hm; simp only [List.set_cons_zero, List.set_cons_succ] at hm) | ((with_reducible refine gt_field 28 0 ?_); refine st_field rfl 28 _ 0 rfl rfl field28_0 ?_) | ((with_reducible refine gt_elem 25 ?_); refine st_elem rfl 25 _ _ rfl rfl rfl arr25 (by first | omega | assumption | (simp only [lens]; first | omega | assumption) | (simp [lens]; done) | (simp [lens]; omega)) (by first | omega | assumption | (simp only [lens]; first | omega | assumption) | (simp [lens]; done) | (simp [lens]; omega)) ?_) | ((with_reducible refine gt_load 28 ?_); (first | (refine st_load rfl 28 _ rfl hm rfl 0 rfl agg28 (by first | omega | assumption | (simp only [lens]; first | omega | assumption) | (simp [lens]; done) | (simp [lens]; omega)) ?_) | (refine st_load rfl 28 _ rfl hm rfl 1 rfl agg28 (by first | omega | assumption | (simp only [lens]; first | omega | assumption) | (simp [lens]; done) | (simp [lens]; omega)) ?_) | (refine st_load rfl 28 _ rfl hm rfl 2 rfl agg28 (by first | omega | assumption | (simp only [lens]; first | omega | assumption) | (simp [lens]; done) | (simp [lens]; omega)) ?_) | (refine st_load rfl 28 _ rfl hm rfl 3 rfl agg28 (by first | omega | assumption | (simp only [lens]; first | omega | assumption) | (simp [lens]; done) | (simp [lens]; omega)) ?_))))
     | (go_at_call 10; refine (HLT.out _).mono ?_; rintro e wa ⟨rfl, hb⟩; replace hm := hm.after hb; clear hb))
    ·((try simp only [Exit.inBlock, Exit.then]); (first | (refine ret_cell hm rfl rfl 1 rfl agg28 (by first | omega | assumption | (simp only [lens]; first | omega | assumption) | (simp [lens]; done) | (simp [lens]; omega)) rfl ?_) | (refine ret_cell_tmp hm rfl rfl 1 rfl agg28 (by first | omega | assumption | (simp only [lens]; first | omega | assumption) | (simp [lens]; done) | (simp [lens]; omega)) rfl ?_)))
     exact ⟨by rw [HVL.out]; rfl, hm.done (by simp [ho])⟩
    ·rename_i hTl
     exact absurd (by simpa using hTl) he
end Go.Proofs.YthaoopbfggnceaaGreatDoor.Arr
namespace Go.Proofs.YthaoopbfggnceaaGreatDoor.Arr
open Go.RowKit Go.Proofs.YthaoopbfggnceaaGreatDoorW.PrintWords Go.Proofs.YthaoopbfggnceaaGreatDoorW.PrintLast Go.Proofs.YthaoopbfggnceaaGreatDoorW.PrintMore Go.Proofs.YthaoopbfggnceaaGreatDoor.U Go.Proofs.YthaoopbfggnceaaGreatDoor.L
set_option linter.unusedVariables false
set_option linter.unusedSimpArgs false
theorem a2Long' (A0 : Option Addr) (c0 : Nat) (l : List Int) (A1 : Option Addr) (c1 : Nat) (l' : List Int) (W : World) (h : Kd.C (Kd.int .u8) W A0 l.length l) (hc : l.length ≤ c0) (h' : Kd.C (Kd.int .u8) W A1 l'.length l') (hc' : l'.length ≤ c1) :
  Calls Tryz.prog 4 #[.slice A0 l.length c0, .slice A1 l'.length c1] W fun e w' => e = .returned (.bool (decide (3000 < l.length ∨ 3000 < l'.length))) ∧ Below W.heap.size W w' := by
 have hf : laws_a2Long.f l l' = some (decide (3000 < l.length ∨ 3000 < l'.length)) := by
  unfold laws_a2Long.f
  by_cases h1 : (l.length : Int) > 3000
  ·rw [if_pos h1, decide_eq_true (Or.inl (by omega))]
  ·rw [if_neg h1]
   congr 1
   rw [decide_eq_decide]
   omega
 refine (laws_a2Long.calls A0 c0 l A1 c1 l' _ W h hc h' hc' hf).mono ?_
 rintro e w' ⟨rfl, hb⟩
 exact ⟨rfl, hb.below⟩
theorem byt_ofS {c : List Int} (wf : WfL (WfI .u8) c) (hl : c.length ≤ 3000) : Byt c := ⟨by omega, fun x hx => by
 have h := wf.2 x hx
 unfold WfI at h
 simp only [Lit.wf, IntKind.min, IntKind.max, IntKind.signed, IntKind.bits, Bool.and_eq_true, decide_eq_true_eq] at h
 simp at h
 omega⟩
def Rw (R : List Ent) (A : Option Addr) (h : List Int) : Prop := ∀ W, Held R W → Kd.C (Kd.int .i8) W A h.length h
theorem A2Hoist_keeps (A0 : Option Addr) (c0 : Nat) (l h : List Int) (hev : Ev (fun k => spec_A2Hoist.f k l) h) (w : World) (hr : Kd.C (Kd.int .u8) w A0 l.length l) (hc : l.length ≤ c0) :
  Calls Tryz.prog 6 #[.slice A0 l.length c0] w fun e w' => ∃ A c R, e = .returned (.slice A h.length c) ∧ h.length ≤ c ∧ newEnts w' w.heap.size = R ∧ R.all (·.own) = true ∧ Rw R A h ∧ Below w.heap.size w w' := by
 obtain ⟨k, hk⟩ := hev.rounds
 refine (spec_A2Hoist.calls k A0 c0 l h w hr hc hk).mono ?_
 rintro e w' ⟨v, rfl, hR, hb⟩
 obtain ⟨A, c, rfl, h1, h2⟩ := Kd.R_reads hR
 exact ⟨A, c, _, rfl, h1, rfl, newEnts_own, fun W hh => C_held hR hh, hb⟩
theorem C_three {w : World} {g : Nat} {t : TypeId} {A1 A2 A3 : Option Addr} {c1 c2 c3 : Nat} {h1 h2 h3 : List Int} (hb : w.heap[g]? = some (.cells #[.slice A1 h1.length c1, .slice A2 h2.length c2, .slice A3 h3.length c3] t (0, 0)))
  (l1 : h1.length ≤ c1) (l2 : h2.length ≤ c2) (l3 : h3.length ≤ c3) (k1 : Kd.C (Kd.int .i8) w A1 h1.length h1) (k2 : Kd.C (Kd.int .i8) w A2 h2.length h2) (k3 : Kd.C (Kd.int .i8) w A3 h3.length h3) : Kd.C hk w (some ⟨g, 0, none⟩) [h1, h2, h3].length [h1, h2, h3] := by
 have hcell : ∀ (j : Nat) (v : Value), #[Value.slice A1 h1.length c1, .slice A2 h2.length c2, .slice A3 h3.length c3][j]? = some v → w.cell? ((⟨g, 0, none⟩ : Addr).add (j * 1 + 0)) = some v := fun j v hv => by
  have hadd : (⟨g, 0, none⟩ : Addr).add (j * 1 + 0) = ⟨g, j, none⟩ := by unfold Addr.add; split <;> simp_all
  rw [hadd, cell_of_row w g j _ t (0, 0) hb]
  exact hv
 refine ⟨rfl, by simp, fun _ => ⟨_, rfl, fun j y hj => ?_⟩⟩
 have one : ∀ (A : Option Addr) (c : Nat) (h : List Int), h.length ≤ c → Kd.C (Kd.int .i8) w A h.length h → w.cell? ((⟨g, 0, none⟩ : Addr).add (j * 1 + 0)) = some (.slice A h.length c) → ∃ cs : List Value, cs.length = 1 ∧ (Kd.slice 45 (Kd.int .i8)).K w h cs ∧ ∀ i u, cs[i]? = some u → w.cell? ((⟨g, 0, none⟩ : Addr).add (j * 1 + i)) = some u := fun A c h hl hk hc => by
  refine ⟨[.slice A h.length c], rfl, ⟨A, c, rfl, hl, hk⟩, fun i u hu => ?_⟩
  rcases i with _ | i
  ·cases hu; exact hc
  ·simp at hu
 have hj3 := (List.getElem?_eq_some_iff.1 hj).1
 have : j = 0 ∨ j = 1 ∨ j = 2 := by simp at hj3; omega
 rcases this with rfl | rfl | rfl
 ·simp at hj; subst hj; exact one A1 c1 h1 l1 k1 (hcell 0 _ rfl)
 ·simp at hj; subst hj; exact one A2 c2 h2 l2 k2 (hcell 1 _ rfl)
 ·simp at hj; subst hj; exact one A3 c3 h3 l3 k3 (hcell 2 _ rfl)
theorem eqLk : EqTy Tryz.prog 28 .i16 44 :=
 eqTy_two (by kernel_rfl) Tryz.underlying28 (by kernel_rfl) rfl rfl agg25 agg26 rfl rfl Tryz.underlying25 Tryz.underlying26 Tryz.underlying24 Tryz.underlying24 one24 one24
theorem st_neq {P : Program} {ops : Array Oper} {rest : List Oper} {o : Oper} {a : Act} {Q : Exit → Act → World → Prop} {w : World} (hgd : o.guard = none) (t t' : TypeId) (x y : Operand) (ho : o.op = .binOp .neq t x y t') {k : IntKind} {m : Nat} {L L' : List Int} (hx : a.eval x = .agg (vals k L)) (hy : a.eval y = .agg (vals k L'))
  (he : EqTy P t k m) (hl : L.length = m) (hl' : L'.length = m) (h : wpList P ops Q rest (a.put o.dst (.bool (!decide (L = L')))) w) : wpList P ops Q (o :: rest) a w := by
 refine wpList_plain hgd fun K hK => ?_
 unfold Oper.wp execOp
 simp only [ho, hx, hy, Sem.run_bind, run_eqGuard_agg w .neq t x y _ _ he.1, Result.andThen_ok, run_neq_struct, he.2 w L L' hl hl', Sem.run_pure]
 exact hK _ _ h
theorem st_neqS {P : Program} {ops : Array Oper} {rest : List Oper} {o : Oper} {a : Act} {Q : Exit → Act → World → Prop} {w : World} (hgd : o.guard = none) (t t' : TypeId) (x y : Operand) (ho : o.op = .binOp .neq t x y t') {k : IntKind} {m : Nat} {L : List Int} (hx : a.eval x = .agg (vals k L)) (hy : a.eval y = .agg (vals k L))
  (he : EqTy P t k m) (hl : L.length = m) (h : wpList P ops Q rest (a.put o.dst (.bool false)) w) : wpList P ops Q (o :: rest) a w :=
 st_neq hgd t t' x y ho hx hy he hl hl (by rw [decide_eq_true rfl]; exact h)
theorem st_lit3V {P : Program} {ops : Array Oper} {rest : List Oper} {o : Oper} {a : Act} {w0 w : World} {M : List Ent} {Q : Exit → Act → World → Prop} (hgd : o.guard = none) (d : Nat) (hdst : o.dst = some d) (t : TypeId) (x y z : Operand) (ho : o.op = .buildSlice t 3 #[(0, x), (1, y), (2, z)]) (hm : Mem w0 w M) {A1 A2 A3 : Option Addr} {n1 n2 n3 c1 c2 c3 : Nat} {e : TypeId} (hx : a.eval x = .slice A1 n1 c1) (hy : a.eval y = .slice A2 n2 c2) (hz3 : a.eval z = .slice A3 n3 c3) (hu : P.underlying t = some (.slice e))
  (he : OneTy P e) (hz : ZeroTy P e #[.slice none 0 0])
  (h : ∀ g w1, Mem w0 w1 (⟨g, #[.slice A1 n1 c1, .slice A2 n2 c2, .slice A3 n3 c3], e, true⟩ :: M) → wpList P ops Q rest (a.put (some d) (.slice (some ⟨g, 0, none⟩) 3 3)) w1) : wpList P ops Q (o :: rest) a w := by
 obtain ⟨zz, hz, hzc⟩ := hz
 obtain ⟨_, hi⟩ := he
 refine wpList_plain hgd fun K hK => ?_
 rw [← hdst] at h
 unfold Oper.wp execOp
 cases hq : P.info? e with
 | none => simp [hq] at hi
 | some i =>
  have hs : i.size = 1 := by simpa [hq] using hi
  have hz' : i.zero = some zz := by simpa [hq] using hz
  have fill_s : ∀ (A : Option Addr) (n c : Nat) (cells : Array Value) (i : Nat) (place : Nat → Option (Nat × Nat)) (off : Nat) (rest : List (Nat × Value)), place i = some (off, 1) → off + 1 ≤ cells.size → Instr.fill place cells ((i, .slice A n c) :: rest) = Instr.fill place (cells.setIfInBounds off (.slice A n c)) rest := fun A n c cells i place off rest hp hc => by
   rw [Instr.fill, hp]
   have hs : (Value.slice A n c).cells.size = 1 := rfl
   simp only [hs]
   rw [if_neg (by simp; omega)]
   congr 1
  have hf := fill_s A1 n1 c1 ((Array.range (3 * 1)).map (zz.cells[· % zz.cells.size]!)) 0 (fun i => some (i * 1, 1)) 0 [(1, .slice A2 n2 c2), (2, .slice A3 n3 c3)] (by simp) (by simp)
  rw [fill_s A2 n2 c2 _ 1 _ 1 _ (by simp) (by simp), fill_s A3 n3 c3 _ 2 _ 2 _ (by simp) (by simp)] at hf
  have hc : (((((Array.range (3 * 1)).map (zz.cells[· % zz.cells.size]!)).setIfInBounds 0 (.slice A1 n1 c1)).setIfInBounds 1 (.slice A2 n2 c2)).setIfInBounds 2 (.slice A3 n3 c3)) = #[.slice A1 n1 c1, .slice A2 n2 c2, .slice A3 n3 c3] := by
   rw [show Array.range (3 * 1) = #[0, 1, 2] from rfl]
   generalize (fun x => zz.cells[x % zz.cells.size]!) = f
   simp
  rw [hc] at hf
  have hrun : (Instr.buildSlice t 3 #[(0, .slice A1 n1 c1), (1, .slice A2 n2 c2), (2, .slice A3 n3 c3)]).run P w = .ok (.slice (some ⟨w.heap.size, 0, none⟩) 3 3) (w.alloc (.cells #[.slice A1 n1 c1, .slice A2 n2 c2, .slice A3 n3 c3] e)) := by
   simp only [Instr.buildSlice, Sem.run_bind, run_underlying hu w, Result.andThen_ok, sizeOf, typeInfo, run_program, hq, Sem.run_pure, hs, zeroValue, hz']
   rw [if_neg (by omega), if_neg (by omega)]
   simp only [Sem.run_bind, Sem.run_pure, Result.andThen_ok, hq, hz', hf, run_program]
   simp [Instr.fill, newRow, Sem.run_bind]
  simp only [ho, List.map_toArray, List.map_cons, List.map_nil, hx, hy, hz3, Sem.run_bind, hrun, Sem.run_pure, Result.andThen_ok]
  exact hK _ _ (h _ _ (hm.new _ _))
theorem oneHo : OneTy Tryz.prog 31 := ⟨by kernel_rfl, by kernel_rfl⟩
theorem zeroHo : ZeroTy Tryz.prog 31 #[.slice none 0 0] := ⟨.slice none 0 0, by kernel_rfl, rfl⟩
theorem lockT_len (L : List Int) : (lockT L).length ≤ 1048576 := by
 rw [lockT_spec]
 have := spT_len L 44
 split
 ·simp
 ·rw [List.length_drop]; omega
theorem any_of {hs : List (List Int)} (hk : ∀ h ∈ hs, okH h = true) (hn : hs.length ≤ 6) : Any hs := by
 refine ⟨by omega, fun h hh => ?_⟩
 have h1 := okH_num (hk h hh)
 have h2 := okH_len (hk h hh)
 exact ⟨by omega, fun x hx => by have := h1 x hx; omega⟩
theorem needRes_three {hs : List (List Int)} (hk : ∀ h ∈ hs, okH h = true) (hn : hs.length = 3) : needRes hs = if okL (needs (zs 44) hs 3) = true then .tuple #[.agg (vals .i16 (needs (zs 44) hs 3)), .int .i64 0] else .tuple #[.agg (vals .i16 (zs 44)), .int .i64 3] := by
 unfold needRes
 rw [if_pos (codeH_ok hk (by omega)), hn]
theorem readBack {L : List Int} (hl : L.length = 44) (hok : okL L = true) : readRes (readI (lockT L)) = .tuple #[.agg (vals .i16 L), .int .i64 0] := by
 rw [(read_whole L hl hok).2]
 rfl
theorem count_three (hs : List (List Int)) (hk : ∀ h ∈ hs, okH h = true) (hn : hs.length = 3) (hN : okL (needs (zs 44) hs 3) = true) (W : World) :
  Calls Tryz.prog 18 #[.agg (vals .i16 (needs (zs 44) hs 3))] W fun e w' => e = .returned (.tuple #[.int .i64 (cns hs 3), .int .i64 0]) ∧ Below W.heap.size W w' := by
 have hp := psum_needs hs hk 3 (by omega)
 have hc := implCount_calls (needs (zs 44) hs 3) W (by rw [needs_length, zs_length]) (okL_fits hN)
 generalize needs (zs 44) hs 3 = N at *
 generalize psum N 44 = q at *
 rw [if_pos hN, hp] at hc
 exact hc
theorem three_at {w : World} {g k : Nat} {t : TypeId} {M : List Ent} {A1 A2 A3 : Option Addr} {c1 c2 c3 : Nat} {h1 h2 h3 : List Int} (hk : M[k]? = some ⟨g, #[.slice A1 h1.length c1, .slice A2 h2.length c2, .slice A3 h3.length c3], t, true⟩)
  (l1 : h1.length ≤ c1) (l2 : h2.length ≤ c2) (l3 : h3.length ≤ c3) (k1 : ∀ W, Mem w W M → Kd.C (Kd.int .i8) W A1 h1.length h1) (k2 : ∀ W, Mem w W M → Kd.C (Kd.int .i8) W A2 h2.length h2) (k3 : ∀ W, Mem w W M → Kd.C (Kd.int .i8) W A3 h3.length h3) (i : Nat) (hi : i < 3) :
  ∃ (A : Option Addr) (c : Nat) (x : List Int), x = [h1, h2, h3].getD i [] ∧ x ∈ [h1, h2, h3] ∧ x.length ≤ c ∧ (∀ W, Mem w W M → W.cell? ⟨g, i, none⟩ = some (.slice A x.length c)) ∧ ∀ W, Mem w W M → Kd.C (Kd.int .i8) W A x.length x := by
 have hcell : ∀ (j : Nat) (v : Value), #[Value.slice A1 h1.length c1, .slice A2 h2.length c2, .slice A3 h3.length c3][j]? = some v → ∀ W, Mem w W M → W.cell? ⟨g, j, none⟩ = some v := fun j v hv W hm => by
  rw [cell_of_row W g j _ t (0, 0) (hm.mem hk)]
  exact hv
 have : i = 0 ∨ i = 1 ∨ i = 2 := by omega
 rcases this with rfl | rfl | rfl
 ·exact ⟨A1, c1, h1, rfl, by simp, l1, hcell 0 _ rfl, k1⟩
 ·exact ⟨A2, c2, h2, rfl, by simp, l2, hcell 1 _ rfl, k2⟩
 ·exact ⟨A3, c3, h3, rfl, by simp, l3, hcell 2 _ rfl, k3⟩
theorem cn_le (x : List Int) : ∀ k : Nat, 0 ≤ cn x k ∧ cn x k ≤ k
 | 0 => by simp [cn]
 | k + 1 => by
  have := cn_le x k
  rw [cn]
  split <;> omega
theorem cns_le (hs : List (List Int)) (h8 : ∀ h ∈ hs, h.length ≤ 8) : ∀ i : Nat, i ≤ hs.length → 0 ≤ cns hs i ∧ cns hs i ≤ 8 * i
 | 0, _ => by simp [cns]
 | i + 1, hi => by
  have h1 := cns_le hs h8 i (by omega)
  have h2 := cn_le (hs.getD i []) (hs.getD i []).length
  have h3 := h8 _ (getD_mem (hs := hs) (n := i) (by omega))
  rw [cns]
  omega
end Go.Proofs.YthaoopbfggnceaaGreatDoor.Arr
