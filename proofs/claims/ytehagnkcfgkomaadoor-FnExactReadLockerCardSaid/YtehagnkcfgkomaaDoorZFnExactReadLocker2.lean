/- The texts that the statement FnExactReadLocker needs, part 2: contracts of the program's functions and plain laws, without what it does not reach. No condition beyond what each theorem says. -/
import Derived.Shelf.Strconv.Itoa4
import Derived.Shelf.Strings.OnBuilder
import Derived.Test.YtehagnkcfgkomaaDoorProg
import Derived.KernelRfl
import Derived.Below
import Derived.Deep.Draws
import Derived.Deep.AppendLies
import Derived.Maps.AppendAt
import Derived.OwnWalk
import Derived.Laws.BytesArg
import Derived.Laws.MakeOwn
import Derived.Laws.OwnMore
import Derived.Deep.OwnRows
import Derived.Tactics
import Derived.Lib.ConvBytes
import Derived.Laws.Slices
import Derived.WalkKit
import Derived.RowKit3
import Derived.Deep.LoopGhost
import Derived.Deep.QuietTactic
import Derived.BigQuiet
import Derived.WideLaws
import Derived.Deep.DeepCutAuto
import Derived.Deep.CutBlock
import Derived.Deep.RegionHeld3
import Derived.Laws.Rows
import Derived.Lib.AppendStr
import Derived.ArgAppend
import Derived.Laws.IdiomCopy
import Derived.RowKit
import Derived.OrdersHeld
import Derived.Laws.BitsLemmas
import Derived.Laws.StructEq
import Derived.Laws.Tables
import Derived.BigFrame
import Derived.Laws.CopyRow
import Derived.Laws.ResultCell
import Derived.WalkSpells
import Derived.Lib.SplitLaws
import Derived.Lib.ParseIntB
import Derived.Lib.CountLaws
import Derived.Shelf.Strings.SplitShaped
import Derived.Shelf.Strings.Shaped
import Derived.Shelf.Small.Wraps
import Derived.Shelf.Strconv.ErrVarParseInt
import Derived.Lib.SmallJoins
import Derived.Lib.AppendIntMem
import Derived.Lib.ParseIntBTie
import Derived.ProofKit
import Derived.OpenShut
import Derived.Deep.Slices
import Derived.Test.YtehagnkcfgkomaaDoorRows
import Derived.ShutString
import Derived.ChangeOld
import Derived.SizedLaws
import Derived.HandedShaped
import Derived.LaidMore
import Derived.Lay
import Derived.Stop.Joined
import Derived.Stop.LaidErr
import Derived.Lib.LaidTab
import Derived.Test.YtehagnkcfgkomaaDoorCards
import Derived.Test.YtehagnkcfgkomaaDoorTie
import Derived.SevenTiedAt
import Derived.Test.YtehagnkcfgkomaaDoorZFnExactReadLocker1
namespace Go.Proofs.YtehagnkcfgkomaaDoor.Arr
open Go.Shelf Go.Proofs
set_option maxRecDepth 100000
def ren146 : Ren :=
{
 f := fun x =>
  match x with
  | 146 => 21
  | 221 => 37
  | 268 => 45
  | 138 => 46
  | 143 => 47
  | 195 => 58
  | 197 => 59
  | 218 => 60
  | 219 => 48
  | 260 => 75
  | 217 => 61
  | 225 => 62
  | 224 => 63
  | 267 => 64
  | 266 => 76
  | 314 => 77
  | n => n,
 t := fun x =>
  match x with
  | 9 => 9
  | 31 => 41
  | 3 => 3
  | 4 => 4
  | 0 => 0
  | 105 => 98
  | 21 => 21
  | 5 => 5
  | 46 => 102
  | 119 => 123
  | 139 => 126
  | 138 => 125
  | 146 => 115
  | 51 => 111
  | n => n,
 g := fun x =>
  match x with
  | 1 => 0
  | 3 => 4
  | 4 => 5
  | n => n }
theorem lay146 : LaysM.n146 Go.Proofs.Tryd.prog ren146 where
 mixed := by kernel_rfl
 f138 := Eq.trans Go.Proofs.Tryd.func46 (congrArg some (by kernel_rfl))
 f143 := Eq.trans Go.Proofs.Tryd.func47 (congrArg some (by kernel_rfl))
 f146 := Eq.trans Go.Proofs.Tryd.func21 (congrArg some (by kernel_rfl))
 f195 := Eq.trans Go.Proofs.Tryd.func58 (congrArg some (by kernel_rfl))
 f197 := Eq.trans Go.Proofs.Tryd.func59 (congrArg some (by kernel_rfl))
 f217 := Eq.trans Go.Proofs.Tryd.func61 (congrArg some (by kernel_rfl))
 f218 := Eq.trans Go.Proofs.Tryd.func60 (congrArg some (by kernel_rfl))
 f219 := Eq.trans Go.Proofs.Tryd.func48 (congrArg some (by kernel_rfl))
 f221 := Eq.trans Go.Proofs.Tryd.func37 (congrArg some (by kernel_rfl))
 f224 := Eq.trans Go.Proofs.Tryd.func63 (congrArg some (by kernel_rfl))
 f225 := Eq.trans Go.Proofs.Tryd.func62 (congrArg some (by kernel_rfl))
 f260 := Eq.trans Go.Proofs.Tryd.func75 (congrArg some (by kernel_rfl))
 f266 := Eq.trans Go.Proofs.Tryd.func76 (congrArg some (by kernel_rfl))
 f267 := Eq.trans Go.Proofs.Tryd.func64 (congrArg some (by kernel_rfl))
 f268 := Eq.trans Go.Proofs.Tryd.func45 (congrArg some (by kernel_rfl))
 f314 := Eq.trans Go.Proofs.Tryd.func77 (congrArg some (by kernel_rfl))
 t0 := Go.Proofs.Tryd.underlying0
 a0 := Go.Proofs.Tryd.isAgg0
 z0 := Go.Proofs.Tryd.sizeOf0
 v0 := Go.Proofs.Tryd.zeroValue0
 t3 := Go.Proofs.Tryd.underlying3
 a3 := Go.Proofs.Tryd.isAgg3
 z3 := Go.Proofs.Tryd.sizeOf3
 v3 := Go.Proofs.Tryd.zeroValue3
 t4 := Go.Proofs.Tryd.underlying4
 a4 := Go.Proofs.Tryd.isAgg4
 z4 := Go.Proofs.Tryd.sizeOf4
 v4 := Go.Proofs.Tryd.zeroValue4
 t5 := Go.Proofs.Tryd.underlying5
 a5 := Go.Proofs.Tryd.isAgg5
 z5 := Go.Proofs.Tryd.sizeOf5
 v5 := Go.Proofs.Tryd.zeroValue5
 t9 := Go.Proofs.Tryd.underlying9
 a9 := Go.Proofs.Tryd.isAgg9
 z9 := Go.Proofs.Tryd.sizeOf9
 v9 := Go.Proofs.Tryd.zeroValue9
 t21 := Go.Proofs.Tryd.underlying21
 a21 := Go.Proofs.Tryd.isAgg21
 z21 := Go.Proofs.Tryd.sizeOf21
 v21 := Go.Proofs.Tryd.zeroValue21
 t31 := Go.Proofs.Tryd.underlying41
 a31 := Go.Proofs.Tryd.isAgg41
 z31 := Go.Proofs.Tryd.sizeOf41
 v31 := Go.Proofs.Tryd.zeroValue41
 t46 := Go.Proofs.Tryd.underlying102
 a46 := Go.Proofs.Tryd.isAgg102
 z46 := Go.Proofs.Tryd.sizeOf102
 v46 := Go.Proofs.Tryd.zeroValue102
 t51 := Go.Proofs.Tryd.underlying111
 a51 := Go.Proofs.Tryd.isAgg111
 z51 := Go.Proofs.Tryd.sizeOf111
 v51 := Go.Proofs.Tryd.zeroValue111
 t105 := Go.Proofs.Tryd.underlying98
 a105 := Go.Proofs.Tryd.isAgg98
 z105 := Go.Proofs.Tryd.sizeOf98
 v105 := Go.Proofs.Tryd.zeroValue98
 t119 := Go.Proofs.Tryd.underlying123
 a119 := Go.Proofs.Tryd.isAgg123
 z119 := Go.Proofs.Tryd.sizeOf123
 t138 := Go.Proofs.Tryd.underlying125
 a138 := Go.Proofs.Tryd.isAgg125
 z138 := Go.Proofs.Tryd.sizeOf125
 v138 := Go.Proofs.Tryd.zeroValue125
 t139 := Go.Proofs.Tryd.underlying126
 a139 := Go.Proofs.Tryd.isAgg126
 z139 := Go.Proofs.Tryd.sizeOf126
 v139 := Go.Proofs.Tryd.zeroValue126
 t146 := Go.Proofs.Tryd.underlying115
 a146 := Go.Proofs.Tryd.isAgg115
 z146 := Go.Proofs.Tryd.sizeOf115
 v146 := Go.Proofs.Tryd.zeroValue115
 g1 := by kernel_rfl
 g3 := by kernel_rfl
 g4 := by kernel_rfl
 i0 := Eq.refl (some (some (Value.tuple #[]), 1, 0))
 i3 := Eq.refl (some (some (Value.int IntKind.i64 0), 1, 8))
 i4 := Eq.refl (some (some (Value.bool false), 1, 1))
 i5 := Eq.refl (some (some (Value.int IntKind.u8 0), 1, 1))
 i9 := Eq.refl (some (some (Value.string { data := #[] }), 1, 16))
 i21 := Eq.refl (some (some (Value.int IntKind.i32 0), 1, 4))
 i31 := Eq.refl (some (some (Value.slice none 0 0), 1, 24))
 i46 := Eq.refl (some (some (Value.int IntKind.u64 0), 1, 8))
 i51 := Eq.refl (some (some (Value.int IntKind.u32 0), 1, 4))
 i105 := Eq.refl (some (some (Value.tuple #[Value.int IntKind.i32 0, Value.int IntKind.i64 0]), 1, 0))
 i138 := Eq.refl (some (some (Value.agg #[Value.int IntKind.u8 0, Value.int IntKind.u8 0]), 2, 2))
 i139 := Eq.refl (some (some (Value.agg #[Value.int IntKind.u8 0, Value.int IntKind.u8 0, Value.int IntKind.u8 0, Value.int IntKind.u8 0, Value.int IntKind.u8 0, Value.int IntKind.u8 0, Value.int IntKind.u8 0, Value.int IntKind.u8 0, Value.int IntKind.u8 0, Value.int IntKind.u8 0, Value.int IntKind.u8 0, Value.int IntKind.u8 0, Value.int IntKind.u8 0, Value.int IntKind.u8 0, Value.int IntKind.u8 0, Value.int IntKind.u8 0, Value.int IntKind.u8 0, Value.int IntKind.u8 0, Value.int IntKind.u8 0, Value.int IntKind.u8 0, Value.int IntKind.u8 0, Value.int IntKind.u8 0, Value.int IntKind.u8 0, Value.int IntKind.u8 0, Value.int IntKind.u8 0, Value.int IntKind.u8 0, Value.int IntKind.u8 0, Value.int IntKind.u8 0, Value.int IntKind.u8 0, Value.int IntKind.u8 0, Value.int IntKind.u8 0, Value.int IntKind.u8 0]), 32, 32))
 i146 := Eq.refl (some (some (Value.tuple #[Value.int IntKind.u32 0, Value.int IntKind.u32 0]), 1, 0))
 m1 := by kernel_rfl
 s1_3 := fun w h => cell_of_shapedOpen_int (zero := #[.int .i64 0]) (t := 3) h (of_decide_eq_true (by kernel_rfl)) (by kernel_rfl) rfl (by kernel_rfl) (by kernel_rfl) Go.Proofs.Tryd.underlying3
 m3 := by kernel_rfl
 m4 := by kernel_rfl
def ren145 : Ren :=
{
 f := fun x =>
  match x with
  | 145 => 22
  | 220 => 38
  | 219 => 48
  | 217 => 61
  | 225 => 62
  | 224 => 63
  | 267 => 64
  | 266 => 76
  | 314 => 77
  | n => n,
 t := fun x =>
  match x with
  | 9 => 9
  | 4 => 4
  | 59 => 49
  | 3 => 3
  | 5 => 5
  | 46 => 102
  | 146 => 115
  | 51 => 111
  | n => n,
 g := fun x =>
  match x with
  | 1 => 0
  | n => n }
theorem lay145 : LaysM.n145 Go.Proofs.Tryd.prog ren145 where
 mixed := by kernel_rfl
 f145 := Eq.trans Go.Proofs.Tryd.func22 (congrArg some (by kernel_rfl))
 f217 := Eq.trans Go.Proofs.Tryd.func61 (congrArg some (by kernel_rfl))
 f219 := Eq.trans Go.Proofs.Tryd.func48 (congrArg some (by kernel_rfl))
 f220 := Eq.trans Go.Proofs.Tryd.func38 (congrArg some (by kernel_rfl))
 f224 := Eq.trans Go.Proofs.Tryd.func63 (congrArg some (by kernel_rfl))
 f225 := Eq.trans Go.Proofs.Tryd.func62 (congrArg some (by kernel_rfl))
 f266 := Eq.trans Go.Proofs.Tryd.func76 (congrArg some (by kernel_rfl))
 f267 := Eq.trans Go.Proofs.Tryd.func64 (congrArg some (by kernel_rfl))
 f314 := Eq.trans Go.Proofs.Tryd.func77 (congrArg some (by kernel_rfl))
 t3 := Go.Proofs.Tryd.underlying3
 a3 := Go.Proofs.Tryd.isAgg3
 z3 := Go.Proofs.Tryd.sizeOf3
 v3 := Go.Proofs.Tryd.zeroValue3
 t4 := Go.Proofs.Tryd.underlying4
 a4 := Go.Proofs.Tryd.isAgg4
 z4 := Go.Proofs.Tryd.sizeOf4
 v4 := Go.Proofs.Tryd.zeroValue4
 t5 := Go.Proofs.Tryd.underlying5
 a5 := Go.Proofs.Tryd.isAgg5
 z5 := Go.Proofs.Tryd.sizeOf5
 v5 := Go.Proofs.Tryd.zeroValue5
 t9 := Go.Proofs.Tryd.underlying9
 a9 := Go.Proofs.Tryd.isAgg9
 z9 := Go.Proofs.Tryd.sizeOf9
 v9 := Go.Proofs.Tryd.zeroValue9
 t46 := Go.Proofs.Tryd.underlying102
 a46 := Go.Proofs.Tryd.isAgg102
 z46 := Go.Proofs.Tryd.sizeOf102
 v46 := Go.Proofs.Tryd.zeroValue102
 t51 := Go.Proofs.Tryd.underlying111
 a51 := Go.Proofs.Tryd.isAgg111
 z51 := Go.Proofs.Tryd.sizeOf111
 v51 := Go.Proofs.Tryd.zeroValue111
 t59 := Go.Proofs.Tryd.underlying49
 a59 := Go.Proofs.Tryd.isAgg49
 z59 := Go.Proofs.Tryd.sizeOf49
 v59 := Go.Proofs.Tryd.zeroValue49
 t146 := Go.Proofs.Tryd.underlying115
 a146 := Go.Proofs.Tryd.isAgg115
 z146 := Go.Proofs.Tryd.sizeOf115
 v146 := Go.Proofs.Tryd.zeroValue115
 g1 := by kernel_rfl
 i3 := Eq.refl (some (some (Value.int IntKind.i64 0), 1, 8))
 i4 := Eq.refl (some (some (Value.bool false), 1, 1))
 i5 := Eq.refl (some (some (Value.int IntKind.u8 0), 1, 1))
 i9 := Eq.refl (some (some (Value.string { data := #[] }), 1, 16))
 i46 := Eq.refl (some (some (Value.int IntKind.u64 0), 1, 8))
 i51 := Eq.refl (some (some (Value.int IntKind.u32 0), 1, 4))
 i59 := Eq.refl (some (some (Value.tuple #[Value.string { data := #[] }, Value.string { data := #[] }, Value.bool false]), 1, 0))
 i146 := Eq.refl (some (some (Value.tuple #[Value.int IntKind.u32 0, Value.int IntKind.u32 0]), 1, 0))
 m1 := by kernel_rfl
 s1_3 := fun w h => cell_of_shapedOpen_int (zero := #[.int .i64 0]) (t := 3) h (of_decide_eq_true (by kernel_rfl)) (by kernel_rfl) rfl (by kernel_rfl) (by kernel_rfl) Go.Proofs.Tryd.underlying3
def ren103 : Ren :=
{
 f := fun x =>
  match x with
  | 103 => 23
  | 210 => 39
  | 206 => 49
  | n => n,
 t := fun x =>
  match x with
  | 9 => 9
  | 4 => 4
  | 24 => 51
  | 3 => 3
  | n => n,
 g := fun n => n }
theorem lay103 : Lays.n103 Go.Proofs.Tryd.prog ren103 where
 mixed := by kernel_rfl
 f103 := Eq.trans Go.Proofs.Tryd.func23 (congrArg some (by kernel_rfl))
 f206 := Eq.trans Go.Proofs.Tryd.func49 (congrArg some (by kernel_rfl))
 f210 := Eq.trans Go.Proofs.Tryd.func39 (congrArg some (by kernel_rfl))
 t3 := Go.Proofs.Tryd.underlying3
 a3 := Go.Proofs.Tryd.isAgg3
 z3 := Go.Proofs.Tryd.sizeOf3
 v3 := Go.Proofs.Tryd.zeroValue3
 t4 := Go.Proofs.Tryd.underlying4
 a4 := Go.Proofs.Tryd.isAgg4
 z4 := Go.Proofs.Tryd.sizeOf4
 v4 := Go.Proofs.Tryd.zeroValue4
 t9 := Go.Proofs.Tryd.underlying9
 a9 := Go.Proofs.Tryd.isAgg9
 z9 := Go.Proofs.Tryd.sizeOf9
 v9 := Go.Proofs.Tryd.zeroValue9
 t24 := Go.Proofs.Tryd.underlying51
 a24 := Go.Proofs.Tryd.isAgg51
 z24 := Go.Proofs.Tryd.sizeOf51
 v24 := Go.Proofs.Tryd.zeroValue51
def ren174 : Ren :=
{
 f := fun x =>
  match x with
  | 174 => 40
  | 247 => 50
  | 245 => 51
  | 287 => 65
  | 279 => 66
  | 280 => 67
  | 281 => 68
  | 282 => 69
  | 321 => 78
  | 322 => 79
  | 316 => 80
  | 171 => 82
  | 205 => 81
  | 243 => 85
  | 246 => 42
  | 283 => 52
  | 284 => 53
  | 285 => 54
  | 286 => 55
  | 129 => 71
  | 317 => 70
  | 318 => 72
  | 319 => 73
  | 320 => 74
  | 337 => 83
  | 338 => 84
  | n => n,
 t := fun x =>
  match x with
  | 9 => 9
  | 3 => 3
  | 2 => 2
  | 75 => 73
  | 85 => 78
  | 4 => 4
  | 167 => 103
  | 5 => 5
  | 53 => 89
  | 175 => 104
  | 46 => 102
  | 168 => 106
  | 37 => 68
  | 0 => 0
  | 210 => 120
  | 21 => 21
  | 127 => 82
  | 145 => 129
  | 143 => 127
  | 171 => 88
  | 173 => 92
  | 212 => 110
  | 51 => 111
  | 20 => 20
  | 213 => 112
  | 232 => 130
  | 233 => 131
  | 80 => 76
  | n => n,
 g := fun x =>
  match x with
  | 15 => 2
  | 16 => 3
  | 17 => 1
  | 18 => 6
  | 19 => 7
  | n => n }
theorem lay174 : LaysC.n174 Go.Proofs.Tryd.prog ren174 where
 mixed := by kernel_rfl
 f129 := Eq.trans Go.Proofs.Tryd.func71 (congrArg some (by kernel_rfl))
 f171 := Eq.trans Go.Proofs.Tryd.func82 (congrArg some (by kernel_rfl))
 f174 := Eq.trans Go.Proofs.Tryd.func40 (congrArg some (by kernel_rfl))
 f205 := Eq.trans Go.Proofs.Tryd.func81 (congrArg some (by kernel_rfl))
 f243 := Eq.trans Go.Proofs.Tryd.func85 (congrArg some (by kernel_rfl))
 f245 := Eq.trans Go.Proofs.Tryd.func51 (congrArg some (by kernel_rfl))
 f246 := Eq.trans Go.Proofs.Tryd.func42 (congrArg some (by kernel_rfl))
 f247 := Eq.trans Go.Proofs.Tryd.func50 (congrArg some (by kernel_rfl))
 f279 := Eq.trans Go.Proofs.Tryd.func66 (congrArg some (by kernel_rfl))
 f280 := Eq.trans Go.Proofs.Tryd.func67 (congrArg some (by kernel_rfl))
 f281 := Eq.trans Go.Proofs.Tryd.func68 (congrArg some (by kernel_rfl))
 f282 := Eq.trans Go.Proofs.Tryd.func69 (congrArg some (by kernel_rfl))
 f283 := Eq.trans Go.Proofs.Tryd.func52 (congrArg some (by kernel_rfl))
 f284 := Eq.trans Go.Proofs.Tryd.func53 (congrArg some (by kernel_rfl))
 f285 := Eq.trans Go.Proofs.Tryd.func54 (congrArg some (by kernel_rfl))
 f286 := Eq.trans Go.Proofs.Tryd.func55 (congrArg some (by kernel_rfl))
 f287 := Eq.trans Go.Proofs.Tryd.func65 (congrArg some (by kernel_rfl))
 f316 := Eq.trans Go.Proofs.Tryd.func80 (congrArg some (by kernel_rfl))
 f317 := Eq.trans Go.Proofs.Tryd.func70 (congrArg some (by kernel_rfl))
 f318 := Eq.trans Go.Proofs.Tryd.func72 (congrArg some (by kernel_rfl))
 f319 := Eq.trans Go.Proofs.Tryd.func73 (congrArg some (by kernel_rfl))
 f320 := Eq.trans Go.Proofs.Tryd.func74 (congrArg some (by kernel_rfl))
 f321 := Eq.trans Go.Proofs.Tryd.func78 (congrArg some (by kernel_rfl))
 f322 := Eq.trans Go.Proofs.Tryd.func79 (congrArg some (by kernel_rfl))
 f337 := Eq.trans Go.Proofs.Tryd.func83 (congrArg some (by kernel_rfl))
 f338 := Eq.trans Go.Proofs.Tryd.func84 (congrArg some (by kernel_rfl))
 t0 := Go.Proofs.Tryd.underlying0
 a0 := Go.Proofs.Tryd.isAgg0
 z0 := Go.Proofs.Tryd.sizeOf0
 v0 := Go.Proofs.Tryd.zeroValue0
 t2 := Go.Proofs.Tryd.underlying2
 a2 := Go.Proofs.Tryd.isAgg2
 z2 := Go.Proofs.Tryd.sizeOf2
 v2 := Go.Proofs.Tryd.zeroValue2
 t3 := Go.Proofs.Tryd.underlying3
 a3 := Go.Proofs.Tryd.isAgg3
 z3 := Go.Proofs.Tryd.sizeOf3
 v3 := Go.Proofs.Tryd.zeroValue3
 t4 := Go.Proofs.Tryd.underlying4
 a4 := Go.Proofs.Tryd.isAgg4
 z4 := Go.Proofs.Tryd.sizeOf4
 v4 := Go.Proofs.Tryd.zeroValue4
 t5 := Go.Proofs.Tryd.underlying5
 a5 := Go.Proofs.Tryd.isAgg5
 z5 := Go.Proofs.Tryd.sizeOf5
 v5 := Go.Proofs.Tryd.zeroValue5
 t9 := Go.Proofs.Tryd.underlying9
 a9 := Go.Proofs.Tryd.isAgg9
 z9 := Go.Proofs.Tryd.sizeOf9
 v9 := Go.Proofs.Tryd.zeroValue9
 t20 := Go.Proofs.Tryd.underlying20
 a20 := Go.Proofs.Tryd.isAgg20
 z20 := Go.Proofs.Tryd.sizeOf20
 v20 := Go.Proofs.Tryd.zeroValue20
 t21 := Go.Proofs.Tryd.underlying21
 a21 := Go.Proofs.Tryd.isAgg21
 z21 := Go.Proofs.Tryd.sizeOf21
 v21 := Go.Proofs.Tryd.zeroValue21
 t37 := Go.Proofs.Tryd.underlying68
 a37 := Go.Proofs.Tryd.isAgg68
 z37 := Go.Proofs.Tryd.sizeOf68
 v37 := Go.Proofs.Tryd.zeroValue68
 t46 := Go.Proofs.Tryd.underlying102
 a46 := Go.Proofs.Tryd.isAgg102
 z46 := Go.Proofs.Tryd.sizeOf102
 v46 := Go.Proofs.Tryd.zeroValue102
 t51 := Go.Proofs.Tryd.underlying111
 a51 := Go.Proofs.Tryd.isAgg111
 z51 := Go.Proofs.Tryd.sizeOf111
 v51 := Go.Proofs.Tryd.zeroValue111
 t53 := Go.Proofs.Tryd.underlying89
 a53 := Go.Proofs.Tryd.isAgg89
 z53 := Go.Proofs.Tryd.sizeOf89
 v53 := Go.Proofs.Tryd.zeroValue89
 t75 := Go.Proofs.Tryd.underlying73
 a75 := Go.Proofs.Tryd.isAgg73
 z75 := Go.Proofs.Tryd.sizeOf73
 v75 := Go.Proofs.Tryd.zeroValue73
 t85 := Go.Proofs.Tryd.underlying78
 a85 := Go.Proofs.Tryd.isAgg78
 z85 := Go.Proofs.Tryd.sizeOf78
 v85 := Go.Proofs.Tryd.zeroValue78
 t127 := Go.Proofs.Tryd.underlying82
 a127 := Go.Proofs.Tryd.isAgg82
 z127 := Go.Proofs.Tryd.sizeOf82
 v127 := Go.Proofs.Tryd.zeroValue82
 t143 := Go.Proofs.Tryd.underlying127
 a143 := Go.Proofs.Tryd.isAgg127
 z143 := Go.Proofs.Tryd.sizeOf127
 v143 := Go.Proofs.Tryd.zeroValue127
 t145 := Go.Proofs.Tryd.underlying129
 a145 := Go.Proofs.Tryd.isAgg129
 z145 := Go.Proofs.Tryd.sizeOf129
 v145 := Go.Proofs.Tryd.zeroValue129
 t167 := Go.Proofs.Tryd.underlying103
 a167 := Go.Proofs.Tryd.isAgg103
 z167 := Go.Proofs.Tryd.sizeOf103
 v167 := Go.Proofs.Tryd.zeroValue103
 t168 := Go.Proofs.Tryd.underlying106
 a168 := Go.Proofs.Tryd.isAgg106
 z168 := Go.Proofs.Tryd.sizeOf106
 v168 := Go.Proofs.Tryd.zeroValue106
 t171 := Go.Proofs.Tryd.underlying88
 a171 := Go.Proofs.Tryd.isAgg88
 z171 := Go.Proofs.Tryd.sizeOf88
 v171 := Go.Proofs.Tryd.zeroValue88
 t173 := Go.Proofs.Tryd.underlying92
 a173 := Go.Proofs.Tryd.isAgg92
 z173 := Go.Proofs.Tryd.sizeOf92
 v173 := Go.Proofs.Tryd.zeroValue92
 t175 := Go.Proofs.Tryd.underlying104
 a175 := Go.Proofs.Tryd.isAgg104
 z175 := Go.Proofs.Tryd.sizeOf104
 v175 := Go.Proofs.Tryd.zeroValue104
 t210 := Go.Proofs.Tryd.underlying120
 a210 := Go.Proofs.Tryd.isAgg120
 z210 := Go.Proofs.Tryd.sizeOf120
 v210 := Go.Proofs.Tryd.zeroValue120
 t212 := Go.Proofs.Tryd.underlying110
 a212 := Go.Proofs.Tryd.isAgg110
 z212 := Go.Proofs.Tryd.sizeOf110
 v212 := Go.Proofs.Tryd.zeroValue110
 t213 := Go.Proofs.Tryd.underlying112
 a213 := Go.Proofs.Tryd.isAgg112
 z213 := Go.Proofs.Tryd.sizeOf112
 t232 := Go.Proofs.Tryd.underlying130
 a232 := Go.Proofs.Tryd.isAgg130
 z232 := Go.Proofs.Tryd.sizeOf130
 v232 := Go.Proofs.Tryd.zeroValue130
 t233 := Go.Proofs.Tryd.underlying131
 a233 := Go.Proofs.Tryd.isAgg131
 z233 := Go.Proofs.Tryd.sizeOf131
 v233 := Go.Proofs.Tryd.zeroValue131
 g15 := by kernel_rfl
 g16 := by kernel_rfl
 g17 := by kernel_rfl
 g18 := by kernel_rfl
 g19 := by kernel_rfl
 t80 := Go.Proofs.Tryd.underlying76
 a80 := Go.Proofs.Tryd.isAgg76
 z80 := Go.Proofs.Tryd.sizeOf76
 v80 := Go.Proofs.Tryd.zeroValue76
 i0 := Eq.refl (some (some (Value.tuple #[]), 1, 0))
 i2 := Eq.refl (some (some (Value.int IntKind.i64 0), 1, 8))
 i3 := Eq.refl (some (some (Value.int IntKind.i64 0), 1, 8))
 i4 := Eq.refl (some (some (Value.bool false), 1, 1))
 i5 := Eq.refl (some (some (Value.int IntKind.u8 0), 1, 1))
 i9 := Eq.refl (some (some (Value.string { data := #[] }), 1, 16))
 i20 := by kernel_rfl
 i21 := Eq.refl (some (some (Value.int IntKind.i32 0), 1, 4))
 i37 := Eq.refl (some (some (Value.slice none 0 0), 1, 24))
 i46 := Eq.refl (some (some (Value.int IntKind.u64 0), 1, 8))
 i51 := Eq.refl (some (some (Value.int IntKind.u32 0), 1, 4))
 i53 := Eq.refl (some (some (Value.int IntKind.u64 0), 1, 8))
 i75 := by kernel_rfl
 i80 := by kernel_rfl
 i85 := Eq.refl (some (some (Value.tuple #[Value.int IntKind.i64 0, Value.nilIface]), 1, 0))
 i127 := Eq.refl (some (some (Value.pointer none), 1, 8))
 i143 := Eq.refl (some (some (Value.pointer none), 1, 8))
 i145 := Eq.refl (some (some (Value.agg #[Value.string { data := #[] }]), 1, 16))
 i167 := Eq.refl (some (some (Value.int IntKind.i64 0), 1, 8))
 i168 := Eq.refl (some (some (Value.pointer none), 1, 8))
 i171 := Eq.refl (some (some (Value.agg #[Value.int IntKind.u8 0, Value.int IntKind.u8 0, Value.int IntKind.u8 0, Value.int IntKind.u8 0, Value.int IntKind.u8 0, Value.int IntKind.u8 0, Value.int IntKind.u8 0, Value.int IntKind.u8 0, Value.int IntKind.u8 0, Value.int IntKind.u8 0, Value.int IntKind.u8 0, Value.int IntKind.u8 0, Value.int IntKind.u8 0, Value.int IntKind.u8 0, Value.int IntKind.u8 0, Value.int IntKind.u8 0, Value.int IntKind.u8 0, Value.int IntKind.u8 0, Value.int IntKind.u8 0, Value.int IntKind.u8 0, Value.int IntKind.u8 0, Value.int IntKind.u8 0, Value.int IntKind.u8 0, Value.int IntKind.u8 0]), 24, 24))
 i173 := Eq.refl (some (some (Value.tuple #[Value.slice none 0 0, Value.string { data := #[] }]), 1, 0))
 i175 := Eq.refl (some (some (Value.tuple #[Value.int IntKind.u64 0, Value.nilIface]), 1, 0))
 i210 := Eq.refl (some (some (Value.agg #[Value.string { data := #[] }, Value.string { data := #[] }, Value.nilIface]), 3, 48))
 i212 := Eq.refl (some (some (Value.agg #[Value.int IntKind.u64 0, Value.int IntKind.u64 0, Value.int IntKind.u64 0, Value.int IntKind.u64 0, Value.int IntKind.u64 0, Value.int IntKind.u64 0, Value.int IntKind.u64 0, Value.int IntKind.u64 0, Value.int IntKind.u64 0, Value.int IntKind.u64 0, Value.int IntKind.u64 0, Value.int IntKind.u64 0, Value.int IntKind.u64 0, Value.int IntKind.u64 0, Value.int IntKind.u64 0, Value.int IntKind.u64 0, Value.int IntKind.u64 0, Value.int IntKind.u64 0, Value.int IntKind.u64 0, Value.int IntKind.u64 0]), 20, 160))
 i232 := Eq.refl (some (some (Value.agg #[Value.int IntKind.u8 0, Value.int IntKind.u8 0, Value.int IntKind.u8 0, Value.int IntKind.u8 0, Value.int IntKind.u8 0, Value.int IntKind.u8 0, Value.int IntKind.u8 0, Value.int IntKind.u8 0, Value.int IntKind.u8 0, Value.int IntKind.u8 0, Value.int IntKind.u8 0, Value.int IntKind.u8 0, Value.int IntKind.u8 0, Value.int IntKind.u8 0, Value.int IntKind.u8 0, Value.int IntKind.u8 0, Value.int IntKind.u8 0, Value.int IntKind.u8 0, Value.int IntKind.u8 0, Value.int IntKind.u8 0, Value.int IntKind.u8 0, Value.int IntKind.u8 0, Value.int IntKind.u8 0, Value.int IntKind.u8 0, Value.int IntKind.u8 0, Value.int IntKind.u8 0, Value.int IntKind.u8 0, Value.int IntKind.u8 0, Value.int IntKind.u8 0, Value.int IntKind.u8 0, Value.int IntKind.u8 0, Value.int IntKind.u8 0]), 32, 32))
 i233 := Eq.refl (some (some (Value.agg (let y := let y := let y := let y := [Value.int IntKind.u8 0, Value.int IntKind.u8 0, Value.int IntKind.u8 0, Value.int IntKind.u8 0]; Value.int IntKind.u8 0 :: Value.int IntKind.u8 0 :: Value.int IntKind.u8 0 :: Value.int IntKind.u8 0 :: y; let y := Value.int IntKind.u8 0 :: Value.int IntKind.u8 0 :: Value.int IntKind.u8 0 :: Value.int IntKind.u8 0 :: y; Value.int IntKind.u8 0 :: Value.int IntKind.u8 0 :: Value.int IntKind.u8 0 :: Value.int IntKind.u8 0 :: y; let y := let y := Value.int IntKind.u8 0 :: Value.int IntKind.u8 0 :: Value.int IntKind.u8 0 :: Value.int IntKind.u8 0 :: y; Value.int IntKind.u8 0 :: Value.int IntKind.u8 0 :: Value.int IntKind.u8 0 :: Value.int IntKind.u8 0 :: y; let y := Value.int IntKind.u8 0 :: Value.int IntKind.u8 0 :: Value.int IntKind.u8 0 :: Value.int IntKind.u8 0 :: y; Value.int IntKind.u8 0 :: Value.int IntKind.u8 0 :: Value.int IntKind.u8 0 :: Value.int IntKind.u8 0 :: y; let y := let y := let y := Value.int IntKind.u8 0 :: Value.int IntKind.u8 0 :: Value.int IntKind.u8 0 :: Value.int IntKind.u8 0 :: y; Value.int IntKind.u8 0 :: Value.int IntKind.u8 0 :: Value.int IntKind.u8 0 :: Value.int IntKind.u8 0 :: y; let y := Value.int IntKind.u8 0 :: Value.int IntKind.u8 0 :: Value.int IntKind.u8 0 :: Value.int IntKind.u8 0 :: y; Value.int IntKind.u8 0 :: Value.int IntKind.u8 0 :: Value.int IntKind.u8 0 :: Value.int IntKind.u8 0 :: y; let y := let y := Value.int IntKind.u8 0 :: Value.int IntKind.u8 0 :: Value.int IntKind.u8 0 :: Value.int IntKind.u8 0 :: y; Value.int IntKind.u8 0 :: Value.int IntKind.u8 0 :: Value.int IntKind.u8 0 :: Value.int IntKind.u8 0 :: y; let y := Value.int IntKind.u8 0 :: Value.int IntKind.u8 0 :: Value.int IntKind.u8 0 :: Value.int IntKind.u8 0 :: y; Value.int IntKind.u8 0 :: Value.int IntKind.u8 0 :: Value.int IntKind.u8 0 :: Value.int IntKind.u8 0 :: y).toArray), 64, 64))
 m15 := by kernel_rfl
 m16 := by kernel_rfl
 m17 := by kernel_rfl
 m18 := by kernel_rfl
 m19 := by kernel_rfl
 c0 := Eq.refl (some false)
 c2 := Eq.refl (some true)
 c3 := Eq.refl (some true)
 c4 := Eq.refl (some true)
 c5 := Eq.refl (some true)
 c9 := Eq.refl (some true)
 c20 := Eq.refl (some true)
 c21 := Eq.refl (some true)
 c37 := Eq.refl (some false)
 c46 := Eq.refl (some true)
 c51 := Eq.refl (some true)
 c53 := Eq.refl (some true)
 c75 := Eq.refl (some true)
 c80 := Eq.refl (some false)
 c85 := Eq.refl (some false)
 c127 := Eq.refl (some true)
 c143 := Eq.refl (some true)
 c145 := Eq.refl (some true)
 c167 := Eq.refl (some true)
 c168 := Eq.refl (some true)
 c171 := Eq.refl (some true)
 c173 := Eq.refl (some false)
 c175 := Eq.refl (some false)
 c210 := Eq.refl (some true)
 c212 := Eq.refl (some true)
 c213 := Eq.refl (some true)
 c232 := Eq.refl (some true)
 c233 := Eq.refl (some true)
def renM173 : Ren :=
{
 f := fun x =>
  match x with
  | 173 => 33
  | 246 => 42
  | 283 => 52
  | 284 => 53
  | 285 => 54
  | 286 => 55
  | 129 => 71
  | 317 => 70
  | 318 => 72
  | 319 => 73
  | 320 => 74
  | 337 => 83
  | 338 => 84
  | n => n,
 t := fun x =>
  match x with
  | 2 => 2
  | 3 => 3
  | 9 => 9
  | 4 => 4
  | 171 => 88
  | 0 => 0
  | 53 => 89
  | 37 => 68
  | 5 => 5
  | 173 => 92
  | 212 => 110
  | 51 => 111
  | 20 => 20
  | 213 => 112
  | 46 => 102
  | 232 => 130
  | 233 => 131
  | n => n,
 g := fun x =>
  match x with
  | 17 => 1
  | 18 => 6
  | 19 => 7
  | n => n }
theorem layM173 : LaysM.n173 Go.Proofs.Tryd.prog renM173 where
 mixed := by kernel_rfl
 f129 := Eq.trans Go.Proofs.Tryd.func71 (congrArg some (by kernel_rfl))
 f173 := Eq.trans Go.Proofs.Tryd.func33 (congrArg some (by kernel_rfl))
 f246 := Eq.trans Go.Proofs.Tryd.func42 (congrArg some (by kernel_rfl))
 f283 := Eq.trans Go.Proofs.Tryd.func52 (congrArg some (by kernel_rfl))
 f284 := Eq.trans Go.Proofs.Tryd.func53 (congrArg some (by kernel_rfl))
 f285 := Eq.trans Go.Proofs.Tryd.func54 (congrArg some (by kernel_rfl))
 f286 := Eq.trans Go.Proofs.Tryd.func55 (congrArg some (by kernel_rfl))
 f317 := Eq.trans Go.Proofs.Tryd.func70 (congrArg some (by kernel_rfl))
 f318 := Eq.trans Go.Proofs.Tryd.func72 (congrArg some (by kernel_rfl))
 f319 := Eq.trans Go.Proofs.Tryd.func73 (congrArg some (by kernel_rfl))
 f320 := Eq.trans Go.Proofs.Tryd.func74 (congrArg some (by kernel_rfl))
 f337 := Eq.trans Go.Proofs.Tryd.func83 (congrArg some (by kernel_rfl))
 f338 := Eq.trans Go.Proofs.Tryd.func84 (congrArg some (by kernel_rfl))
 t0 := Go.Proofs.Tryd.underlying0
 a0 := Go.Proofs.Tryd.isAgg0
 z0 := Go.Proofs.Tryd.sizeOf0
 v0 := Go.Proofs.Tryd.zeroValue0
 t2 := Go.Proofs.Tryd.underlying2
 a2 := Go.Proofs.Tryd.isAgg2
 z2 := Go.Proofs.Tryd.sizeOf2
 v2 := Go.Proofs.Tryd.zeroValue2
 t3 := Go.Proofs.Tryd.underlying3
 a3 := Go.Proofs.Tryd.isAgg3
 z3 := Go.Proofs.Tryd.sizeOf3
 v3 := Go.Proofs.Tryd.zeroValue3
 t4 := Go.Proofs.Tryd.underlying4
 a4 := Go.Proofs.Tryd.isAgg4
 z4 := Go.Proofs.Tryd.sizeOf4
 v4 := Go.Proofs.Tryd.zeroValue4
 t5 := Go.Proofs.Tryd.underlying5
 a5 := Go.Proofs.Tryd.isAgg5
 z5 := Go.Proofs.Tryd.sizeOf5
 v5 := Go.Proofs.Tryd.zeroValue5
 t9 := Go.Proofs.Tryd.underlying9
 a9 := Go.Proofs.Tryd.isAgg9
 z9 := Go.Proofs.Tryd.sizeOf9
 v9 := Go.Proofs.Tryd.zeroValue9
 t20 := Go.Proofs.Tryd.underlying20
 a20 := Go.Proofs.Tryd.isAgg20
 z20 := Go.Proofs.Tryd.sizeOf20
 v20 := Go.Proofs.Tryd.zeroValue20
 t37 := Go.Proofs.Tryd.underlying68
 a37 := Go.Proofs.Tryd.isAgg68
 z37 := Go.Proofs.Tryd.sizeOf68
 v37 := Go.Proofs.Tryd.zeroValue68
 t46 := Go.Proofs.Tryd.underlying102
 a46 := Go.Proofs.Tryd.isAgg102
 z46 := Go.Proofs.Tryd.sizeOf102
 v46 := Go.Proofs.Tryd.zeroValue102
 t51 := Go.Proofs.Tryd.underlying111
 a51 := Go.Proofs.Tryd.isAgg111
 z51 := Go.Proofs.Tryd.sizeOf111
 v51 := Go.Proofs.Tryd.zeroValue111
 t53 := Go.Proofs.Tryd.underlying89
 a53 := Go.Proofs.Tryd.isAgg89
 z53 := Go.Proofs.Tryd.sizeOf89
 v53 := Go.Proofs.Tryd.zeroValue89
 t171 := Go.Proofs.Tryd.underlying88
 a171 := Go.Proofs.Tryd.isAgg88
 z171 := Go.Proofs.Tryd.sizeOf88
 v171 := Go.Proofs.Tryd.zeroValue88
 t173 := Go.Proofs.Tryd.underlying92
 a173 := Go.Proofs.Tryd.isAgg92
 z173 := Go.Proofs.Tryd.sizeOf92
 v173 := Go.Proofs.Tryd.zeroValue92
 t212 := Go.Proofs.Tryd.underlying110
 a212 := Go.Proofs.Tryd.isAgg110
 z212 := Go.Proofs.Tryd.sizeOf110
 v212 := Go.Proofs.Tryd.zeroValue110
 t213 := Go.Proofs.Tryd.underlying112
 a213 := Go.Proofs.Tryd.isAgg112
 z213 := Go.Proofs.Tryd.sizeOf112
 t232 := Go.Proofs.Tryd.underlying130
 a232 := Go.Proofs.Tryd.isAgg130
 z232 := Go.Proofs.Tryd.sizeOf130
 v232 := Go.Proofs.Tryd.zeroValue130
 t233 := Go.Proofs.Tryd.underlying131
 a233 := Go.Proofs.Tryd.isAgg131
 z233 := Go.Proofs.Tryd.sizeOf131
 v233 := Go.Proofs.Tryd.zeroValue131
 g17 := by kernel_rfl
 g18 := by kernel_rfl
 g19 := by kernel_rfl
 i0 := Eq.refl (some (some (Value.tuple #[]), 1, 0))
 i2 := Eq.refl (some (some (Value.int IntKind.i64 0), 1, 8))
 i3 := Eq.refl (some (some (Value.int IntKind.i64 0), 1, 8))
 i4 := Eq.refl (some (some (Value.bool false), 1, 1))
 i5 := Eq.refl (some (some (Value.int IntKind.u8 0), 1, 1))
 i9 := Eq.refl (some (some (Value.string { data := #[] }), 1, 16))
 i20 := by kernel_rfl
 i37 := Eq.refl (some (some (Value.slice none 0 0), 1, 24))
 i46 := Eq.refl (some (some (Value.int IntKind.u64 0), 1, 8))
 i51 := Eq.refl (some (some (Value.int IntKind.u32 0), 1, 4))
 i53 := Eq.refl (some (some (Value.int IntKind.u64 0), 1, 8))
 i171 := Eq.refl (some (some (Value.agg #[Value.int IntKind.u8 0, Value.int IntKind.u8 0, Value.int IntKind.u8 0, Value.int IntKind.u8 0, Value.int IntKind.u8 0, Value.int IntKind.u8 0, Value.int IntKind.u8 0, Value.int IntKind.u8 0, Value.int IntKind.u8 0, Value.int IntKind.u8 0, Value.int IntKind.u8 0, Value.int IntKind.u8 0, Value.int IntKind.u8 0, Value.int IntKind.u8 0, Value.int IntKind.u8 0, Value.int IntKind.u8 0, Value.int IntKind.u8 0, Value.int IntKind.u8 0, Value.int IntKind.u8 0, Value.int IntKind.u8 0, Value.int IntKind.u8 0, Value.int IntKind.u8 0, Value.int IntKind.u8 0, Value.int IntKind.u8 0]), 24, 24))
 i173 := Eq.refl (some (some (Value.tuple #[Value.slice none 0 0, Value.string { data := #[] }]), 1, 0))
 i212 := Eq.refl (some (some (Value.agg #[Value.int IntKind.u64 0, Value.int IntKind.u64 0, Value.int IntKind.u64 0, Value.int IntKind.u64 0, Value.int IntKind.u64 0, Value.int IntKind.u64 0, Value.int IntKind.u64 0, Value.int IntKind.u64 0, Value.int IntKind.u64 0, Value.int IntKind.u64 0, Value.int IntKind.u64 0, Value.int IntKind.u64 0, Value.int IntKind.u64 0, Value.int IntKind.u64 0, Value.int IntKind.u64 0, Value.int IntKind.u64 0, Value.int IntKind.u64 0, Value.int IntKind.u64 0, Value.int IntKind.u64 0, Value.int IntKind.u64 0]), 20, 160))
 i232 := Eq.refl (some (some (Value.agg #[Value.int IntKind.u8 0, Value.int IntKind.u8 0, Value.int IntKind.u8 0, Value.int IntKind.u8 0, Value.int IntKind.u8 0, Value.int IntKind.u8 0, Value.int IntKind.u8 0, Value.int IntKind.u8 0, Value.int IntKind.u8 0, Value.int IntKind.u8 0, Value.int IntKind.u8 0, Value.int IntKind.u8 0, Value.int IntKind.u8 0, Value.int IntKind.u8 0, Value.int IntKind.u8 0, Value.int IntKind.u8 0, Value.int IntKind.u8 0, Value.int IntKind.u8 0, Value.int IntKind.u8 0, Value.int IntKind.u8 0, Value.int IntKind.u8 0, Value.int IntKind.u8 0, Value.int IntKind.u8 0, Value.int IntKind.u8 0, Value.int IntKind.u8 0, Value.int IntKind.u8 0, Value.int IntKind.u8 0, Value.int IntKind.u8 0, Value.int IntKind.u8 0, Value.int IntKind.u8 0, Value.int IntKind.u8 0, Value.int IntKind.u8 0]), 32, 32))
 i233 := Eq.refl (some (some (Value.agg (let y := let y := let y := let y := [Value.int IntKind.u8 0, Value.int IntKind.u8 0, Value.int IntKind.u8 0, Value.int IntKind.u8 0]; Value.int IntKind.u8 0 :: Value.int IntKind.u8 0 :: Value.int IntKind.u8 0 :: Value.int IntKind.u8 0 :: y; let y := Value.int IntKind.u8 0 :: Value.int IntKind.u8 0 :: Value.int IntKind.u8 0 :: Value.int IntKind.u8 0 :: y; Value.int IntKind.u8 0 :: Value.int IntKind.u8 0 :: Value.int IntKind.u8 0 :: Value.int IntKind.u8 0 :: y; let y := let y := Value.int IntKind.u8 0 :: Value.int IntKind.u8 0 :: Value.int IntKind.u8 0 :: Value.int IntKind.u8 0 :: y; Value.int IntKind.u8 0 :: Value.int IntKind.u8 0 :: Value.int IntKind.u8 0 :: Value.int IntKind.u8 0 :: y; let y := Value.int IntKind.u8 0 :: Value.int IntKind.u8 0 :: Value.int IntKind.u8 0 :: Value.int IntKind.u8 0 :: y; Value.int IntKind.u8 0 :: Value.int IntKind.u8 0 :: Value.int IntKind.u8 0 :: Value.int IntKind.u8 0 :: y; let y := let y := let y := Value.int IntKind.u8 0 :: Value.int IntKind.u8 0 :: Value.int IntKind.u8 0 :: Value.int IntKind.u8 0 :: y; Value.int IntKind.u8 0 :: Value.int IntKind.u8 0 :: Value.int IntKind.u8 0 :: Value.int IntKind.u8 0 :: y; let y := Value.int IntKind.u8 0 :: Value.int IntKind.u8 0 :: Value.int IntKind.u8 0 :: Value.int IntKind.u8 0 :: y; Value.int IntKind.u8 0 :: Value.int IntKind.u8 0 :: Value.int IntKind.u8 0 :: Value.int IntKind.u8 0 :: y; let y := let y := Value.int IntKind.u8 0 :: Value.int IntKind.u8 0 :: Value.int IntKind.u8 0 :: Value.int IntKind.u8 0 :: y; Value.int IntKind.u8 0 :: Value.int IntKind.u8 0 :: Value.int IntKind.u8 0 :: Value.int IntKind.u8 0 :: y; let y := Value.int IntKind.u8 0 :: Value.int IntKind.u8 0 :: Value.int IntKind.u8 0 :: Value.int IntKind.u8 0 :: y; Value.int IntKind.u8 0 :: Value.int IntKind.u8 0 :: Value.int IntKind.u8 0 :: Value.int IntKind.u8 0 :: y).toArray), 64, 64))
 m17 := by kernel_rfl
 m18 := by kernel_rfl
 m19 := by kernel_rfl
end Go.Proofs.YtehagnkcfgkomaaDoor.Arr
namespace Go.Proofs.YtehagnkcfgkomaaDoor.Arr
open Go.RowKit Go.Proofs.YtehagnkcfgkomaaDoorW.PrintWords Go.Proofs.YtehagnkcfgkomaaDoorW.PrintLast Go.Proofs.YtehagnkcfgkomaaDoorW.PrintMore Go.Proofs.YtehagnkcfgkomaaDoor.U Go.Proofs.YtehagnkcfgkomaaDoor.I
set_option linter.unusedVariables false
set_option linter.unusedSimpArgs false
theorem Below.drawn3 {B : Nat} {a w : World} (h : Below B a w) (n : Nat) : Below B a (w.drewN n) := h.trans ⟨rfl, rfl, rfl, Nat.le_refl _, fun _ _ => rfl⟩
structure Door (w : World) : Prop where
 len : ∃ m, w.cell? ⟨0, 0, none⟩ = some (.int .i64 m)
 syn : ∃ te pe, w.cell? ⟨2, 0, none⟩ = some (.iface te pe)
 rng : ∃ te pe, w.cell? ⟨3, 0, none⟩ = some (.iface te pe)
 pow : Lib.TabIs Tryd.prog w "internal/strconv.uint64pow10" .u64 Lib.pow10Tab
theorem Door.below {w w1 : World} (h : Door w) (hb : Below w.heap.size w w1) : Door w1 := by
 obtain ⟨⟨m, h1⟩, ⟨a, b, h2⟩, ⟨c, d, h3⟩, h4⟩ := h
 exact ⟨⟨m, FrBelow.read hb h1⟩, ⟨a, b, FrBelow.read hb h2⟩, ⟨c, d, FrBelow.read hb h3⟩, Go.Joins.tab_stays (g := 1) (by kernel_rfl) h4 hb (Nat.le_refl _)⟩
theorem parse_ok (l : List UInt8) (hl : l.length ≤ 1048576) (w : World) (v : Int) (hx : Lib.parseIntB 64 l = .ok v) :
  Calls Tryd.prog 40 #[.string ⟨l.toArray⟩, .int .i64 10, .int .i64 64] w fun e w' => e = .returned (.tuple #[.int .i64 v, .nilIface]) ∧ Below w.heap.size w w' := by
 have hs : (⟨l.toArray⟩ : ByteArray).size = l.length := bs_size l
 have hd : (⟨l.toArray⟩ : ByteArray).data.toList = l := by simp
 refine (Any.strconv_ParseInt_10_at64_ok lay174 ⟨l.toArray⟩ (by omega) v (by rw [hd]; exact hx) w).mono ?_
 rintro e w' ⟨rfl, hw⟩
 refine ⟨rfl, ?_⟩
 rcases hw with rfl | ⟨t, rfl⟩
 ·exact Below.refl _ _
 ·exact Lib.bytesWorld_below _ _ _
theorem parse_no (l : List UInt8) (hl : l.length ≤ 1048576) (w : World) (hD : Door w) (hx : ∀ v : Int, Lib.parseIntB 64 l ≠ .ok v) :
  Calls Tryd.prog 40 #[.string ⟨l.toArray⟩, .int .i64 10, .int .i64 64] w fun e w' => ∃ (n : Int) (t : TypeId) (p : Value), e = .returned (.tuple #[.int .i64 n, .iface t p]) ∧ Below w.heap.size w w' := by
 have hs : (⟨l.toArray⟩ : ByteArray).size = l.length := bs_size l
 have hd : (⟨l.toArray⟩ : ByteArray).data.toList = l := by simp
 rcases hy : Lib.parseIntB 64 l with v | _ | _
 ·exact absurd hy (hx v)
 ·obtain ⟨te, pe, hc⟩ := hD.syn
  refine (Any.strconv_ParseInt_10_at64_syntax lay174 ⟨l.toArray⟩ (by omega) (by rw [hd]; exact hy) (.iface te pe) w hc (Or.inr ⟨te, pe, rfl⟩)).mono ?_
  rintro e w' ⟨N, rfl, _, _, hb⟩
  exact ⟨_, _, _, rfl, hb⟩
 ·obtain ⟨te, pe, hc⟩ := hD.rng
  refine (Any.strconv_ParseInt_10_at64_range lay174 ⟨l.toArray⟩ (by omega) (by rw [hd]; exact hy) (.iface te pe) w hc (Or.inr ⟨te, pe, rfl⟩)).mono ?_
  rintro e w' ⟨N, rfl, _, _, hb⟩
  exact ⟨_, _, _, rfl, hb⟩
theorem decimalA_calls (v : Int) (h0 : -9223372036854775808 ≤ v) (h1 : v ≤ 9223372036854775807) (w : World) (hD : Door w) :
  Calls Tryd.prog 16 #[.int .i64 v] w fun e w' => e = .returned (.string ⟨(Lib.itoa v).toArray⟩) ∧ Below w.heap.size w w' := by
 have HF := Aside0.mk (Any.strconv_FormatInt_10 layM173 v h0 h1 w hD.pow)
 go_enter Tryd.func16, Tryd.ntmps16
 go_wp2_with (go_at_call 33; refine HF.out.mono ?_; rintro e w1 ⟨rfl, k, os, rfl⟩)
 go_ret
 exact ⟨rfl, Go.Lib.below_grow _ _ (Nat.le_refl _) _ _⟩
set_option maxHeartbeats 4000000 in
set_option maxRecDepth 100000 in
theorem number_calls (l : List UInt8) (hl : l.length ≤ 1048576) (most : Nat) (hm : most < 100) (w : World) (hD : Door w) :
  Calls Tryd.prog 24 #[.string ⟨l.toArray⟩, .int .i64 (most : Int)] w fun e w' =>
   e = .returned (.tuple #[.int .i64 (((numI most l).getD 0 : Nat) : Int), .bool (numI most l).isSome]) ∧ Below w.heap.size w w' := by
 by_cases hp : ∃ v : Int, Lib.parseIntB 64 l = .ok v
 ·obtain ⟨v, hv⟩ := hp
  have HP := Aside0.mk (fun W => parse_ok l hl W v hv)
  have hbd := Go.Lib.parseIntB_bounds hv
  have hb1 := hbd.1
  have hb2 := hbd.2
  have hN := numI_ok hm hv
  have HD := Aside0.mk (fun W hW => decimalA_calls v (by omega) (by omega) W hW)
  clear hbd hv
  go_enter Tryd.func24, Tryd.ntmps24
  have HW := Aside0.mk (fun W => impl_within.calls v 0 (most : Int) (decide (0 ≤ v ∧ v ≤ (most : Int))) W (by
   unfold impl_within.f
   by_cases h : 0 ≤ v <;> simp [h]))
  go_wp2_with (first
   | (go_at_call 40; refine (HP.out _).mono ?_; rintro e w1 ⟨rfl, hb1⟩)
   | (go_at_call 16; refine (HD.out _ (hD.below hb1)).mono ?_; rintro e w2 ⟨rfl, hb2⟩)
   | (go_at_call 25; refine (HW.out _).mono ?_; rintro e w3 ⟨rfl, n3, rfl⟩))
  ·rename_i he h2
   go_ret2
   simp only [Bool.not_eq_true', decide_eq_false_iff_not] at h2
   rw [hN.2 (by omega)]
   exact ⟨rfl, Below.drawn3 (hb1.trans (hb2.mono hb1.size)) n3⟩
  ·rename_i he h2
   go_ret2
   simp only [Bool.not_eq_false', decide_eq_true_eq] at h2
   rw [hN.1 ⟨he, h2⟩, Option.getD_some, Int.toNat_of_nonneg h2.1]
   exact ⟨rfl, Below.drawn3 (hb1.trans (hb2.mono hb1.size)) n3⟩
  ·rename_i he
   go_ret2
   rw [hN.2 (fun h => he h.1)]
   exact ⟨rfl, hb1.trans (hb2.mono hb1.size)⟩
 ·have hp' : ∀ v : Int, Lib.parseIntB 64 l ≠ .ok v := fun v h => hp ⟨v, h⟩
  have HP := Aside0.mk (fun W hW => parse_no l hl W hW hp')
  have hN := numI_none hm hp'
  rw [hN]
  clear hp hp'
  go_enter Tryd.func24, Tryd.ntmps24
  go_wp2_with (go_at_call 40; refine (HP.out _ hD).mono ?_; rintro e w1 ⟨n, t, p, rfl, hb1⟩)
  go_ret2
  exact ⟨rfl, hb1⟩
end Go.Proofs.YtehagnkcfgkomaaDoor.Arr
namespace Go.Proofs.YtehagnkcfgkomaaDoor.Arr
open Go.RowKit Go.Proofs.YtehagnkcfgkomaaDoor.U Go.Proofs.YtehagnkcfgkomaaDoorW.PrintWords
set_option linter.unusedVariables false
set_option linter.unusedSimpArgs false
section
variable {P : Program} {ops : Array Oper} {rest : List Oper} {o : Oper} {a : Act} {w : World} {Q : Exit → Act → World → Prop} {dst : Option Tmp} {x : Operand} {tt : TypeId} {pos : String} {after : Array Edge} {g : Option (Nat × Bool)}
end
def Held (R : List Ent) (w : World) : Prop := ∀ e ∈ R, w.heap[e.g]? = some (.cells e.cs e.t (0, 0))
def entOf (w : World) (b k : Nat) : Option Ent := if b ≤ k then (match w.heap[k]? with | some (.cells cs t (0, 0)) => some ⟨k, cs, t, true⟩ | _ => none) else none
def newEnts (w : World) (b : Nat) : List Ent := (List.range w.heap.size).filterMap (entOf w b)
theorem entOf_some {w : World} {b k : Nat} {e : Ent} (h : entOf w b k = some e) : e.g = k ∧ e.own = true ∧ b ≤ k ∧ w.heap[k]? = some (.cells e.cs e.t (0, 0)) := by
 unfold entOf at h
 split at h
 ·rename_i hb
  split at h
  ·rename_i cs t hk
   injection h with h
   subst h
   exact ⟨rfl, rfl, hb, hk⟩
  ·cases h
 ·cases h
theorem entOf_cells {w : World} {b k : Nat} {cs : Array Value} {t : TypeId} (hb : b ≤ k) (h : w.heap[k]? = some (.cells cs t (0, 0))) : entOf w b k = some ⟨k, cs, t, true⟩ := by
 unfold entOf
 rw [if_pos hb, h]
 rfl
theorem newEnts_mem {w : World} {b : Nat} {e : Ent} (h : e ∈ newEnts w b) : e.own = true ∧ b ≤ e.g ∧ w.heap[e.g]? = some (.cells e.cs e.t (0, 0)) := by
 obtain ⟨k, _, hk⟩ := List.mem_filterMap.1 h
 obtain ⟨h1, h2, h3, h4⟩ := entOf_some hk
 subst h1
 exact ⟨h2, h3, h4⟩
theorem newEnts_own {w : World} {b : Nat} : (newEnts w b).all (·.own) = true := List.all_eq_true.2 fun e he => (newEnts_mem he).1
theorem newEnts_lt {w : World} {b : Nat} : (newEnts w b).Pairwise fun e f => e.g < f.g := by
 unfold newEnts
 rw [List.pairwise_filterMap]
 refine List.pairwise_lt_range.imp fun {a c} hac e he f hf => ?_
 rw [(entOf_some he).1, (entOf_some hf).1]
 exact hac
theorem newEnts_apart {w : World} {b m n : Nat} {e f : Ent} (hm : (newEnts w b)[m]? = some e) (hn : (newEnts w b)[n]? = some f) (hg : e.g = f.g) : m = n := by
 obtain ⟨hm1, rfl⟩ := List.getElem?_eq_some_iff.1 hm
 obtain ⟨hn1, rfl⟩ := List.getElem?_eq_some_iff.1 hn
 have h := List.pairwise_iff_getElem.1 (newEnts_lt (w := w) (b := b))
 rcases Nat.lt_trichotomy m n with h1 | h1 | h1
 ·have := h m n hm1 hn1 h1; omega
 ·exact h1
 ·have := h n m hn1 hm1 h1; omega
theorem Mem.grow {w0 w w' : World} {M : List Ent} (h : Mem w0 w M) (hb : Below w.heap.size w w') : Mem w0 w' (M ++ newEnts w' w.heap.size) := by
 have ha := h.after hb
 have hlt : ∀ e ∈ M, e.g < w.heap.size := fun e he => lt_of_some (h.ent e he).1
 refine ⟨ha.os, ha.tape, ha.output, ha.size, fun k hk hne => ha.block k hk fun e he => hne e (List.mem_append_left _ he), fun e he => ?_, fun m n e f hm hn hef => ?_⟩
 ·rcases List.mem_append.1 he with he | he
  ·exact ha.ent e he
  ·obtain ⟨_, h2, h3⟩ := newEnts_mem he
   exact ⟨h3, fun _ => Nat.le_trans h.size h2⟩
 ·rcases Nat.lt_or_ge m M.length with h1 | h1 <;> rcases Nat.lt_or_ge n M.length with h2 | h2
  ·rw [List.getElem?_append_left h1] at hm
   rw [List.getElem?_append_left h2] at hn
   exact h.apart m n e f hm hn hef
  ·rw [List.getElem?_append_left h1] at hm
   rw [List.getElem?_append_right h2] at hn
   have e1 := hlt e (List.mem_of_getElem? hm)
   have e2 := (newEnts_mem (List.mem_of_getElem? hn)).2.1
   omega
  ·rw [List.getElem?_append_right h1] at hm
   rw [List.getElem?_append_left h2] at hn
   have e1 := hlt f (List.mem_of_getElem? hn)
   have e2 := (newEnts_mem (List.mem_of_getElem? hm)).2.1
   omega
  ·rw [List.getElem?_append_right h1] at hm
   rw [List.getElem?_append_right h2] at hn
   have := newEnts_apart hm hn hef
   omega
theorem R_held {α : Type} {d : Kd α} {e : Nat} {w' W : World} {base : Nat} {ok : Nat → Prop} {v : Value} {xs : List α} (hR : d.R e w' base ok v xs) (hh : Held (newEnts w' base) W) : ∃ ok', d.R e W base ok' v xs := by
 refine ⟨_, Kd.R_move (Kd.R_bound hR) fun k hk => ?_⟩
 obtain ⟨_, hb, hlt, q, hq, cells, hc⟩ := hk
 have := hh ⟨k, cells, q, true⟩ (List.mem_filterMap.2 ⟨k, List.mem_range.2 hlt, entOf_cells hb hc⟩)
 rw [hc]; exact this
theorem C_held {α : Type} {d : Kd α} {e : Nat} {w' W : World} {base n c : Nat} {ok : Nat → Prop} {A : Option Addr} {xs : List α} (hR : d.R e w' base ok (.slice A n c) xs) (hh : Held (newEnts w' base) W) : d.C W A n xs := by
 obtain ⟨ok', h⟩ := R_held hR hh
 obtain ⟨e1, _, h2⟩ := Kd.R_reads' h
 rw [e1]; exact h2
end Go.Proofs.YtehagnkcfgkomaaDoor.Arr
namespace Go.Proofs.YtehagnkcfgkomaaDoor.Arr
open Go.RowKit Go.Proofs.YtehagnkcfgkomaaDoorW.PrintWords Go.Proofs.YtehagnkcfgkomaaDoorW.PrintLast Go.Proofs.YtehagnkcfgkomaaDoorW.PrintMore Go.Proofs.YtehagnkcfgkomaaDoor.U Go.Proofs.YtehagnkcfgkomaaDoor.I
set_option linter.unusedVariables false
set_option linter.unusedSimpArgs false
theorem Mem.drawn3 {w0 w : World} {M : List Ent} (h : Mem w0 w M) (n : Nat) : Mem w0 (w.drewN n) M := h.after (Below.drawn3 (Below.refl _ _) n)
def readRes (o : Option (List Int)) : Value := match o with | some L => .tuple #[.agg (vals .i16 L), .int .i64 0] | none => .tuple #[.agg (vals .i16 (zs 44)), .int .i64 5]
def TxAt (R : List Ent) (bk : Nat) (ws : List (List UInt8)) : Prop := ∀ W, Held R W → ∀ j x, ws[j]? = some x → W.cell? ⟨bk, j, none⟩ = some (.string ⟨x.toArray⟩)
theorem splitK_calls (c : UInt8) (l : List UInt8) (hl : l.length ≤ 1048576) (w : World) : Calls Tryd.prog 18 #[.string ⟨l.toArray⟩, .int .u8 (c.toNat : Int)] w
  fun e w' => ∃ bk cap R, e = .returned (.slice (some ⟨bk, 0, none⟩) (sp c l).length cap) ∧ newEnts w' w.heap.size = R ∧ R.all (·.own) = true ∧ TxAt R bk (sp c l) ∧ Below w.heap.size w w' := by
 refine (split_calls c l hl w).mono ?_
 rintro e w' ⟨v, rfl, hR, hb⟩
 have hne : 0 < (txs (sp c l)).length := by
  rw [txs, List.length_map]
  exact List.length_pos_iff.2 (sp_ne c l)
 obtain ⟨bk, cap, hv, _, hbk, _⟩ := Kd.R_form hR hne
 obtain ⟨A, c2, hv2⟩ := Kd.R_slice hR
 subst hv2
 injection hv with hA _ hc
 subst hA hc
 rw [txs, List.length_map] at hR ⊢
 refine ⟨bk, _, _, rfl, rfl, newEnts_own, fun W hh j x hj => ?_, hb⟩
 have hC := C_held hR hh
 rw [← List.length_map (f := fun x : List UInt8 => (⟨x.toArray⟩ : ByteArray))] at hC
 have := txt_cell hC (show (txs (sp c l))[j]? = some ⟨x.toArray⟩ by rw [List.getElem?_map, hj]; rfl)
 rw [Nat.zero_add] at this
 exact this
theorem rd_wsX (WS : List (List UInt8)) (i : Nat) (h : i < WS.length) : WS[i]? = some WS[i] := List.getElem?_eq_getElem h
set_option maxHeartbeats 8000000 in
set_option maxRecDepth 100000 in
theorem specRead_calls (l : List UInt8) (hl : l.length ≤ 1048576) (w : World) :
  Calls Tryd.prog 8 #[.string ⟨l.toArray⟩] w fun e w' => e = .returned (readRes (readS l)) ∧ Below w.heap.size w w' := by
 have hm := Mem.start w
 by_cases hdash : l = [45]
 ·subst hdash
  have HQ := Aside0.mk (show readRes (readS [45]) = .tuple #[.agg (vals .i16 (zs 44)), .int .i64 0] from rfl)
  generalize readRes (readS [45]) = V at *
  go_enter Tryd.func8, Tryd.ntmps8
  go_wp2_with (first | fail | ((with_reducible refine gt_alloc 2 28 ?_); refine st_alloc rfl 2 rfl 28 rfl hm zero28 ?_; clear hm; intro g2 w2 hm) | ((with_reducible refine gt_build 28 ?_); refine st_zero rfl 28 rfl built28 ?_) | ((with_reducible refine gt_alloc 4 28 ?_); refine st_alloc rfl 4 rfl 28 rfl hm zero28 ?_; clear hm; intro g4 w4 hm) | ((with_reducible refine gt_store 28 ?_); (first | (refine st_full rfl 28 _ _ rfl hm rfl rfl 0 rfl agg28 (by first | omega | assumption | (simp only [lens]; first | omega | assumption) | (simp [lens]; done) | (simp [lens]; omega)) (by first | omega | assumption | (simp only [lens]; first | omega | assumption) | (simp [lens]; done) | (simp [lens]; omega)) ?_) | (refine st_full rfl 28 _ _ rfl hm rfl rfl 1 rfl agg28 (by first | omega | assumption | (simp only [lens]; first | omega | assumption) | (simp [lens]; done) | (simp [lens]; omega)) (by first | omega | assumption | (simp only [lens]; first | omega | assumption) | (simp [lens]; done) | (simp [lens]; omega)) ?_) | (refine st_full rfl 28 _ _ rfl hm rfl rfl 2 rfl agg28 (by first | omega | assumption | (simp only [lens]; first | omega | assumption) | (simp [lens]; done) | (simp [lens]; omega)) (by first | omega | assumption | (simp only [lens]; first | omega | assumption) | (simp [lens]; done) | (simp [lens]; omega)) ?_) | (refine st_full rfl 28 _ _ rfl hm rfl rfl 3 rfl agg28 (by first | omega | assumption | (simp only [lens]; first | omega | assumption) | (simp [lens]; done) | (simp [lens]; omega)) (by first | omega | assumption | (simp only [lens]; first | omega | assumption) | (simp [lens]; done) | (simp [lens]; omega)) ?_)); clear hm; intro ws hm; simp only [List.set_cons_zero, List.set_cons_succ] at hm) | ((with_reducible refine gt_load 28 ?_); (first | (refine st_load rfl 28 _ rfl hm rfl 0 rfl agg28 (by first | omega | assumption | (simp only [lens]; first | omega | assumption) | (simp [lens]; done) | (simp [lens]; omega)) ?_) | (refine st_load rfl 28 _ rfl hm rfl 1 rfl agg28 (by first | omega | assumption | (simp only [lens]; first | omega | assumption) | (simp [lens]; done) | (simp [lens]; omega)) ?_) | (refine st_load rfl 28 _ rfl hm rfl 2 rfl agg28 (by first | omega | assumption | (simp only [lens]; first | omega | assumption) | (simp [lens]; done) | (simp [lens]; omega)) ?_) | (refine st_load rfl 28 _ rfl hm rfl 3 rfl agg28 (by first | omega | assumption | (simp only [lens]; first | omega | assumption) | (simp [lens]; done) | (simp [lens]; omega)) ?_))) | ((with_reducible refine gt_field 28 1 ?_); refine st_field rfl 28 _ 1 rfl rfl field28_1 ?_) | ((with_reducible refine gt_elem 24 ?_); refine st_elem rfl 24 _ _ rfl rfl rfl arr24 (by first | omega | assumption | (simp only [lens]; first | omega | assumption) | (simp [lens]; done) | (simp [lens]; omega)) (by first | omega | assumption | (simp only [lens]; first | omega | assumption) | (simp [lens]; done) | (simp [lens]; omega)) ?_) | ((with_reducible refine gt_store 22 ?_); (first | (refine st_set rfl 22 _ _ rfl hm rfl rfl 0 rfl one22 (by first | omega | assumption | (simp only [lens]; first | omega | assumption) | (simp [lens]; done) | (simp [lens]; omega)) ?_) | (refine st_set rfl 22 _ _ rfl hm rfl rfl 1 rfl one22 (by first | omega | assumption | (simp only [lens]; first | omega | assumption) | (simp [lens]; done) | (simp [lens]; omega)) ?_) | (refine st_set rfl 22 _ _ rfl hm rfl rfl 2 rfl one22 (by first | omega | assumption | (simp only [lens]; first | omega | assumption) | (simp [lens]; done) | (simp [lens]; omega)) ?_) | (refine st_set rfl 22 _ _ rfl hm rfl rfl 3 rfl one22 (by first | omega | assumption | (simp only [lens]; first | omega | assumption) | (simp [lens]; done) | (simp [lens]; omega)) ?_)); clear hm; intro ws hm; simp only [List.set_cons_zero, List.set_cons_succ] at hm) | ((with_reducible refine gt_field 28 0 ?_); refine st_field rfl 28 _ 0 rfl rfl field28_0 ?_) | ((with_reducible refine gt_elem 23 ?_); refine st_elem rfl 23 _ _ rfl rfl rfl arr23 (by first | omega | assumption | (simp only [lens]; first | omega | assumption) | (simp [lens]; done) | (simp [lens]; omega)) (by first | omega | assumption | (simp only [lens]; first | omega | assumption) | (simp [lens]; done) | (simp [lens]; omega)) ?_))
  ((try simp only [Exit.inBlock, Exit.then]); (first | (refine ret_cell hm rfl rfl 1 rfl agg28 (by first | omega | assumption | (simp only [lens]; first | omega | assumption) | (simp [lens]; done) | (simp [lens]; omega)) rfl ?_) | (refine ret_cell_tmp hm rfl rfl 1 rfl agg28 (by first | omega | assumption | (simp only [lens]; first | omega | assumption) | (simp [lens]; done) | (simp [lens]; omega)) rfl ?_)))
  exact ⟨by rw [HQ.out]; rfl, hm.done rfl⟩
 ·have HS := Aside0.mk (fun W => splitK_calls 32 l hl W)
  have hwl := sp_len 32 l
  have HWM := Aside0.mk (sp_mem 32 l)
  have HQ := Aside0.mk (show readS l = match goS (sp 32 l) zeros44 with | none => none | some L => if lockT L = l then some L else none by unfold readS; rw [if_neg hdash]; rfl)
  generalize sp 32 l = WS at *
  generalize readS l = V at *
  go_enter Tryd.func8, Tryd.ntmps8
  go_wp2_with (first
   | (first | fail | ((with_reducible refine gt_alloc 2 28 ?_); refine st_alloc rfl 2 rfl 28 rfl hm zero28 ?_; clear hm; intro g2 w2 hm) | ((with_reducible refine gt_build 28 ?_); refine st_zero rfl 28 rfl built28 ?_) | ((with_reducible refine gt_alloc 4 28 ?_); refine st_alloc rfl 4 rfl 28 rfl hm zero28 ?_; clear hm; intro g4 w4 hm) | ((with_reducible refine gt_store 28 ?_); (first | (refine st_full rfl 28 _ _ rfl hm rfl rfl 0 rfl agg28 (by first | omega | assumption | (simp only [lens]; first | omega | assumption) | (simp [lens]; done) | (simp [lens]; omega)) (by first | omega | assumption | (simp only [lens]; first | omega | assumption) | (simp [lens]; done) | (simp [lens]; omega)) ?_) | (refine st_full rfl 28 _ _ rfl hm rfl rfl 1 rfl agg28 (by first | omega | assumption | (simp only [lens]; first | omega | assumption) | (simp [lens]; done) | (simp [lens]; omega)) (by first | omega | assumption | (simp only [lens]; first | omega | assumption) | (simp [lens]; done) | (simp [lens]; omega)) ?_) | (refine st_full rfl 28 _ _ rfl hm rfl rfl 2 rfl agg28 (by first | omega | assumption | (simp only [lens]; first | omega | assumption) | (simp [lens]; done) | (simp [lens]; omega)) (by first | omega | assumption | (simp only [lens]; first | omega | assumption) | (simp [lens]; done) | (simp [lens]; omega)) ?_) | (refine st_full rfl 28 _ _ rfl hm rfl rfl 3 rfl agg28 (by first | omega | assumption | (simp only [lens]; first | omega | assumption) | (simp [lens]; done) | (simp [lens]; omega)) (by first | omega | assumption | (simp only [lens]; first | omega | assumption) | (simp [lens]; done) | (simp [lens]; omega)) ?_)); clear hm; intro ws hm; simp only [List.set_cons_zero, List.set_cons_succ] at hm) | ((with_reducible refine gt_load 28 ?_); (first | (refine st_load rfl 28 _ rfl hm rfl 0 rfl agg28 (by first | omega | assumption | (simp only [lens]; first | omega | assumption) | (simp [lens]; done) | (simp [lens]; omega)) ?_) | (refine st_load rfl 28 _ rfl hm rfl 1 rfl agg28 (by first | omega | assumption | (simp only [lens]; first | omega | assumption) | (simp [lens]; done) | (simp [lens]; omega)) ?_) | (refine st_load rfl 28 _ rfl hm rfl 2 rfl agg28 (by first | omega | assumption | (simp only [lens]; first | omega | assumption) | (simp [lens]; done) | (simp [lens]; omega)) ?_) | (refine st_load rfl 28 _ rfl hm rfl 3 rfl agg28 (by first | omega | assumption | (simp only [lens]; first | omega | assumption) | (simp [lens]; done) | (simp [lens]; omega)) ?_))) | ((with_reducible refine gt_field 28 1 ?_); refine st_field rfl 28 _ 1 rfl rfl field28_1 ?_) | ((with_reducible refine gt_elem 24 ?_); refine st_elem rfl 24 _ _ rfl rfl rfl arr24 (by first | omega | assumption | (simp only [lens]; first | omega | assumption) | (simp [lens]; done) | (simp [lens]; omega)) (by first | omega | assumption | (simp only [lens]; first | omega | assumption) | (simp [lens]; done) | (simp [lens]; omega)) ?_) | ((with_reducible refine gt_store 22 ?_); (first | (refine st_set rfl 22 _ _ rfl hm rfl rfl 0 rfl one22 (by first | omega | assumption | (simp only [lens]; first | omega | assumption) | (simp [lens]; done) | (simp [lens]; omega)) ?_) | (refine st_set rfl 22 _ _ rfl hm rfl rfl 1 rfl one22 (by first | omega | assumption | (simp only [lens]; first | omega | assumption) | (simp [lens]; done) | (simp [lens]; omega)) ?_) | (refine st_set rfl 22 _ _ rfl hm rfl rfl 2 rfl one22 (by first | omega | assumption | (simp only [lens]; first | omega | assumption) | (simp [lens]; done) | (simp [lens]; omega)) ?_) | (refine st_set rfl 22 _ _ rfl hm rfl rfl 3 rfl one22 (by first | omega | assumption | (simp only [lens]; first | omega | assumption) | (simp [lens]; done) | (simp [lens]; omega)) ?_)); clear hm; intro ws hm; simp only [List.set_cons_zero, List.set_cons_succ] at hm) | ((with_reducible refine gt_field 28 0 ?_); refine st_field rfl 28 _ 0 rfl rfl field28_0 ?_) | ((with_reducible refine gt_elem 23 ?_); refine st_elem rfl 23 _ _ rfl rfl rfl arr23 (by first | omega | assumption | (simp only [lens]; first | omega | assumption) | (simp [lens]; done) | (simp [lens]; omega)) (by first | omega | assumption | (simp only [lens]; first | omega | assumption) | (simp [lens]; done) | (simp [lens]; omega)) ?_))
   | (go_at_call 18; refine (HS.out _).mono ?_; rintro e wa ⟨bk, cap, R, rfl, hR, ho, HT, hb⟩; replace hm := hm.grow hb; rw [hR] at hm; clear hb hR))
  ·rename_i h45; exact absurd (by simpa using h45) hdash
  go_loopw [6] (fun v6 wr => ∃ (i : Nat) (L : List Int), i ≤ WS.length ∧ v6 = .int .i64 i ∧ L.length = 44 ∧ okL L = true ∧ Aside0 (V = match goS (WS.drop i) L with | none => none | some L => if lockT L = l then some L else none) ∧ Mem w wr (⟨g4, vals .i16 L, 28, true⟩ :: ⟨g2, vals .i16 (zs 44), 28, true⟩ :: R)) (fun v6 _ => WS.length - (intOf v6).toNat)
  case atStart => exact ⟨0, zeros44, by omega, rfl, zeros_ok.1, zeros_ok.2, HQ, hm⟩
  case round =>
   clear hm
   obtain ⟨i, L, hi, rfl, hLl, hok, HQ, hm⟩ := hrel
   by_cases hlt : i < WS.length
   ·have hwi := rd_wsX WS i hlt
    generalize hx : WS[i] = x at *
    have HX := Aside0.mk hx
    clear hx
    have hc := HT wr (fun e he => (hm.ent e (by simp [he])).1) i x hwi
    have hxl := HWM.out x (List.mem_of_getElem? hwi)
    rw [List.drop_eq_getElem_cons hlt, HX.out] at HQ
    cases x with
    | nil =>
     have HS2 := Aside0.mk (fun W => splitK_calls 120 [] (by simp) W)
     rw [show sp 120 [] = [[]] from rfl] at HS2
     have HVN : V = none := HQ.out
     go_wp2_with (first
      | (first | fail | ((with_reducible refine gt_alloc 2 28 ?_); refine st_alloc rfl 2 rfl 28 rfl hm zero28 ?_; clear hm; intro g2 w2 hm) | ((with_reducible refine gt_build 28 ?_); refine st_zero rfl 28 rfl built28 ?_) | ((with_reducible refine gt_alloc 4 28 ?_); refine st_alloc rfl 4 rfl 28 rfl hm zero28 ?_; clear hm; intro g4 w4 hm) | ((with_reducible refine gt_store 28 ?_); (first | (refine st_full rfl 28 _ _ rfl hm rfl rfl 0 rfl agg28 (by first | omega | assumption | (simp only [lens]; first | omega | assumption) | (simp [lens]; done) | (simp [lens]; omega)) (by first | omega | assumption | (simp only [lens]; first | omega | assumption) | (simp [lens]; done) | (simp [lens]; omega)) ?_) | (refine st_full rfl 28 _ _ rfl hm rfl rfl 1 rfl agg28 (by first | omega | assumption | (simp only [lens]; first | omega | assumption) | (simp [lens]; done) | (simp [lens]; omega)) (by first | omega | assumption | (simp only [lens]; first | omega | assumption) | (simp [lens]; done) | (simp [lens]; omega)) ?_) | (refine st_full rfl 28 _ _ rfl hm rfl rfl 2 rfl agg28 (by first | omega | assumption | (simp only [lens]; first | omega | assumption) | (simp [lens]; done) | (simp [lens]; omega)) (by first | omega | assumption | (simp only [lens]; first | omega | assumption) | (simp [lens]; done) | (simp [lens]; omega)) ?_) | (refine st_full rfl 28 _ _ rfl hm rfl rfl 3 rfl agg28 (by first | omega | assumption | (simp only [lens]; first | omega | assumption) | (simp [lens]; done) | (simp [lens]; omega)) (by first | omega | assumption | (simp only [lens]; first | omega | assumption) | (simp [lens]; done) | (simp [lens]; omega)) ?_)); clear hm; intro ws hm; simp only [List.set_cons_zero, List.set_cons_succ] at hm) | ((with_reducible refine gt_load 28 ?_); (first | (refine st_load rfl 28 _ rfl hm rfl 0 rfl agg28 (by first | omega | assumption | (simp only [lens]; first | omega | assumption) | (simp [lens]; done) | (simp [lens]; omega)) ?_) | (refine st_load rfl 28 _ rfl hm rfl 1 rfl agg28 (by first | omega | assumption | (simp only [lens]; first | omega | assumption) | (simp [lens]; done) | (simp [lens]; omega)) ?_) | (refine st_load rfl 28 _ rfl hm rfl 2 rfl agg28 (by first | omega | assumption | (simp only [lens]; first | omega | assumption) | (simp [lens]; done) | (simp [lens]; omega)) ?_) | (refine st_load rfl 28 _ rfl hm rfl 3 rfl agg28 (by first | omega | assumption | (simp only [lens]; first | omega | assumption) | (simp [lens]; done) | (simp [lens]; omega)) ?_))) | ((with_reducible refine gt_field 28 1 ?_); refine st_field rfl 28 _ 1 rfl rfl field28_1 ?_) | ((with_reducible refine gt_elem 24 ?_); refine st_elem rfl 24 _ _ rfl rfl rfl arr24 (by first | omega | assumption | (simp only [lens]; first | omega | assumption) | (simp [lens]; done) | (simp [lens]; omega)) (by first | omega | assumption | (simp only [lens]; first | omega | assumption) | (simp [lens]; done) | (simp [lens]; omega)) ?_) | ((with_reducible refine gt_store 22 ?_); (first | (refine st_set rfl 22 _ _ rfl hm rfl rfl 0 rfl one22 (by first | omega | assumption | (simp only [lens]; first | omega | assumption) | (simp [lens]; done) | (simp [lens]; omega)) ?_) | (refine st_set rfl 22 _ _ rfl hm rfl rfl 1 rfl one22 (by first | omega | assumption | (simp only [lens]; first | omega | assumption) | (simp [lens]; done) | (simp [lens]; omega)) ?_) | (refine st_set rfl 22 _ _ rfl hm rfl rfl 2 rfl one22 (by first | omega | assumption | (simp only [lens]; first | omega | assumption) | (simp [lens]; done) | (simp [lens]; omega)) ?_) | (refine st_set rfl 22 _ _ rfl hm rfl rfl 3 rfl one22 (by first | omega | assumption | (simp only [lens]; first | omega | assumption) | (simp [lens]; done) | (simp [lens]; omega)) ?_)); clear hm; intro ws hm; simp only [List.set_cons_zero, List.set_cons_succ] at hm) | ((with_reducible refine gt_field 28 0 ?_); refine st_field rfl 28 _ 0 rfl rfl field28_0 ?_) | ((with_reducible refine gt_elem 23 ?_); refine st_elem rfl 23 _ _ rfl rfl rfl arr23 (by first | omega | assumption | (simp only [lens]; first | omega | assumption) | (simp [lens]; done) | (simp [lens]; omega)) (by first | omega | assumption | (simp only [lens]; first | omega | assumption) | (simp [lens]; done) | (simp [lens]; omega)) ?_))
      | (go_at_call 18; refine (HS2.out _).mono ?_; rintro e wb ⟨bk2, cap2, R2, rfl, hR2, ho2, HT2, hb2⟩; replace hm := hm.after hb2; clear hb2 hR2))
     ((try simp only [Exit.inBlock, Exit.then]); (first | (refine ret_cell hm rfl rfl 1 rfl agg28 (by first | omega | assumption | (simp only [lens]; first | omega | assumption) | (simp [lens]; done) | (simp [lens]; omega)) rfl ?_) | (refine ret_cell_tmp hm rfl rfl 1 rfl agg28 (by first | omega | assumption | (simp only [lens]; first | omega | assumption) | (simp [lens]; done) | (simp [lens]; omega)) rfl ?_)))
     exact ⟨by rw [HVN]; rfl, hm.done (by simp [ho])⟩
    | cons c r =>
     by_cases hc115 : c = 115
     ·subst hc115
      have HV : Aside0 (V = match (match wordP true (sp 120 r) with | none => none | some (j, n) => goS (WS.drop (i + 1)) (L.set j n)) with | none => none | some L => if lockT L = l then some L else none) := ⟨HQ.out.trans (by rw [goS, wordS, if_pos rfl]; rfl)⟩
      have HS2 := Aside0.mk (fun W => splitK_calls 120 r (by simp at hxl ⊢; omega) W)
      clear HQ
      generalize sp 120 r = PS at *
      have hz : 0 < (⟨(115 :: r).toArray⟩ : ByteArray).size := by rw [bs_size]; simp
      have h115 : ((((⟨(115 :: r).toArray⟩ : ByteArray)[0]'hz).toNat : Int) == 115) = true := rfl
      go_wp2_with fail
      rw [bs_drop1]
      refine (HS2.out _).mono ?_
      rintro e wb ⟨bk2, cap2, R2, rfl, hR2, ho2, HT2, hb2⟩
      have hmb := hm.grow hb2
      rw [hR2] at hmb
      replace hm := hm.after hb2
      clear hb2 hR2
      rcases PS with _ | ⟨a, _ | ⟨b, _ | ⟨b3, r3⟩⟩⟩
      ·have HVN : V = none := HV.out
       go_wp2_with (first | fail | ((with_reducible refine gt_alloc 2 28 ?_); refine st_alloc rfl 2 rfl 28 rfl hm zero28 ?_; clear hm; intro g2 w2 hm) | ((with_reducible refine gt_build 28 ?_); refine st_zero rfl 28 rfl built28 ?_) | ((with_reducible refine gt_alloc 4 28 ?_); refine st_alloc rfl 4 rfl 28 rfl hm zero28 ?_; clear hm; intro g4 w4 hm) | ((with_reducible refine gt_store 28 ?_); (first | (refine st_full rfl 28 _ _ rfl hm rfl rfl 0 rfl agg28 (by first | omega | assumption | (simp only [lens]; first | omega | assumption) | (simp [lens]; done) | (simp [lens]; omega)) (by first | omega | assumption | (simp only [lens]; first | omega | assumption) | (simp [lens]; done) | (simp [lens]; omega)) ?_) | (refine st_full rfl 28 _ _ rfl hm rfl rfl 1 rfl agg28 (by first | omega | assumption | (simp only [lens]; first | omega | assumption) | (simp [lens]; done) | (simp [lens]; omega)) (by first | omega | assumption | (simp only [lens]; first | omega | assumption) | (simp [lens]; done) | (simp [lens]; omega)) ?_) | (refine st_full rfl 28 _ _ rfl hm rfl rfl 2 rfl agg28 (by first | omega | assumption | (simp only [lens]; first | omega | assumption) | (simp [lens]; done) | (simp [lens]; omega)) (by first | omega | assumption | (simp only [lens]; first | omega | assumption) | (simp [lens]; done) | (simp [lens]; omega)) ?_) | (refine st_full rfl 28 _ _ rfl hm rfl rfl 3 rfl agg28 (by first | omega | assumption | (simp only [lens]; first | omega | assumption) | (simp [lens]; done) | (simp [lens]; omega)) (by first | omega | assumption | (simp only [lens]; first | omega | assumption) | (simp [lens]; done) | (simp [lens]; omega)) ?_)); clear hm; intro ws hm; simp only [List.set_cons_zero, List.set_cons_succ] at hm) | ((with_reducible refine gt_load 28 ?_); (first | (refine st_load rfl 28 _ rfl hm rfl 0 rfl agg28 (by first | omega | assumption | (simp only [lens]; first | omega | assumption) | (simp [lens]; done) | (simp [lens]; omega)) ?_) | (refine st_load rfl 28 _ rfl hm rfl 1 rfl agg28 (by first | omega | assumption | (simp only [lens]; first | omega | assumption) | (simp [lens]; done) | (simp [lens]; omega)) ?_) | (refine st_load rfl 28 _ rfl hm rfl 2 rfl agg28 (by first | omega | assumption | (simp only [lens]; first | omega | assumption) | (simp [lens]; done) | (simp [lens]; omega)) ?_) | (refine st_load rfl 28 _ rfl hm rfl 3 rfl agg28 (by first | omega | assumption | (simp only [lens]; first | omega | assumption) | (simp [lens]; done) | (simp [lens]; omega)) ?_))) | ((with_reducible refine gt_field 28 1 ?_); refine st_field rfl 28 _ 1 rfl rfl field28_1 ?_) | ((with_reducible refine gt_elem 24 ?_); refine st_elem rfl 24 _ _ rfl rfl rfl arr24 (by first | omega | assumption | (simp only [lens]; first | omega | assumption) | (simp [lens]; done) | (simp [lens]; omega)) (by first | omega | assumption | (simp only [lens]; first | omega | assumption) | (simp [lens]; done) | (simp [lens]; omega)) ?_) | ((with_reducible refine gt_store 22 ?_); (first | (refine st_set rfl 22 _ _ rfl hm rfl rfl 0 rfl one22 (by first | omega | assumption | (simp only [lens]; first | omega | assumption) | (simp [lens]; done) | (simp [lens]; omega)) ?_) | (refine st_set rfl 22 _ _ rfl hm rfl rfl 1 rfl one22 (by first | omega | assumption | (simp only [lens]; first | omega | assumption) | (simp [lens]; done) | (simp [lens]; omega)) ?_) | (refine st_set rfl 22 _ _ rfl hm rfl rfl 2 rfl one22 (by first | omega | assumption | (simp only [lens]; first | omega | assumption) | (simp [lens]; done) | (simp [lens]; omega)) ?_) | (refine st_set rfl 22 _ _ rfl hm rfl rfl 3 rfl one22 (by first | omega | assumption | (simp only [lens]; first | omega | assumption) | (simp [lens]; done) | (simp [lens]; omega)) ?_)); clear hm; intro ws hm; simp only [List.set_cons_zero, List.set_cons_succ] at hm) | ((with_reducible refine gt_field 28 0 ?_); refine st_field rfl 28 _ 0 rfl rfl field28_0 ?_) | ((with_reducible refine gt_elem 23 ?_); refine st_elem rfl 23 _ _ rfl rfl rfl arr23 (by first | omega | assumption | (simp only [lens]; first | omega | assumption) | (simp [lens]; done) | (simp [lens]; omega)) (by first | omega | assumption | (simp only [lens]; first | omega | assumption) | (simp [lens]; done) | (simp [lens]; omega)) ?_))
       ((try simp only [Exit.inBlock, Exit.then]); (first | (refine ret_cell hm rfl rfl 1 rfl agg28 (by first | omega | assumption | (simp only [lens]; first | omega | assumption) | (simp [lens]; done) | (simp [lens]; omega)) rfl ?_) | (refine ret_cell_tmp hm rfl rfl 1 rfl agg28 (by first | omega | assumption | (simp only [lens]; first | omega | assumption) | (simp [lens]; done) | (simp [lens]; omega)) rfl ?_)))
       exact ⟨by rw [HVN]; rfl, hm.done (by simp [ho])⟩
      ·have HVN : V = none := HV.out
       go_wp2_with (first | fail | ((with_reducible refine gt_alloc 2 28 ?_); refine st_alloc rfl 2 rfl 28 rfl hm zero28 ?_; clear hm; intro g2 w2 hm) | ((with_reducible refine gt_build 28 ?_); refine st_zero rfl 28 rfl built28 ?_) | ((with_reducible refine gt_alloc 4 28 ?_); refine st_alloc rfl 4 rfl 28 rfl hm zero28 ?_; clear hm; intro g4 w4 hm) | ((with_reducible refine gt_store 28 ?_); (first | (refine st_full rfl 28 _ _ rfl hm rfl rfl 0 rfl agg28 (by first | omega | assumption | (simp only [lens]; first | omega | assumption) | (simp [lens]; done) | (simp [lens]; omega)) (by first | omega | assumption | (simp only [lens]; first | omega | assumption) | (simp [lens]; done) | (simp [lens]; omega)) ?_) | (refine st_full rfl 28 _ _ rfl hm rfl rfl 1 rfl agg28 (by first | omega | assumption | (simp only [lens]; first | omega | assumption) | (simp [lens]; done) | (simp [lens]; omega)) (by first | omega | assumption | (simp only [lens]; first | omega | assumption) | (simp [lens]; done) | (simp [lens]; omega)) ?_) | (refine st_full rfl 28 _ _ rfl hm rfl rfl 2 rfl agg28 (by first | omega | assumption | (simp only [lens]; first | omega | assumption) | (simp [lens]; done) | (simp [lens]; omega)) (by first | omega | assumption | (simp only [lens]; first | omega | assumption) | (simp [lens]; done) | (simp [lens]; omega)) ?_) | (refine st_full rfl 28 _ _ rfl hm rfl rfl 3 rfl agg28 (by first | omega | assumption | (simp only [lens]; first | omega | assumption) | (simp [lens]; done) | (simp [lens]; omega)) (by first | omega | assumption | (simp only [lens]; first | omega | assumption) | (simp [lens]; done) | (simp [lens]; omega)) ?_)); clear hm; intro ws hm; simp only [List.set_cons_zero, List.set_cons_succ] at hm) | ((with_reducible refine gt_load 28 ?_); (first | (refine st_load rfl 28 _ rfl hm rfl 0 rfl agg28 (by first | omega | assumption | (simp only [lens]; first | omega | assumption) | (simp [lens]; done) | (simp [lens]; omega)) ?_) | (refine st_load rfl 28 _ rfl hm rfl 1 rfl agg28 (by first | omega | assumption | (simp only [lens]; first | omega | assumption) | (simp [lens]; done) | (simp [lens]; omega)) ?_) | (refine st_load rfl 28 _ rfl hm rfl 2 rfl agg28 (by first | omega | assumption | (simp only [lens]; first | omega | assumption) | (simp [lens]; done) | (simp [lens]; omega)) ?_) | (refine st_load rfl 28 _ rfl hm rfl 3 rfl agg28 (by first | omega | assumption | (simp only [lens]; first | omega | assumption) | (simp [lens]; done) | (simp [lens]; omega)) ?_))) | ((with_reducible refine gt_field 28 1 ?_); refine st_field rfl 28 _ 1 rfl rfl field28_1 ?_) | ((with_reducible refine gt_elem 24 ?_); refine st_elem rfl 24 _ _ rfl rfl rfl arr24 (by first | omega | assumption | (simp only [lens]; first | omega | assumption) | (simp [lens]; done) | (simp [lens]; omega)) (by first | omega | assumption | (simp only [lens]; first | omega | assumption) | (simp [lens]; done) | (simp [lens]; omega)) ?_) | ((with_reducible refine gt_store 22 ?_); (first | (refine st_set rfl 22 _ _ rfl hm rfl rfl 0 rfl one22 (by first | omega | assumption | (simp only [lens]; first | omega | assumption) | (simp [lens]; done) | (simp [lens]; omega)) ?_) | (refine st_set rfl 22 _ _ rfl hm rfl rfl 1 rfl one22 (by first | omega | assumption | (simp only [lens]; first | omega | assumption) | (simp [lens]; done) | (simp [lens]; omega)) ?_) | (refine st_set rfl 22 _ _ rfl hm rfl rfl 2 rfl one22 (by first | omega | assumption | (simp only [lens]; first | omega | assumption) | (simp [lens]; done) | (simp [lens]; omega)) ?_) | (refine st_set rfl 22 _ _ rfl hm rfl rfl 3 rfl one22 (by first | omega | assumption | (simp only [lens]; first | omega | assumption) | (simp [lens]; done) | (simp [lens]; omega)) ?_)); clear hm; intro ws hm; simp only [List.set_cons_zero, List.set_cons_succ] at hm) | ((with_reducible refine gt_field 28 0 ?_); refine st_field rfl 28 _ 0 rfl rfl field28_0 ?_) | ((with_reducible refine gt_elem 23 ?_); refine st_elem rfl 23 _ _ rfl rfl rfl arr23 (by first | omega | assumption | (simp only [lens]; first | omega | assumption) | (simp [lens]; done) | (simp [lens]; omega)) (by first | omega | assumption | (simp only [lens]; first | omega | assumption) | (simp [lens]; done) | (simp [lens]; omega)) ?_))
       ((try simp only [Exit.inBlock, Exit.then]); (first | (refine ret_cell hm rfl rfl 1 rfl agg28 (by first | omega | assumption | (simp only [lens]; first | omega | assumption) | (simp [lens]; done) | (simp [lens]; omega)) rfl ?_) | (refine ret_cell_tmp hm rfl rfl 1 rfl agg28 (by first | omega | assumption | (simp only [lens]; first | omega | assumption) | (simp [lens]; done) | (simp [lens]; omega)) rfl ?_)))
       exact ⟨by rw [HVN]; rfl, hm.done (by simp [ho])⟩
      ·have hc0 : wb.cell? ⟨bk2, 0, none⟩ = some (.string ⟨a.toArray⟩) := HT2 wb (fun e he => (hmb.ent e (by simp [he])).1) 0 a rfl
       have hc1 : wb.cell? ⟨bk2, 1, none⟩ = some (.string ⟨b.toArray⟩) := HT2 wb (fun e he => (hmb.ent e (by simp [he])).1) 1 b rfl
       clear hmb
       have ha := numS_ge a
       have HNA := Aside0.mk (fun W => num_calls a W)
       have HNB := Aside0.mk (fun W => num_calls b W)
       have HP := Aside0.mk (show wordP true [a, b] = if (numS a).2 = true ∧ (numS b).2 = true ∧ (1 ≤ (numS b).1 ∧ (numS b).1 ≤ 20) ∧ (numS a).1 < 40 ∧ (true = true → 1 ≤ (numS a).1 ∧ (numS a).1 ≤ 4) then some (if true = true then 39 + (numS a).1.toNat else (numS a).1.toNat, (numS b).1) else none from rfl)
       generalize wordP true [a, b] = WP at *
       generalize numS a = na at *
       generalize numS b = nb at *
       obtain ⟨ka, oa⟩ := na
       obtain ⟨kb, ob⟩ := nb
       dsimp only at HP ha HNA HNB
       have HI1 := Aside0.mk (fun W => spec_l00In.calls kb 1 20 (decide (1 ≤ kb ∧ kb ≤ 20)) W (by unfold spec_l00In.f; by_cases h : kb ≥ 1 <;> simp [h]))
       have HI2 := Aside0.mk (fun W => spec_l00In.calls ka 1 4 (decide (1 ≤ ka ∧ ka ≤ 4)) W (by unfold spec_l00In.f; by_cases h : ka ≥ 1 <;> simp [h]))
       by_cases hg : oa = true ∧ ob = true ∧ (1 ≤ kb ∧ kb ≤ 20) ∧ ka < 40 ∧ (true = true → 1 ≤ ka ∧ ka ≤ 4)
       ·obtain ⟨rfl, rfl, h1, h2, h3⟩ := hg
        rw [HP.out, if_pos ⟨rfl, rfl, h1, h2, h3⟩] at HV
        rw [decide_eq_true h1] at HI1
        rw [decide_eq_true (h3 rfl)] at HI2
        have h3' := h3 rfl
        go_wp2_with (first
         | (first | fail | ((with_reducible refine gt_alloc 2 28 ?_); refine st_alloc rfl 2 rfl 28 rfl hm zero28 ?_; clear hm; intro g2 w2 hm) | ((with_reducible refine gt_build 28 ?_); refine st_zero rfl 28 rfl built28 ?_) | ((with_reducible refine gt_alloc 4 28 ?_); refine st_alloc rfl 4 rfl 28 rfl hm zero28 ?_; clear hm; intro g4 w4 hm) | ((with_reducible refine gt_store 28 ?_); (first | (refine st_full rfl 28 _ _ rfl hm rfl rfl 0 rfl agg28 (by first | omega | assumption | (simp only [lens]; first | omega | assumption) | (simp [lens]; done) | (simp [lens]; omega)) (by first | omega | assumption | (simp only [lens]; first | omega | assumption) | (simp [lens]; done) | (simp [lens]; omega)) ?_) | (refine st_full rfl 28 _ _ rfl hm rfl rfl 1 rfl agg28 (by first | omega | assumption | (simp only [lens]; first | omega | assumption) | (simp [lens]; done) | (simp [lens]; omega)) (by first | omega | assumption | (simp only [lens]; first | omega | assumption) | (simp [lens]; done) | (simp [lens]; omega)) ?_) | (refine st_full rfl 28 _ _ rfl hm rfl rfl 2 rfl agg28 (by first | omega | assumption | (simp only [lens]; first | omega | assumption) | (simp [lens]; done) | (simp [lens]; omega)) (by first | omega | assumption | (simp only [lens]; first | omega | assumption) | (simp [lens]; done) | (simp [lens]; omega)) ?_) | (refine st_full rfl 28 _ _ rfl hm rfl rfl 3 rfl agg28 (by first | omega | assumption | (simp only [lens]; first | omega | assumption) | (simp [lens]; done) | (simp [lens]; omega)) (by first | omega | assumption | (simp only [lens]; first | omega | assumption) | (simp [lens]; done) | (simp [lens]; omega)) ?_)); clear hm; intro ws hm; simp only [List.set_cons_zero, List.set_cons_succ] at hm) | ((with_reducible refine gt_load 28 ?_); (first | (refine st_load rfl 28 _ rfl hm rfl 0 rfl agg28 (by first | omega | assumption | (simp only [lens]; first | omega | assumption) | (simp [lens]; done) | (simp [lens]; omega)) ?_) | (refine st_load rfl 28 _ rfl hm rfl 1 rfl agg28 (by first | omega | assumption | (simp only [lens]; first | omega | assumption) | (simp [lens]; done) | (simp [lens]; omega)) ?_) | (refine st_load rfl 28 _ rfl hm rfl 2 rfl agg28 (by first | omega | assumption | (simp only [lens]; first | omega | assumption) | (simp [lens]; done) | (simp [lens]; omega)) ?_) | (refine st_load rfl 28 _ rfl hm rfl 3 rfl agg28 (by first | omega | assumption | (simp only [lens]; first | omega | assumption) | (simp [lens]; done) | (simp [lens]; omega)) ?_))) | ((with_reducible refine gt_field 28 1 ?_); refine st_field rfl 28 _ 1 rfl rfl field28_1 ?_) | ((with_reducible refine gt_elem 24 ?_); refine st_elem rfl 24 _ _ rfl rfl rfl arr24 (by first | omega | assumption | (simp only [lens]; first | omega | assumption) | (simp [lens]; done) | (simp [lens]; omega)) (by first | omega | assumption | (simp only [lens]; first | omega | assumption) | (simp [lens]; done) | (simp [lens]; omega)) ?_) | ((with_reducible refine gt_store 22 ?_); (first | (refine st_set rfl 22 _ _ rfl hm rfl rfl 0 rfl one22 (by first | omega | assumption | (simp only [lens]; first | omega | assumption) | (simp [lens]; done) | (simp [lens]; omega)) ?_) | (refine st_set rfl 22 _ _ rfl hm rfl rfl 1 rfl one22 (by first | omega | assumption | (simp only [lens]; first | omega | assumption) | (simp [lens]; done) | (simp [lens]; omega)) ?_) | (refine st_set rfl 22 _ _ rfl hm rfl rfl 2 rfl one22 (by first | omega | assumption | (simp only [lens]; first | omega | assumption) | (simp [lens]; done) | (simp [lens]; omega)) ?_) | (refine st_set rfl 22 _ _ rfl hm rfl rfl 3 rfl one22 (by first | omega | assumption | (simp only [lens]; first | omega | assumption) | (simp [lens]; done) | (simp [lens]; omega)) ?_)); clear hm; intro ws hm; simp only [List.set_cons_zero, List.set_cons_succ] at hm) | ((with_reducible refine gt_field 28 0 ?_); refine st_field rfl 28 _ 0 rfl rfl field28_0 ?_) | ((with_reducible refine gt_elem 23 ?_); refine st_elem rfl 23 _ _ rfl rfl rfl arr23 (by first | omega | assumption | (simp only [lens]; first | omega | assumption) | (simp [lens]; done) | (simp [lens]; omega)) (by first | omega | assumption | (simp only [lens]; first | omega | assumption) | (simp [lens]; done) | (simp [lens]; omega)) ?_))
         | (go_at_call 19; first
          | (with_reducible refine (HNA.out _).mono ?_; rintro e wc ⟨rfl, hbc⟩; replace hm := hm.after hbc; have hc2 := FrBelow.read hbc hc1; clear hbc)
          | (with_reducible refine (HNB.out _).mono ?_; rintro e wd ⟨rfl, hbd⟩; replace hm := hm.after hbd; have hmd := Aside0.mk hm; have hcs := hm.get (n := 0) rfl (40 + (ka.toNat - 1)) (by omega); have hfz := hm.frozen (n := 0) rfl (40 + (ka.toNat - 1)); clear hbd))
         | (go_at_call 20; first
          | (with_reducible refine (HI1.out _).mono ?_; rintro e we ⟨rfl, ⟨ne, rfl⟩⟩; replace hm := hm.drawn3 ne)
          | (with_reducible refine (HI2.out _).mono ?_; rintro e wf ⟨rfl, ⟨nf, rfl⟩⟩; replace hm := hmd.out.drawn3 (ne + nf))))
        refine ⟨⟨i + 1, L.set (39 + ka.toNat) kb, by omega, rfl, by simpa using hLl, okL_set hok _ (by omega) h1.2, HV, ?_⟩, by simp [intOf]; omega⟩
        rw [show 39 + ka.toNat = 40 + (ka.toNat - 1) by omega]
        simpa using hm
       ·rw [HP.out, if_neg hg] at HV
        have HVN : V = none := HV.out
        cases oa
        ·go_wp2_with (first
          | (first | fail | ((with_reducible refine gt_alloc 2 28 ?_); refine st_alloc rfl 2 rfl 28 rfl hm zero28 ?_; clear hm; intro g2 w2 hm) | ((with_reducible refine gt_build 28 ?_); refine st_zero rfl 28 rfl built28 ?_) | ((with_reducible refine gt_alloc 4 28 ?_); refine st_alloc rfl 4 rfl 28 rfl hm zero28 ?_; clear hm; intro g4 w4 hm) | ((with_reducible refine gt_store 28 ?_); (first | (refine st_full rfl 28 _ _ rfl hm rfl rfl 0 rfl agg28 (by first | omega | assumption | (simp only [lens]; first | omega | assumption) | (simp [lens]; done) | (simp [lens]; omega)) (by first | omega | assumption | (simp only [lens]; first | omega | assumption) | (simp [lens]; done) | (simp [lens]; omega)) ?_) | (refine st_full rfl 28 _ _ rfl hm rfl rfl 1 rfl agg28 (by first | omega | assumption | (simp only [lens]; first | omega | assumption) | (simp [lens]; done) | (simp [lens]; omega)) (by first | omega | assumption | (simp only [lens]; first | omega | assumption) | (simp [lens]; done) | (simp [lens]; omega)) ?_) | (refine st_full rfl 28 _ _ rfl hm rfl rfl 2 rfl agg28 (by first | omega | assumption | (simp only [lens]; first | omega | assumption) | (simp [lens]; done) | (simp [lens]; omega)) (by first | omega | assumption | (simp only [lens]; first | omega | assumption) | (simp [lens]; done) | (simp [lens]; omega)) ?_) | (refine st_full rfl 28 _ _ rfl hm rfl rfl 3 rfl agg28 (by first | omega | assumption | (simp only [lens]; first | omega | assumption) | (simp [lens]; done) | (simp [lens]; omega)) (by first | omega | assumption | (simp only [lens]; first | omega | assumption) | (simp [lens]; done) | (simp [lens]; omega)) ?_)); clear hm; intro ws hm; simp only [List.set_cons_zero, List.set_cons_succ] at hm) | ((with_reducible refine gt_load 28 ?_); (first | (refine st_load rfl 28 _ rfl hm rfl 0 rfl agg28 (by first | omega | assumption | (simp only [lens]; first | omega | assumption) | (simp [lens]; done) | (simp [lens]; omega)) ?_) | (refine st_load rfl 28 _ rfl hm rfl 1 rfl agg28 (by first | omega | assumption | (simp only [lens]; first | omega | assumption) | (simp [lens]; done) | (simp [lens]; omega)) ?_) | (refine st_load rfl 28 _ rfl hm rfl 2 rfl agg28 (by first | omega | assumption | (simp only [lens]; first | omega | assumption) | (simp [lens]; done) | (simp [lens]; omega)) ?_) | (refine st_load rfl 28 _ rfl hm rfl 3 rfl agg28 (by first | omega | assumption | (simp only [lens]; first | omega | assumption) | (simp [lens]; done) | (simp [lens]; omega)) ?_))) | ((with_reducible refine gt_field 28 1 ?_); refine st_field rfl 28 _ 1 rfl rfl field28_1 ?_) | ((with_reducible refine gt_elem 24 ?_); refine st_elem rfl 24 _ _ rfl rfl rfl arr24 (by first | omega | assumption | (simp only [lens]; first | omega | assumption) | (simp [lens]; done) | (simp [lens]; omega)) (by first | omega | assumption | (simp only [lens]; first | omega | assumption) | (simp [lens]; done) | (simp [lens]; omega)) ?_) | ((with_reducible refine gt_store 22 ?_); (first | (refine st_set rfl 22 _ _ rfl hm rfl rfl 0 rfl one22 (by first | omega | assumption | (simp only [lens]; first | omega | assumption) | (simp [lens]; done) | (simp [lens]; omega)) ?_) | (refine st_set rfl 22 _ _ rfl hm rfl rfl 1 rfl one22 (by first | omega | assumption | (simp only [lens]; first | omega | assumption) | (simp [lens]; done) | (simp [lens]; omega)) ?_) | (refine st_set rfl 22 _ _ rfl hm rfl rfl 2 rfl one22 (by first | omega | assumption | (simp only [lens]; first | omega | assumption) | (simp [lens]; done) | (simp [lens]; omega)) ?_) | (refine st_set rfl 22 _ _ rfl hm rfl rfl 3 rfl one22 (by first | omega | assumption | (simp only [lens]; first | omega | assumption) | (simp [lens]; done) | (simp [lens]; omega)) ?_)); clear hm; intro ws hm; simp only [List.set_cons_zero, List.set_cons_succ] at hm) | ((with_reducible refine gt_field 28 0 ?_); refine st_field rfl 28 _ 0 rfl rfl field28_0 ?_) | ((with_reducible refine gt_elem 23 ?_); refine st_elem rfl 23 _ _ rfl rfl rfl arr23 (by first | omega | assumption | (simp only [lens]; first | omega | assumption) | (simp [lens]; done) | (simp [lens]; omega)) (by first | omega | assumption | (simp only [lens]; first | omega | assumption) | (simp [lens]; done) | (simp [lens]; omega)) ?_))
          | (go_at_call 19; first
           | (with_reducible refine (HNA.out _).mono ?_; rintro e wc ⟨rfl, hbc⟩; replace hm := hm.after hbc; have hc2 := FrBelow.read hbc hc1; clear hbc)
           | (with_reducible refine (HNB.out _).mono ?_; rintro e wd ⟨rfl, hbd⟩; replace hm := hm.after hbd; have hmd := Aside0.mk hm; clear hbd))
          | (go_at_call 20; first
           | (with_reducible refine (HI1.out _).mono ?_; rintro e we ⟨rfl, ⟨ne, rfl⟩⟩; replace hm := hm.drawn3 ne)
           | (with_reducible refine (HI2.out _).mono ?_; rintro e wf ⟨rfl, ⟨nf, rfl⟩⟩; replace hm := hmd.out.drawn3 (ne + nf))))
         ((try simp only [Exit.inBlock, Exit.then]); (first | (refine ret_cell hm rfl rfl 1 rfl agg28 (by first | omega | assumption | (simp only [lens]; first | omega | assumption) | (simp [lens]; done) | (simp [lens]; omega)) rfl ?_) | (refine ret_cell_tmp hm rfl rfl 1 rfl agg28 (by first | omega | assumption | (simp only [lens]; first | omega | assumption) | (simp [lens]; done) | (simp [lens]; omega)) rfl ?_)))
         exact ⟨by rw [HVN]; rfl, hm.done (by simp [ho])⟩
        ·cases ob
         ·go_wp2_with (first
           | (first | fail | ((with_reducible refine gt_alloc 2 28 ?_); refine st_alloc rfl 2 rfl 28 rfl hm zero28 ?_; clear hm; intro g2 w2 hm) | ((with_reducible refine gt_build 28 ?_); refine st_zero rfl 28 rfl built28 ?_) | ((with_reducible refine gt_alloc 4 28 ?_); refine st_alloc rfl 4 rfl 28 rfl hm zero28 ?_; clear hm; intro g4 w4 hm) | ((with_reducible refine gt_store 28 ?_); (first | (refine st_full rfl 28 _ _ rfl hm rfl rfl 0 rfl agg28 (by first | omega | assumption | (simp only [lens]; first | omega | assumption) | (simp [lens]; done) | (simp [lens]; omega)) (by first | omega | assumption | (simp only [lens]; first | omega | assumption) | (simp [lens]; done) | (simp [lens]; omega)) ?_) | (refine st_full rfl 28 _ _ rfl hm rfl rfl 1 rfl agg28 (by first | omega | assumption | (simp only [lens]; first | omega | assumption) | (simp [lens]; done) | (simp [lens]; omega)) (by first | omega | assumption | (simp only [lens]; first | omega | assumption) | (simp [lens]; done) | (simp [lens]; omega)) ?_) | (refine st_full rfl 28 _ _ rfl hm rfl rfl 2 rfl agg28 (by first | omega | assumption | (simp only [lens]; first | omega | assumption) | (simp [lens]; done) | (simp [lens]; omega)) (by first | omega | assumption | (simp only [lens]; first | omega | assumption) | (simp [lens]; done) | (simp [lens]; omega)) ?_) | (refine st_full rfl 28 _ _ rfl hm rfl rfl 3 rfl agg28 (by first | omega | assumption | (simp only [lens]; first | omega | assumption) | (simp [lens]; done) | (simp [lens]; omega)) (by first | omega | assumption | (simp only [lens]; first | omega | assumption) | (simp [lens]; done) | (simp [lens]; omega)) ?_)); clear hm; intro ws hm; simp only [List.set_cons_zero, List.set_cons_succ] at hm) | ((with_reducible refine gt_load 28 ?_); (first | (refine st_load rfl 28 _ rfl hm rfl 0 rfl agg28 (by first | omega | assumption | (simp only [lens]; first | omega | assumption) | (simp [lens]; done) | (simp [lens]; omega)) ?_) | (refine st_load rfl 28 _ rfl hm rfl 1 rfl agg28 (by first | omega | assumption | (simp only [lens]; first | omega | assumption) | (simp [lens]; done) | (simp [lens]; omega)) ?_) | (refine st_load rfl 28 _ rfl hm rfl 2 rfl agg28 (by first | omega | assumption | (simp only [lens]; first | omega | assumption) | (simp [lens]; done) | (simp [lens]; omega)) ?_) | (refine st_load rfl 28 _ rfl hm rfl 3 rfl agg28 (by first | omega | assumption | (simp only [lens]; first | omega | assumption) | (simp [lens]; done) | (simp [lens]; omega)) ?_))) | ((with_reducible refine gt_field 28 1 ?_); refine st_field rfl 28 _ 1 rfl rfl field28_1 ?_) | ((with_reducible refine gt_elem 24 ?_); refine st_elem rfl 24 _ _ rfl rfl rfl arr24 (by first | omega | assumption | (simp only [lens]; first | omega | assumption) | (simp [lens]; done) | (simp [lens]; omega)) (by first | omega | assumption | (simp only [lens]; first | omega | assumption) | (simp [lens]; done) | (simp [lens]; omega)) ?_) | ((with_reducible refine gt_store 22 ?_); (first | (refine st_set rfl 22 _ _ rfl hm rfl rfl 0 rfl one22 (by first | omega | assumption | (simp only [lens]; first | omega | assumption) | (simp [lens]; done) | (simp [lens]; omega)) ?_) | (refine st_set rfl 22 _ _ rfl hm rfl rfl 1 rfl one22 (by first | omega | assumption | (simp only [lens]; first | omega | assumption) | (simp [lens]; done) | (simp [lens]; omega)) ?_) | (refine st_set rfl 22 _ _ rfl hm rfl rfl 2 rfl one22 (by first | omega | assumption | (simp only [lens]; first | omega | assumption) | (simp [lens]; done) | (simp [lens]; omega)) ?_) | (refine st_set rfl 22 _ _ rfl hm rfl rfl 3 rfl one22 (by first | omega | assumption | (simp only [lens]; first | omega | assumption) | (simp [lens]; done) | (simp [lens]; omega)) ?_)); clear hm; intro ws hm; simp only [List.set_cons_zero, List.set_cons_succ] at hm) | ((with_reducible refine gt_field 28 0 ?_); refine st_field rfl 28 _ 0 rfl rfl field28_0 ?_) | ((with_reducible refine gt_elem 23 ?_); refine st_elem rfl 23 _ _ rfl rfl rfl arr23 (by first | omega | assumption | (simp only [lens]; first | omega | assumption) | (simp [lens]; done) | (simp [lens]; omega)) (by first | omega | assumption | (simp only [lens]; first | omega | assumption) | (simp [lens]; done) | (simp [lens]; omega)) ?_))
           | (go_at_call 19; first
            | (with_reducible refine (HNA.out _).mono ?_; rintro e wc ⟨rfl, hbc⟩; replace hm := hm.after hbc; have hc2 := FrBelow.read hbc hc1; clear hbc)
            | (with_reducible refine (HNB.out _).mono ?_; rintro e wd ⟨rfl, hbd⟩; replace hm := hm.after hbd; have hmd := Aside0.mk hm; clear hbd))
           | (go_at_call 20; first
            | (with_reducible refine (HI1.out _).mono ?_; rintro e we ⟨rfl, ⟨ne, rfl⟩⟩; replace hm := hm.drawn3 ne)
            | (with_reducible refine (HI2.out _).mono ?_; rintro e wf ⟨rfl, ⟨nf, rfl⟩⟩; replace hm := hmd.out.drawn3 (ne + nf))))
          ((try simp only [Exit.inBlock, Exit.then]); (first | (refine ret_cell hm rfl rfl 1 rfl agg28 (by first | omega | assumption | (simp only [lens]; first | omega | assumption) | (simp [lens]; done) | (simp [lens]; omega)) rfl ?_) | (refine ret_cell_tmp hm rfl rfl 1 rfl agg28 (by first | omega | assumption | (simp only [lens]; first | omega | assumption) | (simp [lens]; done) | (simp [lens]; omega)) rfl ?_)))
          exact ⟨by rw [HVN]; rfl, hm.done (by simp [ho])⟩
         ·by_cases h1 : 1 ≤ kb ∧ kb ≤ 20
          ·rw [decide_eq_true h1] at HI1
           by_cases h2 : ka < 40
           ·have h3 : ¬ (1 ≤ ka ∧ ka ≤ 4) := fun h3 => hg ⟨rfl, rfl, h1, h2, fun _ => h3⟩
            rw [decide_eq_false h3] at HI2
            go_wp2_with (first
             | (first | fail | ((with_reducible refine gt_alloc 2 28 ?_); refine st_alloc rfl 2 rfl 28 rfl hm zero28 ?_; clear hm; intro g2 w2 hm) | ((with_reducible refine gt_build 28 ?_); refine st_zero rfl 28 rfl built28 ?_) | ((with_reducible refine gt_alloc 4 28 ?_); refine st_alloc rfl 4 rfl 28 rfl hm zero28 ?_; clear hm; intro g4 w4 hm) | ((with_reducible refine gt_store 28 ?_); (first | (refine st_full rfl 28 _ _ rfl hm rfl rfl 0 rfl agg28 (by first | omega | assumption | (simp only [lens]; first | omega | assumption) | (simp [lens]; done) | (simp [lens]; omega)) (by first | omega | assumption | (simp only [lens]; first | omega | assumption) | (simp [lens]; done) | (simp [lens]; omega)) ?_) | (refine st_full rfl 28 _ _ rfl hm rfl rfl 1 rfl agg28 (by first | omega | assumption | (simp only [lens]; first | omega | assumption) | (simp [lens]; done) | (simp [lens]; omega)) (by first | omega | assumption | (simp only [lens]; first | omega | assumption) | (simp [lens]; done) | (simp [lens]; omega)) ?_) | (refine st_full rfl 28 _ _ rfl hm rfl rfl 2 rfl agg28 (by first | omega | assumption | (simp only [lens]; first | omega | assumption) | (simp [lens]; done) | (simp [lens]; omega)) (by first | omega | assumption | (simp only [lens]; first | omega | assumption) | (simp [lens]; done) | (simp [lens]; omega)) ?_) | (refine st_full rfl 28 _ _ rfl hm rfl rfl 3 rfl agg28 (by first | omega | assumption | (simp only [lens]; first | omega | assumption) | (simp [lens]; done) | (simp [lens]; omega)) (by first | omega | assumption | (simp only [lens]; first | omega | assumption) | (simp [lens]; done) | (simp [lens]; omega)) ?_)); clear hm; intro ws hm; simp only [List.set_cons_zero, List.set_cons_succ] at hm) | ((with_reducible refine gt_load 28 ?_); (first | (refine st_load rfl 28 _ rfl hm rfl 0 rfl agg28 (by first | omega | assumption | (simp only [lens]; first | omega | assumption) | (simp [lens]; done) | (simp [lens]; omega)) ?_) | (refine st_load rfl 28 _ rfl hm rfl 1 rfl agg28 (by first | omega | assumption | (simp only [lens]; first | omega | assumption) | (simp [lens]; done) | (simp [lens]; omega)) ?_) | (refine st_load rfl 28 _ rfl hm rfl 2 rfl agg28 (by first | omega | assumption | (simp only [lens]; first | omega | assumption) | (simp [lens]; done) | (simp [lens]; omega)) ?_) | (refine st_load rfl 28 _ rfl hm rfl 3 rfl agg28 (by first | omega | assumption | (simp only [lens]; first | omega | assumption) | (simp [lens]; done) | (simp [lens]; omega)) ?_))) | ((with_reducible refine gt_field 28 1 ?_); refine st_field rfl 28 _ 1 rfl rfl field28_1 ?_) | ((with_reducible refine gt_elem 24 ?_); refine st_elem rfl 24 _ _ rfl rfl rfl arr24 (by first | omega | assumption | (simp only [lens]; first | omega | assumption) | (simp [lens]; done) | (simp [lens]; omega)) (by first | omega | assumption | (simp only [lens]; first | omega | assumption) | (simp [lens]; done) | (simp [lens]; omega)) ?_) | ((with_reducible refine gt_store 22 ?_); (first | (refine st_set rfl 22 _ _ rfl hm rfl rfl 0 rfl one22 (by first | omega | assumption | (simp only [lens]; first | omega | assumption) | (simp [lens]; done) | (simp [lens]; omega)) ?_) | (refine st_set rfl 22 _ _ rfl hm rfl rfl 1 rfl one22 (by first | omega | assumption | (simp only [lens]; first | omega | assumption) | (simp [lens]; done) | (simp [lens]; omega)) ?_) | (refine st_set rfl 22 _ _ rfl hm rfl rfl 2 rfl one22 (by first | omega | assumption | (simp only [lens]; first | omega | assumption) | (simp [lens]; done) | (simp [lens]; omega)) ?_) | (refine st_set rfl 22 _ _ rfl hm rfl rfl 3 rfl one22 (by first | omega | assumption | (simp only [lens]; first | omega | assumption) | (simp [lens]; done) | (simp [lens]; omega)) ?_)); clear hm; intro ws hm; simp only [List.set_cons_zero, List.set_cons_succ] at hm) | ((with_reducible refine gt_field 28 0 ?_); refine st_field rfl 28 _ 0 rfl rfl field28_0 ?_) | ((with_reducible refine gt_elem 23 ?_); refine st_elem rfl 23 _ _ rfl rfl rfl arr23 (by first | omega | assumption | (simp only [lens]; first | omega | assumption) | (simp [lens]; done) | (simp [lens]; omega)) (by first | omega | assumption | (simp only [lens]; first | omega | assumption) | (simp [lens]; done) | (simp [lens]; omega)) ?_))
             | (go_at_call 19; first
              | (with_reducible refine (HNA.out _).mono ?_; rintro e wc ⟨rfl, hbc⟩; replace hm := hm.after hbc; have hc2 := FrBelow.read hbc hc1; clear hbc)
              | (with_reducible refine (HNB.out _).mono ?_; rintro e wd ⟨rfl, hbd⟩; replace hm := hm.after hbd; have hmd := Aside0.mk hm; clear hbd))
             | (go_at_call 20; first
              | (with_reducible refine (HI1.out _).mono ?_; rintro e we ⟨rfl, ⟨ne, rfl⟩⟩; replace hm := hm.drawn3 ne)
              | (with_reducible refine (HI2.out _).mono ?_; rintro e wf ⟨rfl, ⟨nf, rfl⟩⟩; replace hm := hmd.out.drawn3 (ne + nf))))
            ((try simp only [Exit.inBlock, Exit.then]); (first | (refine ret_cell hm rfl rfl 1 rfl agg28 (by first | omega | assumption | (simp only [lens]; first | omega | assumption) | (simp [lens]; done) | (simp [lens]; omega)) rfl ?_) | (refine ret_cell_tmp hm rfl rfl 1 rfl agg28 (by first | omega | assumption | (simp only [lens]; first | omega | assumption) | (simp [lens]; done) | (simp [lens]; omega)) rfl ?_)))
            exact ⟨by rw [HVN]; rfl, hm.done (by simp [ho])⟩
           ·go_wp2_with (first
             | (first | fail | ((with_reducible refine gt_alloc 2 28 ?_); refine st_alloc rfl 2 rfl 28 rfl hm zero28 ?_; clear hm; intro g2 w2 hm) | ((with_reducible refine gt_build 28 ?_); refine st_zero rfl 28 rfl built28 ?_) | ((with_reducible refine gt_alloc 4 28 ?_); refine st_alloc rfl 4 rfl 28 rfl hm zero28 ?_; clear hm; intro g4 w4 hm) | ((with_reducible refine gt_store 28 ?_); (first | (refine st_full rfl 28 _ _ rfl hm rfl rfl 0 rfl agg28 (by first | omega | assumption | (simp only [lens]; first | omega | assumption) | (simp [lens]; done) | (simp [lens]; omega)) (by first | omega | assumption | (simp only [lens]; first | omega | assumption) | (simp [lens]; done) | (simp [lens]; omega)) ?_) | (refine st_full rfl 28 _ _ rfl hm rfl rfl 1 rfl agg28 (by first | omega | assumption | (simp only [lens]; first | omega | assumption) | (simp [lens]; done) | (simp [lens]; omega)) (by first | omega | assumption | (simp only [lens]; first | omega | assumption) | (simp [lens]; done) | (simp [lens]; omega)) ?_) | (refine st_full rfl 28 _ _ rfl hm rfl rfl 2 rfl agg28 (by first | omega | assumption | (simp only [lens]; first | omega | assumption) | (simp [lens]; done) | (simp [lens]; omega)) (by first | omega | assumption | (simp only [lens]; first | omega | assumption) | (simp [lens]; done) | (simp [lens]; omega)) ?_) | (refine st_full rfl 28 _ _ rfl hm rfl rfl 3 rfl agg28 (by first | omega | assumption | (simp only [lens]; first | omega | assumption) | (simp [lens]; done) | (simp [lens]; omega)) (by first | omega | assumption | (simp only [lens]; first | omega | assumption) | (simp [lens]; done) | (simp [lens]; omega)) ?_)); clear hm; intro ws hm; simp only [List.set_cons_zero, List.set_cons_succ] at hm) | ((with_reducible refine gt_load 28 ?_); (first | (refine st_load rfl 28 _ rfl hm rfl 0 rfl agg28 (by first | omega | assumption | (simp only [lens]; first | omega | assumption) | (simp [lens]; done) | (simp [lens]; omega)) ?_) | (refine st_load rfl 28 _ rfl hm rfl 1 rfl agg28 (by first | omega | assumption | (simp only [lens]; first | omega | assumption) | (simp [lens]; done) | (simp [lens]; omega)) ?_) | (refine st_load rfl 28 _ rfl hm rfl 2 rfl agg28 (by first | omega | assumption | (simp only [lens]; first | omega | assumption) | (simp [lens]; done) | (simp [lens]; omega)) ?_) | (refine st_load rfl 28 _ rfl hm rfl 3 rfl agg28 (by first | omega | assumption | (simp only [lens]; first | omega | assumption) | (simp [lens]; done) | (simp [lens]; omega)) ?_))) | ((with_reducible refine gt_field 28 1 ?_); refine st_field rfl 28 _ 1 rfl rfl field28_1 ?_) | ((with_reducible refine gt_elem 24 ?_); refine st_elem rfl 24 _ _ rfl rfl rfl arr24 (by first | omega | assumption | (simp only [lens]; first | omega | assumption) | (simp [lens]; done) | (simp [lens]; omega)) (by first | omega | assumption | (simp only [lens]; first | omega | assumption) | (simp [lens]; done) | (simp [lens]; omega)) ?_) | ((with_reducible refine gt_store 22 ?_); (first | (refine st_set rfl 22 _ _ rfl hm rfl rfl 0 rfl one22 (by first | omega | assumption | (simp only [lens]; first | omega | assumption) | (simp [lens]; done) | (simp [lens]; omega)) ?_) | (refine st_set rfl 22 _ _ rfl hm rfl rfl 1 rfl one22 (by first | omega | assumption | (simp only [lens]; first | omega | assumption) | (simp [lens]; done) | (simp [lens]; omega)) ?_) | (refine st_set rfl 22 _ _ rfl hm rfl rfl 2 rfl one22 (by first | omega | assumption | (simp only [lens]; first | omega | assumption) | (simp [lens]; done) | (simp [lens]; omega)) ?_) | (refine st_set rfl 22 _ _ rfl hm rfl rfl 3 rfl one22 (by first | omega | assumption | (simp only [lens]; first | omega | assumption) | (simp [lens]; done) | (simp [lens]; omega)) ?_)); clear hm; intro ws hm; simp only [List.set_cons_zero, List.set_cons_succ] at hm) | ((with_reducible refine gt_field 28 0 ?_); refine st_field rfl 28 _ 0 rfl rfl field28_0 ?_) | ((with_reducible refine gt_elem 23 ?_); refine st_elem rfl 23 _ _ rfl rfl rfl arr23 (by first | omega | assumption | (simp only [lens]; first | omega | assumption) | (simp [lens]; done) | (simp [lens]; omega)) (by first | omega | assumption | (simp only [lens]; first | omega | assumption) | (simp [lens]; done) | (simp [lens]; omega)) ?_))
             | (go_at_call 19; first
              | (with_reducible refine (HNA.out _).mono ?_; rintro e wc ⟨rfl, hbc⟩; replace hm := hm.after hbc; have hc2 := FrBelow.read hbc hc1; clear hbc)
              | (with_reducible refine (HNB.out _).mono ?_; rintro e wd ⟨rfl, hbd⟩; replace hm := hm.after hbd; have hmd := Aside0.mk hm; clear hbd))
             | (go_at_call 20; first
              | (with_reducible refine (HI1.out _).mono ?_; rintro e we ⟨rfl, ⟨ne, rfl⟩⟩; replace hm := hm.drawn3 ne)
              | (with_reducible refine (HI2.out _).mono ?_; rintro e wf ⟨rfl, ⟨nf, rfl⟩⟩; replace hm := hmd.out.drawn3 (ne + nf))))
            ((try simp only [Exit.inBlock, Exit.then]); (first | (refine ret_cell hm rfl rfl 1 rfl agg28 (by first | omega | assumption | (simp only [lens]; first | omega | assumption) | (simp [lens]; done) | (simp [lens]; omega)) rfl ?_) | (refine ret_cell_tmp hm rfl rfl 1 rfl agg28 (by first | omega | assumption | (simp only [lens]; first | omega | assumption) | (simp [lens]; done) | (simp [lens]; omega)) rfl ?_)))
            exact ⟨by rw [HVN]; rfl, hm.done (by simp [ho])⟩
          ·rw [decide_eq_false h1] at HI1
           go_wp2_with (first
            | (first | fail | ((with_reducible refine gt_alloc 2 28 ?_); refine st_alloc rfl 2 rfl 28 rfl hm zero28 ?_; clear hm; intro g2 w2 hm) | ((with_reducible refine gt_build 28 ?_); refine st_zero rfl 28 rfl built28 ?_) | ((with_reducible refine gt_alloc 4 28 ?_); refine st_alloc rfl 4 rfl 28 rfl hm zero28 ?_; clear hm; intro g4 w4 hm) | ((with_reducible refine gt_store 28 ?_); (first | (refine st_full rfl 28 _ _ rfl hm rfl rfl 0 rfl agg28 (by first | omega | assumption | (simp only [lens]; first | omega | assumption) | (simp [lens]; done) | (simp [lens]; omega)) (by first | omega | assumption | (simp only [lens]; first | omega | assumption) | (simp [lens]; done) | (simp [lens]; omega)) ?_) | (refine st_full rfl 28 _ _ rfl hm rfl rfl 1 rfl agg28 (by first | omega | assumption | (simp only [lens]; first | omega | assumption) | (simp [lens]; done) | (simp [lens]; omega)) (by first | omega | assumption | (simp only [lens]; first | omega | assumption) | (simp [lens]; done) | (simp [lens]; omega)) ?_) | (refine st_full rfl 28 _ _ rfl hm rfl rfl 2 rfl agg28 (by first | omega | assumption | (simp only [lens]; first | omega | assumption) | (simp [lens]; done) | (simp [lens]; omega)) (by first | omega | assumption | (simp only [lens]; first | omega | assumption) | (simp [lens]; done) | (simp [lens]; omega)) ?_) | (refine st_full rfl 28 _ _ rfl hm rfl rfl 3 rfl agg28 (by first | omega | assumption | (simp only [lens]; first | omega | assumption) | (simp [lens]; done) | (simp [lens]; omega)) (by first | omega | assumption | (simp only [lens]; first | omega | assumption) | (simp [lens]; done) | (simp [lens]; omega)) ?_)); clear hm; intro ws hm; simp only [List.set_cons_zero, List.set_cons_succ] at hm) | ((with_reducible refine gt_load 28 ?_); (first | (refine st_load rfl 28 _ rfl hm rfl 0 rfl agg28 (by first | omega | assumption | (simp only [lens]; first | omega | assumption) | (simp [lens]; done) | (simp [lens]; omega)) ?_) | (refine st_load rfl 28 _ rfl hm rfl 1 rfl agg28 (by first | omega | assumption | (simp only [lens]; first | omega | assumption) | (simp [lens]; done) | (simp [lens]; omega)) ?_) | (refine st_load rfl 28 _ rfl hm rfl 2 rfl agg28 (by first | omega | assumption | (simp only [lens]; first | omega | assumption) | (simp [lens]; done) | (simp [lens]; omega)) ?_) | (refine st_load rfl 28 _ rfl hm rfl 3 rfl agg28 (by first | omega | assumption | (simp only [lens]; first | omega | assumption) | (simp [lens]; done) | (simp [lens]; omega)) ?_))) | ((with_reducible refine gt_field 28 1 ?_); refine st_field rfl 28 _ 1 rfl rfl field28_1 ?_) | ((with_reducible refine gt_elem 24 ?_); refine st_elem rfl 24 _ _ rfl rfl rfl arr24 (by first | omega | assumption | (simp only [lens]; first | omega | assumption) | (simp [lens]; done) | (simp [lens]; omega)) (by first | omega | assumption | (simp only [lens]; first | omega | assumption) | (simp [lens]; done) | (simp [lens]; omega)) ?_) | ((with_reducible refine gt_store 22 ?_); (first | (refine st_set rfl 22 _ _ rfl hm rfl rfl 0 rfl one22 (by first | omega | assumption | (simp only [lens]; first | omega | assumption) | (simp [lens]; done) | (simp [lens]; omega)) ?_) | (refine st_set rfl 22 _ _ rfl hm rfl rfl 1 rfl one22 (by first | omega | assumption | (simp only [lens]; first | omega | assumption) | (simp [lens]; done) | (simp [lens]; omega)) ?_) | (refine st_set rfl 22 _ _ rfl hm rfl rfl 2 rfl one22 (by first | omega | assumption | (simp only [lens]; first | omega | assumption) | (simp [lens]; done) | (simp [lens]; omega)) ?_) | (refine st_set rfl 22 _ _ rfl hm rfl rfl 3 rfl one22 (by first | omega | assumption | (simp only [lens]; first | omega | assumption) | (simp [lens]; done) | (simp [lens]; omega)) ?_)); clear hm; intro ws hm; simp only [List.set_cons_zero, List.set_cons_succ] at hm) | ((with_reducible refine gt_field 28 0 ?_); refine st_field rfl 28 _ 0 rfl rfl field28_0 ?_) | ((with_reducible refine gt_elem 23 ?_); refine st_elem rfl 23 _ _ rfl rfl rfl arr23 (by first | omega | assumption | (simp only [lens]; first | omega | assumption) | (simp [lens]; done) | (simp [lens]; omega)) (by first | omega | assumption | (simp only [lens]; first | omega | assumption) | (simp [lens]; done) | (simp [lens]; omega)) ?_))
            | (go_at_call 19; first
             | (with_reducible refine (HNA.out _).mono ?_; rintro e wc ⟨rfl, hbc⟩; replace hm := hm.after hbc; have hc2 := FrBelow.read hbc hc1; clear hbc)
             | (with_reducible refine (HNB.out _).mono ?_; rintro e wd ⟨rfl, hbd⟩; replace hm := hm.after hbd; have hmd := Aside0.mk hm; clear hbd))
            | (go_at_call 20; first
             | (with_reducible refine (HI1.out _).mono ?_; rintro e we ⟨rfl, ⟨ne, rfl⟩⟩; replace hm := hm.drawn3 ne)
             | (with_reducible refine (HI2.out _).mono ?_; rintro e wf ⟨rfl, ⟨nf, rfl⟩⟩; replace hm := hmd.out.drawn3 (ne + nf))))
           ((try simp only [Exit.inBlock, Exit.then]); (first | (refine ret_cell hm rfl rfl 1 rfl agg28 (by first | omega | assumption | (simp only [lens]; first | omega | assumption) | (simp [lens]; done) | (simp [lens]; omega)) rfl ?_) | (refine ret_cell_tmp hm rfl rfl 1 rfl agg28 (by first | omega | assumption | (simp only [lens]; first | omega | assumption) | (simp [lens]; done) | (simp [lens]; omega)) rfl ?_)))
           exact ⟨by rw [HVN]; rfl, hm.done (by simp [ho])⟩
      ·have HVN : V = none := HV.out
       go_wp2_with (first | fail | ((with_reducible refine gt_alloc 2 28 ?_); refine st_alloc rfl 2 rfl 28 rfl hm zero28 ?_; clear hm; intro g2 w2 hm) | ((with_reducible refine gt_build 28 ?_); refine st_zero rfl 28 rfl built28 ?_) | ((with_reducible refine gt_alloc 4 28 ?_); refine st_alloc rfl 4 rfl 28 rfl hm zero28 ?_; clear hm; intro g4 w4 hm) | ((with_reducible refine gt_store 28 ?_); (first | (refine st_full rfl 28 _ _ rfl hm rfl rfl 0 rfl agg28 (by first | omega | assumption | (simp only [lens]; first | omega | assumption) | (simp [lens]; done) | (simp [lens]; omega)) (by first | omega | assumption | (simp only [lens]; first | omega | assumption) | (simp [lens]; done) | (simp [lens]; omega)) ?_) | (refine st_full rfl 28 _ _ rfl hm rfl rfl 1 rfl agg28 (by first | omega | assumption | (simp only [lens]; first | omega | assumption) | (simp [lens]; done) | (simp [lens]; omega)) (by first | omega | assumption | (simp only [lens]; first | omega | assumption) | (simp [lens]; done) | (simp [lens]; omega)) ?_) | (refine st_full rfl 28 _ _ rfl hm rfl rfl 2 rfl agg28 (by first | omega | assumption | (simp only [lens]; first | omega | assumption) | (simp [lens]; done) | (simp [lens]; omega)) (by first | omega | assumption | (simp only [lens]; first | omega | assumption) | (simp [lens]; done) | (simp [lens]; omega)) ?_) | (refine st_full rfl 28 _ _ rfl hm rfl rfl 3 rfl agg28 (by first | omega | assumption | (simp only [lens]; first | omega | assumption) | (simp [lens]; done) | (simp [lens]; omega)) (by first | omega | assumption | (simp only [lens]; first | omega | assumption) | (simp [lens]; done) | (simp [lens]; omega)) ?_)); clear hm; intro ws hm; simp only [List.set_cons_zero, List.set_cons_succ] at hm) | ((with_reducible refine gt_load 28 ?_); (first | (refine st_load rfl 28 _ rfl hm rfl 0 rfl agg28 (by first | omega | assumption | (simp only [lens]; first | omega | assumption) | (simp [lens]; done) | (simp [lens]; omega)) ?_) | (refine st_load rfl 28 _ rfl hm rfl 1 rfl agg28 (by first | omega | assumption | (simp only [lens]; first | omega | assumption) | (simp [lens]; done) | (simp [lens]; omega)) ?_) | (refine st_load rfl 28 _ rfl hm rfl 2 rfl agg28 (by first | omega | assumption | (simp only [lens]; first | omega | assumption) | (simp [lens]; done) | (simp [lens]; omega)) ?_) | (refine st_load rfl 28 _ rfl hm rfl 3 rfl agg28 (by first | omega | assumption | (simp only [lens]; first | omega | assumption) | (simp [lens]; done) | (simp [lens]; omega)) ?_))) | ((with_reducible refine gt_field 28 1 ?_); refine st_field rfl 28 _ 1 rfl rfl field28_1 ?_) | ((with_reducible refine gt_elem 24 ?_); refine st_elem rfl 24 _ _ rfl rfl rfl arr24 (by first | omega | assumption | (simp only [lens]; first | omega | assumption) | (simp [lens]; done) | (simp [lens]; omega)) (by first | omega | assumption | (simp only [lens]; first | omega | assumption) | (simp [lens]; done) | (simp [lens]; omega)) ?_) | ((with_reducible refine gt_store 22 ?_); (first | (refine st_set rfl 22 _ _ rfl hm rfl rfl 0 rfl one22 (by first | omega | assumption | (simp only [lens]; first | omega | assumption) | (simp [lens]; done) | (simp [lens]; omega)) ?_) | (refine st_set rfl 22 _ _ rfl hm rfl rfl 1 rfl one22 (by first | omega | assumption | (simp only [lens]; first | omega | assumption) | (simp [lens]; done) | (simp [lens]; omega)) ?_) | (refine st_set rfl 22 _ _ rfl hm rfl rfl 2 rfl one22 (by first | omega | assumption | (simp only [lens]; first | omega | assumption) | (simp [lens]; done) | (simp [lens]; omega)) ?_) | (refine st_set rfl 22 _ _ rfl hm rfl rfl 3 rfl one22 (by first | omega | assumption | (simp only [lens]; first | omega | assumption) | (simp [lens]; done) | (simp [lens]; omega)) ?_)); clear hm; intro ws hm; simp only [List.set_cons_zero, List.set_cons_succ] at hm) | ((with_reducible refine gt_field 28 0 ?_); refine st_field rfl 28 _ 0 rfl rfl field28_0 ?_) | ((with_reducible refine gt_elem 23 ?_); refine st_elem rfl 23 _ _ rfl rfl rfl arr23 (by first | omega | assumption | (simp only [lens]; first | omega | assumption) | (simp [lens]; done) | (simp [lens]; omega)) (by first | omega | assumption | (simp only [lens]; first | omega | assumption) | (simp [lens]; done) | (simp [lens]; omega)) ?_))
       ((try simp only [Exit.inBlock, Exit.then]); (first | (refine ret_cell hm rfl rfl 1 rfl agg28 (by first | omega | assumption | (simp only [lens]; first | omega | assumption) | (simp [lens]; done) | (simp [lens]; omega)) rfl ?_) | (refine ret_cell_tmp hm rfl rfl 1 rfl agg28 (by first | omega | assumption | (simp only [lens]; first | omega | assumption) | (simp [lens]; done) | (simp [lens]; omega)) rfl ?_)))
       exact ⟨by rw [HVN]; rfl, hm.done (by simp [ho])⟩
     ·have HV : Aside0 (V = match (match wordP false (sp 120 (c :: r)) with | none => none | some (j, n) => goS (WS.drop (i + 1)) (L.set j n)) with | none => none | some L => if lockT L = l then some L else none) := ⟨HQ.out.trans (by rw [goS, wordS, if_neg hc115]; rfl)⟩
      have HS2 := Aside0.mk (fun W => splitK_calls 120 (c :: r) (by simp at hxl ⊢; omega) W)
      clear HQ
      generalize sp 120 (c :: r) = PS at *
      have hz : 0 < (⟨(c :: r).toArray⟩ : ByteArray).size := by rw [bs_size]; simp
      have h115 : ((((⟨(c :: r).toArray⟩ : ByteArray)[0]'hz).toNat : Int) == 115) = false := by
       rw [beq_eq_false_iff_ne]
       intro h
       exact hc115 (UInt8.toNat_inj.1 (Int.ofNat_inj.1 (h : ((c.toNat : Nat) : Int) = (((115 : UInt8).toNat : Nat) : Int))))
      go_wp2_with fail
      refine (HS2.out _).mono ?_
      rintro e wb ⟨bk2, cap2, R2, rfl, hR2, ho2, HT2, hb2⟩
      have hmb := hm.grow hb2
      rw [hR2] at hmb
      replace hm := hm.after hb2
      clear hb2 hR2
      rcases PS with _ | ⟨a, _ | ⟨b, _ | ⟨b3, r3⟩⟩⟩
      ·have HVN : V = none := HV.out
       go_wp2_with (first | fail | ((with_reducible refine gt_alloc 2 28 ?_); refine st_alloc rfl 2 rfl 28 rfl hm zero28 ?_; clear hm; intro g2 w2 hm) | ((with_reducible refine gt_build 28 ?_); refine st_zero rfl 28 rfl built28 ?_) | ((with_reducible refine gt_alloc 4 28 ?_); refine st_alloc rfl 4 rfl 28 rfl hm zero28 ?_; clear hm; intro g4 w4 hm) | ((with_reducible refine gt_store 28 ?_); (first | (refine st_full rfl 28 _ _ rfl hm rfl rfl 0 rfl agg28 (by first | omega | assumption | (simp only [lens]; first | omega | assumption) | (simp [lens]; done) | (simp [lens]; omega)) (by first | omega | assumption | (simp only [lens]; first | omega | assumption) | (simp [lens]; done) | (simp [lens]; omega)) ?_) | (refine st_full rfl 28 _ _ rfl hm rfl rfl 1 rfl agg28 (by first | omega | assumption | (simp only [lens]; first | omega | assumption) | (simp [lens]; done) | (simp [lens]; omega)) (by first | omega | assumption | (simp only [lens]; first | omega | assumption) | (simp [lens]; done) | (simp [lens]; omega)) ?_) | (refine st_full rfl 28 _ _ rfl hm rfl rfl 2 rfl agg28 (by first | omega | assumption | (simp only [lens]; first | omega | assumption) | (simp [lens]; done) | (simp [lens]; omega)) (by first | omega | assumption | (simp only [lens]; first | omega | assumption) | (simp [lens]; done) | (simp [lens]; omega)) ?_) | (refine st_full rfl 28 _ _ rfl hm rfl rfl 3 rfl agg28 (by first | omega | assumption | (simp only [lens]; first | omega | assumption) | (simp [lens]; done) | (simp [lens]; omega)) (by first | omega | assumption | (simp only [lens]; first | omega | assumption) | (simp [lens]; done) | (simp [lens]; omega)) ?_)); clear hm; intro ws hm; simp only [List.set_cons_zero, List.set_cons_succ] at hm) | ((with_reducible refine gt_load 28 ?_); (first | (refine st_load rfl 28 _ rfl hm rfl 0 rfl agg28 (by first | omega | assumption | (simp only [lens]; first | omega | assumption) | (simp [lens]; done) | (simp [lens]; omega)) ?_) | (refine st_load rfl 28 _ rfl hm rfl 1 rfl agg28 (by first | omega | assumption | (simp only [lens]; first | omega | assumption) | (simp [lens]; done) | (simp [lens]; omega)) ?_) | (refine st_load rfl 28 _ rfl hm rfl 2 rfl agg28 (by first | omega | assumption | (simp only [lens]; first | omega | assumption) | (simp [lens]; done) | (simp [lens]; omega)) ?_) | (refine st_load rfl 28 _ rfl hm rfl 3 rfl agg28 (by first | omega | assumption | (simp only [lens]; first | omega | assumption) | (simp [lens]; done) | (simp [lens]; omega)) ?_))) | ((with_reducible refine gt_field 28 1 ?_); refine st_field rfl 28 _ 1 rfl rfl field28_1 ?_) | ((with_reducible refine gt_elem 24 ?_); refine st_elem rfl 24 _ _ rfl rfl rfl arr24 (by first | omega | assumption | (simp only [lens]; first | omega | assumption) | (simp [lens]; done) | (simp [lens]; omega)) (by first | omega | assumption | (simp only [lens]; first | omega | assumption) | (simp [lens]; done) | (simp [lens]; omega)) ?_) | ((with_reducible refine gt_store 22 ?_); (first | (refine st_set rfl 22 _ _ rfl hm rfl rfl 0 rfl one22 (by first | omega | assumption | (simp only [lens]; first | omega | assumption) | (simp [lens]; done) | (simp [lens]; omega)) ?_) | (refine st_set rfl 22 _ _ rfl hm rfl rfl 1 rfl one22 (by first | omega | assumption | (simp only [lens]; first | omega | assumption) | (simp [lens]; done) | (simp [lens]; omega)) ?_) | (refine st_set rfl 22 _ _ rfl hm rfl rfl 2 rfl one22 (by first | omega | assumption | (simp only [lens]; first | omega | assumption) | (simp [lens]; done) | (simp [lens]; omega)) ?_) | (refine st_set rfl 22 _ _ rfl hm rfl rfl 3 rfl one22 (by first | omega | assumption | (simp only [lens]; first | omega | assumption) | (simp [lens]; done) | (simp [lens]; omega)) ?_)); clear hm; intro ws hm; simp only [List.set_cons_zero, List.set_cons_succ] at hm) | ((with_reducible refine gt_field 28 0 ?_); refine st_field rfl 28 _ 0 rfl rfl field28_0 ?_) | ((with_reducible refine gt_elem 23 ?_); refine st_elem rfl 23 _ _ rfl rfl rfl arr23 (by first | omega | assumption | (simp only [lens]; first | omega | assumption) | (simp [lens]; done) | (simp [lens]; omega)) (by first | omega | assumption | (simp only [lens]; first | omega | assumption) | (simp [lens]; done) | (simp [lens]; omega)) ?_))
       ((try simp only [Exit.inBlock, Exit.then]); (first | (refine ret_cell hm rfl rfl 1 rfl agg28 (by first | omega | assumption | (simp only [lens]; first | omega | assumption) | (simp [lens]; done) | (simp [lens]; omega)) rfl ?_) | (refine ret_cell_tmp hm rfl rfl 1 rfl agg28 (by first | omega | assumption | (simp only [lens]; first | omega | assumption) | (simp [lens]; done) | (simp [lens]; omega)) rfl ?_)))
       exact ⟨by rw [HVN]; rfl, hm.done (by simp [ho])⟩
      ·have HVN : V = none := HV.out
       go_wp2_with (first | fail | ((with_reducible refine gt_alloc 2 28 ?_); refine st_alloc rfl 2 rfl 28 rfl hm zero28 ?_; clear hm; intro g2 w2 hm) | ((with_reducible refine gt_build 28 ?_); refine st_zero rfl 28 rfl built28 ?_) | ((with_reducible refine gt_alloc 4 28 ?_); refine st_alloc rfl 4 rfl 28 rfl hm zero28 ?_; clear hm; intro g4 w4 hm) | ((with_reducible refine gt_store 28 ?_); (first | (refine st_full rfl 28 _ _ rfl hm rfl rfl 0 rfl agg28 (by first | omega | assumption | (simp only [lens]; first | omega | assumption) | (simp [lens]; done) | (simp [lens]; omega)) (by first | omega | assumption | (simp only [lens]; first | omega | assumption) | (simp [lens]; done) | (simp [lens]; omega)) ?_) | (refine st_full rfl 28 _ _ rfl hm rfl rfl 1 rfl agg28 (by first | omega | assumption | (simp only [lens]; first | omega | assumption) | (simp [lens]; done) | (simp [lens]; omega)) (by first | omega | assumption | (simp only [lens]; first | omega | assumption) | (simp [lens]; done) | (simp [lens]; omega)) ?_) | (refine st_full rfl 28 _ _ rfl hm rfl rfl 2 rfl agg28 (by first | omega | assumption | (simp only [lens]; first | omega | assumption) | (simp [lens]; done) | (simp [lens]; omega)) (by first | omega | assumption | (simp only [lens]; first | omega | assumption) | (simp [lens]; done) | (simp [lens]; omega)) ?_) | (refine st_full rfl 28 _ _ rfl hm rfl rfl 3 rfl agg28 (by first | omega | assumption | (simp only [lens]; first | omega | assumption) | (simp [lens]; done) | (simp [lens]; omega)) (by first | omega | assumption | (simp only [lens]; first | omega | assumption) | (simp [lens]; done) | (simp [lens]; omega)) ?_)); clear hm; intro ws hm; simp only [List.set_cons_zero, List.set_cons_succ] at hm) | ((with_reducible refine gt_load 28 ?_); (first | (refine st_load rfl 28 _ rfl hm rfl 0 rfl agg28 (by first | omega | assumption | (simp only [lens]; first | omega | assumption) | (simp [lens]; done) | (simp [lens]; omega)) ?_) | (refine st_load rfl 28 _ rfl hm rfl 1 rfl agg28 (by first | omega | assumption | (simp only [lens]; first | omega | assumption) | (simp [lens]; done) | (simp [lens]; omega)) ?_) | (refine st_load rfl 28 _ rfl hm rfl 2 rfl agg28 (by first | omega | assumption | (simp only [lens]; first | omega | assumption) | (simp [lens]; done) | (simp [lens]; omega)) ?_) | (refine st_load rfl 28 _ rfl hm rfl 3 rfl agg28 (by first | omega | assumption | (simp only [lens]; first | omega | assumption) | (simp [lens]; done) | (simp [lens]; omega)) ?_))) | ((with_reducible refine gt_field 28 1 ?_); refine st_field rfl 28 _ 1 rfl rfl field28_1 ?_) | ((with_reducible refine gt_elem 24 ?_); refine st_elem rfl 24 _ _ rfl rfl rfl arr24 (by first | omega | assumption | (simp only [lens]; first | omega | assumption) | (simp [lens]; done) | (simp [lens]; omega)) (by first | omega | assumption | (simp only [lens]; first | omega | assumption) | (simp [lens]; done) | (simp [lens]; omega)) ?_) | ((with_reducible refine gt_store 22 ?_); (first | (refine st_set rfl 22 _ _ rfl hm rfl rfl 0 rfl one22 (by first | omega | assumption | (simp only [lens]; first | omega | assumption) | (simp [lens]; done) | (simp [lens]; omega)) ?_) | (refine st_set rfl 22 _ _ rfl hm rfl rfl 1 rfl one22 (by first | omega | assumption | (simp only [lens]; first | omega | assumption) | (simp [lens]; done) | (simp [lens]; omega)) ?_) | (refine st_set rfl 22 _ _ rfl hm rfl rfl 2 rfl one22 (by first | omega | assumption | (simp only [lens]; first | omega | assumption) | (simp [lens]; done) | (simp [lens]; omega)) ?_) | (refine st_set rfl 22 _ _ rfl hm rfl rfl 3 rfl one22 (by first | omega | assumption | (simp only [lens]; first | omega | assumption) | (simp [lens]; done) | (simp [lens]; omega)) ?_)); clear hm; intro ws hm; simp only [List.set_cons_zero, List.set_cons_succ] at hm) | ((with_reducible refine gt_field 28 0 ?_); refine st_field rfl 28 _ 0 rfl rfl field28_0 ?_) | ((with_reducible refine gt_elem 23 ?_); refine st_elem rfl 23 _ _ rfl rfl rfl arr23 (by first | omega | assumption | (simp only [lens]; first | omega | assumption) | (simp [lens]; done) | (simp [lens]; omega)) (by first | omega | assumption | (simp only [lens]; first | omega | assumption) | (simp [lens]; done) | (simp [lens]; omega)) ?_))
       ((try simp only [Exit.inBlock, Exit.then]); (first | (refine ret_cell hm rfl rfl 1 rfl agg28 (by first | omega | assumption | (simp only [lens]; first | omega | assumption) | (simp [lens]; done) | (simp [lens]; omega)) rfl ?_) | (refine ret_cell_tmp hm rfl rfl 1 rfl agg28 (by first | omega | assumption | (simp only [lens]; first | omega | assumption) | (simp [lens]; done) | (simp [lens]; omega)) rfl ?_)))
       exact ⟨by rw [HVN]; rfl, hm.done (by simp [ho])⟩
      ·have hc0 : wb.cell? ⟨bk2, 0, none⟩ = some (.string ⟨a.toArray⟩) := HT2 wb (fun e he => (hmb.ent e (by simp [he])).1) 0 a rfl
       have hc1 : wb.cell? ⟨bk2, 1, none⟩ = some (.string ⟨b.toArray⟩) := HT2 wb (fun e he => (hmb.ent e (by simp [he])).1) 1 b rfl
       clear hmb
       have ha := numS_ge a
       have HNA := Aside0.mk (fun W => num_calls a W)
       have HNB := Aside0.mk (fun W => num_calls b W)
       have HP := Aside0.mk (show wordP false [a, b] = if (numS a).2 = true ∧ (numS b).2 = true ∧ (1 ≤ (numS b).1 ∧ (numS b).1 ≤ 20) ∧ (numS a).1 < 40 ∧ (false = true → 1 ≤ (numS a).1 ∧ (numS a).1 ≤ 4) then some (if false = true then 39 + (numS a).1.toNat else (numS a).1.toNat, (numS b).1) else none from rfl)
       generalize wordP false [a, b] = WP at *
       generalize numS a = na at *
       generalize numS b = nb at *
       obtain ⟨ka, oa⟩ := na
       obtain ⟨kb, ob⟩ := nb
       dsimp only at HP ha HNA HNB
       have HI1 := Aside0.mk (fun W => spec_l00In.calls kb 1 20 (decide (1 ≤ kb ∧ kb ≤ 20)) W (by unfold spec_l00In.f; by_cases h : kb ≥ 1 <;> simp [h]))
       have HI2 := Aside0.mk (fun W => spec_l00In.calls ka 1 4 (decide (1 ≤ ka ∧ ka ≤ 4)) W (by unfold spec_l00In.f; by_cases h : ka ≥ 1 <;> simp [h]))
       by_cases hg : oa = true ∧ ob = true ∧ (1 ≤ kb ∧ kb ≤ 20) ∧ ka < 40 ∧ (false = true → 1 ≤ ka ∧ ka ≤ 4)
       ·obtain ⟨rfl, rfl, h1, h2, h3⟩ := hg
        rw [HP.out, if_pos ⟨rfl, rfl, h1, h2, h3⟩] at HV
        rw [decide_eq_true h1] at HI1
        go_wp2_with (first
         | (first | fail | ((with_reducible refine gt_alloc 2 28 ?_); refine st_alloc rfl 2 rfl 28 rfl hm zero28 ?_; clear hm; intro g2 w2 hm) | ((with_reducible refine gt_build 28 ?_); refine st_zero rfl 28 rfl built28 ?_) | ((with_reducible refine gt_alloc 4 28 ?_); refine st_alloc rfl 4 rfl 28 rfl hm zero28 ?_; clear hm; intro g4 w4 hm) | ((with_reducible refine gt_store 28 ?_); (first | (refine st_full rfl 28 _ _ rfl hm rfl rfl 0 rfl agg28 (by first | omega | assumption | (simp only [lens]; first | omega | assumption) | (simp [lens]; done) | (simp [lens]; omega)) (by first | omega | assumption | (simp only [lens]; first | omega | assumption) | (simp [lens]; done) | (simp [lens]; omega)) ?_) | (refine st_full rfl 28 _ _ rfl hm rfl rfl 1 rfl agg28 (by first | omega | assumption | (simp only [lens]; first | omega | assumption) | (simp [lens]; done) | (simp [lens]; omega)) (by first | omega | assumption | (simp only [lens]; first | omega | assumption) | (simp [lens]; done) | (simp [lens]; omega)) ?_) | (refine st_full rfl 28 _ _ rfl hm rfl rfl 2 rfl agg28 (by first | omega | assumption | (simp only [lens]; first | omega | assumption) | (simp [lens]; done) | (simp [lens]; omega)) (by first | omega | assumption | (simp only [lens]; first | omega | assumption) | (simp [lens]; done) | (simp [lens]; omega)) ?_) | (refine st_full rfl 28 _ _ rfl hm rfl rfl 3 rfl agg28 (by first | omega | assumption | (simp only [lens]; first | omega | assumption) | (simp [lens]; done) | (simp [lens]; omega)) (by first | omega | assumption | (simp only [lens]; first | omega | assumption) | (simp [lens]; done) | (simp [lens]; omega)) ?_)); clear hm; intro ws hm; simp only [List.set_cons_zero, List.set_cons_succ] at hm) | ((with_reducible refine gt_load 28 ?_); (first | (refine st_load rfl 28 _ rfl hm rfl 0 rfl agg28 (by first | omega | assumption | (simp only [lens]; first | omega | assumption) | (simp [lens]; done) | (simp [lens]; omega)) ?_) | (refine st_load rfl 28 _ rfl hm rfl 1 rfl agg28 (by first | omega | assumption | (simp only [lens]; first | omega | assumption) | (simp [lens]; done) | (simp [lens]; omega)) ?_) | (refine st_load rfl 28 _ rfl hm rfl 2 rfl agg28 (by first | omega | assumption | (simp only [lens]; first | omega | assumption) | (simp [lens]; done) | (simp [lens]; omega)) ?_) | (refine st_load rfl 28 _ rfl hm rfl 3 rfl agg28 (by first | omega | assumption | (simp only [lens]; first | omega | assumption) | (simp [lens]; done) | (simp [lens]; omega)) ?_))) | ((with_reducible refine gt_field 28 1 ?_); refine st_field rfl 28 _ 1 rfl rfl field28_1 ?_) | ((with_reducible refine gt_elem 24 ?_); refine st_elem rfl 24 _ _ rfl rfl rfl arr24 (by first | omega | assumption | (simp only [lens]; first | omega | assumption) | (simp [lens]; done) | (simp [lens]; omega)) (by first | omega | assumption | (simp only [lens]; first | omega | assumption) | (simp [lens]; done) | (simp [lens]; omega)) ?_) | ((with_reducible refine gt_store 22 ?_); (first | (refine st_set rfl 22 _ _ rfl hm rfl rfl 0 rfl one22 (by first | omega | assumption | (simp only [lens]; first | omega | assumption) | (simp [lens]; done) | (simp [lens]; omega)) ?_) | (refine st_set rfl 22 _ _ rfl hm rfl rfl 1 rfl one22 (by first | omega | assumption | (simp only [lens]; first | omega | assumption) | (simp [lens]; done) | (simp [lens]; omega)) ?_) | (refine st_set rfl 22 _ _ rfl hm rfl rfl 2 rfl one22 (by first | omega | assumption | (simp only [lens]; first | omega | assumption) | (simp [lens]; done) | (simp [lens]; omega)) ?_) | (refine st_set rfl 22 _ _ rfl hm rfl rfl 3 rfl one22 (by first | omega | assumption | (simp only [lens]; first | omega | assumption) | (simp [lens]; done) | (simp [lens]; omega)) ?_)); clear hm; intro ws hm; simp only [List.set_cons_zero, List.set_cons_succ] at hm) | ((with_reducible refine gt_field 28 0 ?_); refine st_field rfl 28 _ 0 rfl rfl field28_0 ?_) | ((with_reducible refine gt_elem 23 ?_); refine st_elem rfl 23 _ _ rfl rfl rfl arr23 (by first | omega | assumption | (simp only [lens]; first | omega | assumption) | (simp [lens]; done) | (simp [lens]; omega)) (by first | omega | assumption | (simp only [lens]; first | omega | assumption) | (simp [lens]; done) | (simp [lens]; omega)) ?_))
         | (go_at_call 19; first
          | (with_reducible refine (HNA.out _).mono ?_; rintro e wc ⟨rfl, hbc⟩; replace hm := hm.after hbc; have hc2 := FrBelow.read hbc hc1; clear hbc)
          | (with_reducible refine (HNB.out _).mono ?_; rintro e wd ⟨rfl, hbd⟩; replace hm := hm.after hbd; have hmd := Aside0.mk hm; have hcs := hm.get (n := 0) rfl (ka.toNat) (by omega); have hfz := hm.frozen (n := 0) rfl (ka.toNat); clear hbd))
         | (go_at_call 20; first
          | (with_reducible refine (HI1.out _).mono ?_; rintro e we ⟨rfl, ⟨ne, rfl⟩⟩; replace hm := hm.drawn3 ne)
          | (with_reducible refine (HI2.out _).mono ?_; rintro e wf ⟨rfl, ⟨nf, rfl⟩⟩; replace hm := hmd.out.drawn3 (ne + nf))))
        refine ⟨⟨i + 1, L.set ka.toNat kb, by omega, rfl, by simpa using hLl, okL_set hok _ (by omega) h1.2, HV, ?_⟩, by simp [intOf]; omega⟩
        rw [show 0 + 0 + ka.toNat = ka.toNat by omega] at hm
        exact hm
       ·rw [HP.out, if_neg hg] at HV
        have HVN : V = none := HV.out
        cases oa
        ·go_wp2_with (first
          | (first | fail | ((with_reducible refine gt_alloc 2 28 ?_); refine st_alloc rfl 2 rfl 28 rfl hm zero28 ?_; clear hm; intro g2 w2 hm) | ((with_reducible refine gt_build 28 ?_); refine st_zero rfl 28 rfl built28 ?_) | ((with_reducible refine gt_alloc 4 28 ?_); refine st_alloc rfl 4 rfl 28 rfl hm zero28 ?_; clear hm; intro g4 w4 hm) | ((with_reducible refine gt_store 28 ?_); (first | (refine st_full rfl 28 _ _ rfl hm rfl rfl 0 rfl agg28 (by first | omega | assumption | (simp only [lens]; first | omega | assumption) | (simp [lens]; done) | (simp [lens]; omega)) (by first | omega | assumption | (simp only [lens]; first | omega | assumption) | (simp [lens]; done) | (simp [lens]; omega)) ?_) | (refine st_full rfl 28 _ _ rfl hm rfl rfl 1 rfl agg28 (by first | omega | assumption | (simp only [lens]; first | omega | assumption) | (simp [lens]; done) | (simp [lens]; omega)) (by first | omega | assumption | (simp only [lens]; first | omega | assumption) | (simp [lens]; done) | (simp [lens]; omega)) ?_) | (refine st_full rfl 28 _ _ rfl hm rfl rfl 2 rfl agg28 (by first | omega | assumption | (simp only [lens]; first | omega | assumption) | (simp [lens]; done) | (simp [lens]; omega)) (by first | omega | assumption | (simp only [lens]; first | omega | assumption) | (simp [lens]; done) | (simp [lens]; omega)) ?_) | (refine st_full rfl 28 _ _ rfl hm rfl rfl 3 rfl agg28 (by first | omega | assumption | (simp only [lens]; first | omega | assumption) | (simp [lens]; done) | (simp [lens]; omega)) (by first | omega | assumption | (simp only [lens]; first | omega | assumption) | (simp [lens]; done) | (simp [lens]; omega)) ?_)); clear hm; intro ws hm; simp only [List.set_cons_zero, List.set_cons_succ] at hm) | ((with_reducible refine gt_load 28 ?_); (first | (refine st_load rfl 28 _ rfl hm rfl 0 rfl agg28 (by first | omega | assumption | (simp only [lens]; first | omega | assumption) | (simp [lens]; done) | (simp [lens]; omega)) ?_) | (refine st_load rfl 28 _ rfl hm rfl 1 rfl agg28 (by first | omega | assumption | (simp only [lens]; first | omega | assumption) | (simp [lens]; done) | (simp [lens]; omega)) ?_) | (refine st_load rfl 28 _ rfl hm rfl 2 rfl agg28 (by first | omega | assumption | (simp only [lens]; first | omega | assumption) | (simp [lens]; done) | (simp [lens]; omega)) ?_) | (refine st_load rfl 28 _ rfl hm rfl 3 rfl agg28 (by first | omega | assumption | (simp only [lens]; first | omega | assumption) | (simp [lens]; done) | (simp [lens]; omega)) ?_))) | ((with_reducible refine gt_field 28 1 ?_); refine st_field rfl 28 _ 1 rfl rfl field28_1 ?_) | ((with_reducible refine gt_elem 24 ?_); refine st_elem rfl 24 _ _ rfl rfl rfl arr24 (by first | omega | assumption | (simp only [lens]; first | omega | assumption) | (simp [lens]; done) | (simp [lens]; omega)) (by first | omega | assumption | (simp only [lens]; first | omega | assumption) | (simp [lens]; done) | (simp [lens]; omega)) ?_) | ((with_reducible refine gt_store 22 ?_); (first | (refine st_set rfl 22 _ _ rfl hm rfl rfl 0 rfl one22 (by first | omega | assumption | (simp only [lens]; first | omega | assumption) | (simp [lens]; done) | (simp [lens]; omega)) ?_) | (refine st_set rfl 22 _ _ rfl hm rfl rfl 1 rfl one22 (by first | omega | assumption | (simp only [lens]; first | omega | assumption) | (simp [lens]; done) | (simp [lens]; omega)) ?_) | (refine st_set rfl 22 _ _ rfl hm rfl rfl 2 rfl one22 (by first | omega | assumption | (simp only [lens]; first | omega | assumption) | (simp [lens]; done) | (simp [lens]; omega)) ?_) | (refine st_set rfl 22 _ _ rfl hm rfl rfl 3 rfl one22 (by first | omega | assumption | (simp only [lens]; first | omega | assumption) | (simp [lens]; done) | (simp [lens]; omega)) ?_)); clear hm; intro ws hm; simp only [List.set_cons_zero, List.set_cons_succ] at hm) | ((with_reducible refine gt_field 28 0 ?_); refine st_field rfl 28 _ 0 rfl rfl field28_0 ?_) | ((with_reducible refine gt_elem 23 ?_); refine st_elem rfl 23 _ _ rfl rfl rfl arr23 (by first | omega | assumption | (simp only [lens]; first | omega | assumption) | (simp [lens]; done) | (simp [lens]; omega)) (by first | omega | assumption | (simp only [lens]; first | omega | assumption) | (simp [lens]; done) | (simp [lens]; omega)) ?_))
          | (go_at_call 19; first
           | (with_reducible refine (HNA.out _).mono ?_; rintro e wc ⟨rfl, hbc⟩; replace hm := hm.after hbc; have hc2 := FrBelow.read hbc hc1; clear hbc)
           | (with_reducible refine (HNB.out _).mono ?_; rintro e wd ⟨rfl, hbd⟩; replace hm := hm.after hbd; have hmd := Aside0.mk hm; clear hbd))
          | (go_at_call 20; first
           | (with_reducible refine (HI1.out _).mono ?_; rintro e we ⟨rfl, ⟨ne, rfl⟩⟩; replace hm := hm.drawn3 ne)
           | (with_reducible refine (HI2.out _).mono ?_; rintro e wf ⟨rfl, ⟨nf, rfl⟩⟩; replace hm := hmd.out.drawn3 (ne + nf))))
         ((try simp only [Exit.inBlock, Exit.then]); (first | (refine ret_cell hm rfl rfl 1 rfl agg28 (by first | omega | assumption | (simp only [lens]; first | omega | assumption) | (simp [lens]; done) | (simp [lens]; omega)) rfl ?_) | (refine ret_cell_tmp hm rfl rfl 1 rfl agg28 (by first | omega | assumption | (simp only [lens]; first | omega | assumption) | (simp [lens]; done) | (simp [lens]; omega)) rfl ?_)))
         exact ⟨by rw [HVN]; rfl, hm.done (by simp [ho])⟩
        ·cases ob
         ·go_wp2_with (first
           | (first | fail | ((with_reducible refine gt_alloc 2 28 ?_); refine st_alloc rfl 2 rfl 28 rfl hm zero28 ?_; clear hm; intro g2 w2 hm) | ((with_reducible refine gt_build 28 ?_); refine st_zero rfl 28 rfl built28 ?_) | ((with_reducible refine gt_alloc 4 28 ?_); refine st_alloc rfl 4 rfl 28 rfl hm zero28 ?_; clear hm; intro g4 w4 hm) | ((with_reducible refine gt_store 28 ?_); (first | (refine st_full rfl 28 _ _ rfl hm rfl rfl 0 rfl agg28 (by first | omega | assumption | (simp only [lens]; first | omega | assumption) | (simp [lens]; done) | (simp [lens]; omega)) (by first | omega | assumption | (simp only [lens]; first | omega | assumption) | (simp [lens]; done) | (simp [lens]; omega)) ?_) | (refine st_full rfl 28 _ _ rfl hm rfl rfl 1 rfl agg28 (by first | omega | assumption | (simp only [lens]; first | omega | assumption) | (simp [lens]; done) | (simp [lens]; omega)) (by first | omega | assumption | (simp only [lens]; first | omega | assumption) | (simp [lens]; done) | (simp [lens]; omega)) ?_) | (refine st_full rfl 28 _ _ rfl hm rfl rfl 2 rfl agg28 (by first | omega | assumption | (simp only [lens]; first | omega | assumption) | (simp [lens]; done) | (simp [lens]; omega)) (by first | omega | assumption | (simp only [lens]; first | omega | assumption) | (simp [lens]; done) | (simp [lens]; omega)) ?_) | (refine st_full rfl 28 _ _ rfl hm rfl rfl 3 rfl agg28 (by first | omega | assumption | (simp only [lens]; first | omega | assumption) | (simp [lens]; done) | (simp [lens]; omega)) (by first | omega | assumption | (simp only [lens]; first | omega | assumption) | (simp [lens]; done) | (simp [lens]; omega)) ?_)); clear hm; intro ws hm; simp only [List.set_cons_zero, List.set_cons_succ] at hm) | ((with_reducible refine gt_load 28 ?_); (first | (refine st_load rfl 28 _ rfl hm rfl 0 rfl agg28 (by first | omega | assumption | (simp only [lens]; first | omega | assumption) | (simp [lens]; done) | (simp [lens]; omega)) ?_) | (refine st_load rfl 28 _ rfl hm rfl 1 rfl agg28 (by first | omega | assumption | (simp only [lens]; first | omega | assumption) | (simp [lens]; done) | (simp [lens]; omega)) ?_) | (refine st_load rfl 28 _ rfl hm rfl 2 rfl agg28 (by first | omega | assumption | (simp only [lens]; first | omega | assumption) | (simp [lens]; done) | (simp [lens]; omega)) ?_) | (refine st_load rfl 28 _ rfl hm rfl 3 rfl agg28 (by first | omega | assumption | (simp only [lens]; first | omega | assumption) | (simp [lens]; done) | (simp [lens]; omega)) ?_))) | ((with_reducible refine gt_field 28 1 ?_); refine st_field rfl 28 _ 1 rfl rfl field28_1 ?_) | ((with_reducible refine gt_elem 24 ?_); refine st_elem rfl 24 _ _ rfl rfl rfl arr24 (by first | omega | assumption | (simp only [lens]; first | omega | assumption) | (simp [lens]; done) | (simp [lens]; omega)) (by first | omega | assumption | (simp only [lens]; first | omega | assumption) | (simp [lens]; done) | (simp [lens]; omega)) ?_) | ((with_reducible refine gt_store 22 ?_); (first | (refine st_set rfl 22 _ _ rfl hm rfl rfl 0 rfl one22 (by first | omega | assumption | (simp only [lens]; first | omega | assumption) | (simp [lens]; done) | (simp [lens]; omega)) ?_) | (refine st_set rfl 22 _ _ rfl hm rfl rfl 1 rfl one22 (by first | omega | assumption | (simp only [lens]; first | omega | assumption) | (simp [lens]; done) | (simp [lens]; omega)) ?_) | (refine st_set rfl 22 _ _ rfl hm rfl rfl 2 rfl one22 (by first | omega | assumption | (simp only [lens]; first | omega | assumption) | (simp [lens]; done) | (simp [lens]; omega)) ?_) | (refine st_set rfl 22 _ _ rfl hm rfl rfl 3 rfl one22 (by first | omega | assumption | (simp only [lens]; first | omega | assumption) | (simp [lens]; done) | (simp [lens]; omega)) ?_)); clear hm; intro ws hm; simp only [List.set_cons_zero, List.set_cons_succ] at hm) | ((with_reducible refine gt_field 28 0 ?_); refine st_field rfl 28 _ 0 rfl rfl field28_0 ?_) | ((with_reducible refine gt_elem 23 ?_); refine st_elem rfl 23 _ _ rfl rfl rfl arr23 (by first | omega | assumption | (simp only [lens]; first | omega | assumption) | (simp [lens]; done) | (simp [lens]; omega)) (by first | omega | assumption | (simp only [lens]; first | omega | assumption) | (simp [lens]; done) | (simp [lens]; omega)) ?_))
           | (go_at_call 19; first
            | (with_reducible refine (HNA.out _).mono ?_; rintro e wc ⟨rfl, hbc⟩; replace hm := hm.after hbc; have hc2 := FrBelow.read hbc hc1; clear hbc)
            | (with_reducible refine (HNB.out _).mono ?_; rintro e wd ⟨rfl, hbd⟩; replace hm := hm.after hbd; have hmd := Aside0.mk hm; clear hbd))
           | (go_at_call 20; first
            | (with_reducible refine (HI1.out _).mono ?_; rintro e we ⟨rfl, ⟨ne, rfl⟩⟩; replace hm := hm.drawn3 ne)
            | (with_reducible refine (HI2.out _).mono ?_; rintro e wf ⟨rfl, ⟨nf, rfl⟩⟩; replace hm := hmd.out.drawn3 (ne + nf))))
          ((try simp only [Exit.inBlock, Exit.then]); (first | (refine ret_cell hm rfl rfl 1 rfl agg28 (by first | omega | assumption | (simp only [lens]; first | omega | assumption) | (simp [lens]; done) | (simp [lens]; omega)) rfl ?_) | (refine ret_cell_tmp hm rfl rfl 1 rfl agg28 (by first | omega | assumption | (simp only [lens]; first | omega | assumption) | (simp [lens]; done) | (simp [lens]; omega)) rfl ?_)))
          exact ⟨by rw [HVN]; rfl, hm.done (by simp [ho])⟩
         ·by_cases h1 : 1 ≤ kb ∧ kb ≤ 20
          ·rw [decide_eq_true h1] at HI1
           by_cases h2 : ka < 40
           ·exact absurd ⟨rfl, rfl, h1, h2, fun h => by cases h⟩ hg
           ·go_wp2_with (first
             | (first | fail | ((with_reducible refine gt_alloc 2 28 ?_); refine st_alloc rfl 2 rfl 28 rfl hm zero28 ?_; clear hm; intro g2 w2 hm) | ((with_reducible refine gt_build 28 ?_); refine st_zero rfl 28 rfl built28 ?_) | ((with_reducible refine gt_alloc 4 28 ?_); refine st_alloc rfl 4 rfl 28 rfl hm zero28 ?_; clear hm; intro g4 w4 hm) | ((with_reducible refine gt_store 28 ?_); (first | (refine st_full rfl 28 _ _ rfl hm rfl rfl 0 rfl agg28 (by first | omega | assumption | (simp only [lens]; first | omega | assumption) | (simp [lens]; done) | (simp [lens]; omega)) (by first | omega | assumption | (simp only [lens]; first | omega | assumption) | (simp [lens]; done) | (simp [lens]; omega)) ?_) | (refine st_full rfl 28 _ _ rfl hm rfl rfl 1 rfl agg28 (by first | omega | assumption | (simp only [lens]; first | omega | assumption) | (simp [lens]; done) | (simp [lens]; omega)) (by first | omega | assumption | (simp only [lens]; first | omega | assumption) | (simp [lens]; done) | (simp [lens]; omega)) ?_) | (refine st_full rfl 28 _ _ rfl hm rfl rfl 2 rfl agg28 (by first | omega | assumption | (simp only [lens]; first | omega | assumption) | (simp [lens]; done) | (simp [lens]; omega)) (by first | omega | assumption | (simp only [lens]; first | omega | assumption) | (simp [lens]; done) | (simp [lens]; omega)) ?_) | (refine st_full rfl 28 _ _ rfl hm rfl rfl 3 rfl agg28 (by first | omega | assumption | (simp only [lens]; first | omega | assumption) | (simp [lens]; done) | (simp [lens]; omega)) (by first | omega | assumption | (simp only [lens]; first | omega | assumption) | (simp [lens]; done) | (simp [lens]; omega)) ?_)); clear hm; intro ws hm; simp only [List.set_cons_zero, List.set_cons_succ] at hm) | ((with_reducible refine gt_load 28 ?_); (first | (refine st_load rfl 28 _ rfl hm rfl 0 rfl agg28 (by first | omega | assumption | (simp only [lens]; first | omega | assumption) | (simp [lens]; done) | (simp [lens]; omega)) ?_) | (refine st_load rfl 28 _ rfl hm rfl 1 rfl agg28 (by first | omega | assumption | (simp only [lens]; first | omega | assumption) | (simp [lens]; done) | (simp [lens]; omega)) ?_) | (refine st_load rfl 28 _ rfl hm rfl 2 rfl agg28 (by first | omega | assumption | (simp only [lens]; first | omega | assumption) | (simp [lens]; done) | (simp [lens]; omega)) ?_) | (refine st_load rfl 28 _ rfl hm rfl 3 rfl agg28 (by first | omega | assumption | (simp only [lens]; first | omega | assumption) | (simp [lens]; done) | (simp [lens]; omega)) ?_))) | ((with_reducible refine gt_field 28 1 ?_); refine st_field rfl 28 _ 1 rfl rfl field28_1 ?_) | ((with_reducible refine gt_elem 24 ?_); refine st_elem rfl 24 _ _ rfl rfl rfl arr24 (by first | omega | assumption | (simp only [lens]; first | omega | assumption) | (simp [lens]; done) | (simp [lens]; omega)) (by first | omega | assumption | (simp only [lens]; first | omega | assumption) | (simp [lens]; done) | (simp [lens]; omega)) ?_) | ((with_reducible refine gt_store 22 ?_); (first | (refine st_set rfl 22 _ _ rfl hm rfl rfl 0 rfl one22 (by first | omega | assumption | (simp only [lens]; first | omega | assumption) | (simp [lens]; done) | (simp [lens]; omega)) ?_) | (refine st_set rfl 22 _ _ rfl hm rfl rfl 1 rfl one22 (by first | omega | assumption | (simp only [lens]; first | omega | assumption) | (simp [lens]; done) | (simp [lens]; omega)) ?_) | (refine st_set rfl 22 _ _ rfl hm rfl rfl 2 rfl one22 (by first | omega | assumption | (simp only [lens]; first | omega | assumption) | (simp [lens]; done) | (simp [lens]; omega)) ?_) | (refine st_set rfl 22 _ _ rfl hm rfl rfl 3 rfl one22 (by first | omega | assumption | (simp only [lens]; first | omega | assumption) | (simp [lens]; done) | (simp [lens]; omega)) ?_)); clear hm; intro ws hm; simp only [List.set_cons_zero, List.set_cons_succ] at hm) | ((with_reducible refine gt_field 28 0 ?_); refine st_field rfl 28 _ 0 rfl rfl field28_0 ?_) | ((with_reducible refine gt_elem 23 ?_); refine st_elem rfl 23 _ _ rfl rfl rfl arr23 (by first | omega | assumption | (simp only [lens]; first | omega | assumption) | (simp [lens]; done) | (simp [lens]; omega)) (by first | omega | assumption | (simp only [lens]; first | omega | assumption) | (simp [lens]; done) | (simp [lens]; omega)) ?_))
             | (go_at_call 19; first
              | (with_reducible refine (HNA.out _).mono ?_; rintro e wc ⟨rfl, hbc⟩; replace hm := hm.after hbc; have hc2 := FrBelow.read hbc hc1; clear hbc)
              | (with_reducible refine (HNB.out _).mono ?_; rintro e wd ⟨rfl, hbd⟩; replace hm := hm.after hbd; have hmd := Aside0.mk hm; clear hbd))
             | (go_at_call 20; first
              | (with_reducible refine (HI1.out _).mono ?_; rintro e we ⟨rfl, ⟨ne, rfl⟩⟩; replace hm := hm.drawn3 ne)
              | (with_reducible refine (HI2.out _).mono ?_; rintro e wf ⟨rfl, ⟨nf, rfl⟩⟩; replace hm := hmd.out.drawn3 (ne + nf))))
            ((try simp only [Exit.inBlock, Exit.then]); (first | (refine ret_cell hm rfl rfl 1 rfl agg28 (by first | omega | assumption | (simp only [lens]; first | omega | assumption) | (simp [lens]; done) | (simp [lens]; omega)) rfl ?_) | (refine ret_cell_tmp hm rfl rfl 1 rfl agg28 (by first | omega | assumption | (simp only [lens]; first | omega | assumption) | (simp [lens]; done) | (simp [lens]; omega)) rfl ?_)))
            exact ⟨by rw [HVN]; rfl, hm.done (by simp [ho])⟩
          ·rw [decide_eq_false h1] at HI1
           go_wp2_with (first
            | (first | fail | ((with_reducible refine gt_alloc 2 28 ?_); refine st_alloc rfl 2 rfl 28 rfl hm zero28 ?_; clear hm; intro g2 w2 hm) | ((with_reducible refine gt_build 28 ?_); refine st_zero rfl 28 rfl built28 ?_) | ((with_reducible refine gt_alloc 4 28 ?_); refine st_alloc rfl 4 rfl 28 rfl hm zero28 ?_; clear hm; intro g4 w4 hm) | ((with_reducible refine gt_store 28 ?_); (first | (refine st_full rfl 28 _ _ rfl hm rfl rfl 0 rfl agg28 (by first | omega | assumption | (simp only [lens]; first | omega | assumption) | (simp [lens]; done) | (simp [lens]; omega)) (by first | omega | assumption | (simp only [lens]; first | omega | assumption) | (simp [lens]; done) | (simp [lens]; omega)) ?_) | (refine st_full rfl 28 _ _ rfl hm rfl rfl 1 rfl agg28 (by first | omega | assumption | (simp only [lens]; first | omega | assumption) | (simp [lens]; done) | (simp [lens]; omega)) (by first | omega | assumption | (simp only [lens]; first | omega | assumption) | (simp [lens]; done) | (simp [lens]; omega)) ?_) | (refine st_full rfl 28 _ _ rfl hm rfl rfl 2 rfl agg28 (by first | omega | assumption | (simp only [lens]; first | omega | assumption) | (simp [lens]; done) | (simp [lens]; omega)) (by first | omega | assumption | (simp only [lens]; first | omega | assumption) | (simp [lens]; done) | (simp [lens]; omega)) ?_) | (refine st_full rfl 28 _ _ rfl hm rfl rfl 3 rfl agg28 (by first | omega | assumption | (simp only [lens]; first | omega | assumption) | (simp [lens]; done) | (simp [lens]; omega)) (by first | omega | assumption | (simp only [lens]; first | omega | assumption) | (simp [lens]; done) | (simp [lens]; omega)) ?_)); clear hm; intro ws hm; simp only [List.set_cons_zero, List.set_cons_succ] at hm) | ((with_reducible refine gt_load 28 ?_); (first | (refine st_load rfl 28 _ rfl hm rfl 0 rfl agg28 (by first | omega | assumption | (simp only [lens]; first | omega | assumption) | (simp [lens]; done) | (simp [lens]; omega)) ?_) | (refine st_load rfl 28 _ rfl hm rfl 1 rfl agg28 (by first | omega | assumption | (simp only [lens]; first | omega | assumption) | (simp [lens]; done) | (simp [lens]; omega)) ?_) | (refine st_load rfl 28 _ rfl hm rfl 2 rfl agg28 (by first | omega | assumption | (simp only [lens]; first | omega | assumption) | (simp [lens]; done) | (simp [lens]; omega)) ?_) | (refine st_load rfl 28 _ rfl hm rfl 3 rfl agg28 (by first | omega | assumption | (simp only [lens]; first | omega | assumption) | (simp [lens]; done) | (simp [lens]; omega)) ?_))) | ((with_reducible refine gt_field 28 1 ?_); refine st_field rfl 28 _ 1 rfl rfl field28_1 ?_) | ((with_reducible refine gt_elem 24 ?_); refine st_elem rfl 24 _ _ rfl rfl rfl arr24 (by first | omega | assumption | (simp only [lens]; first | omega | assumption) | (simp [lens]; done) | (simp [lens]; omega)) (by first | omega | assumption | (simp only [lens]; first | omega | assumption) | (simp [lens]; done) | (simp [lens]; omega)) ?_) | ((with_reducible refine gt_store 22 ?_); (first | (refine st_set rfl 22 _ _ rfl hm rfl rfl 0 rfl one22 (by first | omega | assumption | (simp only [lens]; first | omega | assumption) | (simp [lens]; done) | (simp [lens]; omega)) ?_) | (refine st_set rfl 22 _ _ rfl hm rfl rfl 1 rfl one22 (by first | omega | assumption | (simp only [lens]; first | omega | assumption) | (simp [lens]; done) | (simp [lens]; omega)) ?_) | (refine st_set rfl 22 _ _ rfl hm rfl rfl 2 rfl one22 (by first | omega | assumption | (simp only [lens]; first | omega | assumption) | (simp [lens]; done) | (simp [lens]; omega)) ?_) | (refine st_set rfl 22 _ _ rfl hm rfl rfl 3 rfl one22 (by first | omega | assumption | (simp only [lens]; first | omega | assumption) | (simp [lens]; done) | (simp [lens]; omega)) ?_)); clear hm; intro ws hm; simp only [List.set_cons_zero, List.set_cons_succ] at hm) | ((with_reducible refine gt_field 28 0 ?_); refine st_field rfl 28 _ 0 rfl rfl field28_0 ?_) | ((with_reducible refine gt_elem 23 ?_); refine st_elem rfl 23 _ _ rfl rfl rfl arr23 (by first | omega | assumption | (simp only [lens]; first | omega | assumption) | (simp [lens]; done) | (simp [lens]; omega)) (by first | omega | assumption | (simp only [lens]; first | omega | assumption) | (simp [lens]; done) | (simp [lens]; omega)) ?_))
            | (go_at_call 19; first
             | (with_reducible refine (HNA.out _).mono ?_; rintro e wc ⟨rfl, hbc⟩; replace hm := hm.after hbc; have hc2 := FrBelow.read hbc hc1; clear hbc)
             | (with_reducible refine (HNB.out _).mono ?_; rintro e wd ⟨rfl, hbd⟩; replace hm := hm.after hbd; have hmd := Aside0.mk hm; clear hbd))
            | (go_at_call 20; first
             | (with_reducible refine (HI1.out _).mono ?_; rintro e we ⟨rfl, ⟨ne, rfl⟩⟩; replace hm := hm.drawn3 ne)
             | (with_reducible refine (HI2.out _).mono ?_; rintro e wf ⟨rfl, ⟨nf, rfl⟩⟩; replace hm := hmd.out.drawn3 (ne + nf))))
           ((try simp only [Exit.inBlock, Exit.then]); (first | (refine ret_cell hm rfl rfl 1 rfl agg28 (by first | omega | assumption | (simp only [lens]; first | omega | assumption) | (simp [lens]; done) | (simp [lens]; omega)) rfl ?_) | (refine ret_cell_tmp hm rfl rfl 1 rfl agg28 (by first | omega | assumption | (simp only [lens]; first | omega | assumption) | (simp [lens]; done) | (simp [lens]; omega)) rfl ?_)))
           exact ⟨by rw [HVN]; rfl, hm.done (by simp [ho])⟩
      ·have HVN : V = none := HV.out
       go_wp2_with (first | fail | ((with_reducible refine gt_alloc 2 28 ?_); refine st_alloc rfl 2 rfl 28 rfl hm zero28 ?_; clear hm; intro g2 w2 hm) | ((with_reducible refine gt_build 28 ?_); refine st_zero rfl 28 rfl built28 ?_) | ((with_reducible refine gt_alloc 4 28 ?_); refine st_alloc rfl 4 rfl 28 rfl hm zero28 ?_; clear hm; intro g4 w4 hm) | ((with_reducible refine gt_store 28 ?_); (first | (refine st_full rfl 28 _ _ rfl hm rfl rfl 0 rfl agg28 (by first | omega | assumption | (simp only [lens]; first | omega | assumption) | (simp [lens]; done) | (simp [lens]; omega)) (by first | omega | assumption | (simp only [lens]; first | omega | assumption) | (simp [lens]; done) | (simp [lens]; omega)) ?_) | (refine st_full rfl 28 _ _ rfl hm rfl rfl 1 rfl agg28 (by first | omega | assumption | (simp only [lens]; first | omega | assumption) | (simp [lens]; done) | (simp [lens]; omega)) (by first | omega | assumption | (simp only [lens]; first | omega | assumption) | (simp [lens]; done) | (simp [lens]; omega)) ?_) | (refine st_full rfl 28 _ _ rfl hm rfl rfl 2 rfl agg28 (by first | omega | assumption | (simp only [lens]; first | omega | assumption) | (simp [lens]; done) | (simp [lens]; omega)) (by first | omega | assumption | (simp only [lens]; first | omega | assumption) | (simp [lens]; done) | (simp [lens]; omega)) ?_) | (refine st_full rfl 28 _ _ rfl hm rfl rfl 3 rfl agg28 (by first | omega | assumption | (simp only [lens]; first | omega | assumption) | (simp [lens]; done) | (simp [lens]; omega)) (by first | omega | assumption | (simp only [lens]; first | omega | assumption) | (simp [lens]; done) | (simp [lens]; omega)) ?_)); clear hm; intro ws hm; simp only [List.set_cons_zero, List.set_cons_succ] at hm) | ((with_reducible refine gt_load 28 ?_); (first | (refine st_load rfl 28 _ rfl hm rfl 0 rfl agg28 (by first | omega | assumption | (simp only [lens]; first | omega | assumption) | (simp [lens]; done) | (simp [lens]; omega)) ?_) | (refine st_load rfl 28 _ rfl hm rfl 1 rfl agg28 (by first | omega | assumption | (simp only [lens]; first | omega | assumption) | (simp [lens]; done) | (simp [lens]; omega)) ?_) | (refine st_load rfl 28 _ rfl hm rfl 2 rfl agg28 (by first | omega | assumption | (simp only [lens]; first | omega | assumption) | (simp [lens]; done) | (simp [lens]; omega)) ?_) | (refine st_load rfl 28 _ rfl hm rfl 3 rfl agg28 (by first | omega | assumption | (simp only [lens]; first | omega | assumption) | (simp [lens]; done) | (simp [lens]; omega)) ?_))) | ((with_reducible refine gt_field 28 1 ?_); refine st_field rfl 28 _ 1 rfl rfl field28_1 ?_) | ((with_reducible refine gt_elem 24 ?_); refine st_elem rfl 24 _ _ rfl rfl rfl arr24 (by first | omega | assumption | (simp only [lens]; first | omega | assumption) | (simp [lens]; done) | (simp [lens]; omega)) (by first | omega | assumption | (simp only [lens]; first | omega | assumption) | (simp [lens]; done) | (simp [lens]; omega)) ?_) | ((with_reducible refine gt_store 22 ?_); (first | (refine st_set rfl 22 _ _ rfl hm rfl rfl 0 rfl one22 (by first | omega | assumption | (simp only [lens]; first | omega | assumption) | (simp [lens]; done) | (simp [lens]; omega)) ?_) | (refine st_set rfl 22 _ _ rfl hm rfl rfl 1 rfl one22 (by first | omega | assumption | (simp only [lens]; first | omega | assumption) | (simp [lens]; done) | (simp [lens]; omega)) ?_) | (refine st_set rfl 22 _ _ rfl hm rfl rfl 2 rfl one22 (by first | omega | assumption | (simp only [lens]; first | omega | assumption) | (simp [lens]; done) | (simp [lens]; omega)) ?_) | (refine st_set rfl 22 _ _ rfl hm rfl rfl 3 rfl one22 (by first | omega | assumption | (simp only [lens]; first | omega | assumption) | (simp [lens]; done) | (simp [lens]; omega)) ?_)); clear hm; intro ws hm; simp only [List.set_cons_zero, List.set_cons_succ] at hm) | ((with_reducible refine gt_field 28 0 ?_); refine st_field rfl 28 _ 0 rfl rfl field28_0 ?_) | ((with_reducible refine gt_elem 23 ?_); refine st_elem rfl 23 _ _ rfl rfl rfl arr23 (by first | omega | assumption | (simp only [lens]; first | omega | assumption) | (simp [lens]; done) | (simp [lens]; omega)) (by first | omega | assumption | (simp only [lens]; first | omega | assumption) | (simp [lens]; done) | (simp [lens]; omega)) ?_))
       ((try simp only [Exit.inBlock, Exit.then]); (first | (refine ret_cell hm rfl rfl 1 rfl agg28 (by first | omega | assumption | (simp only [lens]; first | omega | assumption) | (simp [lens]; done) | (simp [lens]; omega)) rfl ?_) | (refine ret_cell_tmp hm rfl rfl 1 rfl agg28 (by first | omega | assumption | (simp only [lens]; first | omega | assumption) | (simp [lens]; done) | (simp [lens]; omega)) rfl ?_)))
       exact ⟨by rw [HVN]; rfl, hm.done (by simp [ho])⟩
   ·have HI := Aside0.mk (show i = WS.length by omega)
    have HV := Aside0.mk (show V = if lockT L = l then some L else none by rw [HQ.out, HI.out, List.drop_length]; rfl)
    have HLT := Aside0.mk (fun W hW => specText_calls g4 L W hLl hok hW)
    generalize lockT L = T at *
    by_cases he : T = l
    ·have HVL := Aside0.mk (HV.out.trans (if_pos he))
     go_wp2_with (first
      | (first | fail | ((with_reducible refine gt_alloc 2 28 ?_); refine st_alloc rfl 2 rfl 28 rfl hm zero28 ?_; clear hm; intro g2 w2 hm) | ((with_reducible refine gt_build 28 ?_); refine st_zero rfl 28 rfl built28 ?_) | ((with_reducible refine gt_alloc 4 28 ?_); refine st_alloc rfl 4 rfl 28 rfl hm zero28 ?_; clear hm; intro g4 w4 hm) | ((with_reducible refine gt_store 28 ?_); (first | (refine st_full rfl 28 _ _ rfl hm rfl rfl 0 rfl agg28 (by first | omega | assumption | (simp only [lens]; first | omega | assumption) | (simp [lens]; done) | (simp [lens]; omega)) (by first | omega | assumption | (simp only [lens]; first | omega | assumption) | (simp [lens]; done) | (simp [lens]; omega)) ?_) | (refine st_full rfl 28 _ _ rfl hm rfl rfl 1 rfl agg28 (by first | omega | assumption | (simp only [lens]; first | omega | assumption) | (simp [lens]; done) | (simp [lens]; omega)) (by first | omega | assumption | (simp only [lens]; first | omega | assumption) | (simp [lens]; done) | (simp [lens]; omega)) ?_) | (refine st_full rfl 28 _ _ rfl hm rfl rfl 2 rfl agg28 (by first | omega | assumption | (simp only [lens]; first | omega | assumption) | (simp [lens]; done) | (simp [lens]; omega)) (by first | omega | assumption | (simp only [lens]; first | omega | assumption) | (simp [lens]; done) | (simp [lens]; omega)) ?_) | (refine st_full rfl 28 _ _ rfl hm rfl rfl 3 rfl agg28 (by first | omega | assumption | (simp only [lens]; first | omega | assumption) | (simp [lens]; done) | (simp [lens]; omega)) (by first | omega | assumption | (simp only [lens]; first | omega | assumption) | (simp [lens]; done) | (simp [lens]; omega)) ?_)); clear hm; intro ws hm; simp only [List.set_cons_zero, List.set_cons_succ] at hm) | ((with_reducible refine gt_load 28 ?_); (first | (refine st_load rfl 28 _ rfl hm rfl 0 rfl agg28 (by first | omega | assumption | (simp only [lens]; first | omega | assumption) | (simp [lens]; done) | (simp [lens]; omega)) ?_) | (refine st_load rfl 28 _ rfl hm rfl 1 rfl agg28 (by first | omega | assumption | (simp only [lens]; first | omega | assumption) | (simp [lens]; done) | (simp [lens]; omega)) ?_) | (refine st_load rfl 28 _ rfl hm rfl 2 rfl agg28 (by first | omega | assumption | (simp only [lens]; first | omega | assumption) | (simp [lens]; done) | (simp [lens]; omega)) ?_) | (refine st_load rfl 28 _ rfl hm rfl 3 rfl agg28 (by first | omega | assumption | (simp only [lens]; first | omega | assumption) | (simp [lens]; done) | (simp [lens]; omega)) ?_))) | ((with_reducible refine gt_field 28 1 ?_); refine st_field rfl 28 _ 1 rfl rfl field28_1 ?_) | ((with_reducible refine gt_elem 24 ?_); refine st_elem rfl 24 _ _ rfl rfl rfl arr24 (by first | omega | assumption | (simp only [lens]; first | omega | assumption) | (simp [lens]; done) | (simp [lens]; omega)) (by first | omega | assumption | (simp only [lens]; first | omega | assumption) | (simp [lens]; done) | (simp [lens]; omega)) ?_) | ((with_reducible refine gt_store 22 ?_); (first | (refine st_set rfl 22 _ _ rfl hm rfl rfl 0 rfl one22 (by first | omega | assumption | (simp only [lens]; first | omega | assumption) | (simp [lens]; done) | (simp [lens]; omega)) ?_) | (refine st_set rfl 22 _ _ rfl hm rfl rfl 1 rfl one22 (by first | omega | assumption | (simp only [lens]; first | omega | assumption) | (simp [lens]; done) | (simp [lens]; omega)) ?_) | (refine st_set rfl 22 _ _ rfl hm rfl rfl 2 rfl one22 (by first | omega | assumption | (simp only [lens]; first | omega | assumption) | (simp [lens]; done) | (simp [lens]; omega)) ?_) | (refine st_set rfl 22 _ _ rfl hm rfl rfl 3 rfl one22 (by first | omega | assumption | (simp only [lens]; first | omega | assumption) | (simp [lens]; done) | (simp [lens]; omega)) ?_)); clear hm; intro ws hm; simp only [List.set_cons_zero, List.set_cons_succ] at hm) | ((with_reducible refine gt_field 28 0 ?_); refine st_field rfl 28 _ 0 rfl rfl field28_0 ?_) | ((with_reducible refine gt_elem 23 ?_); refine st_elem rfl 23 _ _ rfl rfl rfl arr23 (by first | omega | assumption | (simp only [lens]; first | omega | assumption) | (simp [lens]; done) | (simp [lens]; omega)) (by first | omega | assumption | (simp only [lens]; first | omega | assumption) | (simp [lens]; done) | (simp [lens]; omega)) ?_))
      | (go_at_call 12; refine (HLT.out _ (hm.mem (n := 0) rfl)).mono ?_; rintro e wa ⟨rfl, hb⟩; replace hm := hm.after hb; clear hb))
     ((try simp only [Exit.inBlock, Exit.then]); (first | (refine ret_cell hm rfl rfl 1 rfl agg28 (by first | omega | assumption | (simp only [lens]; first | omega | assumption) | (simp [lens]; done) | (simp [lens]; omega)) rfl ?_) | (refine ret_cell_tmp hm rfl rfl 1 rfl agg28 (by first | omega | assumption | (simp only [lens]; first | omega | assumption) | (simp [lens]; done) | (simp [lens]; omega)) rfl ?_)))
     exact ⟨by rw [HVL.out]; rfl, hm.done (by simp [ho])⟩
    ·have HVL := Aside0.mk (HV.out.trans (if_neg he))
     go_wp2_with (first
      | (first | fail | ((with_reducible refine gt_alloc 2 28 ?_); refine st_alloc rfl 2 rfl 28 rfl hm zero28 ?_; clear hm; intro g2 w2 hm) | ((with_reducible refine gt_build 28 ?_); refine st_zero rfl 28 rfl built28 ?_) | ((with_reducible refine gt_alloc 4 28 ?_); refine st_alloc rfl 4 rfl 28 rfl hm zero28 ?_; clear hm; intro g4 w4 hm) | ((with_reducible refine gt_store 28 ?_); (first | (refine st_full rfl 28 _ _ rfl hm rfl rfl 0 rfl agg28 (by first | omega | assumption | (simp only [lens]; first | omega | assumption) | (simp [lens]; done) | (simp [lens]; omega)) (by first | omega | assumption | (simp only [lens]; first | omega | assumption) | (simp [lens]; done) | (simp [lens]; omega)) ?_) | (refine st_full rfl 28 _ _ rfl hm rfl rfl 1 rfl agg28 (by first | omega | assumption | (simp only [lens]; first | omega | assumption) | (simp [lens]; done) | (simp [lens]; omega)) (by first | omega | assumption | (simp only [lens]; first | omega | assumption) | (simp [lens]; done) | (simp [lens]; omega)) ?_) | (refine st_full rfl 28 _ _ rfl hm rfl rfl 2 rfl agg28 (by first | omega | assumption | (simp only [lens]; first | omega | assumption) | (simp [lens]; done) | (simp [lens]; omega)) (by first | omega | assumption | (simp only [lens]; first | omega | assumption) | (simp [lens]; done) | (simp [lens]; omega)) ?_) | (refine st_full rfl 28 _ _ rfl hm rfl rfl 3 rfl agg28 (by first | omega | assumption | (simp only [lens]; first | omega | assumption) | (simp [lens]; done) | (simp [lens]; omega)) (by first | omega | assumption | (simp only [lens]; first | omega | assumption) | (simp [lens]; done) | (simp [lens]; omega)) ?_)); clear hm; intro ws hm; simp only [List.set_cons_zero, List.set_cons_succ] at hm) | ((with_reducible refine gt_load 28 ?_); (first | (refine st_load rfl 28 _ rfl hm rfl 0 rfl agg28 (by first | omega | assumption | (simp only [lens]; first | omega | assumption) | (simp [lens]; done) | (simp [lens]; omega)) ?_) | (refine st_load rfl 28 _ rfl hm rfl 1 rfl agg28 (by first | omega | assumption | (simp only [lens]; first | omega | assumption) | (simp [lens]; done) | (simp [lens]; omega)) ?_) | (refine st_load rfl 28 _ rfl hm rfl 2 rfl agg28 (by first | omega | assumption | (simp only [lens]; first | omega | assumption) | (simp [lens]; done) | (simp [lens]; omega)) ?_) | (refine st_load rfl 28 _ rfl hm rfl 3 rfl agg28 (by first | omega | assumption | (simp only [lens]; first | omega | assumption) | (simp [lens]; done) | (simp [lens]; omega)) ?_))) | ((with_reducible refine gt_field 28 1 ?_); refine st_field rfl 28 _ 1 rfl rfl field28_1 ?_) | ((with_reducible refine gt_elem 24 ?_); refine st_elem rfl 24 _ _ rfl rfl rfl arr24 (by first | omega | assumption | (simp only [lens]; first | omega | assumption) | (simp [lens]; done) | (simp [lens]; omega)) (by first | omega | assumption | (simp only [lens]; first | omega | assumption) | (simp [lens]; done) | (simp [lens]; omega)) ?_) | ((with_reducible refine gt_store 22 ?_); (first | (refine st_set rfl 22 _ _ rfl hm rfl rfl 0 rfl one22 (by first | omega | assumption | (simp only [lens]; first | omega | assumption) | (simp [lens]; done) | (simp [lens]; omega)) ?_) | (refine st_set rfl 22 _ _ rfl hm rfl rfl 1 rfl one22 (by first | omega | assumption | (simp only [lens]; first | omega | assumption) | (simp [lens]; done) | (simp [lens]; omega)) ?_) | (refine st_set rfl 22 _ _ rfl hm rfl rfl 2 rfl one22 (by first | omega | assumption | (simp only [lens]; first | omega | assumption) | (simp [lens]; done) | (simp [lens]; omega)) ?_) | (refine st_set rfl 22 _ _ rfl hm rfl rfl 3 rfl one22 (by first | omega | assumption | (simp only [lens]; first | omega | assumption) | (simp [lens]; done) | (simp [lens]; omega)) ?_)); clear hm; intro ws hm; simp only [List.set_cons_zero, List.set_cons_succ] at hm) | ((with_reducible refine gt_field 28 0 ?_); refine st_field rfl 28 _ 0 rfl rfl field28_0 ?_) | ((with_reducible refine gt_elem 23 ?_); refine st_elem rfl 23 _ _ rfl rfl rfl arr23 (by first | omega | assumption | (simp only [lens]; first | omega | assumption) | (simp [lens]; done) | (simp [lens]; omega)) (by first | omega | assumption | (simp only [lens]; first | omega | assumption) | (simp [lens]; done) | (simp [lens]; omega)) ?_))
      | (go_at_call 12; refine (HLT.out _ (hm.mem (n := 0) rfl)).mono ?_; rintro e wa ⟨rfl, hb⟩; replace hm := hm.after hb; clear hb))
     ·((try simp only [Exit.inBlock, Exit.then]); (first | (refine ret_cell hm rfl rfl 1 rfl agg28 (by first | omega | assumption | (simp only [lens]; first | omega | assumption) | (simp [lens]; done) | (simp [lens]; omega)) rfl ?_) | (refine ret_cell_tmp hm rfl rfl 1 rfl agg28 (by first | omega | assumption | (simp only [lens]; first | omega | assumption) | (simp [lens]; done) | (simp [lens]; omega)) rfl ?_)))
      exact ⟨by rw [HVL.out]; rfl, hm.done (by simp [ho])⟩
     ·rename_i hTl
      exact absurd (by simpa using hTl) he
end Go.Proofs.YtehagnkcfgkomaaDoor.Arr
namespace Go.Proofs.YtehagnkcfgkomaaDoor.Arr
open Go.RowKit Go.Proofs.YtehagnkcfgkomaaDoorW.PrintWords Go.Proofs.YtehagnkcfgkomaaDoorW.PrintLast Go.Proofs.YtehagnkcfgkomaaDoorW.PrintMore Go.Proofs.YtehagnkcfgkomaaDoor.U Go.Proofs.YtehagnkcfgkomaaDoor.I
set_option linter.unusedVariables false
set_option linter.unusedSimpArgs false
theorem okL_fits {L : List Int} (h : okL L = true) : Fits .i16 L := fun z hz => by
 have := List.all_eq_true.1 h z hz
 unfold okx at this
 have := of_decide_eq_true this
 have h1 : IntKind.i16.min = -32768 := by decide
 have h2 : IntKind.i16.max = 32767 := by decide
 simp only [Lit.wf, h1, h2, Bool.and_eq_true, decide_eq_true_eq]
 omega
theorem splitI_calls (l : List UInt8) (hl : l.length ≤ 1048576) (w : World) (hD : Door w) : Calls Tryd.prog 21 #[.string ⟨l.toArray⟩, .string ⟨#[32]⟩] w
  fun e w' => ∃ bk R, e = .returned (.slice (some ⟨bk, 0, none⟩) (sp 32 l).length (sp 32 l).length) ∧ newEnts w' w.heap.size = R ∧ R.all (·.own) = true ∧ TxAt R bk (sp 32 l) ∧ Below w.heap.size w w' := by
 obtain ⟨m, hm⟩ := hD.len
 have hn : (Lib.splitB ⟨#[32]⟩ 0 (Lib.countB ⟨l.toArray⟩ ⟨#[32]⟩) ⟨l.toArray⟩).length = Lib.countB ⟨l.toArray⟩ ⟨#[32]⟩ + 1 := Lib.splitB_all ⟨#[32]⟩ (Nat.le_refl 1) 0 _ _ rfl
 have hs := splitB_sp 32 l.length ⟨l.toArray⟩ (by rw [bs_size]; exact Nat.le_refl _)
 rw [show (⟨l.toArray⟩ : ByteArray).data.toList = l by simp] at hs
 have hl2 : Lib.countB ⟨l.toArray⟩ ⟨#[32]⟩ + 1 = (sp 32 l).length := by rw [← hn, ← hs, List.length_map]
 refine (Any.strings_Split { lay146 with } lay146.i9 ⟨l.toArray⟩ ⟨#[32]⟩ m w (by rw [bs_size]; omega) hm (Nat.le_refl 1)).mono ?_
 rintro e w' ⟨rfl, rfl⟩
 rw [hl2]
 generalize Lib.splitB ⟨#[32]⟩ 0 (Lib.countB ⟨l.toArray⟩ ⟨#[32]⟩) ⟨l.toArray⟩ = xs at *
 refine ⟨w.heap.size, _, rfl, rfl, newEnts_own, fun W hh j x hj => ?_, Below.alloc (Below.refl _ _) (Nat.le_refl _) _⟩
 have hc := hh ⟨w.heap.size, (xs.map Value.string).toArray, ren146.t 9, true⟩ (List.mem_filterMap.2 ⟨w.heap.size, List.mem_range.2 (by simp), entOf_cells (Nat.le_refl _) (show (w.heap.push _)[w.heap.size]? = _ by simp)⟩)
 rw [cell_of_row W w.heap.size j _ _ (0, 0) hc, List.getElem?_toArray, List.getElem?_map]
 have hj2 : (xs.map (·.data.toList))[j]? = some x := by rw [hs]; exact hj
 rw [List.getElem?_map] at hj2
 rcases hy : xs[j]? with _ | y
 ·rw [hy] at hj2; cases hj2
 ·rw [hy] at hj2
  injection hj2 with hj2
  subst hj2
  rfl
theorem cut_len (x : List UInt8) : (Lib.cut x [120]).1.length ≤ x.length ∧ (Lib.cut x [120]).2.1.length ≤ x.length := by
 unfold Lib.cut
 split
 ·simp only [List.length_take, List.length_drop]
  omega
 ·simp
theorem trim_len (x : List UInt8) : (Lib.trimPrefix x [115]).length ≤ x.length := by
 unfold Lib.trimPrefix
 split <;> simp
theorem cutI_calls (x : List UInt8) (hl : x.length ≤ 1048576) (w : World) (hD : Door w) : Calls Tryd.prog 22 #[.string ⟨x.toArray⟩, .string ⟨#[120]⟩] w
  fun e w' => e = .returned (.tuple #[.string ⟨(Lib.cut x [120]).1.toArray⟩, .string ⟨(Lib.cut x [120]).2.1.toArray⟩, .bool (Lib.cut x [120]).2.2]) ∧ ∃ n, w' = w.drewN n := by
 obtain ⟨m, hm⟩ := hD.len
 have := Any.strings_Cut { lay145 with } ⟨x.toArray⟩ ⟨#[120]⟩ m w (by rw [bs_size]; omega) hm
 rw [show (⟨x.toArray⟩ : ByteArray).data.toList = x by simp] at this
 exact this
theorem prefI_calls (x : List UInt8) (w : World) : Calls Tryd.prog 23 #[.string ⟨x.toArray⟩, .string ⟨#[115]⟩] w
  fun e w' => e = .returned (.tuple #[.string ⟨(Lib.trimPrefix x [115]).toArray⟩, .bool (Lib.hasPrefix x [115])]) ∧ w' = w := by
 have := Any.strings_CutPrefix lay103 ⟨x.toArray⟩ ⟨#[115]⟩ w
 rw [show (⟨x.toArray⟩ : ByteArray).data.toList = x by simp] at this
 exact this
theorem numK_calls (l : List UInt8) (hl : l.length ≤ 1048576) (w : World) (hD : Door w) : Calls Tryd.prog 24 #[.string ⟨l.toArray⟩, .int .i64 39] w fun e w' =>
   e = .returned (.tuple #[.int .i64 (((numI 39 l).getD 0 : Nat) : Int), .bool (numI 39 l).isSome]) ∧ Below w.heap.size w w' := number_calls l hl 39 (by omega) w hD
theorem numN_calls (l : List UInt8) (hl : l.length ≤ 1048576) (w : World) (hD : Door w) : Calls Tryd.prog 24 #[.string ⟨l.toArray⟩, .int .i64 20] w fun e w' =>
   e = .returned (.tuple #[.int .i64 (((numI 20 l).getD 0 : Nat) : Int), .bool (numI 20 l).isSome]) ∧ Below w.heap.size w w' := number_calls l hl 20 (by omega) w hD
set_option maxHeartbeats 8000000 in
set_option maxRecDepth 100000 in
theorem implRead_calls (l : List UInt8) (hl : l.length ≤ 1048576) (w : World) (hD0 : Door w) :
  Calls Tryd.prog 9 #[.string ⟨l.toArray⟩] w fun e w' => e = .returned (readRes (readI l)) ∧ Below w.heap.size w w' := by
 have hm := Mem.start w
 have HD := Aside0.mk (fun W (hb : Below w.heap.size w W) => hD0.below hb)
 have HS := Aside0.mk (fun W hW => splitI_calls l hl W hW)
 have hwl := sp_len 32 l
 have HWM := Aside0.mk (sp_mem 32 l)
 have HQ := Aside0.mk (show readI l = match goI l (sp 32 l) zeros44 with | none => none | some L => if (if okL L = true then lockT L else []) = l then some L else none from rfl)
 generalize sp 32 l = WS at *
 generalize readI l = V at *
 go_enter Tryd.func9, Tryd.ntmps9
 go_wp2_with (first
  | (first | fail | ((with_reducible refine gt_alloc 2 28 ?_); refine st_alloc rfl 2 rfl 28 rfl hm zero28 ?_; clear hm; intro g2 w2 hm) | ((with_reducible refine gt_build 28 ?_); refine st_zero rfl 28 rfl built28 ?_) | ((with_reducible refine gt_alloc 4 28 ?_); refine st_alloc rfl 4 rfl 28 rfl hm zero28 ?_; clear hm; intro g4 w4 hm) | ((with_reducible refine gt_store 28 ?_); (first | (refine st_full rfl 28 _ _ rfl hm rfl rfl 0 rfl agg28 (by first | omega | assumption | (simp only [lens]; first | omega | assumption) | (simp [lens]; done) | (simp [lens]; omega)) (by first | omega | assumption | (simp only [lens]; first | omega | assumption) | (simp [lens]; done) | (simp [lens]; omega)) ?_) | (refine st_full rfl 28 _ _ rfl hm rfl rfl 1 rfl agg28 (by first | omega | assumption | (simp only [lens]; first | omega | assumption) | (simp [lens]; done) | (simp [lens]; omega)) (by first | omega | assumption | (simp only [lens]; first | omega | assumption) | (simp [lens]; done) | (simp [lens]; omega)) ?_) | (refine st_full rfl 28 _ _ rfl hm rfl rfl 2 rfl agg28 (by first | omega | assumption | (simp only [lens]; first | omega | assumption) | (simp [lens]; done) | (simp [lens]; omega)) (by first | omega | assumption | (simp only [lens]; first | omega | assumption) | (simp [lens]; done) | (simp [lens]; omega)) ?_) | (refine st_full rfl 28 _ _ rfl hm rfl rfl 3 rfl agg28 (by first | omega | assumption | (simp only [lens]; first | omega | assumption) | (simp [lens]; done) | (simp [lens]; omega)) (by first | omega | assumption | (simp only [lens]; first | omega | assumption) | (simp [lens]; done) | (simp [lens]; omega)) ?_)); clear hm; intro ws hm; simp only [List.set_cons_zero, List.set_cons_succ] at hm) | ((with_reducible refine gt_field 28 1 ?_); refine st_field rfl 28 _ 1 rfl rfl field28_1 ?_) | ((with_reducible refine gt_elem 24 ?_); refine st_elem rfl 24 _ _ rfl rfl rfl arr24 (by first | omega | assumption | (simp only [lens]; first | omega | assumption) | (simp [lens]; done) | (simp [lens]; omega)) (by first | omega | assumption | (simp only [lens]; first | omega | assumption) | (simp [lens]; done) | (simp [lens]; omega)) ?_) | ((with_reducible refine gt_store 22 ?_); (first | (refine st_set rfl 22 _ _ rfl hm rfl rfl 0 rfl one22 (by first | omega | assumption | (simp only [lens]; first | omega | assumption) | (simp [lens]; done) | (simp [lens]; omega)) ?_) | (refine st_set rfl 22 _ _ rfl hm rfl rfl 1 rfl one22 (by first | omega | assumption | (simp only [lens]; first | omega | assumption) | (simp [lens]; done) | (simp [lens]; omega)) ?_) | (refine st_set rfl 22 _ _ rfl hm rfl rfl 2 rfl one22 (by first | omega | assumption | (simp only [lens]; first | omega | assumption) | (simp [lens]; done) | (simp [lens]; omega)) ?_) | (refine st_set rfl 22 _ _ rfl hm rfl rfl 3 rfl one22 (by first | omega | assumption | (simp only [lens]; first | omega | assumption) | (simp [lens]; done) | (simp [lens]; omega)) ?_)); clear hm; intro ws hm; simp only [List.set_cons_zero, List.set_cons_succ] at hm) | ((with_reducible refine gt_field 28 0 ?_); refine st_field rfl 28 _ 0 rfl rfl field28_0 ?_) | ((with_reducible refine gt_elem 23 ?_); refine st_elem rfl 23 _ _ rfl rfl rfl arr23 (by first | omega | assumption | (simp only [lens]; first | omega | assumption) | (simp [lens]; done) | (simp [lens]; omega)) (by first | omega | assumption | (simp only [lens]; first | omega | assumption) | (simp [lens]; done) | (simp [lens]; omega)) ?_) | ((with_reducible refine gt_load 28 ?_); (first | (refine st_load rfl 28 _ rfl hm rfl 0 rfl agg28 (by first | omega | assumption | (simp only [lens]; first | omega | assumption) | (simp [lens]; done) | (simp [lens]; omega)) ?_) | (refine st_load rfl 28 _ rfl hm rfl 1 rfl agg28 (by first | omega | assumption | (simp only [lens]; first | omega | assumption) | (simp [lens]; done) | (simp [lens]; omega)) ?_) | (refine st_load rfl 28 _ rfl hm rfl 2 rfl agg28 (by first | omega | assumption | (simp only [lens]; first | omega | assumption) | (simp [lens]; done) | (simp [lens]; omega)) ?_) | (refine st_load rfl 28 _ rfl hm rfl 3 rfl agg28 (by first | omega | assumption | (simp only [lens]; first | omega | assumption) | (simp [lens]; done) | (simp [lens]; omega)) ?_))))
  | (go_at_call 21; refine (HS.out _ (HD.out _ (hm.done rfl))).mono ?_; rintro e wa ⟨bk, R, rfl, hR, ho, HT, hb⟩; replace hm := hm.grow hb; rw [hR] at hm; clear hb hR))
 go_loopw [20] (fun v20 wr => ∃ (i : Nat) (L : List Int), i ≤ WS.length ∧ v20 = .int .i64 i ∧ L.length = 44 ∧ okL L = true ∧ Aside0 (V = match goI l (WS.drop i) L with | none => none | some L => if (if okL L = true then lockT L else []) = l then some L else none) ∧ Mem w wr (⟨g4, vals .i16 L, 28, true⟩ :: ⟨g2, vals .i16 (zs 44), 28, true⟩ :: R)) (fun v20 _ => WS.length - (intOf v20).toNat)
 case atStart => exact ⟨0, zeros44, by omega, rfl, zeros_ok.1, zeros_ok.2, HQ, hm⟩
 case round =>
  clear hm
  obtain ⟨i, L, hi, rfl, hLl, hok, HQ, hm⟩ := hrel
  by_cases hlt : i < WS.length
  ·by_cases hdash : l = [45]
   ·subst hdash
    have hwi := rd_wsX WS i hlt
    generalize hx : WS[i] = x at *
    have HX := Aside0.mk hx
    clear hx
    have hc := HT wr (fun e he => (hm.ent e (by simp [he])).1) i x hwi
    have hxl : x.length ≤ 1048576 := Nat.le_trans (HWM.out x (List.mem_of_getElem? hwi)) hl
    rw [List.drop_eq_getElem_cons hlt, HX.out, goI, if_pos rfl] at HQ
    have HCUT := Aside0.mk (fun W hW => cutI_calls x hxl W hW)
    have hcl := cut_len x
    have HWI := Aside0.mk (show wordI x = match numI 39 (Lib.trimPrefix (Lib.cut x [120]).1 [115]), numI 20 (Lib.cut x [120]).2.1 with
     | some k, some n => if Lib.hasPrefix (Lib.cut x [120]).1 [115] = true then (if 1 ≤ k ∧ k ≤ 4 then some (39 + k, (n : Int)) else none) else some (k, (n : Int))
     | _, _ => none from rfl)
    generalize wordI x = WP at *
    generalize Lib.cut x [120] = cu at *
    obtain ⟨hd, rs, fd⟩ := cu
    dsimp only at HCUT hcl HWI
    have HPRE := Aside0.mk (fun W => prefI_calls hd W)
    have htl := trim_len hd
    generalize Lib.trimPrefix hd [115] = tp at *
    generalize Lib.hasPrefix hd [115] = sub at *
    have HNA := Aside0.mk (fun W hW => numK_calls tp (by omega) W hW)
    have HNB := Aside0.mk (fun W hW => numN_calls rs (by omega) W hW)
    have HKA := Aside0.mk (fun k (h : numI 39 tp = some k) => (numI_some (by omega) h).1)
    have HKB := Aside0.mk (fun k (h : numI 20 rs = some k) => (numI_some (by omega) h).1)
    generalize numI 39 tp = na at *
    generalize numI 20 rs = nb0 at *
    have HIN := Aside0.mk (fun W => impl_within.calls (((na.getD 0 : Nat)) : Int) 1 4 (decide (1 ≤ ((na.getD 0 : Nat) : Int) ∧ ((na.getD 0 : Nat) : Int) ≤ 4)) W (by unfold impl_within.f; by_cases h : (1 : Int) ≤ ((na.getD 0 : Nat) : Int) <;> simp [h]))
    go_wp2_with (first
     | (first | fail | ((with_reducible refine gt_alloc 2 28 ?_); refine st_alloc rfl 2 rfl 28 rfl hm zero28 ?_; clear hm; intro g2 w2 hm) | ((with_reducible refine gt_build 28 ?_); refine st_zero rfl 28 rfl built28 ?_) | ((with_reducible refine gt_alloc 4 28 ?_); refine st_alloc rfl 4 rfl 28 rfl hm zero28 ?_; clear hm; intro g4 w4 hm) | ((with_reducible refine gt_store 28 ?_); (first | (refine st_full rfl 28 _ _ rfl hm rfl rfl 0 rfl agg28 (by first | omega | assumption | (simp only [lens]; first | omega | assumption) | (simp [lens]; done) | (simp [lens]; omega)) (by first | omega | assumption | (simp only [lens]; first | omega | assumption) | (simp [lens]; done) | (simp [lens]; omega)) ?_) | (refine st_full rfl 28 _ _ rfl hm rfl rfl 1 rfl agg28 (by first | omega | assumption | (simp only [lens]; first | omega | assumption) | (simp [lens]; done) | (simp [lens]; omega)) (by first | omega | assumption | (simp only [lens]; first | omega | assumption) | (simp [lens]; done) | (simp [lens]; omega)) ?_) | (refine st_full rfl 28 _ _ rfl hm rfl rfl 2 rfl agg28 (by first | omega | assumption | (simp only [lens]; first | omega | assumption) | (simp [lens]; done) | (simp [lens]; omega)) (by first | omega | assumption | (simp only [lens]; first | omega | assumption) | (simp [lens]; done) | (simp [lens]; omega)) ?_) | (refine st_full rfl 28 _ _ rfl hm rfl rfl 3 rfl agg28 (by first | omega | assumption | (simp only [lens]; first | omega | assumption) | (simp [lens]; done) | (simp [lens]; omega)) (by first | omega | assumption | (simp only [lens]; first | omega | assumption) | (simp [lens]; done) | (simp [lens]; omega)) ?_)); clear hm; intro ws hm; simp only [List.set_cons_zero, List.set_cons_succ] at hm) | ((with_reducible refine gt_field 28 1 ?_); refine st_field rfl 28 _ 1 rfl rfl field28_1 ?_) | ((with_reducible refine gt_elem 24 ?_); refine st_elem rfl 24 _ _ rfl rfl rfl arr24 (by first | omega | assumption | (simp only [lens]; first | omega | assumption) | (simp [lens]; done) | (simp [lens]; omega)) (by first | omega | assumption | (simp only [lens]; first | omega | assumption) | (simp [lens]; done) | (simp [lens]; omega)) ?_) | ((with_reducible refine gt_store 22 ?_); (first | (refine st_set rfl 22 _ _ rfl hm rfl rfl 0 rfl one22 (by first | omega | assumption | (simp only [lens]; first | omega | assumption) | (simp [lens]; done) | (simp [lens]; omega)) ?_) | (refine st_set rfl 22 _ _ rfl hm rfl rfl 1 rfl one22 (by first | omega | assumption | (simp only [lens]; first | omega | assumption) | (simp [lens]; done) | (simp [lens]; omega)) ?_) | (refine st_set rfl 22 _ _ rfl hm rfl rfl 2 rfl one22 (by first | omega | assumption | (simp only [lens]; first | omega | assumption) | (simp [lens]; done) | (simp [lens]; omega)) ?_) | (refine st_set rfl 22 _ _ rfl hm rfl rfl 3 rfl one22 (by first | omega | assumption | (simp only [lens]; first | omega | assumption) | (simp [lens]; done) | (simp [lens]; omega)) ?_)); clear hm; intro ws hm; simp only [List.set_cons_zero, List.set_cons_succ] at hm) | ((with_reducible refine gt_field 28 0 ?_); refine st_field rfl 28 _ 0 rfl rfl field28_0 ?_) | ((with_reducible refine gt_elem 23 ?_); refine st_elem rfl 23 _ _ rfl rfl rfl arr23 (by first | omega | assumption | (simp only [lens]; first | omega | assumption) | (simp [lens]; done) | (simp [lens]; omega)) (by first | omega | assumption | (simp only [lens]; first | omega | assumption) | (simp [lens]; done) | (simp [lens]; omega)) ?_) | ((with_reducible refine gt_load 28 ?_); (first | (refine st_load rfl 28 _ rfl hm rfl 0 rfl agg28 (by first | omega | assumption | (simp only [lens]; first | omega | assumption) | (simp [lens]; done) | (simp [lens]; omega)) ?_) | (refine st_load rfl 28 _ rfl hm rfl 1 rfl agg28 (by first | omega | assumption | (simp only [lens]; first | omega | assumption) | (simp [lens]; done) | (simp [lens]; omega)) ?_) | (refine st_load rfl 28 _ rfl hm rfl 2 rfl agg28 (by first | omega | assumption | (simp only [lens]; first | omega | assumption) | (simp [lens]; done) | (simp [lens]; omega)) ?_) | (refine st_load rfl 28 _ rfl hm rfl 3 rfl agg28 (by first | omega | assumption | (simp only [lens]; first | omega | assumption) | (simp [lens]; done) | (simp [lens]; omega)) ?_))))
     | (go_at_call 22; refine (HCUT.out _ (HD.out _ (hm.done (by simp [ho])))).mono ?_; rintro e wb ⟨rfl, nb, rfl⟩; replace hm := hm.drawn3 nb)
     | (go_at_call 23; refine (HPRE.out _).mono ?_; rintro e wc ⟨rfl, rfl⟩)
     | (go_at_call 24; first
       | (with_reducible refine (HNA.out _ (HD.out _ (hm.done (by simp [ho])))).mono ?_; rintro e wd ⟨rfl, hb⟩; replace hm := hm.after hb; clear hb)
       | (with_reducible refine (HNB.out _ (HD.out _ (hm.done (by simp [ho])))).mono ?_; rintro e we ⟨rfl, hb⟩; replace hm := hm.after hb; clear hb))
     | (go_at_call 25; refine (HIN.out _).mono ?_; rintro e wf ⟨rfl, nf, rfl⟩; replace hm := hm.drawn3 nf))
    refine ⟨⟨i + 1, L, by omega, rfl, hLl, hok, HQ, hm⟩, by simp [intOf]; omega⟩
   ·have hq45 : (l == [45]) = false := by simpa using hdash
    have hwi := rd_wsX WS i hlt
    generalize hx : WS[i] = x at *
    have HX := Aside0.mk hx
    clear hx
    have hc := HT wr (fun e he => (hm.ent e (by simp [he])).1) i x hwi
    have hxl : x.length ≤ 1048576 := Nat.le_trans (HWM.out x (List.mem_of_getElem? hwi)) hl
    rw [List.drop_eq_getElem_cons hlt, HX.out, goI, if_neg hdash] at HQ
    have HCUT := Aside0.mk (fun W hW => cutI_calls x hxl W hW)
    have hcl := cut_len x
    have HWI := Aside0.mk (show wordI x = match numI 39 (Lib.trimPrefix (Lib.cut x [120]).1 [115]), numI 20 (Lib.cut x [120]).2.1 with
     | some k, some n => if Lib.hasPrefix (Lib.cut x [120]).1 [115] = true then (if 1 ≤ k ∧ k ≤ 4 then some (39 + k, (n : Int)) else none) else some (k, (n : Int))
     | _, _ => none from rfl)
    generalize wordI x = WP at *
    generalize Lib.cut x [120] = cu at *
    obtain ⟨hd, rs, fd⟩ := cu
    dsimp only at HCUT hcl HWI
    have HPRE := Aside0.mk (fun W => prefI_calls hd W)
    have htl := trim_len hd
    generalize Lib.trimPrefix hd [115] = tp at *
    generalize Lib.hasPrefix hd [115] = sub at *
    have HNA := Aside0.mk (fun W hW => numK_calls tp (by omega) W hW)
    have HNB := Aside0.mk (fun W hW => numN_calls rs (by omega) W hW)
    have HKA := Aside0.mk (fun k (h : numI 39 tp = some k) => (numI_some (by omega) h).1)
    have HKB := Aside0.mk (fun k (h : numI 20 rs = some k) => (numI_some (by omega) h).1)
    generalize numI 39 tp = na at *
    generalize numI 20 rs = nb0 at *
    rcases na with _ | k
    ·have HVN : V = none := by rw [HQ.out, HWI.out] <;> rfl
     have HIN := Aside0.mk (fun W => impl_within.calls ((0 : Nat) : Int) 1 4 false W (by decide))
     rcases nb0 with _ | n
     ·go_wp2_with (first
       | (first | fail | ((with_reducible refine gt_alloc 2 28 ?_); refine st_alloc rfl 2 rfl 28 rfl hm zero28 ?_; clear hm; intro g2 w2 hm) | ((with_reducible refine gt_build 28 ?_); refine st_zero rfl 28 rfl built28 ?_) | ((with_reducible refine gt_alloc 4 28 ?_); refine st_alloc rfl 4 rfl 28 rfl hm zero28 ?_; clear hm; intro g4 w4 hm) | ((with_reducible refine gt_store 28 ?_); (first | (refine st_full rfl 28 _ _ rfl hm rfl rfl 0 rfl agg28 (by first | omega | assumption | (simp only [lens]; first | omega | assumption) | (simp [lens]; done) | (simp [lens]; omega)) (by first | omega | assumption | (simp only [lens]; first | omega | assumption) | (simp [lens]; done) | (simp [lens]; omega)) ?_) | (refine st_full rfl 28 _ _ rfl hm rfl rfl 1 rfl agg28 (by first | omega | assumption | (simp only [lens]; first | omega | assumption) | (simp [lens]; done) | (simp [lens]; omega)) (by first | omega | assumption | (simp only [lens]; first | omega | assumption) | (simp [lens]; done) | (simp [lens]; omega)) ?_) | (refine st_full rfl 28 _ _ rfl hm rfl rfl 2 rfl agg28 (by first | omega | assumption | (simp only [lens]; first | omega | assumption) | (simp [lens]; done) | (simp [lens]; omega)) (by first | omega | assumption | (simp only [lens]; first | omega | assumption) | (simp [lens]; done) | (simp [lens]; omega)) ?_) | (refine st_full rfl 28 _ _ rfl hm rfl rfl 3 rfl agg28 (by first | omega | assumption | (simp only [lens]; first | omega | assumption) | (simp [lens]; done) | (simp [lens]; omega)) (by first | omega | assumption | (simp only [lens]; first | omega | assumption) | (simp [lens]; done) | (simp [lens]; omega)) ?_)); clear hm; intro ws hm; simp only [List.set_cons_zero, List.set_cons_succ] at hm) | ((with_reducible refine gt_field 28 1 ?_); refine st_field rfl 28 _ 1 rfl rfl field28_1 ?_) | ((with_reducible refine gt_elem 24 ?_); refine st_elem rfl 24 _ _ rfl rfl rfl arr24 (by first | omega | assumption | (simp only [lens]; first | omega | assumption) | (simp [lens]; done) | (simp [lens]; omega)) (by first | omega | assumption | (simp only [lens]; first | omega | assumption) | (simp [lens]; done) | (simp [lens]; omega)) ?_) | ((with_reducible refine gt_store 22 ?_); (first | (refine st_set rfl 22 _ _ rfl hm rfl rfl 0 rfl one22 (by first | omega | assumption | (simp only [lens]; first | omega | assumption) | (simp [lens]; done) | (simp [lens]; omega)) ?_) | (refine st_set rfl 22 _ _ rfl hm rfl rfl 1 rfl one22 (by first | omega | assumption | (simp only [lens]; first | omega | assumption) | (simp [lens]; done) | (simp [lens]; omega)) ?_) | (refine st_set rfl 22 _ _ rfl hm rfl rfl 2 rfl one22 (by first | omega | assumption | (simp only [lens]; first | omega | assumption) | (simp [lens]; done) | (simp [lens]; omega)) ?_) | (refine st_set rfl 22 _ _ rfl hm rfl rfl 3 rfl one22 (by first | omega | assumption | (simp only [lens]; first | omega | assumption) | (simp [lens]; done) | (simp [lens]; omega)) ?_)); clear hm; intro ws hm; simp only [List.set_cons_zero, List.set_cons_succ] at hm) | ((with_reducible refine gt_field 28 0 ?_); refine st_field rfl 28 _ 0 rfl rfl field28_0 ?_) | ((with_reducible refine gt_elem 23 ?_); refine st_elem rfl 23 _ _ rfl rfl rfl arr23 (by first | omega | assumption | (simp only [lens]; first | omega | assumption) | (simp [lens]; done) | (simp [lens]; omega)) (by first | omega | assumption | (simp only [lens]; first | omega | assumption) | (simp [lens]; done) | (simp [lens]; omega)) ?_) | ((with_reducible refine gt_load 28 ?_); (first | (refine st_load rfl 28 _ rfl hm rfl 0 rfl agg28 (by first | omega | assumption | (simp only [lens]; first | omega | assumption) | (simp [lens]; done) | (simp [lens]; omega)) ?_) | (refine st_load rfl 28 _ rfl hm rfl 1 rfl agg28 (by first | omega | assumption | (simp only [lens]; first | omega | assumption) | (simp [lens]; done) | (simp [lens]; omega)) ?_) | (refine st_load rfl 28 _ rfl hm rfl 2 rfl agg28 (by first | omega | assumption | (simp only [lens]; first | omega | assumption) | (simp [lens]; done) | (simp [lens]; omega)) ?_) | (refine st_load rfl 28 _ rfl hm rfl 3 rfl agg28 (by first | omega | assumption | (simp only [lens]; first | omega | assumption) | (simp [lens]; done) | (simp [lens]; omega)) ?_))))
       | (go_at_call 22; refine (HCUT.out _ (HD.out _ (hm.done (by simp [ho])))).mono ?_; rintro e wb ⟨rfl, nb, rfl⟩; replace hm := hm.drawn3 nb)
       | (go_at_call 23; refine (HPRE.out _).mono ?_; rintro e wc ⟨rfl, rfl⟩)
       | (go_at_call 24; first
         | (with_reducible refine (HNA.out _ (HD.out _ (hm.done (by simp [ho])))).mono ?_; rintro e wd ⟨rfl, hb⟩; replace hm := hm.after hb; clear hb)
         | (with_reducible refine (HNB.out _ (HD.out _ (hm.done (by simp [ho])))).mono ?_; rintro e we ⟨rfl, hb⟩; replace hm := hm.after hb; clear hb))
       | (go_at_call 25; refine (HIN.out _).mono ?_; rintro e wf ⟨rfl, nf, rfl⟩; replace hm := hm.drawn3 nf))
      ((try simp only [Exit.inBlock, Exit.then]); (first | (refine ret_cell hm rfl rfl 1 rfl agg28 (by first | omega | assumption | (simp only [lens]; first | omega | assumption) | (simp [lens]; done) | (simp [lens]; omega)) rfl ?_) | (refine ret_cell_tmp hm rfl rfl 1 rfl agg28 (by first | omega | assumption | (simp only [lens]; first | omega | assumption) | (simp [lens]; done) | (simp [lens]; omega)) rfl ?_)))
      exact ⟨by rw [HVN]; rfl, hm.done (by simp [ho])⟩
     ·go_wp2_with (first
       | (first | fail | ((with_reducible refine gt_alloc 2 28 ?_); refine st_alloc rfl 2 rfl 28 rfl hm zero28 ?_; clear hm; intro g2 w2 hm) | ((with_reducible refine gt_build 28 ?_); refine st_zero rfl 28 rfl built28 ?_) | ((with_reducible refine gt_alloc 4 28 ?_); refine st_alloc rfl 4 rfl 28 rfl hm zero28 ?_; clear hm; intro g4 w4 hm) | ((with_reducible refine gt_store 28 ?_); (first | (refine st_full rfl 28 _ _ rfl hm rfl rfl 0 rfl agg28 (by first | omega | assumption | (simp only [lens]; first | omega | assumption) | (simp [lens]; done) | (simp [lens]; omega)) (by first | omega | assumption | (simp only [lens]; first | omega | assumption) | (simp [lens]; done) | (simp [lens]; omega)) ?_) | (refine st_full rfl 28 _ _ rfl hm rfl rfl 1 rfl agg28 (by first | omega | assumption | (simp only [lens]; first | omega | assumption) | (simp [lens]; done) | (simp [lens]; omega)) (by first | omega | assumption | (simp only [lens]; first | omega | assumption) | (simp [lens]; done) | (simp [lens]; omega)) ?_) | (refine st_full rfl 28 _ _ rfl hm rfl rfl 2 rfl agg28 (by first | omega | assumption | (simp only [lens]; first | omega | assumption) | (simp [lens]; done) | (simp [lens]; omega)) (by first | omega | assumption | (simp only [lens]; first | omega | assumption) | (simp [lens]; done) | (simp [lens]; omega)) ?_) | (refine st_full rfl 28 _ _ rfl hm rfl rfl 3 rfl agg28 (by first | omega | assumption | (simp only [lens]; first | omega | assumption) | (simp [lens]; done) | (simp [lens]; omega)) (by first | omega | assumption | (simp only [lens]; first | omega | assumption) | (simp [lens]; done) | (simp [lens]; omega)) ?_)); clear hm; intro ws hm; simp only [List.set_cons_zero, List.set_cons_succ] at hm) | ((with_reducible refine gt_field 28 1 ?_); refine st_field rfl 28 _ 1 rfl rfl field28_1 ?_) | ((with_reducible refine gt_elem 24 ?_); refine st_elem rfl 24 _ _ rfl rfl rfl arr24 (by first | omega | assumption | (simp only [lens]; first | omega | assumption) | (simp [lens]; done) | (simp [lens]; omega)) (by first | omega | assumption | (simp only [lens]; first | omega | assumption) | (simp [lens]; done) | (simp [lens]; omega)) ?_) | ((with_reducible refine gt_store 22 ?_); (first | (refine st_set rfl 22 _ _ rfl hm rfl rfl 0 rfl one22 (by first | omega | assumption | (simp only [lens]; first | omega | assumption) | (simp [lens]; done) | (simp [lens]; omega)) ?_) | (refine st_set rfl 22 _ _ rfl hm rfl rfl 1 rfl one22 (by first | omega | assumption | (simp only [lens]; first | omega | assumption) | (simp [lens]; done) | (simp [lens]; omega)) ?_) | (refine st_set rfl 22 _ _ rfl hm rfl rfl 2 rfl one22 (by first | omega | assumption | (simp only [lens]; first | omega | assumption) | (simp [lens]; done) | (simp [lens]; omega)) ?_) | (refine st_set rfl 22 _ _ rfl hm rfl rfl 3 rfl one22 (by first | omega | assumption | (simp only [lens]; first | omega | assumption) | (simp [lens]; done) | (simp [lens]; omega)) ?_)); clear hm; intro ws hm; simp only [List.set_cons_zero, List.set_cons_succ] at hm) | ((with_reducible refine gt_field 28 0 ?_); refine st_field rfl 28 _ 0 rfl rfl field28_0 ?_) | ((with_reducible refine gt_elem 23 ?_); refine st_elem rfl 23 _ _ rfl rfl rfl arr23 (by first | omega | assumption | (simp only [lens]; first | omega | assumption) | (simp [lens]; done) | (simp [lens]; omega)) (by first | omega | assumption | (simp only [lens]; first | omega | assumption) | (simp [lens]; done) | (simp [lens]; omega)) ?_) | ((with_reducible refine gt_load 28 ?_); (first | (refine st_load rfl 28 _ rfl hm rfl 0 rfl agg28 (by first | omega | assumption | (simp only [lens]; first | omega | assumption) | (simp [lens]; done) | (simp [lens]; omega)) ?_) | (refine st_load rfl 28 _ rfl hm rfl 1 rfl agg28 (by first | omega | assumption | (simp only [lens]; first | omega | assumption) | (simp [lens]; done) | (simp [lens]; omega)) ?_) | (refine st_load rfl 28 _ rfl hm rfl 2 rfl agg28 (by first | omega | assumption | (simp only [lens]; first | omega | assumption) | (simp [lens]; done) | (simp [lens]; omega)) ?_) | (refine st_load rfl 28 _ rfl hm rfl 3 rfl agg28 (by first | omega | assumption | (simp only [lens]; first | omega | assumption) | (simp [lens]; done) | (simp [lens]; omega)) ?_))))
       | (go_at_call 22; refine (HCUT.out _ (HD.out _ (hm.done (by simp [ho])))).mono ?_; rintro e wb ⟨rfl, nb, rfl⟩; replace hm := hm.drawn3 nb)
       | (go_at_call 23; refine (HPRE.out _).mono ?_; rintro e wc ⟨rfl, rfl⟩)
       | (go_at_call 24; first
         | (with_reducible refine (HNA.out _ (HD.out _ (hm.done (by simp [ho])))).mono ?_; rintro e wd ⟨rfl, hb⟩; replace hm := hm.after hb; clear hb)
         | (with_reducible refine (HNB.out _ (HD.out _ (hm.done (by simp [ho])))).mono ?_; rintro e we ⟨rfl, hb⟩; replace hm := hm.after hb; clear hb))
       | (go_at_call 25; refine (HIN.out _).mono ?_; rintro e wf ⟨rfl, nf, rfl⟩; replace hm := hm.drawn3 nf))
      ((try simp only [Exit.inBlock, Exit.then]); (first | (refine ret_cell hm rfl rfl 1 rfl agg28 (by first | omega | assumption | (simp only [lens]; first | omega | assumption) | (simp [lens]; done) | (simp [lens]; omega)) rfl ?_) | (refine ret_cell_tmp hm rfl rfl 1 rfl agg28 (by first | omega | assumption | (simp only [lens]; first | omega | assumption) | (simp [lens]; done) | (simp [lens]; omega)) rfl ?_)))
      exact ⟨by rw [HVN]; rfl, hm.done (by simp [ho])⟩
    ·rcases nb0 with _ | n
     ·have HVN : V = none := by rw [HQ.out, HWI.out] <;> rfl
      have HIN := Aside0.mk (fun W => impl_within.calls (k : Int) 1 4 (decide (1 ≤ (k : Int) ∧ (k : Int) ≤ 4)) W (by unfold impl_within.f; by_cases h : (1 : Int) ≤ (k : Int) <;> simp [h]))
      go_wp2_with (first
       | (first | fail | ((with_reducible refine gt_alloc 2 28 ?_); refine st_alloc rfl 2 rfl 28 rfl hm zero28 ?_; clear hm; intro g2 w2 hm) | ((with_reducible refine gt_build 28 ?_); refine st_zero rfl 28 rfl built28 ?_) | ((with_reducible refine gt_alloc 4 28 ?_); refine st_alloc rfl 4 rfl 28 rfl hm zero28 ?_; clear hm; intro g4 w4 hm) | ((with_reducible refine gt_store 28 ?_); (first | (refine st_full rfl 28 _ _ rfl hm rfl rfl 0 rfl agg28 (by first | omega | assumption | (simp only [lens]; first | omega | assumption) | (simp [lens]; done) | (simp [lens]; omega)) (by first | omega | assumption | (simp only [lens]; first | omega | assumption) | (simp [lens]; done) | (simp [lens]; omega)) ?_) | (refine st_full rfl 28 _ _ rfl hm rfl rfl 1 rfl agg28 (by first | omega | assumption | (simp only [lens]; first | omega | assumption) | (simp [lens]; done) | (simp [lens]; omega)) (by first | omega | assumption | (simp only [lens]; first | omega | assumption) | (simp [lens]; done) | (simp [lens]; omega)) ?_) | (refine st_full rfl 28 _ _ rfl hm rfl rfl 2 rfl agg28 (by first | omega | assumption | (simp only [lens]; first | omega | assumption) | (simp [lens]; done) | (simp [lens]; omega)) (by first | omega | assumption | (simp only [lens]; first | omega | assumption) | (simp [lens]; done) | (simp [lens]; omega)) ?_) | (refine st_full rfl 28 _ _ rfl hm rfl rfl 3 rfl agg28 (by first | omega | assumption | (simp only [lens]; first | omega | assumption) | (simp [lens]; done) | (simp [lens]; omega)) (by first | omega | assumption | (simp only [lens]; first | omega | assumption) | (simp [lens]; done) | (simp [lens]; omega)) ?_)); clear hm; intro ws hm; simp only [List.set_cons_zero, List.set_cons_succ] at hm) | ((with_reducible refine gt_field 28 1 ?_); refine st_field rfl 28 _ 1 rfl rfl field28_1 ?_) | ((with_reducible refine gt_elem 24 ?_); refine st_elem rfl 24 _ _ rfl rfl rfl arr24 (by first | omega | assumption | (simp only [lens]; first | omega | assumption) | (simp [lens]; done) | (simp [lens]; omega)) (by first | omega | assumption | (simp only [lens]; first | omega | assumption) | (simp [lens]; done) | (simp [lens]; omega)) ?_) | ((with_reducible refine gt_store 22 ?_); (first | (refine st_set rfl 22 _ _ rfl hm rfl rfl 0 rfl one22 (by first | omega | assumption | (simp only [lens]; first | omega | assumption) | (simp [lens]; done) | (simp [lens]; omega)) ?_) | (refine st_set rfl 22 _ _ rfl hm rfl rfl 1 rfl one22 (by first | omega | assumption | (simp only [lens]; first | omega | assumption) | (simp [lens]; done) | (simp [lens]; omega)) ?_) | (refine st_set rfl 22 _ _ rfl hm rfl rfl 2 rfl one22 (by first | omega | assumption | (simp only [lens]; first | omega | assumption) | (simp [lens]; done) | (simp [lens]; omega)) ?_) | (refine st_set rfl 22 _ _ rfl hm rfl rfl 3 rfl one22 (by first | omega | assumption | (simp only [lens]; first | omega | assumption) | (simp [lens]; done) | (simp [lens]; omega)) ?_)); clear hm; intro ws hm; simp only [List.set_cons_zero, List.set_cons_succ] at hm) | ((with_reducible refine gt_field 28 0 ?_); refine st_field rfl 28 _ 0 rfl rfl field28_0 ?_) | ((with_reducible refine gt_elem 23 ?_); refine st_elem rfl 23 _ _ rfl rfl rfl arr23 (by first | omega | assumption | (simp only [lens]; first | omega | assumption) | (simp [lens]; done) | (simp [lens]; omega)) (by first | omega | assumption | (simp only [lens]; first | omega | assumption) | (simp [lens]; done) | (simp [lens]; omega)) ?_) | ((with_reducible refine gt_load 28 ?_); (first | (refine st_load rfl 28 _ rfl hm rfl 0 rfl agg28 (by first | omega | assumption | (simp only [lens]; first | omega | assumption) | (simp [lens]; done) | (simp [lens]; omega)) ?_) | (refine st_load rfl 28 _ rfl hm rfl 1 rfl agg28 (by first | omega | assumption | (simp only [lens]; first | omega | assumption) | (simp [lens]; done) | (simp [lens]; omega)) ?_) | (refine st_load rfl 28 _ rfl hm rfl 2 rfl agg28 (by first | omega | assumption | (simp only [lens]; first | omega | assumption) | (simp [lens]; done) | (simp [lens]; omega)) ?_) | (refine st_load rfl 28 _ rfl hm rfl 3 rfl agg28 (by first | omega | assumption | (simp only [lens]; first | omega | assumption) | (simp [lens]; done) | (simp [lens]; omega)) ?_))))
       | (go_at_call 22; refine (HCUT.out _ (HD.out _ (hm.done (by simp [ho])))).mono ?_; rintro e wb ⟨rfl, nb, rfl⟩; replace hm := hm.drawn3 nb)
       | (go_at_call 23; refine (HPRE.out _).mono ?_; rintro e wc ⟨rfl, rfl⟩)
       | (go_at_call 24; first
         | (with_reducible refine (HNA.out _ (HD.out _ (hm.done (by simp [ho])))).mono ?_; rintro e wd ⟨rfl, hb⟩; replace hm := hm.after hb; clear hb)
         | (with_reducible refine (HNB.out _ (HD.out _ (hm.done (by simp [ho])))).mono ?_; rintro e we ⟨rfl, hb⟩; replace hm := hm.after hb; clear hb))
       | (go_at_call 25; refine (HIN.out _).mono ?_; rintro e wf ⟨rfl, nf, rfl⟩; replace hm := hm.drawn3 nf))
      ((try simp only [Exit.inBlock, Exit.then]); (first | (refine ret_cell hm rfl rfl 1 rfl agg28 (by first | omega | assumption | (simp only [lens]; first | omega | assumption) | (simp [lens]; done) | (simp [lens]; omega)) rfl ?_) | (refine ret_cell_tmp hm rfl rfl 1 rfl agg28 (by first | omega | assumption | (simp only [lens]; first | omega | assumption) | (simp [lens]; done) | (simp [lens]; omega)) rfl ?_)))
      exact ⟨by rw [HVN]; rfl, hm.done (by simp [ho])⟩
     ·have hk := HKA.out k rfl
      have hn := HKB.out n rfl
      cases sub
      ·have HV : Aside0 (V = match goI l (WS.drop (i + 1)) (L.set k (n : Int)) with | none => none | some L => if (if okL L = true then lockT L else []) = l then some L else none) := ⟨by rw [HQ.out, HWI.out] <;> rfl⟩
       clear HQ
       go_wp2_with (first
        | (first | fail | ((with_reducible refine gt_alloc 2 28 ?_); refine st_alloc rfl 2 rfl 28 rfl hm zero28 ?_; clear hm; intro g2 w2 hm) | ((with_reducible refine gt_build 28 ?_); refine st_zero rfl 28 rfl built28 ?_) | ((with_reducible refine gt_alloc 4 28 ?_); refine st_alloc rfl 4 rfl 28 rfl hm zero28 ?_; clear hm; intro g4 w4 hm) | ((with_reducible refine gt_store 28 ?_); (first | (refine st_full rfl 28 _ _ rfl hm rfl rfl 0 rfl agg28 (by first | omega | assumption | (simp only [lens]; first | omega | assumption) | (simp [lens]; done) | (simp [lens]; omega)) (by first | omega | assumption | (simp only [lens]; first | omega | assumption) | (simp [lens]; done) | (simp [lens]; omega)) ?_) | (refine st_full rfl 28 _ _ rfl hm rfl rfl 1 rfl agg28 (by first | omega | assumption | (simp only [lens]; first | omega | assumption) | (simp [lens]; done) | (simp [lens]; omega)) (by first | omega | assumption | (simp only [lens]; first | omega | assumption) | (simp [lens]; done) | (simp [lens]; omega)) ?_) | (refine st_full rfl 28 _ _ rfl hm rfl rfl 2 rfl agg28 (by first | omega | assumption | (simp only [lens]; first | omega | assumption) | (simp [lens]; done) | (simp [lens]; omega)) (by first | omega | assumption | (simp only [lens]; first | omega | assumption) | (simp [lens]; done) | (simp [lens]; omega)) ?_) | (refine st_full rfl 28 _ _ rfl hm rfl rfl 3 rfl agg28 (by first | omega | assumption | (simp only [lens]; first | omega | assumption) | (simp [lens]; done) | (simp [lens]; omega)) (by first | omega | assumption | (simp only [lens]; first | omega | assumption) | (simp [lens]; done) | (simp [lens]; omega)) ?_)); clear hm; intro ws hm; simp only [List.set_cons_zero, List.set_cons_succ] at hm) | ((with_reducible refine gt_field 28 1 ?_); refine st_field rfl 28 _ 1 rfl rfl field28_1 ?_) | ((with_reducible refine gt_elem 24 ?_); refine st_elem rfl 24 _ _ rfl rfl rfl arr24 (by first | omega | assumption | (simp only [lens]; first | omega | assumption) | (simp [lens]; done) | (simp [lens]; omega)) (by first | omega | assumption | (simp only [lens]; first | omega | assumption) | (simp [lens]; done) | (simp [lens]; omega)) ?_) | ((with_reducible refine gt_store 22 ?_); (first | (refine st_set rfl 22 _ _ rfl hm rfl rfl 0 rfl one22 (by first | omega | assumption | (simp only [lens]; first | omega | assumption) | (simp [lens]; done) | (simp [lens]; omega)) ?_) | (refine st_set rfl 22 _ _ rfl hm rfl rfl 1 rfl one22 (by first | omega | assumption | (simp only [lens]; first | omega | assumption) | (simp [lens]; done) | (simp [lens]; omega)) ?_) | (refine st_set rfl 22 _ _ rfl hm rfl rfl 2 rfl one22 (by first | omega | assumption | (simp only [lens]; first | omega | assumption) | (simp [lens]; done) | (simp [lens]; omega)) ?_) | (refine st_set rfl 22 _ _ rfl hm rfl rfl 3 rfl one22 (by first | omega | assumption | (simp only [lens]; first | omega | assumption) | (simp [lens]; done) | (simp [lens]; omega)) ?_)); clear hm; intro ws hm; simp only [List.set_cons_zero, List.set_cons_succ] at hm) | ((with_reducible refine gt_field 28 0 ?_); refine st_field rfl 28 _ 0 rfl rfl field28_0 ?_) | ((with_reducible refine gt_elem 23 ?_); refine st_elem rfl 23 _ _ rfl rfl rfl arr23 (by first | omega | assumption | (simp only [lens]; first | omega | assumption) | (simp [lens]; done) | (simp [lens]; omega)) (by first | omega | assumption | (simp only [lens]; first | omega | assumption) | (simp [lens]; done) | (simp [lens]; omega)) ?_) | ((with_reducible refine gt_load 28 ?_); (first | (refine st_load rfl 28 _ rfl hm rfl 0 rfl agg28 (by first | omega | assumption | (simp only [lens]; first | omega | assumption) | (simp [lens]; done) | (simp [lens]; omega)) ?_) | (refine st_load rfl 28 _ rfl hm rfl 1 rfl agg28 (by first | omega | assumption | (simp only [lens]; first | omega | assumption) | (simp [lens]; done) | (simp [lens]; omega)) ?_) | (refine st_load rfl 28 _ rfl hm rfl 2 rfl agg28 (by first | omega | assumption | (simp only [lens]; first | omega | assumption) | (simp [lens]; done) | (simp [lens]; omega)) ?_) | (refine st_load rfl 28 _ rfl hm rfl 3 rfl agg28 (by first | omega | assumption | (simp only [lens]; first | omega | assumption) | (simp [lens]; done) | (simp [lens]; omega)) ?_))))
        | (go_at_call 22; refine (HCUT.out _ (HD.out _ (hm.done (by simp [ho])))).mono ?_; rintro e wb ⟨rfl, nb, rfl⟩; replace hm := hm.drawn3 nb)
        | (go_at_call 23; refine (HPRE.out _).mono ?_; rintro e wc ⟨rfl, rfl⟩)
        | (go_at_call 24; first
          | (with_reducible refine (HNA.out _ (HD.out _ (hm.done (by simp [ho])))).mono ?_; rintro e wd ⟨rfl, hb⟩; replace hm := hm.after hb; clear hb)
          | (with_reducible refine (HNB.out _ (HD.out _ (hm.done (by simp [ho])))).mono ?_; rintro e we ⟨rfl, hb⟩; replace hm := hm.after hb; clear hb))
        | (go_at_call 25; refine (HIN.out _).mono ?_; rintro e wf ⟨rfl, nf, rfl⟩; replace hm := hm.drawn3 nf))
       refine ⟨⟨i + 1, L.set (k) (n : Int), by omega, rfl, by simpa using hLl, okL_set hok _ (by omega) (by omega), HV, ?_⟩, by simp [intOf]; omega⟩
       simpa using hm
      ·by_cases hin : 1 ≤ k ∧ k ≤ 4
       ·have HV : Aside0 (V = match goI l (WS.drop (i + 1)) (L.set (39 + k) (n : Int)) with | none => none | some L => if (if okL L = true then lockT L else []) = l then some L else none) := ⟨by rw [HQ.out, HWI.out]; simp only [if_pos hin, if_true]⟩
        clear HQ
        have HIN := Aside0.mk (fun W => impl_within.calls (k : Int) 1 4 true W (by unfold impl_within.f; by_cases h : (1 : Int) ≤ (k : Int) <;> simp [h] <;> omega))
        go_wp2_with (first
         | (first | fail | ((with_reducible refine gt_alloc 2 28 ?_); refine st_alloc rfl 2 rfl 28 rfl hm zero28 ?_; clear hm; intro g2 w2 hm) | ((with_reducible refine gt_build 28 ?_); refine st_zero rfl 28 rfl built28 ?_) | ((with_reducible refine gt_alloc 4 28 ?_); refine st_alloc rfl 4 rfl 28 rfl hm zero28 ?_; clear hm; intro g4 w4 hm) | ((with_reducible refine gt_store 28 ?_); (first | (refine st_full rfl 28 _ _ rfl hm rfl rfl 0 rfl agg28 (by first | omega | assumption | (simp only [lens]; first | omega | assumption) | (simp [lens]; done) | (simp [lens]; omega)) (by first | omega | assumption | (simp only [lens]; first | omega | assumption) | (simp [lens]; done) | (simp [lens]; omega)) ?_) | (refine st_full rfl 28 _ _ rfl hm rfl rfl 1 rfl agg28 (by first | omega | assumption | (simp only [lens]; first | omega | assumption) | (simp [lens]; done) | (simp [lens]; omega)) (by first | omega | assumption | (simp only [lens]; first | omega | assumption) | (simp [lens]; done) | (simp [lens]; omega)) ?_) | (refine st_full rfl 28 _ _ rfl hm rfl rfl 2 rfl agg28 (by first | omega | assumption | (simp only [lens]; first | omega | assumption) | (simp [lens]; done) | (simp [lens]; omega)) (by first | omega | assumption | (simp only [lens]; first | omega | assumption) | (simp [lens]; done) | (simp [lens]; omega)) ?_) | (refine st_full rfl 28 _ _ rfl hm rfl rfl 3 rfl agg28 (by first | omega | assumption | (simp only [lens]; first | omega | assumption) | (simp [lens]; done) | (simp [lens]; omega)) (by first | omega | assumption | (simp only [lens]; first | omega | assumption) | (simp [lens]; done) | (simp [lens]; omega)) ?_)); clear hm; intro ws hm; simp only [List.set_cons_zero, List.set_cons_succ] at hm) | ((with_reducible refine gt_field 28 1 ?_); refine st_field rfl 28 _ 1 rfl rfl field28_1 ?_) | ((with_reducible refine gt_elem 24 ?_); refine st_elem rfl 24 _ _ rfl rfl rfl arr24 (by first | omega | assumption | (simp only [lens]; first | omega | assumption) | (simp [lens]; done) | (simp [lens]; omega)) (by first | omega | assumption | (simp only [lens]; first | omega | assumption) | (simp [lens]; done) | (simp [lens]; omega)) ?_) | ((with_reducible refine gt_store 22 ?_); (first | (refine st_set rfl 22 _ _ rfl hm rfl rfl 0 rfl one22 (by first | omega | assumption | (simp only [lens]; first | omega | assumption) | (simp [lens]; done) | (simp [lens]; omega)) ?_) | (refine st_set rfl 22 _ _ rfl hm rfl rfl 1 rfl one22 (by first | omega | assumption | (simp only [lens]; first | omega | assumption) | (simp [lens]; done) | (simp [lens]; omega)) ?_) | (refine st_set rfl 22 _ _ rfl hm rfl rfl 2 rfl one22 (by first | omega | assumption | (simp only [lens]; first | omega | assumption) | (simp [lens]; done) | (simp [lens]; omega)) ?_) | (refine st_set rfl 22 _ _ rfl hm rfl rfl 3 rfl one22 (by first | omega | assumption | (simp only [lens]; first | omega | assumption) | (simp [lens]; done) | (simp [lens]; omega)) ?_)); clear hm; intro ws hm; simp only [List.set_cons_zero, List.set_cons_succ] at hm) | ((with_reducible refine gt_field 28 0 ?_); refine st_field rfl 28 _ 0 rfl rfl field28_0 ?_) | ((with_reducible refine gt_elem 23 ?_); refine st_elem rfl 23 _ _ rfl rfl rfl arr23 (by first | omega | assumption | (simp only [lens]; first | omega | assumption) | (simp [lens]; done) | (simp [lens]; omega)) (by first | omega | assumption | (simp only [lens]; first | omega | assumption) | (simp [lens]; done) | (simp [lens]; omega)) ?_) | ((with_reducible refine gt_load 28 ?_); (first | (refine st_load rfl 28 _ rfl hm rfl 0 rfl agg28 (by first | omega | assumption | (simp only [lens]; first | omega | assumption) | (simp [lens]; done) | (simp [lens]; omega)) ?_) | (refine st_load rfl 28 _ rfl hm rfl 1 rfl agg28 (by first | omega | assumption | (simp only [lens]; first | omega | assumption) | (simp [lens]; done) | (simp [lens]; omega)) ?_) | (refine st_load rfl 28 _ rfl hm rfl 2 rfl agg28 (by first | omega | assumption | (simp only [lens]; first | omega | assumption) | (simp [lens]; done) | (simp [lens]; omega)) ?_) | (refine st_load rfl 28 _ rfl hm rfl 3 rfl agg28 (by first | omega | assumption | (simp only [lens]; first | omega | assumption) | (simp [lens]; done) | (simp [lens]; omega)) ?_))))
         | (go_at_call 22; refine (HCUT.out _ (HD.out _ (hm.done (by simp [ho])))).mono ?_; rintro e wb ⟨rfl, nb, rfl⟩; replace hm := hm.drawn3 nb)
         | (go_at_call 23; refine (HPRE.out _).mono ?_; rintro e wc ⟨rfl, rfl⟩)
         | (go_at_call 24; first
           | (with_reducible refine (HNA.out _ (HD.out _ (hm.done (by simp [ho])))).mono ?_; rintro e wd ⟨rfl, hb⟩; replace hm := hm.after hb; clear hb)
           | (with_reducible refine (HNB.out _ (HD.out _ (hm.done (by simp [ho])))).mono ?_; rintro e we ⟨rfl, hb⟩; replace hm := hm.after hb; clear hb))
         | (go_at_call 25; refine (HIN.out _).mono ?_; rintro e wf ⟨rfl, nf, rfl⟩; replace hm := hm.drawn3 nf))
        refine ⟨⟨i + 1, L.set (39 + k) (n : Int), by omega, rfl, by simpa using hLl, okL_set hok _ (by omega) (by omega), HV, ?_⟩, by simp [intOf]; omega⟩
        rw [show 39 + k = 40 + (k - 1) by omega]
        simpa using hm
       ·have HVN : V = none := by rw [HQ.out, HWI.out]; simp only [if_neg hin, if_true]
        have HIN := Aside0.mk (fun W => impl_within.calls (k : Int) 1 4 false W (by unfold impl_within.f; by_cases h : (1 : Int) ≤ (k : Int) <;> simp [h] <;> omega))
        go_wp2_with (first
         | (first | fail | ((with_reducible refine gt_alloc 2 28 ?_); refine st_alloc rfl 2 rfl 28 rfl hm zero28 ?_; clear hm; intro g2 w2 hm) | ((with_reducible refine gt_build 28 ?_); refine st_zero rfl 28 rfl built28 ?_) | ((with_reducible refine gt_alloc 4 28 ?_); refine st_alloc rfl 4 rfl 28 rfl hm zero28 ?_; clear hm; intro g4 w4 hm) | ((with_reducible refine gt_store 28 ?_); (first | (refine st_full rfl 28 _ _ rfl hm rfl rfl 0 rfl agg28 (by first | omega | assumption | (simp only [lens]; first | omega | assumption) | (simp [lens]; done) | (simp [lens]; omega)) (by first | omega | assumption | (simp only [lens]; first | omega | assumption) | (simp [lens]; done) | (simp [lens]; omega)) ?_) | (refine st_full rfl 28 _ _ rfl hm rfl rfl 1 rfl agg28 (by first | omega | assumption | (simp only [lens]; first | omega | assumption) | (simp [lens]; done) | (simp [lens]; omega)) (by first | omega | assumption | (simp only [lens]; first | omega | assumption) | (simp [lens]; done) | (simp [lens]; omega)) ?_) | (refine st_full rfl 28 _ _ rfl hm rfl rfl 2 rfl agg28 (by first | omega | assumption | (simp only [lens]; first | omega | assumption) | (simp [lens]; done) | (simp [lens]; omega)) (by first | omega | assumption | (simp only [lens]; first | omega | assumption) | (simp [lens]; done) | (simp [lens]; omega)) ?_) | (refine st_full rfl 28 _ _ rfl hm rfl rfl 3 rfl agg28 (by first | omega | assumption | (simp only [lens]; first | omega | assumption) | (simp [lens]; done) | (simp [lens]; omega)) (by first | omega | assumption | (simp only [lens]; first | omega | assumption) | (simp [lens]; done) | (simp [lens]; omega)) ?_)); clear hm; intro ws hm; simp only [List.set_cons_zero, List.set_cons_succ] at hm) | ((with_reducible refine gt_field 28 1 ?_); refine st_field rfl 28 _ 1 rfl rfl field28_1 ?_) | ((with_reducible refine gt_elem 24 ?_); refine st_elem rfl 24 _ _ rfl rfl rfl arr24 (by first | omega | assumption | (simp only [lens]; first | omega | assumption) | (simp [lens]; done) | (simp [lens]; omega)) (by first | omega | assumption | (simp only [lens]; first | omega | assumption) | (simp [lens]; done) | (simp [lens]; omega)) ?_) | ((with_reducible refine gt_store 22 ?_); (first | (refine st_set rfl 22 _ _ rfl hm rfl rfl 0 rfl one22 (by first | omega | assumption | (simp only [lens]; first | omega | assumption) | (simp [lens]; done) | (simp [lens]; omega)) ?_) | (refine st_set rfl 22 _ _ rfl hm rfl rfl 1 rfl one22 (by first | omega | assumption | (simp only [lens]; first | omega | assumption) | (simp [lens]; done) | (simp [lens]; omega)) ?_) | (refine st_set rfl 22 _ _ rfl hm rfl rfl 2 rfl one22 (by first | omega | assumption | (simp only [lens]; first | omega | assumption) | (simp [lens]; done) | (simp [lens]; omega)) ?_) | (refine st_set rfl 22 _ _ rfl hm rfl rfl 3 rfl one22 (by first | omega | assumption | (simp only [lens]; first | omega | assumption) | (simp [lens]; done) | (simp [lens]; omega)) ?_)); clear hm; intro ws hm; simp only [List.set_cons_zero, List.set_cons_succ] at hm) | ((with_reducible refine gt_field 28 0 ?_); refine st_field rfl 28 _ 0 rfl rfl field28_0 ?_) | ((with_reducible refine gt_elem 23 ?_); refine st_elem rfl 23 _ _ rfl rfl rfl arr23 (by first | omega | assumption | (simp only [lens]; first | omega | assumption) | (simp [lens]; done) | (simp [lens]; omega)) (by first | omega | assumption | (simp only [lens]; first | omega | assumption) | (simp [lens]; done) | (simp [lens]; omega)) ?_) | ((with_reducible refine gt_load 28 ?_); (first | (refine st_load rfl 28 _ rfl hm rfl 0 rfl agg28 (by first | omega | assumption | (simp only [lens]; first | omega | assumption) | (simp [lens]; done) | (simp [lens]; omega)) ?_) | (refine st_load rfl 28 _ rfl hm rfl 1 rfl agg28 (by first | omega | assumption | (simp only [lens]; first | omega | assumption) | (simp [lens]; done) | (simp [lens]; omega)) ?_) | (refine st_load rfl 28 _ rfl hm rfl 2 rfl agg28 (by first | omega | assumption | (simp only [lens]; first | omega | assumption) | (simp [lens]; done) | (simp [lens]; omega)) ?_) | (refine st_load rfl 28 _ rfl hm rfl 3 rfl agg28 (by first | omega | assumption | (simp only [lens]; first | omega | assumption) | (simp [lens]; done) | (simp [lens]; omega)) ?_))))
         | (go_at_call 22; refine (HCUT.out _ (HD.out _ (hm.done (by simp [ho])))).mono ?_; rintro e wb ⟨rfl, nb, rfl⟩; replace hm := hm.drawn3 nb)
         | (go_at_call 23; refine (HPRE.out _).mono ?_; rintro e wc ⟨rfl, rfl⟩)
         | (go_at_call 24; first
           | (with_reducible refine (HNA.out _ (HD.out _ (hm.done (by simp [ho])))).mono ?_; rintro e wd ⟨rfl, hb⟩; replace hm := hm.after hb; clear hb)
           | (with_reducible refine (HNB.out _ (HD.out _ (hm.done (by simp [ho])))).mono ?_; rintro e we ⟨rfl, hb⟩; replace hm := hm.after hb; clear hb))
         | (go_at_call 25; refine (HIN.out _).mono ?_; rintro e wf ⟨rfl, nf, rfl⟩; replace hm := hm.drawn3 nf))
        ((try simp only [Exit.inBlock, Exit.then]); (first | (refine ret_cell hm rfl rfl 1 rfl agg28 (by first | omega | assumption | (simp only [lens]; first | omega | assumption) | (simp [lens]; done) | (simp [lens]; omega)) rfl ?_) | (refine ret_cell_tmp hm rfl rfl 1 rfl agg28 (by first | omega | assumption | (simp only [lens]; first | omega | assumption) | (simp [lens]; done) | (simp [lens]; omega)) rfl ?_)))
        exact ⟨by rw [HVN]; rfl, hm.done (by simp [ho])⟩
  ·have HI := Aside0.mk (show i = WS.length by omega)
   have HV := Aside0.mk (show V = if lockT L = l then some L else none by rw [HQ.out, HI.out, List.drop_length, goI]; simp only [if_pos hok])
   have HLT := Aside0.mk (fun W => implText_calls L W hLl (okL_fits hok))
   rw [if_pos hok] at HLT
   generalize lockT L = T at *
   by_cases he : T = l
   ·have HVL := Aside0.mk (HV.out.trans (if_pos he))
    go_wp2_with (first
     | (first | fail | ((with_reducible refine gt_alloc 2 28 ?_); refine st_alloc rfl 2 rfl 28 rfl hm zero28 ?_; clear hm; intro g2 w2 hm) | ((with_reducible refine gt_build 28 ?_); refine st_zero rfl 28 rfl built28 ?_) | ((with_reducible refine gt_alloc 4 28 ?_); refine st_alloc rfl 4 rfl 28 rfl hm zero28 ?_; clear hm; intro g4 w4 hm) | ((with_reducible refine gt_store 28 ?_); (first | (refine st_full rfl 28 _ _ rfl hm rfl rfl 0 rfl agg28 (by first | omega | assumption | (simp only [lens]; first | omega | assumption) | (simp [lens]; done) | (simp [lens]; omega)) (by first | omega | assumption | (simp only [lens]; first | omega | assumption) | (simp [lens]; done) | (simp [lens]; omega)) ?_) | (refine st_full rfl 28 _ _ rfl hm rfl rfl 1 rfl agg28 (by first | omega | assumption | (simp only [lens]; first | omega | assumption) | (simp [lens]; done) | (simp [lens]; omega)) (by first | omega | assumption | (simp only [lens]; first | omega | assumption) | (simp [lens]; done) | (simp [lens]; omega)) ?_) | (refine st_full rfl 28 _ _ rfl hm rfl rfl 2 rfl agg28 (by first | omega | assumption | (simp only [lens]; first | omega | assumption) | (simp [lens]; done) | (simp [lens]; omega)) (by first | omega | assumption | (simp only [lens]; first | omega | assumption) | (simp [lens]; done) | (simp [lens]; omega)) ?_) | (refine st_full rfl 28 _ _ rfl hm rfl rfl 3 rfl agg28 (by first | omega | assumption | (simp only [lens]; first | omega | assumption) | (simp [lens]; done) | (simp [lens]; omega)) (by first | omega | assumption | (simp only [lens]; first | omega | assumption) | (simp [lens]; done) | (simp [lens]; omega)) ?_)); clear hm; intro ws hm; simp only [List.set_cons_zero, List.set_cons_succ] at hm) | ((with_reducible refine gt_field 28 1 ?_); refine st_field rfl 28 _ 1 rfl rfl field28_1 ?_) | ((with_reducible refine gt_elem 24 ?_); refine st_elem rfl 24 _ _ rfl rfl rfl arr24 (by first | omega | assumption | (simp only [lens]; first | omega | assumption) | (simp [lens]; done) | (simp [lens]; omega)) (by first | omega | assumption | (simp only [lens]; first | omega | assumption) | (simp [lens]; done) | (simp [lens]; omega)) ?_) | ((with_reducible refine gt_store 22 ?_); (first | (refine st_set rfl 22 _ _ rfl hm rfl rfl 0 rfl one22 (by first | omega | assumption | (simp only [lens]; first | omega | assumption) | (simp [lens]; done) | (simp [lens]; omega)) ?_) | (refine st_set rfl 22 _ _ rfl hm rfl rfl 1 rfl one22 (by first | omega | assumption | (simp only [lens]; first | omega | assumption) | (simp [lens]; done) | (simp [lens]; omega)) ?_) | (refine st_set rfl 22 _ _ rfl hm rfl rfl 2 rfl one22 (by first | omega | assumption | (simp only [lens]; first | omega | assumption) | (simp [lens]; done) | (simp [lens]; omega)) ?_) | (refine st_set rfl 22 _ _ rfl hm rfl rfl 3 rfl one22 (by first | omega | assumption | (simp only [lens]; first | omega | assumption) | (simp [lens]; done) | (simp [lens]; omega)) ?_)); clear hm; intro ws hm; simp only [List.set_cons_zero, List.set_cons_succ] at hm) | ((with_reducible refine gt_field 28 0 ?_); refine st_field rfl 28 _ 0 rfl rfl field28_0 ?_) | ((with_reducible refine gt_elem 23 ?_); refine st_elem rfl 23 _ _ rfl rfl rfl arr23 (by first | omega | assumption | (simp only [lens]; first | omega | assumption) | (simp [lens]; done) | (simp [lens]; omega)) (by first | omega | assumption | (simp only [lens]; first | omega | assumption) | (simp [lens]; done) | (simp [lens]; omega)) ?_) | ((with_reducible refine gt_load 28 ?_); (first | (refine st_load rfl 28 _ rfl hm rfl 0 rfl agg28 (by first | omega | assumption | (simp only [lens]; first | omega | assumption) | (simp [lens]; done) | (simp [lens]; omega)) ?_) | (refine st_load rfl 28 _ rfl hm rfl 1 rfl agg28 (by first | omega | assumption | (simp only [lens]; first | omega | assumption) | (simp [lens]; done) | (simp [lens]; omega)) ?_) | (refine st_load rfl 28 _ rfl hm rfl 2 rfl agg28 (by first | omega | assumption | (simp only [lens]; first | omega | assumption) | (simp [lens]; done) | (simp [lens]; omega)) ?_) | (refine st_load rfl 28 _ rfl hm rfl 3 rfl agg28 (by first | omega | assumption | (simp only [lens]; first | omega | assumption) | (simp [lens]; done) | (simp [lens]; omega)) ?_))))
     | (go_at_call 7; refine (HLT.out _).mono ?_; rintro e wa ⟨rfl, hb⟩; replace hm := hm.after hb; clear hb))
    ((try simp only [Exit.inBlock, Exit.then]); (first | (refine ret_cell hm rfl rfl 1 rfl agg28 (by first | omega | assumption | (simp only [lens]; first | omega | assumption) | (simp [lens]; done) | (simp [lens]; omega)) rfl ?_) | (refine ret_cell_tmp hm rfl rfl 1 rfl agg28 (by first | omega | assumption | (simp only [lens]; first | omega | assumption) | (simp [lens]; done) | (simp [lens]; omega)) rfl ?_)))
    exact ⟨by rw [HVL.out]; rfl, hm.done (by simp [ho])⟩
   ·have HVL := Aside0.mk (HV.out.trans (if_neg he))
    go_wp2_with (first
     | (first | fail | ((with_reducible refine gt_alloc 2 28 ?_); refine st_alloc rfl 2 rfl 28 rfl hm zero28 ?_; clear hm; intro g2 w2 hm) | ((with_reducible refine gt_build 28 ?_); refine st_zero rfl 28 rfl built28 ?_) | ((with_reducible refine gt_alloc 4 28 ?_); refine st_alloc rfl 4 rfl 28 rfl hm zero28 ?_; clear hm; intro g4 w4 hm) | ((with_reducible refine gt_store 28 ?_); (first | (refine st_full rfl 28 _ _ rfl hm rfl rfl 0 rfl agg28 (by first | omega | assumption | (simp only [lens]; first | omega | assumption) | (simp [lens]; done) | (simp [lens]; omega)) (by first | omega | assumption | (simp only [lens]; first | omega | assumption) | (simp [lens]; done) | (simp [lens]; omega)) ?_) | (refine st_full rfl 28 _ _ rfl hm rfl rfl 1 rfl agg28 (by first | omega | assumption | (simp only [lens]; first | omega | assumption) | (simp [lens]; done) | (simp [lens]; omega)) (by first | omega | assumption | (simp only [lens]; first | omega | assumption) | (simp [lens]; done) | (simp [lens]; omega)) ?_) | (refine st_full rfl 28 _ _ rfl hm rfl rfl 2 rfl agg28 (by first | omega | assumption | (simp only [lens]; first | omega | assumption) | (simp [lens]; done) | (simp [lens]; omega)) (by first | omega | assumption | (simp only [lens]; first | omega | assumption) | (simp [lens]; done) | (simp [lens]; omega)) ?_) | (refine st_full rfl 28 _ _ rfl hm rfl rfl 3 rfl agg28 (by first | omega | assumption | (simp only [lens]; first | omega | assumption) | (simp [lens]; done) | (simp [lens]; omega)) (by first | omega | assumption | (simp only [lens]; first | omega | assumption) | (simp [lens]; done) | (simp [lens]; omega)) ?_)); clear hm; intro ws hm; simp only [List.set_cons_zero, List.set_cons_succ] at hm) | ((with_reducible refine gt_field 28 1 ?_); refine st_field rfl 28 _ 1 rfl rfl field28_1 ?_) | ((with_reducible refine gt_elem 24 ?_); refine st_elem rfl 24 _ _ rfl rfl rfl arr24 (by first | omega | assumption | (simp only [lens]; first | omega | assumption) | (simp [lens]; done) | (simp [lens]; omega)) (by first | omega | assumption | (simp only [lens]; first | omega | assumption) | (simp [lens]; done) | (simp [lens]; omega)) ?_) | ((with_reducible refine gt_store 22 ?_); (first | (refine st_set rfl 22 _ _ rfl hm rfl rfl 0 rfl one22 (by first | omega | assumption | (simp only [lens]; first | omega | assumption) | (simp [lens]; done) | (simp [lens]; omega)) ?_) | (refine st_set rfl 22 _ _ rfl hm rfl rfl 1 rfl one22 (by first | omega | assumption | (simp only [lens]; first | omega | assumption) | (simp [lens]; done) | (simp [lens]; omega)) ?_) | (refine st_set rfl 22 _ _ rfl hm rfl rfl 2 rfl one22 (by first | omega | assumption | (simp only [lens]; first | omega | assumption) | (simp [lens]; done) | (simp [lens]; omega)) ?_) | (refine st_set rfl 22 _ _ rfl hm rfl rfl 3 rfl one22 (by first | omega | assumption | (simp only [lens]; first | omega | assumption) | (simp [lens]; done) | (simp [lens]; omega)) ?_)); clear hm; intro ws hm; simp only [List.set_cons_zero, List.set_cons_succ] at hm) | ((with_reducible refine gt_field 28 0 ?_); refine st_field rfl 28 _ 0 rfl rfl field28_0 ?_) | ((with_reducible refine gt_elem 23 ?_); refine st_elem rfl 23 _ _ rfl rfl rfl arr23 (by first | omega | assumption | (simp only [lens]; first | omega | assumption) | (simp [lens]; done) | (simp [lens]; omega)) (by first | omega | assumption | (simp only [lens]; first | omega | assumption) | (simp [lens]; done) | (simp [lens]; omega)) ?_) | ((with_reducible refine gt_load 28 ?_); (first | (refine st_load rfl 28 _ rfl hm rfl 0 rfl agg28 (by first | omega | assumption | (simp only [lens]; first | omega | assumption) | (simp [lens]; done) | (simp [lens]; omega)) ?_) | (refine st_load rfl 28 _ rfl hm rfl 1 rfl agg28 (by first | omega | assumption | (simp only [lens]; first | omega | assumption) | (simp [lens]; done) | (simp [lens]; omega)) ?_) | (refine st_load rfl 28 _ rfl hm rfl 2 rfl agg28 (by first | omega | assumption | (simp only [lens]; first | omega | assumption) | (simp [lens]; done) | (simp [lens]; omega)) ?_) | (refine st_load rfl 28 _ rfl hm rfl 3 rfl agg28 (by first | omega | assumption | (simp only [lens]; first | omega | assumption) | (simp [lens]; done) | (simp [lens]; omega)) ?_))))
     | (go_at_call 7; refine (HLT.out _).mono ?_; rintro e wa ⟨rfl, hb⟩; replace hm := hm.after hb; clear hb))
    ·((try simp only [Exit.inBlock, Exit.then]); (first | (refine ret_cell hm rfl rfl 1 rfl agg28 (by first | omega | assumption | (simp only [lens]; first | omega | assumption) | (simp [lens]; done) | (simp [lens]; omega)) rfl ?_) | (refine ret_cell_tmp hm rfl rfl 1 rfl agg28 (by first | omega | assumption | (simp only [lens]; first | omega | assumption) | (simp [lens]; done) | (simp [lens]; omega)) rfl ?_)))
     exact ⟨by rw [HVL.out]; rfl, hm.done (by simp [ho])⟩
    ·rename_i hTl
     exact absurd (by simpa using hTl) he
end Go.Proofs.YtehagnkcfgkomaaDoor.Arr
namespace Go.Proofs.YtehagnkcfgkomaaDoor.Arr
open Go.RowKit Go.Proofs.YtehagnkcfgkomaaDoorW.PrintWords Go.Proofs.YtehagnkcfgkomaaDoorW.PrintLast Go.Proofs.YtehagnkcfgkomaaDoorW.PrintMore Go.Proofs.YtehagnkcfgkomaaDoor.U Go.Proofs.YtehagnkcfgkomaaDoor.I
set_option linter.unusedVariables false
set_option linter.unusedSimpArgs false
set_option maxHeartbeats 4000000 in
set_option maxRecDepth 100000 in
theorem eqLocker_calls (L L' : List Int) (w : World) (hl : L.length = 44) (hl' : L'.length = 44) : Calls Tryd.prog 10 #[.agg (vals .i16 L), .agg (vals .i16 L')] w fun e w' => e = .returned (.bool (decide (L = L'))) ∧ Below w.heap.size w w' := by
 have hm := Mem.start w
 have HL := Aside0.mk (halves L hl)
 have HL' := Aside0.mk (halves L' hl')
 go_enter Tryd.func10, Tryd.ntmps10
 go_wp2_with (first
  | (first | fail | ((with_reducible refine gt_box 2 28 ?_); refine st_box rfl 2 rfl 28 _ rfl hm (v := .agg (vals _ _)) rfl (cs := vals _ _) rfl ?_; clear hm; intro g2 w2 hm) | ((with_reducible refine gt_box 3 28 ?_); refine st_box rfl 3 rfl 28 _ rfl hm (v := .agg (vals _ _)) rfl (cs := vals _ _) rfl ?_; clear hm; intro g3 w3 hm) | ((with_reducible refine gt_field 28 0 ?_); refine st_field rfl 28 _ 0 rfl rfl field28_0 ?_) | ((with_reducible refine gt_load 23 ?_); (first | (refine st_part rfl 23 _ rfl hm rfl 0 rfl agg23 (by first | omega | assumption | (simp only [lens]; first | omega | assumption) | (simp [lens]; done) | (simp [lens]; omega)) ?_) | (refine st_part rfl 23 _ rfl hm rfl 1 rfl agg23 (by first | omega | assumption | (simp only [lens]; first | omega | assumption) | (simp [lens]; done) | (simp [lens]; omega)) ?_) | (refine st_part rfl 23 _ rfl hm rfl 2 rfl agg23 (by first | omega | assumption | (simp only [lens]; first | omega | assumption) | (simp [lens]; done) | (simp [lens]; omega)) ?_) | (refine st_part rfl 23 _ rfl hm rfl 3 rfl agg23 (by first | omega | assumption | (simp only [lens]; first | omega | assumption) | (simp [lens]; done) | (simp [lens]; omega)) ?_))) | ((with_reducible refine gt_field 28 1 ?_); refine st_field rfl 28 _ 1 rfl rfl field28_1 ?_) | ((with_reducible refine gt_load 24 ?_); (first | (refine st_part rfl 24 _ rfl hm rfl 0 rfl agg24 (by first | omega | assumption | (simp only [lens]; first | omega | assumption) | (simp [lens]; done) | (simp [lens]; omega)) ?_) | (refine st_part rfl 24 _ rfl hm rfl 1 rfl agg24 (by first | omega | assumption | (simp only [lens]; first | omega | assumption) | (simp [lens]; done) | (simp [lens]; omega)) ?_) | (refine st_part rfl 24 _ rfl hm rfl 2 rfl agg24 (by first | omega | assumption | (simp only [lens]; first | omega | assumption) | (simp [lens]; done) | (simp [lens]; omega)) ?_) | (refine st_part rfl 24 _ rfl hm rfl 3 rfl agg24 (by first | omega | assumption | (simp only [lens]; first | omega | assumption) | (simp [lens]; done) | (simp [lens]; omega)) ?_))))
  | (go_at_call 26; refine (decided (eqInt16A40_calls _ _ _ (by first | omega | assumption | (simp only [lens]; first | omega | assumption) | (simp [lens]; done) | (simp [lens]; omega)) (by first | omega | assumption | (simp only [lens]; first | omega | assumption) | (simp [lens]; done) | (simp [lens]; omega)))).mono ?_; rintro e wa ⟨b1, HB1, rfl, hb⟩; replace hm := hm.after hb; clear hb; cases b1)
  | (go_at_call 27; refine (decided (eqInt16A4_calls _ _ _ (by first | omega | assumption | (simp only [lens]; first | omega | assumption) | (simp [lens]; done) | (simp [lens]; omega)) (by first | omega | assumption | (simp only [lens]; first | omega | assumption) | (simp [lens]; done) | (simp [lens]; omega)))).mono ?_; rintro e wa ⟨b2, HB2, rfl, hb⟩; replace hm := hm.after hb; clear hb; cases b2))
 all_goals
  go_ret
  refine ⟨?_, hm.done rfl⟩
 ·rw [decide_eq_false (p := L = L')]
  ·rfl
  ·intro e; subst e; simpa using HB1.out
 ·rw [decide_eq_false (p := L = L')]
  ·rfl
  ·intro e; subst e; simpa using HB2.out
 ·rw [decide_eq_true (p := L = L')]
  ·rfl
  ·have h1 : List.take 40 (List.drop 0 L) = List.take 40 (List.drop 0 L') := by simpa using HB1.out
   have h2 : List.take 4 (List.drop 40 L) = List.take 4 (List.drop 40 L') := by simpa using HB2.out
   exact HL.out.trans ((by rw [h1, h2] : _ = _).trans HL'.out.symm)
end Go.Proofs.YtehagnkcfgkomaaDoor.Arr
namespace Go.Proofs.YtehagnkcfgkomaaDoor.Arr
open Go.RowKit Go.Proofs.YtehagnkcfgkomaaDoorW.PrintWords Go.Proofs.YtehagnkcfgkomaaDoorW.PrintLast Go.Proofs.YtehagnkcfgkomaaDoorW.PrintMore Go.Proofs.YtehagnkcfgkomaaDoor.U Go.Proofs.YtehagnkcfgkomaaDoor.I
set_option linter.unusedVariables false
set_option linter.unusedSimpArgs false
theorem lawRead_big (s : ByteArray) (hs : 1048576 < s.size) (w : World) :
  Calls Tryd.prog 4 #[.string s] w fun e w' => e = .returned (.bool true) ∧ Below w.heap.size w w' := by
 have hm := Mem.start w
 have hq : decide ((s.size : Int) > 1048576) = true := decide_eq_true (by omega)
 go_enter Tryd.func4, Tryd.ntmps4
 go_wp2_with (first | fail | ((with_reducible refine gt_alloc 3 28 ?_); refine st_alloc rfl 3 rfl 28 rfl hm zero28 ?_; clear hm; intro g3 w3 hm) | ((with_reducible refine gt_store 28 ?_); (first | (refine st_full rfl 28 _ _ rfl hm rfl rfl 0 rfl agg28 (by first | omega | assumption | (simp only [lens]; first | omega | assumption) | (simp [lens]; done) | (simp [lens]; omega)) (by first | omega | assumption | (simp only [lens]; first | omega | assumption) | (simp [lens]; done) | (simp [lens]; omega)) ?_) | (refine st_full rfl 28 _ _ rfl hm rfl rfl 1 rfl agg28 (by first | omega | assumption | (simp only [lens]; first | omega | assumption) | (simp [lens]; done) | (simp [lens]; omega)) (by first | omega | assumption | (simp only [lens]; first | omega | assumption) | (simp [lens]; done) | (simp [lens]; omega)) ?_) | (refine st_full rfl 28 _ _ rfl hm rfl rfl 2 rfl agg28 (by first | omega | assumption | (simp only [lens]; first | omega | assumption) | (simp [lens]; done) | (simp [lens]; omega)) (by first | omega | assumption | (simp only [lens]; first | omega | assumption) | (simp [lens]; done) | (simp [lens]; omega)) ?_) | (refine st_full rfl 28 _ _ rfl hm rfl rfl 3 rfl agg28 (by first | omega | assumption | (simp only [lens]; first | omega | assumption) | (simp [lens]; done) | (simp [lens]; omega)) (by first | omega | assumption | (simp only [lens]; first | omega | assumption) | (simp [lens]; done) | (simp [lens]; omega)) ?_)); clear hm; intro ws hm; simp only [List.set_cons_zero, List.set_cons_succ] at hm) | ((with_reducible refine gt_alloc 5 28 ?_); refine st_alloc rfl 5 rfl 28 rfl hm zero28 ?_; clear hm; intro g5 w5 hm) | ((with_reducible refine gt_load 28 ?_); (first | (refine st_load rfl 28 _ rfl hm rfl 0 rfl agg28 (by first | omega | assumption | (simp only [lens]; first | omega | assumption) | (simp [lens]; done) | (simp [lens]; omega)) ?_) | (refine st_load rfl 28 _ rfl hm rfl 1 rfl agg28 (by first | omega | assumption | (simp only [lens]; first | omega | assumption) | (simp [lens]; done) | (simp [lens]; omega)) ?_) | (refine st_load rfl 28 _ rfl hm rfl 2 rfl agg28 (by first | omega | assumption | (simp only [lens]; first | omega | assumption) | (simp [lens]; done) | (simp [lens]; omega)) ?_) | (refine st_load rfl 28 _ rfl hm rfl 3 rfl agg28 (by first | omega | assumption | (simp only [lens]; first | omega | assumption) | (simp [lens]; done) | (simp [lens]; omega)) ?_))))
 ·go_ret
  exact ⟨rfl, hm.done rfl⟩
set_option maxHeartbeats 4000000 in
set_option maxRecDepth 100000 in
theorem lawRead_small (l : List UInt8) (hl : l.length ≤ 1048576) (w : World) (hD : Door w) :
  Calls Tryd.prog 4 #[.string ⟨l.toArray⟩] w fun e w' => e = .returned (.bool true) ∧ Below w.heap.size w w' := by
 have hm := Mem.start w
 have HD := Aside0.mk (fun W (hb : Below w.heap.size w W) => hD.below hb)
 have HSP := Aside0.mk (fun W => specRead_calls l hl W)
 have HIM := Aside0.mk (fun W hW => implRead_calls l hl W hW)
 rw [read_eq] at HIM
 obtain ⟨Z, b, hz, H⟩ : ∃ (Z : List Int) (b : Int), Z.length = 44 ∧ Aside0 (readRes (readS l) = .tuple #[.agg (vals .i16 Z), .int .i64 b]) := by
  rcases hr : readS l with _ | Z
  ·exact ⟨_, _, zs_length, ⟨rfl⟩⟩
  ·exact ⟨Z, _, (readS_sound hr).1, ⟨rfl⟩⟩
 rw [H.out] at HSP HIM
 clear H
 go_enter Tryd.func4, Tryd.ntmps4
 go_wp2_with (first
  | (first | fail | ((with_reducible refine gt_alloc 3 28 ?_); refine st_alloc rfl 3 rfl 28 rfl hm zero28 ?_; clear hm; intro g3 w3 hm) | ((with_reducible refine gt_store 28 ?_); (first | (refine st_full rfl 28 _ _ rfl hm rfl rfl 0 rfl agg28 (by first | omega | assumption | (simp only [lens]; first | omega | assumption) | (simp [lens]; done) | (simp [lens]; omega)) (by first | omega | assumption | (simp only [lens]; first | omega | assumption) | (simp [lens]; done) | (simp [lens]; omega)) ?_) | (refine st_full rfl 28 _ _ rfl hm rfl rfl 1 rfl agg28 (by first | omega | assumption | (simp only [lens]; first | omega | assumption) | (simp [lens]; done) | (simp [lens]; omega)) (by first | omega | assumption | (simp only [lens]; first | omega | assumption) | (simp [lens]; done) | (simp [lens]; omega)) ?_) | (refine st_full rfl 28 _ _ rfl hm rfl rfl 2 rfl agg28 (by first | omega | assumption | (simp only [lens]; first | omega | assumption) | (simp [lens]; done) | (simp [lens]; omega)) (by first | omega | assumption | (simp only [lens]; first | omega | assumption) | (simp [lens]; done) | (simp [lens]; omega)) ?_) | (refine st_full rfl 28 _ _ rfl hm rfl rfl 3 rfl agg28 (by first | omega | assumption | (simp only [lens]; first | omega | assumption) | (simp [lens]; done) | (simp [lens]; omega)) (by first | omega | assumption | (simp only [lens]; first | omega | assumption) | (simp [lens]; done) | (simp [lens]; omega)) ?_)); clear hm; intro ws hm; simp only [List.set_cons_zero, List.set_cons_succ] at hm) | ((with_reducible refine gt_alloc 5 28 ?_); refine st_alloc rfl 5 rfl 28 rfl hm zero28 ?_; clear hm; intro g5 w5 hm) | ((with_reducible refine gt_load 28 ?_); (first | (refine st_load rfl 28 _ rfl hm rfl 0 rfl agg28 (by first | omega | assumption | (simp only [lens]; first | omega | assumption) | (simp [lens]; done) | (simp [lens]; omega)) ?_) | (refine st_load rfl 28 _ rfl hm rfl 1 rfl agg28 (by first | omega | assumption | (simp only [lens]; first | omega | assumption) | (simp [lens]; done) | (simp [lens]; omega)) ?_) | (refine st_load rfl 28 _ rfl hm rfl 2 rfl agg28 (by first | omega | assumption | (simp only [lens]; first | omega | assumption) | (simp [lens]; done) | (simp [lens]; omega)) ?_) | (refine st_load rfl 28 _ rfl hm rfl 3 rfl agg28 (by first | omega | assumption | (simp only [lens]; first | omega | assumption) | (simp [lens]; done) | (simp [lens]; omega)) ?_))))
  | (go_at_call 8; refine (HSP.out _).mono ?_; rintro e wa ⟨rfl, hb⟩; replace hm := hm.after hb; clear hb)
  | (go_at_call 9; refine (HIM.out _ (HD.out _ (hm.done rfl))).mono ?_; rintro e wa ⟨rfl, hb⟩; replace hm := hm.after hb; clear hb)
  | (go_at_call 10; refine (eqLocker_calls Z Z _ hz hz).mono ?_; rintro e wa ⟨rfl, hb⟩; replace hm := hm.after hb; clear hb; rw [decide_eq_true (p := Z = Z) rfl]))
 go_ret
 exact ⟨rfl, hm.done rfl⟩
theorem law_FnExactReadLocker (s : ByteArray) (w : World) (hD : Door w) :
  Calls Tryd.prog 4 #[.string s] w fun e w' => e = .returned (.bool true) ∧ Below w.heap.size w w' := by
 by_cases h : s.size ≤ 1048576
 ·have hs : s = ⟨s.data.toList.toArray⟩ := by simp
  rw [hs]
  refine lawRead_small s.data.toList ?_ w hD
  have : s.data.toList.length = s.size := Array.length_toList
  omega
 ·exact lawRead_big s (by omega) w
end Go.Proofs.YtehagnkcfgkomaaDoor.Arr
namespace Go.Proofs.YtehagnkcfgkomaaDoor.Open
open Go.RowKit Go.Proofs.YtehagnkcfgkomaaDoorW.PrintWords Go.Proofs.YtehagnkcfgkomaaDoor.U Go.Deep
set_option linter.unusedVariables false
set_option linter.unusedSimpArgs false
section
variable {P : Program} {t : TypeId}
theorem add_mul (a : Addr) (i m j : Nat) : (a.add (i * m)).add j = a.add (i * m + j) := by
 unfold Addr.add
 by_cases h1 : i * m = 0 <;> by_cases h2 : j = 0 <;> simp [h1, h2] <;> omega
end
end Go.Proofs.YtehagnkcfgkomaaDoor.Open
namespace Go.Proofs.YtehagnkcfgkomaaDoor.fnExactReadLocker
open Go.ChangeShapes Go.WideShapes Go.ChangeAt Go.RowKit Go.Proofs.YtehagnkcfgkomaaDoor.U Go.Proofs.YtehagnkcfgkomaaDoorW.PrintWords Go.Proofs.YtehagnkcfgkomaaDoor.Arr
open Go.ChangeMaps (open_string shut_string)
set_option linter.unusedVariables false
theorem own : ownKnob Tryd.prog.godebug = none := by kernel_rfl
theorem wrap {H : Type} {enc : TypeId × Value → H} {a : Assume} {C : Checked} {os : Os} {f : FuncId} {fn : Func} {s : ChangeSpec} {conds : List PathCond} {apart fresh handsOn again : Bool} {X : World → Array Value → Prop}
  (hX : ∀ (w w' : World) (args : Array Value), w.heap = w'.heap → X w args → X w' args)
  (own : ownKnob C.prog.godebug = none) (started : os.Started) (noInit : C.prog.inits.idxOf? f = none) (hfn : C.prog.funcs[f]? = some fn)
  (witness : ∃ (w : World) (tape : Tape) (i : Input), w.os = os ∧ (w.forCall tape i).Shaped C.prog ∧ i.vars = [] ∧ Input.okWide C.prog (w.forCall tape i) .any w.heap.size f i ∧
   ((s.pre enc C.prog fn conds apart (w.forCall tape i).memory i.args ∧ X (w.forCall tape i).memory i.args) ∧ sizedMet enc C.prog fn (OpenSpec.ofChange s) apart (w.forCall tape i).memory i.args) ∧ a.holds C.prog (lone (Frame.enter C.prog f i.args .normal) [] (w.forCall tape i)))
  (contract : ∀ (W : World) (base : Nat) (args : Array Value) (ds gs : List (DataW H)) (before : List MemPlace),
   (∀ (j : Nat) t v, fn.params[j]? = some t → args[j]? = some v → Value.okWide C.prog W .any base t v) →
   DataW.Whole enc C.prog fn.params.toList s.vars apart W args.toList ds gs before → X W args → W.ShapedOpen C.prog →
   Calls C.prog f args W fun e W' => ∃ v, e = .returned v ∧ s.post enc C.prog fn apart fresh handsOn again W args v W') :
  ReturnsInHanded a C os f .any (fun w args => (s.pre enc C.prog fn conds apart w args ∧ X w args) ∧ sizedMet enc C.prog fn (OpenSpec.ofChange s) apart w args) (s.post enc C.prog fn apart fresh handsOn again) := by
 refine returnsInHanded_of_calls own started noInit witness ?_
 intro w tape i _ hsh _ hok hpre hholds
 obtain ⟨_, _, _, fn', hfn', _, _, _, _, hval⟩ := hok
 have e : fn' = fn := Option.some.inj (hfn'.symm.trans hfn)
 subst e
 obtain ⟨⟨⟨ds, gs, before, hw, hc⟩, hx⟩, hz⟩ := hpre
 have hw' := DataW.Whole.of_heap (w' := w.forCall tape i) (by rfl) hw
 refine (contract (w.forCall tape i) w.heap.size i.args ds gs before hval hw' (hX _ _ _ (by rfl) hx) hsh).mono fun e W' ⟨v, he, hp⟩ => ?_
 subst he
 exact ChangeSpec.post_blind hp
set_option maxRecDepth 100000 in
theorem rowOf (u : TypeId) (h : Tryd.prog.typeName? 3 u = some "*errors.errorString") : u = 127 := by
 have star : "*" ++ "errors.errorString" = "*errors.errorString" := by decide
 exact typeName_ptr_named (nm := "errors.errorString") (by rw [star]; kernel_rfl) (by kernel_rfl) (by decide) u (by rw [star]; exact h)
set_option maxRecDepth 100000 in
theorem door_of {W : World} (hL : laidMetH Tryd.prog Rows.fnExactReadLockerRow.laid W) (hs : W.ShapedOpen Tryd.prog) : Door W := by
 rw [MakeChecks.laidMetH_plain _ _ _ (by kernel_rfl)] at hL
 have h4 := hL.tail.tail.tail.tail
 obtain ⟨a0, s0, hv0, _⟩ := laid_sentinel (g := 3) (ti := 73) (tp := 127) (te := 129) h4 (by kernel_rfl) (by kernel_rfl) Tryd.underlying73 rowOf Tryd.underlying127 Tryd.underlying129 rfl rfl Tryd.underlying9 (by kernel_rfl) (by kernel_rfl)
 obtain ⟨a1, s1, hv1, _⟩ := laid_sentinel (g := 2) (ti := 73) (tp := 127) (te := 129) h4.tail (by kernel_rfl) (by kernel_rfl) Tryd.underlying73 rowOf Tryd.underlying127 Tryd.underlying129 rfl rfl Tryd.underlying9 (by kernel_rfl) (by kernel_rfl)
 have c0 := World.var?_cell (g := 3) (by kernel_rfl) hv0 0
 have c1 := World.var?_cell (g := 2) (by kernel_rfl) hv1 0
 refine ⟨lay146.s1_3 W hs, ⟨_, _, by simpa using c1⟩, ⟨_, _, by simpa using c0⟩, ?_⟩
 exact Lib.tabIs_of_head (g := 1) (t := 110) (e := 89) (n := 20) (by kernel_rfl) (by kernel_rfl) (by kernel_rfl) (by kernel_rfl) (by kernel_rfl) (by kernel_rfl) (show laidMet Tryd.prog (("internal/strconv.uint64pow10", Lib.tabData .u64 Lib.pow10Tab) :: _) W from hL.tail.tail)
set_option maxRecDepth 100000 in
theorem door_met (os : Os) (args : Array Value) : laidMetH Tryd.prog Rows.fnExactReadLockerRow.laid ((World.laidAll Tryd.prog os Rows.fnExactReadLockerRow.laid).forCall (fun _ _ => 0) ⟨#[], args, []⟩).memory := by
 rw [MakeChecks.laidMetH_plain _ _ _ (by kernel_rfl)]
 exact laidMet_laidAll _ (by kernel_rfl) (by kernel_rfl)
set_option maxRecDepth 100000 in
theorem lifted (os : Os) (started : os.Started) (H : Type) (enc : TypeId × Value → H) :
  ReturnsInHanded {} Tryd.checked os 4 .any (fun w args => (Rows.fnExactReadLockerSpec.pre enc Tryd.prog Tryd.f4 [] false w args ∧ laidMetH Tryd.prog Rows.fnExactReadLockerRow.laid w) ∧ sizedMet enc Tryd.prog Tryd.f4 (OpenSpec.ofChange Rows.fnExactReadLockerSpec) false w args)
   (Rows.fnExactReadLockerSpec.post enc Tryd.prog Tryd.f4 false true false false) := by
 refine wrap (C := Tryd.checked) (X := fun w _ => laidMetH Tryd.prog Rows.fnExactReadLockerRow.laid w) (fun _ _ _ hh h => h.of_heap hh) own started (by kernel_rfl) Tryd.func4
  (ChangeSpec.witness_shaped (enc := enc) (C := Tryd.checked) (os := os) (X := fun w _ => laidMetH Tryd.prog Rows.fnExactReadLockerRow.laid w) false (World.laidAll Tryd.prog os Rows.fnExactReadLockerRow.laid) #[.string ByteArray.empty] 8 (World.laidAll_os _ _ _) (World.shaped_of_ZipB (by kernel_rfl) (by kernel_rfl)) (by kernel_rfl) (by kernel_rfl) (by kernel_rfl) (door_met os _)) ?_
 intro W base args ds gs before hval0 hW hL hs
 have hval : ∀ (j : Nat) t v, Tryd.f4.params[j]? = some t → args[j]? = some v → Value.okWide Tryd.prog W .any base t v := hval0
 have hW' := hW
 obtain ⟨p, q, hA0, hV, rfl, hfz, hnd⟩ := hW
 have hA : DataW.TrodAll enc Tryd.prog W 0 (fun _ => true) true Tryd.f4.params.toList args.toList ds p := hA0
 rw [Tryd.params4] at hA hval
 obtain ⟨v0, d0, rfl, rfl, h0⟩ := trodAll_one hA
 obtain ⟨rfl, rfl⟩ := trodVars_none hV
 obtain ⟨a0, rfl, rfl, rfl, y0⟩ := open_string Tryd.underlying9 (hval 0 9 v0 rfl rfl) h0
 clear hA0 hval0
 simp only [List.append_nil] at hW'
 refine (Arr.law_FnExactReadLocker a0 W (door_of hL hs)).mono ?_
 rintro e W' ⟨rfl, bel⟩
 exact ⟨_, rfl, _, _, _, [], [], [], hW', trodAll_mk1 (shut_bool Tryd.underlying4 _), trodAll_mk1 (shut_string Tryd.underlying9 y0), rfl, bel.frame _, fun h => by cases h⟩
theorem over : Rows.fnExactReadLockerRow.holds Tryd.pinned (OpenSpec.ofChange Rows.fnExactReadLockerSpec) :=
 OpenClaim.holds_of_wide 4 Tryd.f4 rfl rfl rfl rfl rfl rfl rfl ⟨rfl, rfl, rfl, rfl, rfl⟩ rfl rfl rfl rfl rfl (by kernel_rfl) Tryd.func4 (by kernel_rfl)
  (of_decide_eq_true (by kernel_rfl)) (by unfold Func.isWrapper; first | (rw [if_pos (by decide +kernel)]; kernel_rfl) | (rw [if_neg (by decide +kernel)]; exact ⟨rfl, rfl⟩))
  (fun os started H enc _ => lifted os started H enc)
theorem proved : Rows.FnExactReadLockerSaid := over
end Go.Proofs.YtehagnkcfgkomaaDoor.fnExactReadLocker
