/- Facts of this program's types: which are of many cells, their zeros, where their fields lie. No condition. -/
import Derived.Test.YtmpkgdgbjhegnaaProg
import Derived.Below
import Derived.Deep.Draws
import Derived.Deep.AppendLies
import Derived.Maps.AppendAt
import Derived.OwnWalk
import Derived.Laws.BytesArg
import Derived.Laws.MakeOwn
import Derived.Laws.OwnMore
import Derived.Deep.OwnRows
import Derived.Tactics
import Derived.Lib.ConvBytes
import Derived.Laws.Slices
import Derived.WalkKit
import Derived.KernelRfl
import Derived.RowKit3
import Derived.Deep.LoopGhost
import Derived.Deep.QuietTactic
import Derived.BigQuiet
import Derived.WideLaws
import Derived.Deep.DeepCutAuto
import Derived.Deep.CutBlock
import Derived.Deep.RegionHeld3
import Derived.Laws.Rows
import Derived.Lib.AppendStr
import Derived.ArgAppend
import Derived.Laws.IdiomCopy
import Derived.OrdersHeld
import Derived.Laws.BitsLemmas
import Derived.RowKit
import Derived.WalkSpells
import Derived.Test.YtmpkgdgbjhegnaaWWords
import Derived.Test.YtmpkgdgbjhegnaaWLast
import Derived.Test.YtmpkgdgbjhegnaaWTab
import Derived.Test.YtmpkgdgbjhegnaaWFour
import Derived.Test.YtmpkgdgbjhegnaaWQPut
import Derived.Test.YtmpkgdgbjhegnaaWApart
import Derived.Test.YtmpkgdgbjhegnaaWArr
import Derived.Test.YtmpkgdgbjhegnaaWZeros
import Derived.Test.YtmpkgdgbjhegnaaWFoot
import Derived.Test.YtmpkgdgbjhegnaaWKept
import Derived.Test.YtmpkgdgbjhegnaaWShare
import Derived.Test.YtmpkgdgbjhegnaaWN
import Derived.Test.YtmpkgdgbjhegnaaWFootNe
import Derived.Test.YtmpkgdgbjhegnaaWAt
import Derived.Test.YtmpkgdgbjhegnaaWEqStruct
import Derived.Test.YtmpkgdgbjhegnaaWRepsOne
import Derived.Test.YtmpkgdgbjhegnaaWInv
import Derived.Test.YtmpkgdgbjhegnaaWInvWords
import Derived.Test.YtmpkgdgbjhegnaaWGuard
import Derived.Test.YtmpkgdgbjhegnaaWNEv
import Derived.Test.YtmpkgdgbjhegnaaWMore
import Derived.Test.YtmpkgdgbjhegnaaU
import Derived.Test.YtmpkgdgbjhegnaaArr
namespace Go.Proofs.Ytmpkgdgbjhegnaa.Arr
open Go.RowKit Go.Proofs.YtmpkgdgbjhegnaaW.PrintWords Go.Proofs.Ytmpkgdgbjhegnaa.U
set_option maxRecDepth 100000
theorem agg23 : AggTy Try.prog 23 40 := ⟨by kernel_rfl, by kernel_rfl⟩
theorem zero23 : ZeroTy Try.prog 23 (vals .i16 (zs 40)) := ⟨.agg (vals .i16 (zs 40)), by kernel_rfl, rfl⟩
theorem built23 : Try.prog.built 23 [] = some (vals .i16 (zs 40)) := by kernel_rfl
theorem arr23 : ArrTy Try.prog 23 40 := ⟨_, Try.underlying23, by kernel_rfl, by kernel_rfl⟩
theorem agg24 : AggTy Try.prog 24 4 := ⟨by kernel_rfl, by kernel_rfl⟩
theorem zero24 : ZeroTy Try.prog 24 (vals .i16 (zs 4)) := ⟨.agg (vals .i16 (zs 4)), by kernel_rfl, rfl⟩
theorem built24 : Try.prog.built 24 [] = some (vals .i16 (zs 4)) := by kernel_rfl
theorem arr24 : ArrTy Try.prog 24 4 := ⟨_, Try.underlying24, by kernel_rfl, by kernel_rfl⟩
theorem agg26 : AggTy Try.prog 26 44 := ⟨by kernel_rfl, by kernel_rfl⟩
theorem zero26 : ZeroTy Try.prog 26 (vals .i16 (zs 44)) := ⟨.agg (vals .i16 (zs 44)), by kernel_rfl, rfl⟩
theorem built26 : Try.prog.built 26 [] = some (vals .i16 (zs 44)) := by kernel_rfl
theorem field26_0 : FieldTy Try.prog 26 0 0 := by unfold FieldTy; kernel_rfl
theorem field26_1 : FieldTy Try.prog 26 1 40 := by unfold FieldTy; kernel_rfl
theorem agg31 : AggTy Try.prog 31 44 := ⟨by kernel_rfl, by kernel_rfl⟩
theorem zero31 : ZeroTy Try.prog 31 (vals .i16 (zs 44)) := ⟨.agg (vals .i16 (zs 44)), by kernel_rfl, rfl⟩
theorem built31 : Try.prog.built 31 [] = some (vals .i16 (zs 44)) := by kernel_rfl
theorem field31_0 : FieldTy Try.prog 31 0 0 := by unfold FieldTy; kernel_rfl
theorem field31_1 : FieldTy Try.prog 31 1 40 := by unfold FieldTy; kernel_rfl
theorem agg41 : AggTy Try.prog 41 40 := ⟨by kernel_rfl, by kernel_rfl⟩
theorem zero41 : ZeroTy Try.prog 41 (vals .i64 (zs 40)) := ⟨.agg (vals .i64 (zs 40)), by kernel_rfl, rfl⟩
theorem built41 : Try.prog.built 41 [] = some (vals .i64 (zs 40)) := by kernel_rfl
theorem arr41 : ArrTy Try.prog 41 40 := ⟨_, Try.underlying41, by kernel_rfl, by kernel_rfl⟩
theorem agg49 : AggTy Try.prog 49 4 := ⟨by kernel_rfl, by kernel_rfl⟩
theorem zero49 : ZeroTy Try.prog 49 (vals .i64 (zs 4)) := ⟨.agg (vals .i64 (zs 4)), by kernel_rfl, rfl⟩
theorem built49 : Try.prog.built 49 [] = some (vals .i64 (zs 4)) := by kernel_rfl
theorem arr49 : ArrTy Try.prog 49 4 := ⟨_, Try.underlying49, by kernel_rfl, by kernel_rfl⟩
theorem agg65 : AggTy Try.prog 65 40 := ⟨by kernel_rfl, by kernel_rfl⟩
theorem zero65 : ZeroTy Try.prog 65 (vals .i64 (zs 40)) := ⟨.agg (vals .i64 (zs 40)), by kernel_rfl, rfl⟩
theorem built65 : Try.prog.built 65 [] = some (vals .i64 (zs 40)) := by kernel_rfl
theorem arr65 : ArrTy Try.prog 65 40 := ⟨_, Try.underlying65, by kernel_rfl, by kernel_rfl⟩
theorem agg66 : AggTy Try.prog 66 4 := ⟨by kernel_rfl, by kernel_rfl⟩
theorem zero66 : ZeroTy Try.prog 66 (vals .i64 (zs 4)) := ⟨.agg (vals .i64 (zs 4)), by kernel_rfl, rfl⟩
theorem built66 : Try.prog.built 66 [] = some (vals .i64 (zs 4)) := by kernel_rfl
theorem arr66 : ArrTy Try.prog 66 4 := ⟨_, Try.underlying66, by kernel_rfl, by kernel_rfl⟩
theorem agg68 : AggTy Try.prog 68 44 := ⟨by kernel_rfl, by kernel_rfl⟩
theorem zero68 : ZeroTy Try.prog 68 (vals .i64 (zs 44)) := ⟨.agg (vals .i64 (zs 44)), by kernel_rfl, rfl⟩
theorem built68 : Try.prog.built 68 [] = some (vals .i64 (zs 44)) := by kernel_rfl
theorem field68_0 : FieldTy Try.prog 68 0 0 := by unfold FieldTy; kernel_rfl
theorem field68_1 : FieldTy Try.prog 68 1 40 := by unfold FieldTy; kernel_rfl
theorem one2 : OneTy Try.prog 2 := ⟨by kernel_rfl, by kernel_rfl⟩
theorem zero2 : ZeroTy Try.prog 2 (vals .i64 [0]) := ⟨.int .i64 0, by kernel_rfl, rfl⟩
theorem one3 : OneTy Try.prog 3 := ⟨by kernel_rfl, by kernel_rfl⟩
theorem zero3 : ZeroTy Try.prog 3 (vals .i64 [0]) := ⟨.int .i64 0, by kernel_rfl, rfl⟩
theorem one22 : OneTy Try.prog 22 := ⟨by kernel_rfl, by kernel_rfl⟩
theorem zero22 : ZeroTy Try.prog 22 (vals .i16 [0]) := ⟨.int .i16 0, by kernel_rfl, rfl⟩
theorem one90 : OneTy Try.prog 90 := ⟨by kernel_rfl, by kernel_rfl⟩
theorem zero90 : ZeroTy Try.prog 90 (vals .i8 [0]) := ⟨.int .i8 0, by kernel_rfl, rfl⟩
end Go.Proofs.Ytmpkgdgbjhegnaa.Arr
