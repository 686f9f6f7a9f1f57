/- Facts of this program's types: which are of many cells, their zeros, where their fields lie. No condition. -/
import Derived.Test.YtodgnbcfihifiaaProg
import Derived.Below
import Derived.Deep.Draws
import Derived.Deep.AppendLies
import Derived.Maps.AppendAt
import Derived.OwnWalk
import Derived.Laws.BytesArg
import Derived.Laws.MakeOwn
import Derived.Laws.OwnMore
import Derived.Deep.OwnRows
import Derived.Tactics
import Derived.Lib.ConvBytes
import Derived.Laws.Slices
import Derived.WalkKit
import Derived.KernelRfl
import Derived.RowKit3
import Derived.Deep.LoopGhost
import Derived.Deep.QuietTactic
import Derived.BigQuiet
import Derived.WideLaws
import Derived.Deep.DeepCutAuto
import Derived.Deep.CutBlock
import Derived.Deep.RegionHeld3
import Derived.Laws.Rows
import Derived.Lib.AppendStr
import Derived.ArgAppend
import Derived.Laws.IdiomCopy
import Derived.OrdersHeld
import Derived.Laws.BitsLemmas
import Derived.RowKit
import Derived.WalkSpells
import Derived.Test.YtodgnbcfihifiaaWWords
import Derived.Test.YtodgnbcfihifiaaWLast
import Derived.Test.YtodgnbcfihifiaaWTab
import Derived.Test.YtodgnbcfihifiaaWFour
import Derived.Test.YtodgnbcfihifiaaWQPut
import Derived.Test.YtodgnbcfihifiaaWApart
import Derived.Test.YtodgnbcfihifiaaWArr
import Derived.Test.YtodgnbcfihifiaaWZeros
import Derived.Test.YtodgnbcfihifiaaWFoot
import Derived.Test.YtodgnbcfihifiaaWKept
import Derived.Test.YtodgnbcfihifiaaWShare
import Derived.Test.YtodgnbcfihifiaaWN
import Derived.Test.YtodgnbcfihifiaaWFootNe
import Derived.Test.YtodgnbcfihifiaaWAt
import Derived.Test.YtodgnbcfihifiaaWEqStruct
import Derived.Test.YtodgnbcfihifiaaWRepsOne
import Derived.Test.YtodgnbcfihifiaaWInv
import Derived.Test.YtodgnbcfihifiaaWInvWords
import Derived.Test.YtodgnbcfihifiaaWGuard
import Derived.Test.YtodgnbcfihifiaaWNEv
import Derived.Test.YtodgnbcfihifiaaWMore
import Derived.Test.YtodgnbcfihifiaaU
import Derived.Test.YtodgnbcfihifiaaArr
namespace Go.Proofs.Ytodgnbcfihifiaa.Arr
open Go.RowKit Go.Proofs.YtodgnbcfihifiaaW.PrintWords Go.Proofs.Ytodgnbcfihifiaa.U
set_option maxRecDepth 100000
theorem agg55 : AggTy Try.prog 55 6 := ⟨by kernel_rfl, by kernel_rfl⟩
theorem zero55 : ZeroTy Try.prog 55 (vals .u8 (zs 6)) := ⟨.agg (vals .u8 (zs 6)), by kernel_rfl, rfl⟩
theorem built55 : Try.prog.built 55 [] = some (vals .u8 (zs 6)) := by kernel_rfl
theorem arr55 : ArrTy Try.prog 55 6 := ⟨_, Try.underlying55, by kernel_rfl, by kernel_rfl⟩
theorem agg56 : AggTy Try.prog 56 6 := ⟨by kernel_rfl, by kernel_rfl⟩
theorem zero56 : ZeroTy Try.prog 56 (vals .u8 (zs 6)) := ⟨.agg (vals .u8 (zs 6)), by kernel_rfl, rfl⟩
theorem built56 : Try.prog.built 56 [] = some (vals .u8 (zs 6)) := by kernel_rfl
theorem arr56 : ArrTy Try.prog 56 6 := ⟨_, Try.underlying56, by kernel_rfl, by kernel_rfl⟩
theorem agg66 : AggTy Try.prog 66 24 := ⟨by kernel_rfl, by kernel_rfl⟩
theorem zero66 : ZeroTy Try.prog 66 (vals .u8 (zs 24)) := ⟨.agg (vals .u8 (zs 24)), by kernel_rfl, rfl⟩
theorem built66 : Try.prog.built 66 [] = some (vals .u8 (zs 24)) := by kernel_rfl
theorem arr66 : ArrTy Try.prog 66 24 := ⟨_, Try.underlying66, by kernel_rfl, by kernel_rfl⟩
theorem agg67 : AggTy Try.prog 67 24 := ⟨by kernel_rfl, by kernel_rfl⟩
theorem zero67 : ZeroTy Try.prog 67 (vals .u8 (zs 24)) := ⟨.agg (vals .u8 (zs 24)), by kernel_rfl, rfl⟩
theorem built67 : Try.prog.built 67 [] = some (vals .u8 (zs 24)) := by kernel_rfl
theorem arr67 : ArrTy Try.prog 67 24 := ⟨_, Try.underlying67, by kernel_rfl, by kernel_rfl⟩
theorem agg102 : AggTy Try.prog 102 6 := ⟨by kernel_rfl, by kernel_rfl⟩
theorem zero102 : ZeroTy Try.prog 102 (vals .i64 (zs 6)) := ⟨.agg (vals .i64 (zs 6)), by kernel_rfl, rfl⟩
theorem built102 : Try.prog.built 102 [] = some (vals .i64 (zs 6)) := by kernel_rfl
theorem arr102 : ArrTy Try.prog 102 6 := ⟨_, Try.underlying102, by kernel_rfl, by kernel_rfl⟩
theorem agg104 : AggTy Try.prog 104 6 := ⟨by kernel_rfl, by kernel_rfl⟩
theorem zero104 : ZeroTy Try.prog 104 (vals .i64 (zs 6)) := ⟨.agg (vals .i64 (zs 6)), by kernel_rfl, rfl⟩
theorem built104 : Try.prog.built 104 [] = some (vals .i64 (zs 6)) := by kernel_rfl
theorem arr104 : ArrTy Try.prog 104 6 := ⟨_, Try.underlying104, by kernel_rfl, by kernel_rfl⟩
theorem one2 : OneTy Try.prog 2 := ⟨by kernel_rfl, by kernel_rfl⟩
theorem zero2 : ZeroTy Try.prog 2 (vals .i64 [0]) := ⟨.int .i64 0, by kernel_rfl, rfl⟩
theorem one3 : OneTy Try.prog 3 := ⟨by kernel_rfl, by kernel_rfl⟩
theorem zero3 : ZeroTy Try.prog 3 (vals .i64 [0]) := ⟨.int .i64 0, by kernel_rfl, rfl⟩
theorem one5 : OneTy Try.prog 5 := ⟨by kernel_rfl, by kernel_rfl⟩
theorem zero5 : ZeroTy Try.prog 5 (vals .u8 [0]) := ⟨.int .u8 0, by kernel_rfl, rfl⟩
end Go.Proofs.Ytodgnbcfihifiaa.Arr
