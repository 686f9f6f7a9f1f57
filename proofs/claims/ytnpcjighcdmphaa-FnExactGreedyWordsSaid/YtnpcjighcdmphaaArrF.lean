/- Facts of this program's types: which are of many cells, their zeros, where their fields lie. No condition. -/
import Derived.Test.YtnpcjighcdmphaaProg
import Derived.Below
import Derived.Deep.Draws
import Derived.Deep.AppendLies
import Derived.Maps.AppendAt
import Derived.OwnWalk
import Derived.Laws.BytesArg
import Derived.Laws.MakeOwn
import Derived.Laws.OwnMore
import Derived.Deep.OwnRows
import Derived.Tactics
import Derived.Lib.ConvBytes
import Derived.Laws.Slices
import Derived.WalkKit
import Derived.KernelRfl
import Derived.RowKit3
import Derived.Deep.LoopGhost
import Derived.Deep.QuietTactic
import Derived.BigQuiet
import Derived.WideLaws
import Derived.Deep.DeepCutAuto
import Derived.Deep.CutBlock
import Derived.Deep.RegionHeld3
import Derived.Laws.Rows
import Derived.Lib.AppendStr
import Derived.ArgAppend
import Derived.Laws.IdiomCopy
import Derived.OrdersHeld
import Derived.Laws.BitsLemmas
import Derived.RowKit
import Derived.WalkSpells
import Derived.Test.YtnpcjighcdmphaaWWords
import Derived.Test.YtnpcjighcdmphaaWLast
import Derived.Test.YtnpcjighcdmphaaWTab
import Derived.Test.YtnpcjighcdmphaaWFour
import Derived.Test.YtnpcjighcdmphaaWQPut
import Derived.Test.YtnpcjighcdmphaaWApart
import Derived.Test.YtnpcjighcdmphaaWArr
import Derived.Test.YtnpcjighcdmphaaWZeros
import Derived.Test.YtnpcjighcdmphaaWFoot
import Derived.Test.YtnpcjighcdmphaaWKept
import Derived.Test.YtnpcjighcdmphaaWShare
import Derived.Test.YtnpcjighcdmphaaWN
import Derived.Test.YtnpcjighcdmphaaWFootNe
import Derived.Test.YtnpcjighcdmphaaWAt
import Derived.Test.YtnpcjighcdmphaaWEqStruct
import Derived.Test.YtnpcjighcdmphaaWRepsOne
import Derived.Test.YtnpcjighcdmphaaWInv
import Derived.Test.YtnpcjighcdmphaaWInvWords
import Derived.Test.YtnpcjighcdmphaaWGuard
import Derived.Test.YtnpcjighcdmphaaWNEv
import Derived.Test.YtnpcjighcdmphaaWMore
import Derived.Test.YtnpcjighcdmphaaU
import Derived.Test.YtnpcjighcdmphaaArr
namespace Go.Proofs.Ytnpcjighcdmphaa.Arr
open Go.RowKit Go.Proofs.YtnpcjighcdmphaaW.PrintWords Go.Proofs.Ytnpcjighcdmphaa.U
set_option maxRecDepth 100000
theorem one2 : OneTy Try.prog 2 := ⟨by kernel_rfl, by kernel_rfl⟩
theorem zero2 : ZeroTy Try.prog 2 (vals .i64 [0]) := ⟨.int .i64 0, by kernel_rfl, rfl⟩
theorem one3 : OneTy Try.prog 3 := ⟨by kernel_rfl, by kernel_rfl⟩
theorem zero3 : ZeroTy Try.prog 3 (vals .i64 [0]) := ⟨.int .i64 0, by kernel_rfl, rfl⟩
theorem one5 : OneTy Try.prog 5 := ⟨by kernel_rfl, by kernel_rfl⟩
theorem zero5 : ZeroTy Try.prog 5 (vals .u8 [0]) := ⟨.int .u8 0, by kernel_rfl, rfl⟩
end Go.Proofs.Ytnpcjighcdmphaa.Arr
