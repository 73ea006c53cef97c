-- written by a program of the session (a turned copy of the print)
import Derived.Test.YtgfloeaoamnbcaaProg
import Derived.Below
import Derived.Deep.Draws
import Derived.Deep.AppendLies
import Derived.Maps.AppendAt
import Derived.OwnWalk
import Derived.Laws.BytesArg
import Derived.Laws.MakeOwn
import Derived.Laws.OwnMore
import Derived.Deep.OwnRows
import Derived.Tactics
import Derived.Lib.ConvBytes
import Derived.Laws.Slices
import Derived.WalkKit
import Derived.KernelRfl
import Derived.RowKit3
import Derived.Deep.LoopGhost
import Derived.Deep.QuietTactic
import Derived.BigQuiet
import Derived.WideLaws
import Derived.Deep.DeepCutAuto
import Derived.Deep.CutBlock
import Derived.Deep.RegionHeld3
import Derived.Laws.Rows
import Derived.Lib.AppendStr
import Derived.ArgAppend
import Derived.Laws.IdiomCopy
import Derived.OrdersHeld
import Derived.Laws.BitsLemmas
import Derived.RowKit
import Derived.Test.YtgfloeaoamnbcaaWWords
import Derived.Test.YtgfloeaoamnbcaaWLast
import Derived.Test.YtgfloeaoamnbcaaWTab
import Derived.Test.YtgfloeaoamnbcaaWFour
import Derived.Test.YtgfloeaoamnbcaaWQPut
import Derived.Test.YtgfloeaoamnbcaaWApart
import Derived.Test.YtgfloeaoamnbcaaWArr
import Derived.Test.YtgfloeaoamnbcaaWZeros
import Derived.Test.YtgfloeaoamnbcaaWFoot
import Derived.Test.YtgfloeaoamnbcaaWKept
import Derived.Test.YtgfloeaoamnbcaaWShare
import Derived.Test.YtgfloeaoamnbcaaWN
import Derived.Test.YtgfloeaoamnbcaaWFootNe
import Derived.Test.YtgfloeaoamnbcaaWAt
import Derived.Test.YtgfloeaoamnbcaaWEqStruct
import Derived.Test.YtgfloeaoamnbcaaWRepsOne
import Derived.Test.YtgfloeaoamnbcaaWInv
import Derived.Test.YtgfloeaoamnbcaaWInvWords
import Derived.Test.YtgfloeaoamnbcaaWGuard
import Derived.Test.YtgfloeaoamnbcaaWNEv
import Derived.Test.YtgfloeaoamnbcaaWMore
namespace Go.Proofs.Ytgfloeaoamnbcaa.PBitsGet
open Go.RowKit Go.Proofs.YtgfloeaoamnbcaaW.PrintWords Go.Proofs.YtgfloeaoamnbcaaW.PrintLast Go.Proofs.YtgfloeaoamnbcaaW.PrintMore
attribute [local go_sem] max2_int min2_int max_two min_two max_three min_three max_four min_four   -- for this text's walks alone
set_option linter.unusedVariables false
set_option linter.unusedSimpArgs false



def errW : Option Int → Value
  | none => .nilIface
  | some c => .iface 0 (.int .i64 c)
theorem errW_none : errW none = .nilIface := rfl
theorem errW_some (c : Int) : errW (some c) = .iface 0 (.int .i64 c) := rfl

theorem reads_cast {α : Type} {R : α → List Value → Prop} {size : Nat} {w : World} {A : Option Addr} {n m : Nat} {ps : List α} (e : n = m) (h : ReadsRow R size w A n ps) : ReadsRow R size w A m ps := e ▸ h
theorem info5 : (Try.prog.info? 5).map (fun i => (i.zero, i.size, i.bytes)) = some (some (.int .u8 0), 1, 1) := by kernel_rfl
-- the values' own types

end Go.Proofs.Ytgfloeaoamnbcaa.PBitsGet
