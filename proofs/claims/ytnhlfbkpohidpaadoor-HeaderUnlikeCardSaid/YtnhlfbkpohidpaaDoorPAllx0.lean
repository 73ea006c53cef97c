-- written by a program of the session (a turned copy of the print)
import Derived.Test.YtnhlfbkpohidpaaDoorProg
import Derived.Below
import Derived.Deep.Draws
import Derived.Deep.AppendLies
import Derived.Maps.AppendAt
import Derived.OwnWalk
import Derived.Laws.BytesArg
import Derived.Laws.MakeOwn
import Derived.Laws.OwnMore
import Derived.Deep.OwnRows
import Derived.Tactics
import Derived.Lib.ConvBytes
import Derived.Laws.Slices
import Derived.WalkKit
import Derived.KernelRfl
import Derived.RowKit3
import Derived.Deep.LoopGhost
import Derived.Deep.QuietTactic
import Derived.BigQuiet
import Derived.WideLaws
import Derived.Deep.DeepCutAuto
import Derived.Deep.CutBlock
import Derived.Deep.RegionHeld3
import Derived.Laws.Rows
import Derived.Lib.AppendStr
import Derived.ArgAppend
import Derived.Laws.IdiomCopy
import Derived.OrdersHeld
import Derived.Laws.BitsLemmas
import Derived.RowKit
import Derived.Test.YtnhlfbkpohidpaaDoorWWords
import Derived.Test.YtnhlfbkpohidpaaDoorWLast
import Derived.Test.YtnhlfbkpohidpaaDoorWTab
import Derived.Test.YtnhlfbkpohidpaaDoorWFour
import Derived.Test.YtnhlfbkpohidpaaDoorWQPut
import Derived.Test.YtnhlfbkpohidpaaDoorWApart
import Derived.Test.YtnhlfbkpohidpaaDoorWArr
import Derived.Test.YtnhlfbkpohidpaaDoorWZeros
import Derived.Test.YtnhlfbkpohidpaaDoorWFoot
import Derived.Test.YtnhlfbkpohidpaaDoorWKept
import Derived.Test.YtnhlfbkpohidpaaDoorWShare
import Derived.Test.YtnhlfbkpohidpaaDoorWN
import Derived.Test.YtnhlfbkpohidpaaDoorWFootNe
import Derived.Test.YtnhlfbkpohidpaaDoorWAt
import Derived.Test.YtnhlfbkpohidpaaDoorWEqStruct
import Derived.Test.YtnhlfbkpohidpaaDoorWRepsOne
import Derived.Test.YtnhlfbkpohidpaaDoorWInv
import Derived.Test.YtnhlfbkpohidpaaDoorWInvWords
import Derived.Test.YtnhlfbkpohidpaaDoorWGuard
import Derived.Test.YtnhlfbkpohidpaaDoorWNEv
import Derived.Test.YtnhlfbkpohidpaaDoorWMore
namespace Go.Proofs.YtnhlfbkpohidpaaDoor.PAll
open Go.RowKit Go.Proofs.YtnhlfbkpohidpaaDoorW.PrintWords Go.Proofs.YtnhlfbkpohidpaaDoorW.PrintLast Go.Proofs.YtnhlfbkpohidpaaDoorW.PrintMore
attribute [local go_sem] max2_int min2_int max_two min_two max_three min_three max_four min_four   -- for this text's walks alone
set_option linter.unusedVariables false
set_option linter.unusedSimpArgs false



def errW : Option Int → Value
  | none => .nilIface
  | some c => .iface 0 (.int .i64 c)
theorem errW_none : errW none = .nilIface := rfl
theorem errW_some (c : Int) : errW (some c) = .iface 0 (.int .i64 c) := rfl

theorem reads_cast {α : Type} {R : α → List Value → Prop} {size : Nat} {w : World} {A : Option Addr} {n m : Nat} {ps : List α} (e : n = m) (h : ReadsRow R size w A n ps) : ReadsRow R size w A m ps := e ▸ h
theorem info5 : (Tryd.prog.info? 5).map (fun i => (i.zero, i.size, i.bytes)) = some (some (.int .u8 0), 1, 1) := by kernel_rfl
-- the values' own types

end Go.Proofs.YtnhlfbkpohidpaaDoor.PAll
