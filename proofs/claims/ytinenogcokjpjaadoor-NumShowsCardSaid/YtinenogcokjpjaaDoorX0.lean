-- printed by wip/tools/printx.py over the translation; Lean checks it
import Derived.Test.YtinenogcokjpjaaDoorProg
import Derived.Below
import Derived.Deep.Draws
import Derived.Deep.AppendLies
import Derived.Maps.AppendAt
import Derived.OwnWalk
import Derived.Laws.BytesArg
import Derived.Laws.MakeOwn
import Derived.Laws.OwnMore
import Derived.Deep.OwnRows
import Derived.Tactics
import Derived.Lib.ConvBytes
import Derived.Laws.Slices
import Derived.WalkKit
import Derived.KernelRfl
import Derived.RowKit3
import Derived.Deep.LoopGhost
import Derived.Deep.QuietTactic
import Derived.BigQuiet
import Derived.WideLaws
import Derived.Deep.DeepCutAuto
import Derived.Deep.CutBlock
import Derived.Deep.RegionHeld3
import Derived.Laws.Rows
import Derived.Lib.AppendStr
import Derived.ArgAppend
import Derived.Laws.IdiomCopy
import Derived.OrdersHeld
import Derived.Laws.BitsLemmas
import Derived.RowKit
import Derived.Test.YtinenogcokjpjaaDoorWWords
import Derived.Test.YtinenogcokjpjaaDoorWLast
import Derived.Test.YtinenogcokjpjaaDoorWTab
import Derived.Test.YtinenogcokjpjaaDoorWFour
import Derived.Test.YtinenogcokjpjaaDoorWQPut
import Derived.Test.YtinenogcokjpjaaDoorWApart
import Derived.Test.YtinenogcokjpjaaDoorWArr
import Derived.Test.YtinenogcokjpjaaDoorWZeros
import Derived.Test.YtinenogcokjpjaaDoorWFoot
import Derived.Test.YtinenogcokjpjaaDoorWKept
import Derived.Test.YtinenogcokjpjaaDoorWShare
import Derived.Test.YtinenogcokjpjaaDoorWN
import Derived.Test.YtinenogcokjpjaaDoorWFootNe
import Derived.Test.YtinenogcokjpjaaDoorWAt
import Derived.Test.YtinenogcokjpjaaDoorWEqStruct
import Derived.Test.YtinenogcokjpjaaDoorWRepsOne
import Derived.Test.YtinenogcokjpjaaDoorWInv
import Derived.Test.YtinenogcokjpjaaDoorWInvWords
import Derived.Test.YtinenogcokjpjaaDoorWGuard
import Derived.Test.YtinenogcokjpjaaDoorWNEv
import Derived.Test.YtinenogcokjpjaaDoorWMore
namespace Go.Proofs.YtinenogcokjpjaaDoor.X
open Go.RowKit Go.Proofs.YtinenogcokjpjaaDoorW.PrintWords Go.Proofs.YtinenogcokjpjaaDoorW.PrintLast Go.Proofs.YtinenogcokjpjaaDoorW.PrintMore
attribute [local go_sem] max2_int min2_int max_two min_two max_three min_three max_four min_four   -- for this text's walks alone
set_option linter.unusedVariables false
set_option linter.unusedSimpArgs false



def errW : Option Int → Value
  | none => .nilIface
  | some c => .iface 0 (.int .i64 c)
theorem errW_none : errW none = .nilIface := rfl
theorem errW_some (c : Int) : errW (some c) = .iface 0 (.int .i64 c) := rfl

theorem info5 : (Tryd.prog.info? 5).map (fun i => (i.zero, i.size, i.bytes)) = some (some (.int .u8 0), 1, 1) := by kernel_rfl
-- the values' own types

end Go.Proofs.YtinenogcokjpjaaDoor.X
