-- Printed by this session's program pp.py.
import Derived.Test.YtejhagejjogbaaaDoorProg
import Derived.Below
import Derived.Deep.Draws
import Derived.Deep.AppendLies
import Derived.Maps.AppendAt
import Derived.OwnWalk
import Derived.Laws.BytesArg
import Derived.Laws.MakeOwn
import Derived.Laws.OwnMore
import Derived.Deep.OwnRows
import Derived.Tactics
import Derived.Lib.ConvBytes
import Derived.Laws.Slices
import Derived.WalkKit
import Derived.KernelRfl
import Derived.RowKit3
import Derived.Deep.LoopGhost
import Derived.Deep.QuietTactic
import Derived.BigQuiet
import Derived.WideLaws
import Derived.Deep.DeepCutAuto
import Derived.Deep.CutBlock
import Derived.Deep.RegionHeld3
import Derived.Laws.Rows
import Derived.Lib.AppendStr
import Derived.ArgAppend
import Derived.Laws.IdiomCopy
import Derived.OrdersHeld
import Derived.Laws.BitsLemmas
import Derived.RowKit
import Derived.Test.YtejhagejjogbaaaDoorGiven
import Derived.Test.YtejhagejjogbaaaDoorWWords
import Derived.Test.YtejhagejjogbaaaDoorWLast
import Derived.Test.YtejhagejjogbaaaDoorWTab
import Derived.Test.YtejhagejjogbaaaDoorWFour
import Derived.Test.YtejhagejjogbaaaDoorWQPut
import Derived.Test.YtejhagejjogbaaaDoorWApart
import Derived.Test.YtejhagejjogbaaaDoorWArr
import Derived.Test.YtejhagejjogbaaaDoorWZeros
import Derived.Test.YtejhagejjogbaaaDoorWFoot
import Derived.Test.YtejhagejjogbaaaDoorWKept
import Derived.Test.YtejhagejjogbaaaDoorWShare
import Derived.Test.YtejhagejjogbaaaDoorWN
import Derived.Test.YtejhagejjogbaaaDoorWFootNe
import Derived.Test.YtejhagejjogbaaaDoorWAt
import Derived.Test.YtejhagejjogbaaaDoorWEqStruct
import Derived.Test.YtejhagejjogbaaaDoorWRepsOne
import Derived.Test.YtejhagejjogbaaaDoorWInv
import Derived.Test.YtejhagejjogbaaaDoorWInvWords
import Derived.Test.YtejhagejjogbaaaDoorWGuard
import Derived.Test.YtejhagejjogbaaaDoorWNEv
import Derived.Test.YtejhagejjogbaaaDoorWMore
namespace Go.Proofs.YtejhagejjogbaaaDoor.Pn
open Go.RowKit Go.Proofs.YtejhagejjogbaaaDoorW.PrintWords Go.Proofs.YtejhagejjogbaaaDoorW.PrintLast Go.Proofs.YtejhagejjogbaaaDoorW.PrintMore Go.Proofs.YtejhagejjogbaaaDoor.Given
attribute [local go_sem] max2_int min2_int max_two min_two max_three min_three max_four min_four   -- for this text's walks alone
set_option linter.unusedVariables false
set_option linter.unusedSimpArgs false



def errW : Option Int → Value
  | none => .nilIface
  | some c => .iface 0 (.int .i64 c)
theorem errW_none : errW none = .nilIface := rfl
theorem errW_some (c : Int) : errW (some c) = .iface 0 (.int .i64 c) := rfl

theorem info5 : (Tryd.prog.info? 5).map (fun i => (i.zero, i.size, i.bytes)) = some (some (.int .u8 0), 1, 1) := by kernel_rfl
-- the values' own types

end Go.Proofs.YtejhagejjogbaaaDoor.Pn
