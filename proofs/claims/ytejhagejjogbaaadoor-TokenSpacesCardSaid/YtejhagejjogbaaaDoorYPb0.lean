import Derived.Test.YtejhagejjogbaaaDoorProg
import Derived.Below
import Derived.Deep.Draws
import Derived.Deep.AppendLies
import Derived.Maps.AppendAt
import Derived.OwnWalk
import Derived.Laws.BytesArg
import Derived.Laws.MakeOwn
import Derived.Laws.OwnMore
import Derived.Deep.OwnRows
import Derived.Tactics
import Derived.Lib.ConvBytes
import Derived.Laws.Slices
import Derived.WalkKit
import Derived.KernelRfl
import Derived.RowKit3
import Derived.Deep.LoopGhost
import Derived.Deep.QuietTactic
import Derived.BigQuiet
import Derived.WideLaws
import Derived.Deep.DeepCutAuto
import Derived.Deep.CutBlock
import Derived.Deep.RegionHeld3
import Derived.Laws.Rows
import Derived.Lib.AppendStr
import Derived.ArgAppend
import Derived.Laws.IdiomCopy
import Derived.OrdersHeld
import Derived.Laws.BitsLemmas
import Derived.RowKit
import Derived.WalkMore
import Derived.Test.YtejhagejjogbaaaDoorYPa0
import Derived.Test.YtejhagejjogbaaaDoorYPa1
import Derived.Test.YtejhagejjogbaaaDoorYPa2
import Derived.Test.YtejhagejjogbaaaDoorYPa3
import Derived.Test.YtejhagejjogbaaaDoorYPn0
import Derived.Test.YtejhagejjogbaaaDoorYPn4
import Derived.Test.YtejhagejjogbaaaDoorYTokSpan
import Derived.Test.YtejhagejjogbaaaDoorYWWords
import Derived.Test.YtejhagejjogbaaaDoorYWLast
import Derived.Test.YtejhagejjogbaaaDoorYWTab
import Derived.Test.YtejhagejjogbaaaDoorYWApart
import Derived.Test.YtejhagejjogbaaaDoorYWFoot
import Derived.Test.YtejhagejjogbaaaDoorYWKept
import Derived.Test.YtejhagejjogbaaaDoorYWShare
import Derived.Test.YtejhagejjogbaaaDoorYWN
import Derived.Test.YtejhagejjogbaaaDoorYWEqStruct
import Derived.Test.YtejhagejjogbaaaDoorYWRepsOne
import Derived.Test.YtejhagejjogbaaaDoorYWGuard
import Derived.Test.YtejhagejjogbaaaDoorYWMore
namespace Go.Proofs.YtejhagejjogbaaaDoor.Pb
open Go.RowKit Go.Proofs.YtejhagejjogbaaaDoorW.PrintWords Go.Proofs.YtejhagejjogbaaaDoorW.PrintLast Go.Proofs.YtejhagejjogbaaaDoorW.PrintMore Go.Proofs.YtejhagejjogbaaaDoor.Given Go.Proofs.YtejhagejjogbaaaDoor.TokSpan Go.Proofs.YtejhagejjogbaaaDoor.Pn Go.Proofs.YtejhagejjogbaaaDoor.Pa
attribute [local go_sem] max2_int min2_int max_two min_two max_three min_three max_four min_four   -- for this text's walks alone
set_option linter.unusedVariables false
set_option linter.unusedSimpArgs false
def errW : Option Int → Value
  | none => .nilIface
  | some c => .iface 0 (.int .i64 c)
theorem errW_none : errW none = .nilIface := rfl
theorem errW_some (c : Int) : errW (some c) = .iface 0 (.int .i64 c) := rfl
theorem info41 : (Tryd.prog.info? 41).map (fun i => (i.zero, i.size, i.bytes)) = some (some (.agg #[(.int .i64 0), (.string ⟨#[]⟩), (.int .u16 0)]), 3, 32) := by kernel_rfl
end Go.Proofs.YtejhagejjogbaaaDoor.Pb
