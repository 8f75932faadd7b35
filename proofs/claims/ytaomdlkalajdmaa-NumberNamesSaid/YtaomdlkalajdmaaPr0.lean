-- Printed by this session's program pp.py.
import Derived.Test.YtaomdlkalajdmaaProg
import Derived.Below
import Derived.Deep.Draws
import Derived.Deep.AppendLies
import Derived.Maps.AppendAt
import Derived.OwnWalk
import Derived.Laws.BytesArg
import Derived.Laws.MakeOwn
import Derived.Laws.OwnMore
import Derived.Deep.OwnRows
import Derived.Tactics
import Derived.Lib.ConvBytes
import Derived.Laws.Slices
import Derived.WalkKit
import Derived.KernelRfl
import Derived.RowKit3
import Derived.Deep.LoopGhost
import Derived.Deep.QuietTactic
import Derived.BigQuiet
import Derived.WideLaws
import Derived.Deep.DeepCutAuto
import Derived.Deep.CutBlock
import Derived.Deep.RegionHeld3
import Derived.Laws.Rows
import Derived.Lib.AppendStr
import Derived.ArgAppend
import Derived.Laws.IdiomCopy
import Derived.OrdersHeld
import Derived.Laws.BitsLemmas
import Derived.RowKit
import Derived.Test.YtaomdlkalajdmaaGiven
import Derived.Test.YtaomdlkalajdmaaWWords
import Derived.Test.YtaomdlkalajdmaaWLast
import Derived.Test.YtaomdlkalajdmaaWTab
import Derived.Test.YtaomdlkalajdmaaWFour
import Derived.Test.YtaomdlkalajdmaaWQPut
import Derived.Test.YtaomdlkalajdmaaWApart
import Derived.Test.YtaomdlkalajdmaaWArr
import Derived.Test.YtaomdlkalajdmaaWZeros
import Derived.Test.YtaomdlkalajdmaaWFoot
import Derived.Test.YtaomdlkalajdmaaWKept
import Derived.Test.YtaomdlkalajdmaaWShare
import Derived.Test.YtaomdlkalajdmaaWN
import Derived.Test.YtaomdlkalajdmaaWFootNe
import Derived.Test.YtaomdlkalajdmaaWAt
import Derived.Test.YtaomdlkalajdmaaWEqStruct
import Derived.Test.YtaomdlkalajdmaaWRepsOne
import Derived.Test.YtaomdlkalajdmaaWInv
import Derived.Test.YtaomdlkalajdmaaWInvWords
import Derived.Test.YtaomdlkalajdmaaWGuard
import Derived.Test.YtaomdlkalajdmaaWNEv
import Derived.Test.YtaomdlkalajdmaaWMore
namespace Go.Proofs.Ytaomdlkalajdmaa.Pr
open Go.RowKit Go.Proofs.YtaomdlkalajdmaaW.PrintWords Go.Proofs.YtaomdlkalajdmaaW.PrintLast Go.Proofs.YtaomdlkalajdmaaW.PrintMore Go.Proofs.Ytaomdlkalajdmaa.Given
attribute [local go_sem] max2_int min2_int max_two min_two max_three min_three max_four min_four   -- for this text's walks alone
set_option linter.unusedVariables false
set_option linter.unusedSimpArgs false



def errW : Option Int → Value
  | none => .nilIface
  | some c => .iface 0 (.int .i64 c)
theorem errW_none : errW none = .nilIface := rfl
theorem errW_some (c : Int) : errW (some c) = .iface 0 (.int .i64 c) := rfl

theorem info5 : (Try.prog.info? 5).map (fun i => (i.zero, i.size, i.bytes)) = some (some (.int .u8 0), 1, 1) := by kernel_rfl
-- the values' own types

end Go.Proofs.Ytaomdlkalajdmaa.Pr
