/- The example of the chapter; names; numbers by each base. -/
import Derived.Test.YtaomdlkalajdmaaNum2
namespace Go.Proofs.Ytaomdlkalajdmaa.Num
open Go.RowKit Go.Proofs.Ytaomdlkalajdmaa.Given Go.Proofs.Ytaomdlkalajdmaa.Pr Go.Proofs.YtaomdlkalajdmaaW.PrintWords Go.Proofs.YtaomdlkalajdmaaW.PrintLast
theorem alive_ev : Ev (fun k => pidginlaw03_alive.f k) true := Ev.of pidginlaw03_alive.mono (k := 40) (by decide +kernel)
end Go.Proofs.Ytaomdlkalajdmaa.Num
