import Derived.Test.YtejhagejjogbaaaDoorKbM14
import Derived.Test.YtejhagejjogbaaaDoorKbM8
namespace Go.Proofs.YtejhagejjogbaaaDoor.Ee
open Go.RowKit Go.Proofs.YtejhagejjogbaaaDoorW.PrintWords Go.Proofs.YtejhagejjogbaaaDoorW.PrintLast Go.Proofs.YtejhagejjogbaaaDoor.Qg
set_option maxRecDepth 100000
theorem alive5 : Ev (fun k => pidginlaw05_alive.f k) true := Ev.of pidginlaw05_alive.mono (k := 40) (by decide +kernel)
end Go.Proofs.YtejhagejjogbaaaDoor.Ee
