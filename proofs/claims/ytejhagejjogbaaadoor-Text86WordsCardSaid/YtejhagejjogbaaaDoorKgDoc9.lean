import Derived.Test.YtejhagejjogbaaaDoorKgOp9
import Derived.Test.YtejhagejjogbaaaDoorKgRa1
namespace Go.Proofs.YtejhagejjogbaaaDoor.Doc9
open Go.RowKit Go.Proofs.YtejhagejjogbaaaDoorW.PrintWords Go.Proofs.YtejhagejjogbaaaDoorW.PrintLast Go.Proofs.YtejhagejjogbaaaDoorW.PrintMore Go.Proofs.YtejhagejjogbaaaDoor.Tab9 Go.Proofs.YtejhagejjogbaaaDoor.Lay9 Go.Proofs.YtejhagejjogbaaaDoor.Words9 Go.Proofs.YtejhagejjogbaaaDoor.Codes9 Go.Proofs.YtejhagejjogbaaaDoor.Fun9 Go.Proofs.YtejhagejjogbaaaDoor.Ref9 Go.Proofs.YtejhagejjogbaaaDoor.Pl9 Go.Proofs.YtejhagejjogbaaaDoor.Ra
set_option linter.unusedVariables false
set_option linter.unusedSimpArgs false
end Go.Proofs.YtejhagejjogbaaaDoor.Doc9
