import Derived.Test.YtejhagejjogbaaaDoorKfGiven
namespace Go.Proofs.YtejhagejjogbaaaDoor.And7
open Go.RowKit Go.Proofs.YtejhagejjogbaaaDoorW.PrintWords
end Go.Proofs.YtejhagejjogbaaaDoor.And7
