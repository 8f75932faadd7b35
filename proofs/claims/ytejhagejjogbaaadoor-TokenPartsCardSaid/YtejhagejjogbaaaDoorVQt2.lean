import Derived.Test.YtejhagejjogbaaaDoorVNum
namespace Go.Proofs.YtejhagejjogbaaaDoor.Num
open Go.RowKit Go.Proofs.YtejhagejjogbaaaDoor.Given Go.Proofs.YtejhagejjogbaaaDoor.Pn Go.Proofs.YtejhagejjogbaaaDoorW.PrintWords Go.Proofs.YtejhagejjogbaaaDoorW.PrintLast
set_option linter.unusedSimpArgs false
theorem toL (s : ByteArray) : s.toList = L s := Lib.toList_data s
end Go.Proofs.YtejhagejjogbaaaDoor.Num
