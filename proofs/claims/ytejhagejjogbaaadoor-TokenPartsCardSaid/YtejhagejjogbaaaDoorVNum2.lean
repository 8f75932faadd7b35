import Derived.Test.YtejhagejjogbaaaDoorVNum
namespace Go.Proofs.YtejhagejjogbaaaDoor.Num
open Go.RowKit Go.Proofs.YtejhagejjogbaaaDoor.Given Go.Proofs.YtejhagejjogbaaaDoor.Pn Go.Proofs.YtejhagejjogbaaaDoorW.PrintWords Go.Proofs.YtejhagejjogbaaaDoorW.PrintLast
def hc (d : Nat) : UInt8 := if d < 10 then UInt8.ofNat (48 + d) else UInt8.ofNat (55 + d)
end Go.Proofs.YtejhagejjogbaaaDoor.Num
