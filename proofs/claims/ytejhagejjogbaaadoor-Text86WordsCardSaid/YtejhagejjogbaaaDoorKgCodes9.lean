import Derived.Test.YtejhagejjogbaaaDoorKgWords9
import Derived.Test.YtejhagejjogbaaaDoorKgIx0
namespace Go.Proofs.YtejhagejjogbaaaDoor.Codes9
open Go.RowKit Go.Proofs.YtejhagejjogbaaaDoorW.PrintWords Go.Proofs.YtejhagejjogbaaaDoorW.PrintLast Go.Proofs.YtejhagejjogbaaaDoorW.PrintMore Go.Proofs.YtejhagejjogbaaaDoor.Tab9 Go.Proofs.YtejhagejjogbaaaDoor.Lay9 Go.Proofs.YtejhagejjogbaaaDoor.Words9 Go.Proofs.YtejhagejjogbaaaDoor.Ix
set_option linter.unusedVariables false
set_option linter.unusedSimpArgs false
theorem w64 {n : Int} (h0 : -9223372036854775808 ≤ n) (h1 : n ≤ 9223372036854775807) : wrap64 n = n := by
  unfold wrap64; omega
section
variable (l : List ByteArray) (g : Nat) (from_ : Int) (s : ByteArray) (w : World) (k : Nat)
end
end Go.Proofs.YtejhagejjogbaaaDoor.Codes9
