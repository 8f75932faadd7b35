-- Printed by this session's program pp.py.
import Derived.Test.YtejhagejjogbaaaDoorPn0
import Derived.Test.YtejhagejjogbaaaDoorPn1
import Derived.Test.YtejhagejjogbaaaDoorPn2
import Derived.Test.YtejhagejjogbaaaDoorPn3
import Derived.Test.YtejhagejjogbaaaDoorPn4
import Derived.Test.YtejhagejjogbaaaDoorPn5
import Derived.Test.YtejhagejjogbaaaDoorPn6
namespace Go.Proofs.YtejhagejjogbaaaDoor.Pn
open Go.RowKit Go.Proofs.YtejhagejjogbaaaDoorW.PrintWords Go.Proofs.YtejhagejjogbaaaDoorW.PrintLast Go.Proofs.YtejhagejjogbaaaDoorW.PrintMore Go.Proofs.YtejhagejjogbaaaDoor.Given
attribute [local go_sem] max2_int min2_int max_two min_two max_three min_three max_four min_four   -- for this text's walks alone
set_option linter.unusedVariables false
set_option linter.unusedSimpArgs false

end Go.Proofs.YtejhagejjogbaaaDoor.Pn
