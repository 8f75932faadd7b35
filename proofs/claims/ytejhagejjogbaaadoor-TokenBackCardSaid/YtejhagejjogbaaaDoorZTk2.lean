import Derived.Test.YtejhagejjogbaaaDoorZTk1
namespace Go.Proofs.YtejhagejjogbaaaDoor.Tk
open Go.RowKit Go.Proofs.YtejhagejjogbaaaDoor.Given Go.Proofs.YtejhagejjogbaaaDoor.Pn Go.Proofs.YtejhagejjogbaaaDoor.Pa Go.Proofs.YtejhagejjogbaaaDoor.Pb Go.Proofs.YtejhagejjogbaaaDoor.Num Go.Proofs.YtejhagejjogbaaaDoor.TokSpan Go.Proofs.YtejhagejjogbaaaDoorW.PrintWords Go.Proofs.YtejhagejjogbaaaDoorW.PrintLast
set_option linter.unusedSimpArgs false
set_option linter.unusedVariables false
theorem beg_p1 (c : UInt8) (h : begB c = true) : p1 c = true := by simp [p1, h]
theorem dig_p2 (c : UInt8) (h : digB c = true) : p2 c = true := by simp [p2, h]
end Go.Proofs.YtejhagejjogbaaaDoor.Tk
