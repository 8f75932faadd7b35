import Derived.Test.YtejhagejjogbaaaDoorKgRef9
namespace Go.Proofs.YtejhagejjogbaaaDoor.Pl9
open Go.RowKit Go.Proofs.YtejhagejjogbaaaDoorW.PrintWords Go.Proofs.YtejhagejjogbaaaDoor.Lay9 Go.Proofs.YtejhagejjogbaaaDoor.Words9 Go.Proofs.YtejhagejjogbaaaDoor.Codes9 Go.Proofs.YtejhagejjogbaaaDoor.Fun9 Go.Proofs.YtejhagejjogbaaaDoor.Ref9
set_option linter.unusedVariables false
set_option linter.unusedSimpArgs false
theorem tl_eq (a b : ByteArray) : a.toList = b.toList ↔ a = b := by
  rw [Lib.toList_data, Lib.toList_data]
  constructor
  · intro h
    cases a with | mk a => cases b with | mk b => exact congrArg _ (Array.toList_inj.1 h)
  · intro h; rw [h]
theorem tl_nil (a : ByteArray) : a.toList = [] ↔ a = ⟨#[]⟩ := by
  rw [← tl_eq]; rw [Lib.toList_data ⟨#[]⟩]
end Go.Proofs.YtejhagejjogbaaaDoor.Pl9
