import Derived.Test.YtejhagejjogbaaaDoorKgDoc9
import Derived.Test.YtejhagejjogbaaaDoorKgRc9
namespace Go.Proofs.YtejhagejjogbaaaDoor.Fns9
open Go.RowKit Go.Proofs.YtejhagejjogbaaaDoorW.PrintWords Go.Proofs.YtejhagejjogbaaaDoorW.PrintLast Go.Proofs.YtejhagejjogbaaaDoorW.PrintMore Go.Proofs.YtejhagejjogbaaaDoor.Tab9 Go.Proofs.YtejhagejjogbaaaDoor.Words9 Go.Proofs.YtejhagejjogbaaaDoor.Codes9 Go.Proofs.YtejhagejjogbaaaDoor.Lay9 Go.Proofs.YtejhagejjogbaaaDoor.Fun9 Go.Proofs.YtejhagejjogbaaaDoor.Ref9 Go.Proofs.YtejhagejjogbaaaDoor.Pl9 Go.Proofs.YtejhagejjogbaaaDoor.Op9 Go.Proofs.YtejhagejjogbaaaDoor.Doc9 Go.Proofs.YtejhagejjogbaaaDoor.Rc9
set_option linter.unusedVariables false
def text86_Name.f (a0 : Int) : Option ByteArray := if a0 ≤ 9223372036854775807 then some (nameB a0) else none
theorem text86_Name.calls (a0 : Int) (r : ByteArray) (w : World) (hG : Aside0 (G9 w)) (h : text86_Name.f a0 = some r) : Calls Tryd.prog 53 #[.int .i64 a0] w fun e w' => e = .returned (.string r) ∧ Below w.heap.size w w' := by
  unfold text86_Name.f at h
  by_cases hc : a0 ≤ 9223372036854775807
  · rw [if_pos hc] at h; obtain rfl := Option.some.inj h; exact Name_calls a0 hc w hG.out
  · rw [if_neg hc] at h; cases h
def pidginlaw09_alive.f : Option Bool := some true
theorem pidginlaw09_alive.calls (r : Bool) (w : World) (hG : Aside0 (G9 w)) (h : pidginlaw09_alive.f = some r) : Calls Tryd.prog 52 #[] w fun e w' => e = .returned (.bool r) ∧ Below w.heap.size w w' := by
  obtain rfl := Option.some.inj h
  exact alive_calls w hG.out
end Go.Proofs.YtejhagejjogbaaaDoor.Fns9
