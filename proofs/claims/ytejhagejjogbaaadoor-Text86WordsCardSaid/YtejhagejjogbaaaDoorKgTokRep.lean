import Derived.Test.YtejhagejjogbaaaDoorKgGiven
import Derived.Test.YtejhagejjogbaaaDoorKgShelf3
namespace Go.Proofs.YtejhagejjogbaaaDoor.TokRep
open Go.RowKit Go.Proofs.YtejhagejjogbaaaDoorW.PrintWords Go.Proofs.YtejhagejjogbaaaDoorW.PrintLast Go.Proofs.YtejhagejjogbaaaDoorW.PrintMore Go.Proofs.YtejhagejjogbaaaDoor.Given
def strings_Replace.f (a0 a1 a2 : ByteArray) (a3 : Int) : Option ByteArray :=
  if a0.size < 4294967281 ∧ 1 ≤ a1.size ∧ a0.size + Lib.countB a0 a1 * a2.size ≤ 140737488355328 then some ⟨(Lib.replace a0.data.toList a1.data.toList a2.data.toList a3).toArray⟩ else none
theorem strings_Replace.calls (a0 a1 a2 : ByteArray) (a3 : Int) (r : ByteArray) (w : World) (hG : Aside0 (G0 w)) (h : strings_Replace.f a0 a1 a2 a3 = some r) :
    Calls Tryd.prog 86 #[.string a0, .string a1, .string a2, .int .i64 a3] w fun e w' => e = .returned (.string r) ∧ Below w.heap.size w w' := by
  unfold strings_Replace.f at h
  by_cases hs : a0.size < 4294967281 ∧ 1 ≤ a1.size ∧ a0.size + Lib.countB a0 a1 * a2.size ≤ 140737488355328
  · rw [if_pos hs] at h
    obtain rfl := Option.some.inj h
    obtain ⟨m, hm⟩ := hG.out
    exact Tryd.strings_Replace a0 a1 a2 a3 m w hs.1 hm hs.2.1 hs.2.2
  · rw [if_neg hs] at h; cases h
end Go.Proofs.YtejhagejjogbaaaDoor.TokRep
