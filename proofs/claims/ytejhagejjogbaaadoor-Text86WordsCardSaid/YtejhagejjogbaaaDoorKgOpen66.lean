import Derived.Handed
import Derived.ChangeSame
import Derived.ShutString
import Derived.OpenShut
import Derived.Test.YtejhagejjogbaaaDoorProg
import Derived.Test.YtejhagejjogbaaaDoorKgGiven
namespace Go.Proofs.YtejhagejjogbaaaDoor.Open66
open Go Go.RowKit Go.ChangeShapes Go.WideShapes Go.Proofs.YtejhagejjogbaaaDoorW.PrintWords Go.Proofs.YtejhagejjogbaaaDoorW.PrintLast
variable {H : Type} {enc : TypeId × Value → H} {w : World} {base : Nat} {spare : Nat → Bool} {held : Bool}
theorem four {α : Type} {l : List α} (h : l.length = 4) : ∃ a b c d, l = [a, b, c, d] := by
  match l, h with
  | [a, b, c, d], _ => exact ⟨a, b, c, d, rfl⟩
theorem c66 : Tryd.prog.cellsOf 66 = 4 := by kernel_rfl
theorem c3 : Tryd.prog.cellsOf 3 = 1 := by kernel_rfl
theorem c28 : Tryd.prog.cellsOf 28 = 1 := by kernel_rfl
theorem open66 {n : Nat} {cs : List Value} {x : DataW H × List MemPlace} (h : DataW.trod enc Tryd.prog w base spare held n 66 cs = some x) :
    ∃ a b c d : Int, cs = [.int .i64 a, .int .i64 b, .int .i64 c, .int .u16 d] ∧ (Lit.int .i64 a).wf = true ∧ (Lit.int .i64 b).wf = true ∧ (Lit.int .i64 c).wf = true ∧ (Lit.int .u16 d).wf = true := by
  obtain ⟨ys, n', _, _, hlen, hyl, hf⟩ := DataW.trod_struct Tryd.underlying66 h
  obtain ⟨a, b, c, d, rfl⟩ := four (hlen.trans c66)
  obtain ⟨y0, y1, y2, y3, rfl⟩ := four (show ys.length = 4 from hyl)
  have h0 : DataW.trod enc Tryd.prog w base spare held n' 3 ([a, b, c, d].take (Tryd.prog.cellsOf 3)) = some y0 := hf 0 _ rfl
  have h1 : DataW.trod enc Tryd.prog w base spare held n' 3 ([b, c, d].take (Tryd.prog.cellsOf 3)) = some y1 := hf 1 _ rfl
  have h2 : DataW.trod enc Tryd.prog w base spare held n' 3 ([c, d].take (Tryd.prog.cellsOf 3)) = some y2 := hf 2 _ rfl
  have h3 : DataW.trod enc Tryd.prog w base spare held n' 28 ([d].take (Tryd.prog.cellsOf 28)) = some y3 := hf 3 _ rfl
  rw [c3] at h0 h1 h2
  rw [c28] at h3
  obtain ⟨v0, e0, _, w0⟩ := DataW.trod_int Tryd.underlying3 h0
  obtain ⟨v1, e1, _, w1⟩ := DataW.trod_int Tryd.underlying3 h1
  obtain ⟨v2, e2, _, w2⟩ := DataW.trod_int Tryd.underlying3 h2
  obtain ⟨v3, e3, _, w3⟩ := DataW.trod_int Tryd.underlying28 h3
  simp only [List.take_succ_cons, List.take_zero, List.cons.injEq, and_true] at e0 e1 e2 e3
  exact ⟨v0, v1, v2, v3, by rw [e0, e1, e2, e3], w0, w1, w2, w3⟩
end Go.Proofs.YtejhagejjogbaaaDoor.Open66
