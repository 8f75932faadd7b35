/- The number of any text is that of the document's answer, or the same kind of error: the plain statement. -/
import Derived.Test.YtaomdlkalajdmaaPr4
import Derived.Test.YtaomdlkalajdmaaNum3
namespace Go.Proofs.Ytaomdlkalajdmaa.Pure
open Go.RowKit Go.Proofs.Ytaomdlkalajdmaa.Pr Go.Proofs.YtaomdlkalajdmaaW.PrintWords Go.Proofs.YtaomdlkalajdmaaW.PrintLast
open Go.Proofs.Ytaomdlkalajdmaa.Num

theorem NumberParses : pidginlaw03_NumberParses.Pure := by
  intro a0 hs
  refine Ev.rounds (r := true) ?_
  unfold pidginlaw03_NumberParses.f
  have al := Ev.bind alive_ev (f := fun _ t => some t) (Ev.now true)
  by_cases h : (a0.size : Int) > 1000
  · simp only [if_pos h]
    exact al
  · simp only [if_neg h]
    refine Ev.bind (num_parse a0 (by omega)) ?_
    refine Ev.bind (ref_parse a0 (by omega)) ?_
    simp only [if_true]
    exact al

end Go.Proofs.Ytaomdlkalajdmaa.Pure
