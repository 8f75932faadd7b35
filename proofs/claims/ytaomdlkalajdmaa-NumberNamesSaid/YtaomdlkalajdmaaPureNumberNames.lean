/- Which texts are names, and texts in great letters, are the document's: the plain statement. -/
import Derived.Test.YtaomdlkalajdmaaPr6
import Derived.Test.YtaomdlkalajdmaaNum3
namespace Go.Proofs.Ytaomdlkalajdmaa.Pure
open Go.RowKit Go.Proofs.Ytaomdlkalajdmaa.Given Go.Proofs.Ytaomdlkalajdmaa.Pr Go.Proofs.YtaomdlkalajdmaaW.PrintWords Go.Proofs.YtaomdlkalajdmaaW.PrintLast
open Go.Proofs.Ytaomdlkalajdmaa.Num

theorem NumberNames : pidginlaw03_NumberNames.Pure := by
  intro a0 hs
  refine Ev.rounds (r := true) ?_
  unfold pidginlaw03_NumberNames.f
  have al := Ev.bind alive_ev (f := fun _ t => some t) (Ev.now true)
  by_cases h : (a0.size : Int) > 1000
  · simp only [if_pos h]
    exact al
  · simp only [if_neg h]
    have hs' : a0.size ≤ 140737488351300 := by omega
    refine Ev.bind (num_name a0 hs') ?_
    refine Ev.bind (ref_name a0 hs') ?_
    simp only [beq_self_eq_true, ↓reduceIte]
    simp only [num_upper a0 hs', num_upper (upB a0) (by rw [size_up]; exact hs'), Option.bind_some]
    refine Ev.bind (ref_upper a0 hs') ?_
    rw [upB_idem]
    simp only [↓reduceIte]
    exact al

end Go.Proofs.Ytaomdlkalajdmaa.Pure
