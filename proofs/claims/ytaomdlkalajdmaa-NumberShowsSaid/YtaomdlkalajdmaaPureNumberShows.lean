/- The text of any number is the document's, and it is read as it was: the plain statement. -/
import Derived.Test.YtaomdlkalajdmaaPr4
import Derived.Test.YtaomdlkalajdmaaNum3
namespace Go.Proofs.Ytaomdlkalajdmaa.Pure
open Go.RowKit Go.Proofs.Ytaomdlkalajdmaa.Pr Go.Proofs.YtaomdlkalajdmaaW.PrintWords Go.Proofs.YtaomdlkalajdmaaW.PrintLast
open Go.Proofs.Ytaomdlkalajdmaa.Num

theorem NumberShows : pidginlaw03_NumberShows.Pure := by
  intro a0 hs
  obtain ⟨n, rfl, hn⟩ := wf_u16 hs
  refine Ev.rounds (r := true) ?_
  unfold pidginlaw03_NumberShows.f
  have al := Ev.bind alive_ev (f := fun _ t => some t) (Ev.now true)
  refine Ev.bind (num_show n hn) ?_
  refine Ev.bind (num_parse _ (show_small n hn)) ?_
  refine Ev.bind (ref_show n hn) ?_
  rw [L_up, L_mk, List.toList_toArray, show_up, parse_show n hn]
  simp only [if_true]
  exact al

end Go.Proofs.Ytaomdlkalajdmaa.Pure
