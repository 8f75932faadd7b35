import Derived.Test.YtejhagejjogbaaaDoorVNum2
import Derived.Test.YtejhagejjogbaaaDoorVQt2
import Derived.Test.YtejhagejjogbaaaDoorVPb0
import Derived.Test.YtejhagejjogbaaaDoorVPb1
import Derived.Test.YtejhagejjogbaaaDoorVPc0
import Derived.Test.YtejhagejjogbaaaDoorVPc1
import Derived.Test.YtejhagejjogbaaaDoorVPn0
import Derived.Test.YtejhagejjogbaaaDoorVPn1
namespace Go.Proofs.YtejhagejjogbaaaDoor.Tk
open Go.RowKit Go.Proofs.YtejhagejjogbaaaDoor.Given Go.Proofs.YtejhagejjogbaaaDoor.Pn Go.Proofs.YtejhagejjogbaaaDoor.Pa Go.Proofs.YtejhagejjogbaaaDoor.Pb Go.Proofs.YtejhagejjogbaaaDoor.Pc Go.Proofs.YtejhagejjogbaaaDoor.Num Go.Proofs.YtejhagejjogbaaaDoor.TokSpan Go.Proofs.YtejhagejjogbaaaDoorW.PrintWords Go.Proofs.YtejhagejjogbaaaDoorW.PrintLast
set_option linter.unusedSimpArgs false
set_option linter.unusedVariables false
def cv (t : S41) : S46 := ⟨t.f0, t.f1, t.f2⟩
theorem drop_cons' {α : Type} {l : List α} {i : Nat} (h : i < l.length) : l.drop i = l[i] :: l.drop (i + 1) := List.drop_eq_getElem_cons h
theorem rd41_at (l : List S41) (i : Nat) (h : i < l.length) : rd_T41 l (i : Int) = l[i] := by
  simp [rd_T41, List.getD_eq_getElem?_getD, List.getElem?_eq_getElem h]
theorem rd46_at (l : List S46) (i : Nat) (h : i < l.length) : rd_T46 l (i : Int) = l[i] := by
  simp [rd_T46, List.getD_eq_getElem?_getD, List.getElem?_eq_getElem h]
theorem back_l0 (l : List S41) (hs : l.length ≤ 100000) (d : Nat) : ∀ (i : Nat) (acc : List S46), i + d = l.length → acc.length ≤ i →
    Ev (fun k => pidginlaw04_Back.l0 k l acc (i : Int)) (acc ++ (l.drop i).map cv) := by
  induction d with
  | zero =>
    intro i acc hi ha
    refine Ev.step (fun k => rfl) ?_
    simp only [pidginlaw04_Back.l0, if_neg (show ¬ (i : Int) < (l.length : Int) by omega)]
    rw [List.drop_eq_nil_of_le (by omega), List.map_nil, List.append_nil]
    exact Ev.now _
  | succ d ih =>
    intro i acc hi ha
    have hl : i < l.length := by omega
    refine Ev.step (fun k => rfl) ?_
    simp only [pidginlaw04_Back.l0, if_pos (show (i : Int) < (l.length : Int) by omega), if_pos (show (0 : Int) ≤ (i : Int) by omega), if_pos (show acc.length < 4398046511104 by omega), rd41_at l i hl, inc_w (show i ≤ 140737488351300 by omega)]
    rw [drop_cons' hl, List.map_cons]
    have := ih (i + 1) (acc ++ [cv l[i]]) (by omega) (by simp; omega)
    rw [List.append_assoc] at this
    exact this
theorem back_ev (l : List S41) (hs : l.length ≤ 100000) : Ev (fun k => pidginlaw04_Back.f k l) (l.map cv) := by
  unfold pidginlaw04_Back.f
  have := back_l0 l hs l.length 0 [] (by omega) (by simp)
  simpa using this
theorem same_l0 (l : List S46) (hs : l.length ≤ 100000) (d : Nat) : ∀ (i : Nat), i + d = l.length → Ev (fun k => pidginref04_Same.l0 k l l (i : Int)) true := by
  induction d with
  | zero =>
    intro i hi
    refine Ev.step (fun k => rfl) ?_
    simp only [pidginref04_Same.l0, if_neg (show ¬ (i : Int) < (l.length : Int) by omega)]
    exact Ev.now _
  | succ d ih =>
    intro i hi
    refine Ev.step (fun k => rfl) ?_
    simp only [pidginref04_Same.l0, if_pos (show (i : Int) < (l.length : Int) by omega), if_pos (show (0 : Int) ≤ (i : Int) by omega), beq_self_eq_true, Bool.not_true, Bool.or_false, Bool.false_eq_true, if_false, inc_w (show i ≤ 140737488351300 by omega)]
    exact ih (i + 1) (by omega)
theorem same_ev (l : List S46) (hs : l.length ≤ 100000) : Ev (fun k => pidginref04_Same.f k l l) true := by
  unfold pidginref04_Same.f
  simp only [if_true]
  exact same_l0 l hs l.length 0 (by omega)
theorem alive4 : Ev (fun k => pidginlaw04_alive.f k) true := Ev.of pidginlaw04_alive.mono (k := 200) (by decide +kernel)
theorem alive4t : Ev (fun k => (pidginlaw04_alive.f k).bind fun t => some t) true := Ev.bind alive4 (f := fun _ t => some t) (Ev.now true)
end Go.Proofs.YtejhagejjogbaaaDoor.Tk
