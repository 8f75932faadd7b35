import Derived.Test.YtejhagejjogbaaaDoorKfOp9
import Derived.Test.YtejhagejjogbaaaDoorKfRa1
namespace Go.Proofs.YtejhagejjogbaaaDoor.Doc9
open Go.RowKit Go.Proofs.YtejhagejjogbaaaDoorW.PrintWords Go.Proofs.YtejhagejjogbaaaDoorW.PrintLast Go.Proofs.YtejhagejjogbaaaDoorW.PrintMore Go.Proofs.YtejhagejjogbaaaDoor.Tab9 Go.Proofs.YtejhagejjogbaaaDoor.Lay9 Go.Proofs.YtejhagejjogbaaaDoor.Words9 Go.Proofs.YtejhagejjogbaaaDoor.Codes9 Go.Proofs.YtejhagejjogbaaaDoor.Fun9 Go.Proofs.YtejhagejjogbaaaDoor.Ref9 Go.Proofs.YtejhagejjogbaaaDoor.Pl9 Go.Proofs.YtejhagejjogbaaaDoor.Ra
set_option linter.unusedVariables false
set_option linter.unusedSimpArgs false
def findF (l : List ByteArray) (s : ByteArray) (i : Nat) : Int × Bool := if s = ⟨#[]⟩ then (0, false) else findR (l.drop i) s i
theorem find_l0 (l : List ByteArray) (s : ByteArray) (hl : l.length ≤ 1000) (d : Nat) : ∀ i : Nat, i + d = l.length → Ev (fun k => pidginref09_find.l0 k l s (i : Int)) (findF l s i) := by
  induction d with
  | zero =>
    intro i hi
    refine Ev.step (fun k => rfl) ?_
    simp only [pidginref09_find.l0, if_neg (show ¬ (i : Int) < (l.length : Int) by omega)]
    rw [findF, List.drop_of_length_le (by omega), findR, ite_self]
    exact Ev.now _
  | succ d ih =>
    intro i hi
    have h1 : i < l.length := by omega
    have hrd : rdOf ByteArray.empty l (i : Int) = l[i] := by simp [rdOf, List.getD_eq_getElem?_getD, List.getElem?_eq_getElem h1]
    have hw : wrap64 ((i : Int) + 1) = ((i + 1 : Nat) : Int) := (w64 (by omega) (by omega)).trans (by omega)
    refine Ev.step (fun k => rfl) ?_
    simp only [pidginref09_find.l0, if_pos (show (i : Int) < (l.length : Int) by omega), if_pos (show (0 : Int) ≤ (i : Int) by omega), hrd, hw]
    have hih := ih (i + 1) (by omega)
    by_cases hs : s = ⟨#[]⟩
    · simp only [if_pos ((tl_nil s).2 hs)]
      rw [findF, if_pos hs] at hih ⊢
      exact hih
    · simp only [if_neg (show ¬ s.toList = [] from fun e => hs ((tl_nil s).1 e))]
      rw [findF, if_neg hs] at hih ⊢
      rw [List.drop_eq_getElem_cons h1, findR]
      by_cases h : l[i] = s
      · simp only [if_pos ((tl_eq _ _).2 h), if_pos h]; exact Ev.now _
      · simp only [if_neg (show ¬ l[i].toList = s.toList from fun e => h ((tl_eq _ _).1 e)), if_neg h]; exact hih
theorem find_ev (l : List ByteArray) (s : ByteArray) (hl : l.length ≤ 1000) : Ev (fun k => pidginref09_find.f k l s) (findE l s) := by
  have := find_l0 l s hl l.length 0 (by omega)
  rw [findF, List.drop_zero] at this
  exact this
theorem find_calls (g : Nat) (l : List ByteArray) (n : Nat) (hn : l.length = n) (hl : l.length ≤ 1000) (s : ByteArray) (w : World) (hS : StrsAt w g l) :
    Calls Tryd.prog 96 #[.slice (some ⟨g, 0, none⟩) n n, .string s] w fun e w' => e = .returned (.tuple #[.int .i64 (findE l s).1, .bool (findE l s).2]) ∧ Below w.heap.size w w' := by
  subst hn
  obtain ⟨k, hk⟩ := (find_ev l s hl).rounds
  exact (pidginref09_find.calls k (some ⟨g, 0, none⟩) l.length l s (findE l s).1 (findE l s).2 w (strs_C hS hl) (Nat.le_refl _) hk).mono fun e w' h => ⟨h.1, h.2.below⟩
set_option maxHeartbeats 8000000 in
set_option maxRecDepth 100000 in
theorem refOp_calls (s : ByteArray) (w : World) : Calls Tryd.prog 61 #[.string s] w fun e w' => e = .returned (.tuple #[.int .i64 (findE namesR s).1, .bool (findE namesR s).2]) ∧ Below w.heap.size w w' := by
  have HW0 := Aside0.mk (Below.refl w.heap.size w)
  go_enter Tryd.func61, Tryd.ntmps61
  go_wp2_with (first | (go_at_call 99; (with_reducible refine (namesR_calls _).mono ?_); rintro ex w1 ⟨b1, rfl, hst, hb⟩; have HS1 := Aside0.mk hst; have HW1 := Aside0.mk (below_step HW0.out hb); clear hst hb) | (go_at_call 96; (with_reducible refine (find_calls b1 namesR 52 rfl (by decide) s _ HS1.out).mono ?_); rintro ex w2 ⟨rfl, hb⟩; have HW2 := Aside0.mk (below_step HW1.out hb); clear hb))
  go_ret2
  exact ⟨rfl, HW2.out⟩
set_option maxHeartbeats 8000000 in
set_option maxRecDepth 100000 in
theorem refCode_calls (s : ByteArray) (w : World) : Calls Tryd.prog 57 #[.string s] w fun e w' => e = .returned (.tuple #[.int .i64 (findE argsR s).1, .bool (findE argsR s).2]) ∧ Below w.heap.size w w' := by
  have HW0 := Aside0.mk (Below.refl w.heap.size w)
  go_enter Tryd.func57, Tryd.ntmps57
  go_wp2_with (first | (go_at_call 97; (with_reducible refine (argsR_calls _).mono ?_); rintro ex w1 ⟨b1, rfl, hst, hb⟩; have HS1 := Aside0.mk hst; have HW1 := Aside0.mk (below_step HW0.out hb); clear hst hb) | (go_at_call 96; (with_reducible refine (find_calls b1 argsR 21 rfl (by decide) s _ HS1.out).mono ?_); rintro ex w2 ⟨rfl, hb⟩; have HW2 := Aside0.mk (below_step HW1.out hb); clear hb))
  go_ret2
  exact ⟨rfl, HW2.out⟩
theorem cond_f (op : Int) : pidginref08_Cond.f op = some (condB op) := by
  unfold pidginref08_Cond.f condB
  by_cases h1 : op ≥ 42
  · rw [if_pos h1]
    by_cases h2 : op ≤ 45
    · rw [if_pos h2]; congr 1; symm; exact decide_eq_true (by omega)
    · rw [if_neg h2]
      by_cases h3 : op ≥ 48
      · rw [if_pos h3]; congr 1; apply decide_eq_decide.2; omega
      · rw [if_neg h3]; congr 1; symm; exact decide_eq_false (by omega)
  · rw [if_neg h1, if_neg (by omega)]; congr 1; symm; exact decide_eq_false (by omega)
theorem refAgainst_f (op : Int) : pidginref09_Against.f op = some (againstB op) := by
  unfold pidginref09_Against.f
  rw [cond_f, Option.bind_some]
  cases h : condB op with
  | false => rw [against_no op h, if_neg (by decide)]
  | true =>
    rcases cond_in op h with rfl | rfl | rfl | rfl | rfl | rfl | rfl | rfl <;> decide +kernel
theorem refAgainst_calls (op : Int) (w : World) : Calls Tryd.prog 55 #[.int .i64 op] w fun e w' => e = .returned (.tuple #[.int .i64 (againstB op).1, .bool (againstB op).2]) ∧ Below w.heap.size w w' :=
  (pidginref09_Against.calls op (againstB op).1 (againstB op).2 w (refAgainst_f op)).mono fun e w' h => ⟨h.1, h.2.below⟩
end Go.Proofs.YtejhagejjogbaaaDoor.Doc9
