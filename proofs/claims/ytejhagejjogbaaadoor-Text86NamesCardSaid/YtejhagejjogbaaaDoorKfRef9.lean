import Derived.Test.YtejhagejjogbaaaDoorKfFun9
namespace Go.Proofs.YtejhagejjogbaaaDoor.Ref9
open Go.RowKit Go.Proofs.YtejhagejjogbaaaDoorW.PrintWords Go.Proofs.YtejhagejjogbaaaDoorW.PrintLast Go.Proofs.YtejhagejjogbaaaDoorW.PrintMore Go.Proofs.YtejhagejjogbaaaDoor.Tab9 Go.Proofs.YtejhagejjogbaaaDoor.Lay9 Go.Proofs.YtejhagejjogbaaaDoor.Words9 Go.Proofs.YtejhagejjogbaaaDoor.Codes9 Go.Proofs.YtejhagejjogbaaaDoor.Fun9
set_option linter.unusedVariables false
set_option linter.unusedSimpArgs false
def atR (l : List ByteArray) (i : Int) : ByteArray := if i < 0 then ⟨#[]⟩ else l.getD i.toNat ⟨#[]⟩
set_option maxHeartbeats 8000000 in
set_option maxRecDepth 100000 in
theorem at_low (g n : Nat) (i : Int) (w : World) (h : decide (i < 0) = true) : Calls Tryd.prog 98 #[.slice (some ⟨g, 0, none⟩) n n, .int .i64 i] w fun e w' => e = .returned (.string ⟨#[]⟩) ∧ Below w.heap.size w w' := by
  go_enter Tryd.func98, Tryd.ntmps98
  go_wp2
  go_ret
  exact ⟨rfl, Below.refl _ _⟩
set_option maxHeartbeats 8000000 in
set_option maxRecDepth 100000 in
theorem at_high (g n k : Nat) (w : World) (h : decide ((k : Int) < 0) = false) (hn : decide (n ≤ k) = true) : Calls Tryd.prog 98 #[.slice (some ⟨g, 0, none⟩) n n, .int .i64 (k : Int)] w fun e w' => e = .returned (.string ⟨#[]⟩) ∧ Below w.heap.size w w' := by
  go_enter Tryd.func98, Tryd.ntmps98
  go_wp2
  go_ret
  exact ⟨rfl, Below.refl _ _⟩
set_option maxHeartbeats 8000000 in
set_option maxRecDepth 100000 in
theorem at_in (g n k : Nat) (s : ByteArray) (w : World) (h : decide ((k : Int) < 0) = false) (hn : decide (n ≤ k) = false) (hkn : k < n) (hs : w.cell? ⟨g, k, none⟩ = some (.string s)) : Calls Tryd.prog 98 #[.slice (some ⟨g, 0, none⟩) n n, .int .i64 (k : Int)] w fun e w' => e = .returned (.string s) ∧ Below w.heap.size w w' := by
  go_enter Tryd.func98, Tryd.ntmps98
  go_wp2
  go_ret
  exact ⟨rfl, Below.refl _ _⟩
theorem at_calls (g : Nat) (l : List ByteArray) (n : Nat) (hn : l.length = n) (i : Int) (w : World) (hS : StrsAt w g l) :
    Calls Tryd.prog 98 #[.slice (some ⟨g, 0, none⟩) n n, .int .i64 i] w fun e w' => e = .returned (.string (atR l i)) ∧ Below w.heap.size w w' := by
  unfold atR
  by_cases h : i < 0
  · rw [if_pos h]; exact at_low g n i w (decide_eq_true h)
  · rw [if_neg h]
    obtain ⟨k, rfl⟩ : ∃ k : Nat, i = (k : Int) := ⟨i.toNat, by omega⟩
    rw [show ((k : Int)).toNat = k by omega]
    by_cases hkn : k < n
    · obtain ⟨s, hs⟩ : ∃ s, l[k]? = some s := ⟨l[k], List.getElem?_eq_getElem (by omega)⟩
      have e : l.getD k ⟨#[]⟩ = s := by rw [List.getD_eq_getElem?_getD, hs]; rfl
      rw [e]
      exact at_in g n k s w (decide_eq_false h) (decide_eq_false (by omega)) hkn (strs_cell hS hs)
    · have e : l.getD k ⟨#[]⟩ = ⟨#[]⟩ := by rw [List.getD_eq_getElem?_getD, List.getElem?_eq_none (by omega)]; rfl
      rw [e]
      exact at_high g n k w (decide_eq_false h) (decide_eq_true (by omega))
set_option maxHeartbeats 8000000 in
set_option maxRecDepth 100000 in
theorem refName_calls (i : Int) (w : World) : Calls Tryd.prog 62 #[.int .i64 i] w fun e w' => e = .returned (.string (atR namesR i)) ∧ Below w.heap.size w w' := by
  have HW0 := Aside0.mk (Below.refl w.heap.size w)
  go_enter Tryd.func62, Tryd.ntmps62
  go_wp2_with (first | (go_at_call 99; (with_reducible refine (namesR_calls _).mono ?_); rintro ex w1 ⟨b1, rfl, hst, hb⟩; have HS1 := Aside0.mk hst; have HW1 := Aside0.mk (below_step HW0.out hb); clear hst hb) | (go_at_call 98; (with_reducible refine (at_calls b1 namesR 52 rfl i _ HS1.out).mono ?_); rintro ex w2 ⟨rfl, hb⟩; have HW2 := Aside0.mk (below_step HW1.out hb); clear hb))
  go_ret
  exact ⟨rfl, HW2.out⟩
set_option maxHeartbeats 8000000 in
set_option maxRecDepth 100000 in
theorem refArg_calls (i : Int) (w : World) : Calls Tryd.prog 59 #[.int .i64 i] w fun e w' => e = .returned (.string (atR argsR i)) ∧ Below w.heap.size w w' := by
  have HW0 := Aside0.mk (Below.refl w.heap.size w)
  go_enter Tryd.func59, Tryd.ntmps59
  go_wp2_with (first | (go_at_call 97; (with_reducible refine (argsR_calls _).mono ?_); rintro ex w1 ⟨b1, rfl, hst, hb⟩; have HS1 := Aside0.mk hst; have HW1 := Aside0.mk (below_step HW0.out hb); clear hst hb) | (go_at_call 98; (with_reducible refine (at_calls b1 argsR 21 rfl i _ HS1.out).mono ?_); rintro ex w2 ⟨rfl, hb⟩; have HW2 := Aside0.mk (below_step HW1.out hb); clear hb))
  go_ret
  exact ⟨rfl, HW2.out⟩
end Go.Proofs.YtejhagejjogbaaaDoor.Ref9
