import Derived.Test.YtejhagejjogbaaaDoorVPa0
import Derived.Test.YtejhagejjogbaaaDoorVPa1
import Derived.Test.YtejhagejjogbaaaDoorVPa2
import Derived.Test.YtejhagejjogbaaaDoorVPa3
import Derived.Test.YtejhagejjogbaaaDoorVPn0
import Derived.Test.YtejhagejjogbaaaDoorVPn1
import Derived.Test.YtejhagejjogbaaaDoorVPa5
namespace Go.Proofs.YtejhagejjogbaaaDoor.TokIs
open Go.RowKit Go.Proofs.YtejhagejjogbaaaDoorW.PrintWords Go.Proofs.YtejhagejjogbaaaDoorW.PrintLast Go.Proofs.YtejhagejjogbaaaDoorW.PrintMore Go.Proofs.YtejhagejjogbaaaDoor.Given Go.Proofs.YtejhagejjogbaaaDoor.Pn Go.Proofs.YtejhagejjogbaaaDoor.Pa
set_option linter.unusedVariables false
set_option linter.unusedSimpArgs false
def token_is.f (a0 : Int) (a1 : ByteArray) (a2 : Int) (l : List ByteArray) : Option Bool := some (decide (a0 = 4) && l.any fun s => a1.toList == s.toList)
set_option maxHeartbeats 8000000 in
set_option maxRecDepth 100000 in
theorem token_is.calls (a0 : Int) (a1 : ByteArray) (a2 : Int) (A : Option Addr) (c : Nat) (l : List ByteArray) (r : Bool) (w : World) {gb : Nat} (hr : Kd.C Kd.string w A l.length l) (hc : l.length ≤ c)
    (hB : w.heap[gb]? = some (.cells #[.int .i64 a0, .string a1, .int .u16 a2] 41 (0, 0))) (h : token_is.f a0 a1 a2 l = some r) :
    Calls Tryd.prog 71 #[.slice A l.length c, .pointer (some ⟨gb, 0, none⟩)] w fun e w' => e = .returned (.bool r) ∧ Below w.heap.size w w' := by
  have hu41 := Tryd.underlying41
  obtain rfl := Option.some.inj h
  clear h
  have hsz : l.length ≤ 9223372036854775807 := hr.2.1
  have hz0 : w.cell? ⟨gb, 0, none⟩ = some (.int .i64 a0) := (blk_cell hB 0).trans rfl
  have hz1 : w.cell? ⟨gb, 1, none⟩ = some (.string a1) := (blk_cell hB 1).trans rfl
  have HR := Aside0.mk hr
  clear hr hB
  go_enter Tryd.func71, Tryd.ntmps71
  go_wp2
  go_loopw [8] (fun v wr => ∃ k : Nat, k ≤ l.length ∧ v = .int .i64 k ∧ wr = w ∧ Aside0 ((decide (a0 = 4) && (l.take k).any fun s => a1.toList == s.toList) = false)) (fun v _ => l.length - (intOf v).toNat)
  case atStart => exact ⟨0, Nat.zero_le _, rfl, rfl, ⟨by simp⟩⟩
  case round =>
    obtain ⟨k, hk, rfl, rfl, HF⟩ := hrel
    by_cases hlt : k < l.length
    · obtain ⟨ad, cs, rfl, hl, hK, hcell⟩ := Kd.C_get HR.out ⟨#[]⟩ (k : Int) (by omega) (by omega)
      have e1 : cs = [.string (l.getD k ⟨#[]⟩)] := hK
      subst e1
      have hc0 : wr.cell? (ad.add k) = some (.string (l.getD k ⟨#[]⟩)) := by
        have := hcell 0 _ rfl
        simpa [Kd.string, Kd.scalar] using this
      have hg : l.getD k ⟨#[]⟩ = l[k] := by simp [List.getD_eq_getElem?_getD, List.getElem?_eq_getElem hlt]
      have HT := Aside0.mk (show (l.take (k + 1)).any (fun s => a1.toList == s.toList) = ((l.take k).any (fun s => a1.toList == s.toList) || (a1.toList == (l.getD k ⟨#[]⟩).toList)) by
        rw [List.take_succ_eq_append_getElem hlt, List.any_append, hg]; simp)
      have HA := Aside0.mk (show (a1.toList == (l.getD k ⟨#[]⟩).toList) = true → l.any (fun s => a1.toList == s.toList) = true from fun h => by
        rw [List.any_eq_true]; exact ⟨l[k], List.getElem_mem hlt, by rw [← hg]; exact h⟩)
      clear hcell hg hK hl
      generalize l.getD k ⟨#[]⟩ = x at hc0 HT HA
      by_cases h4 : a0 = 4
      · subst h4
        cases hx : a1.toList == x.toList with
        | true =>
          have HX := Aside0.mk (HA.out hx)
          go_wp2
          go_ret
          exact ⟨by rw [HX.out]; rfl, Below.refl _ _⟩
        | false =>
          have HX := Aside0.mk (HT.out.trans (by rw [hx, Bool.or_false]))
          go_wp2
          refine ⟨⟨k + 1, by omega, by go_num, trivial, ⟨by rw [HX.out]; exact HF.out⟩⟩, by simp [intOf]; omega⟩
      · have h4' : (a0 == 4) = false := beq_eq_false_iff_ne.mpr h4
        have h4d : decide (a0 = 4) = false := decide_eq_false h4
        go_wp2
        refine ⟨⟨k + 1, by omega, by go_num, trivial, ⟨by rw [h4d]; rfl⟩⟩, by simp [intOf]; omega⟩
    · obtain rfl : k = l.length := by omega
      have HX := Aside0.mk (show (decide (a0 = 4) && l.any fun s => a1.toList == s.toList) = false by have := HF.out; rwa [List.take_length] at this)
      go_wp2
      go_ret
      exact ⟨by rw [HX.out]; rfl, Below.refl _ _⟩
end Go.Proofs.YtejhagejjogbaaaDoor.TokIs
