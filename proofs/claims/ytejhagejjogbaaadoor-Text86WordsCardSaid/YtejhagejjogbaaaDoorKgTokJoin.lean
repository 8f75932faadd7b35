import Derived.Test.YtejhagejjogbaaaDoorKgGiven
import Derived.Test.YtejhagejjogbaaaDoorKgShelf2
import Derived.Lib.Join
namespace Go.Proofs.YtejhagejjogbaaaDoor.TokJoin
open Go.RowKit Go.Proofs.YtejhagejjogbaaaDoorW.PrintWords Go.Proofs.YtejhagejjogbaaaDoorW.PrintLast Go.Proofs.YtejhagejjogbaaaDoorW.PrintMore Go.Proofs.YtejhagejjogbaaaDoor.Given
def strings_Join.f (l0 : List ByteArray) (a1 : ByteArray) : Option ByteArray :=
  if l0.length ≤ 140737488355328 ∧ (Lib.join (l0.map (·.data.toList)) a1.data.toList).length ≤ 140737488355328 then some ⟨(Lib.join (l0.map (·.data.toList)) a1.data.toList).toArray⟩ else none
theorem strings_Join.calls (A0 : Option Addr) (c0 : Nat) (l0 : List ByteArray) (a1 : ByteArray) (r : ByteArray) (w : World) (hr0 : Kd.C Kd.string w A0 l0.length l0) (hc0 : l0.length ≤ c0) (h : strings_Join.f l0 a1 = some r) :
    Calls Tryd.prog 72 #[.slice A0 l0.length c0, .string a1] w fun e w' => e = .returned (.string r) ∧ Below w.heap.size w w' := by
  unfold strings_Join.f at h
  by_cases hs : l0.length ≤ 140737488355328 ∧ (Lib.join (l0.map (·.data.toList)) a1.data.toList).length ≤ 140737488355328
  · rw [if_pos hs] at h
    obtain rfl := Option.some.inj h
    cases l0 with
    | nil =>
      refine (Tryd.strings_Join_none A0 c0 a1 w).mono fun e w' ⟨he, hw⟩ => ⟨?_, hw ▸ Below.refl _ _⟩
      rw [he]
      rfl
    | cons x t =>
      obtain ⟨ad, rfl, hc⟩ := hr0.2.2 (by simp)
      have cell (j : Nat) (y : ByteArray) (hy : (x :: t)[j]? = some y) : w.cell? (ad.add j) = some (.string y) := by
        obtain ⟨c, h1, h2, h3⟩ := hc j y hy
        have e : c = [.string y] := h2
        subst e
        have := h3 0 (.string y) rfl
        simpa [Kd.string, Kd.scalar] using this
      have c0' := cell 0 x rfl
      obtain ⟨bk, o, q⟩ := ad
      have hq : q = none := by
        cases q with
        | none => rfl
        | some q =>
          simp [World.cell?, Addr.add] at c0'
          split at c0' <;> cases c0'
      subst hq
      refine Tryd.strings_Join bk o c0 (x :: t) a1 w (fun j y hy => ?_) ?_ hs.1 hc0 hs.2
      · have := cell j y hy
        by_cases hj : j = 0
        · subst hj; simpa [Addr.add] using this
        · simpa [Addr.add, hj] using this
      · exact World.block_lt_of_cell? w _ c0'
  · rw [if_neg hs] at h; cases h
end Go.Proofs.YtejhagejjogbaaaDoor.TokJoin
