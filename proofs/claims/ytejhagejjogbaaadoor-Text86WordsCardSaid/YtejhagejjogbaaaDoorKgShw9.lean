import Derived.Test.YtejhagejjogbaaaDoorKgGd9
import Derived.Test.YtejhagejjogbaaaDoorKgFns9
namespace Go.Proofs.YtejhagejjogbaaaDoor.Shw9
open Go.RowKit Go.Proofs.YtejhagejjogbaaaDoorW.PrintWords Go.Proofs.YtejhagejjogbaaaDoorW.PrintLast Go.Proofs.YtejhagejjogbaaaDoorW.PrintMore Go.Proofs.YtejhagejjogbaaaDoor.Tab9 Go.Proofs.YtejhagejjogbaaaDoor.Words9 Go.Proofs.YtejhagejjogbaaaDoor.Show9 Go.Proofs.YtejhagejjogbaaaDoor.Ra Go.Proofs.YtejhagejjogbaaaDoor.TokJoin Go.Proofs.YtejhagejjogbaaaDoor.TokRep
set_option linter.unusedVariables false
def nn : ByteArray := ⟨#[110, 110]⟩
def shownA (a : ByteArray) (n : Int) : Option ByteArray := strings_Replace.f a nn ⟨(Lib.itoa n).toArray⟩ 1
def textB (op D S n : Int) : Option ByteArray :=
  (shownA (argB D) n).bind fun r => (shownA (argB S) n).bind fun q => (strings_Join.f (shownL (argB D) (argB S) r q 2) ⟨#[44]⟩).bind fun j =>
    if (nameB op).size + 1 + j.size ≤ 1000 ∧ ascii (nameB op ++ ⟨#[32]⟩ ++ j) = true then some ⟨(Lib.trimSpace ((nameB op).data.toList ++ 32 :: j.data.toList)).toArray⟩ else none
def text86_Show.f (a0_0 a0_1 a0_2 a0_3 : Int) : Option (ByteArray × Int) :=
  if a0_0 ≤ 9223372036854775807 ∧ a0_1 ≤ 9223372036854775807 ∧ a0_2 ≤ 9223372036854775807 ∧ 0 ≤ a0_3 ∧ a0_3 ≤ 65535 then
    (isa86_Right.f 14 a0_0 a0_1 a0_2 a0_3).bind fun r => if r = 0 then (textB a0_0 a0_1 a0_2 a0_3).bind fun t => some (t, 0) else some (⟨#[]⟩, r)
  else none
theorem text86_Show.calls (a0_0 a0_1 a0_2 a0_3 : Int) (r1 : ByteArray) (r2 : Int) (w : World) (hG : Aside0 (G9 w)) (h : text86_Show.f a0_0 a0_1 a0_2 a0_3 = some (r1, r2)) :
    Calls Tryd.prog 50 #[.agg #[.int .i64 a0_0, .int .i64 a0_1, .int .i64 a0_2, .int .u16 a0_3]] w fun e w' => e = .returned (.tuple #[.string r1, .int .i64 r2]) ∧ Below w.heap.size w w' := by
  unfold text86_Show.f at h
  by_cases hc : a0_0 ≤ 9223372036854775807 ∧ a0_1 ≤ 9223372036854775807 ∧ a0_2 ≤ 9223372036854775807 ∧ 0 ≤ a0_3 ∧ a0_3 ≤ 65535
  · rw [if_pos hc] at h
    obtain ⟨h0, h1, h2, h3, h4⟩ := hc
    obtain ⟨r, hr, h⟩ := Option.bind_eq_some_iff.1 h
    have hR : ∀ w, G9 w → Calls Tryd.prog 85 #[.agg #[.int .i64 a0_0, .int .i64 a0_1, .int .i64 a0_2, .int .u16 a0_3]] w fun e w' => e = .returned (.int .i64 r) ∧ Below w.heap.size w w' := fun w _ => isa86_Right.calls 14 a0_0 a0_1 a0_2 a0_3 r w hr
    by_cases he : r = 0
    · subst he
      rw [if_pos rfl] at h
      obtain ⟨t, ht, h⟩ := Option.bind_eq_some_iff.1 h
      obtain ⟨rfl, rfl⟩ := Prod.mk.inj (Option.some.inj h)
      unfold textB at ht
      obtain ⟨r, hr1, ht⟩ := Option.bind_eq_some_iff.1 ht
      obtain ⟨q, hq1, ht⟩ := Option.bind_eq_some_iff.1 ht
      obtain ⟨j, hj1, ht⟩ := Option.bind_eq_some_iff.1 ht
      by_cases hz : (nameB a0_0).size + 1 + j.size ≤ 1000 ∧ ascii (nameB a0_0 ++ ⟨#[32]⟩ ++ j) = true
      · rw [if_pos hz] at ht
        obtain rfl := Option.some.inj ht
        exact Show_ok a0_0 a0_1 a0_2 a0_3 w hG.out h0 h1 h2 h3 h4 hR r q j hr1 hq1 hj1 hz.1 hz.2
      · rw [if_neg hz] at ht; cases ht
    · rw [if_neg he] at h
      obtain ⟨rfl, rfl⟩ := Prod.mk.inj (Option.some.inj h)
      exact Show_no a0_0 a0_1 a0_2 a0_3 w r (bne_iff_ne.mpr he) hG.out hR
  · rw [if_neg hc] at h; cases h
end Go.Proofs.YtejhagejjogbaaaDoor.Shw9
