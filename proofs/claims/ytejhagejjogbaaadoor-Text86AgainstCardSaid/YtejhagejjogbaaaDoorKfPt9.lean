import Derived.Test.YtejhagejjogbaaaDoorKfRt1
namespace Go.Proofs.YtejhagejjogbaaaDoor.Pt9
open Go.RowKit Go.Proofs.YtejhagejjogbaaaDoorW.PrintWords Go.Proofs.YtejhagejjogbaaaDoorW.PrintLast Go.Proofs.YtejhagejjogbaaaDoorW.PrintMore Go.Proofs.YtejhagejjogbaaaDoor.Tab9 Go.Proofs.YtejhagejjogbaaaDoor.Words9 Go.Proofs.YtejhagejjogbaaaDoor.Codes9 Go.Proofs.YtejhagejjogbaaaDoor.Lay9 Go.Proofs.YtejhagejjogbaaaDoor.Fun9 Go.Proofs.YtejhagejjogbaaaDoor.Ref9 Go.Proofs.YtejhagejjogbaaaDoor.Pl9 Go.Proofs.YtejhagejjogbaaaDoor.Fns9 Go.Proofs.YtejhagejjogbaaaDoor.Rt
set_option linter.unusedVariables false
theorem wf_le {a : Int} (h : (Lit.int .i64 a).wf = true) : a ≤ 9223372036854775807 := by
  simp [Lit.wf] at h
  omega
theorem name_f {a : Int} (h : a ≤ 9223372036854775807) : text86_Name.f a = some (nameB a) := if_pos h
theorem arg_f {a : Int} (h : a ≤ 9223372036854775807) : text86_Arg.f a = some (argB a) := if_pos h
theorem against_f {a : Int} (h : a ≤ 9223372036854775807) : text86_Against.f a = some (againstB a) := if_pos h
theorem Names_f (a0 : Int) (a1 : ByteArray) (h : (Lit.int .i64 a0).wf = true) : pidginlaw09_Text86Names.f a0 a1 = some true := by
  unfold pidginlaw09_Text86Names.f
  rw [name_f (wf_le h), Name_eq]
  unfold pidginlaw09_alive.f text86_Op.f pidginref09_Op.f pidginref09_Name.f
  rw [Op_eq]
  simp
theorem Args_f (a0 : Int) (a1 : ByteArray) (h : (Lit.int .i64 a0).wf = true) : pidginlaw09_Text86Args.f a0 a1 = some true := by
  unfold pidginlaw09_Text86Args.f
  rw [arg_f (wf_le h), Arg_eq]
  unfold pidginlaw09_alive.f text86_Code.f pidginref09_Code.f pidginref09_Arg.f
  rw [Code_eq]
  simp
theorem against_le (a : Int) (h : a ≤ 9223372036854775807) : (againstB a).1 ≤ 9223372036854775807 := by
  cases hc : condB a with
  | false => rw [against_no a hc]; decide
  | true => rcases cond_in a hc with rfl | rfl | rfl | rfl | rfl | rfl | rfl | rfl <;> decide +kernel
theorem Against_f (a0 : Int) (h : (Lit.int .i64 a0).wf = true) : pidginlaw09_Text86Against.f a0 = some true := by
  unfold pidginlaw09_Text86Against.f
  rw [against_f (wf_le h), Option.bind_some]
  unfold pidginref09_Against.f
  rw [Option.bind_some, against_f (against_le a0 (wf_le h)), Option.bind_some]
  unfold pidginlaw09_alive.f
  cases hc : condB a0 with
  | false => rw [against_no a0 hc]; simp
  | true => rw [against_twice a0 hc, against_is a0 hc]; simp
theorem Back_j1 (s : ByteArray) (n : Nat) : pidginlaw09_Text86Back.j1 (n + 1) s = some true := by
  rw [pidginlaw09_Text86Back.j1]
  unfold text86_Op.f text86_Code.f pidginlaw09_alive.f
  simp only [Option.bind_some]
  have hn : (opW s).2 = true → text86_Name.f (opW s).1 = some s := fun h => by
    obtain ⟨e1, e2, e3⟩ := Op_at s (opW s).1 (by rw [← h])
    rw [name_f (by omega), e1]
  have ha : (codeW argsL 1 s).2 = true → text86_Arg.f (codeW argsL 1 s).1 = some s := fun h => by
    obtain ⟨e1, e2, e3⟩ := Code_at s (codeW argsL 1 s).1 (by rw [← h])
    rw [arg_f (by omega), e1]
  by_cases h1 : (opW s).2 = true <;> by_cases h2 : (codeW argsL 1 s).2 = true
  · simp [h1, h2, hn h1, ha h2]
  · simp [h1, h2, hn h1]
  · simp [h1, h2, ha h2]
  · simp [h1, h2]
theorem Back_j0 (a1 : Int) (h1 : a1 ≤ 9223372036854775807) (s : ByteArray) (n : Nat) : pidginlaw09_Text86Back.j0 (n + 2) a1 s = some true := by
  rw [pidginlaw09_Text86Back.j0, arg_f h1, Option.bind_some]
  unfold text86_Code.f
  by_cases he : argB a1 = ⟨#[]⟩
  · rw [if_pos ((tl_nil _).2 he), Back_j1]
  · rw [if_neg (fun e => he ((tl_nil _).1 e)), Option.bind_some, Arg_back a1 he, Back_j1]
    simp
theorem Back_f (a0 a1 : Int) (a2 : ByteArray) (h0 : (Lit.int .i64 a0).wf = true) (h1 : (Lit.int .i64 a1).wf = true) : pidginlaw09_Text86Back.f 2 a0 a1 a2 = some true := by
  unfold pidginlaw09_Text86Back.f
  rw [name_f (wf_le h0), Option.bind_some, Back_j0 a1 (wf_le h1) a2 0]
  unfold text86_Op.f pidginlaw09_alive.f
  by_cases he : nameB a0 = ⟨#[]⟩
  · simp [he]
  · rw [if_neg (fun e => he ((tl_nil _).1 e)), Option.bind_some, Name_back a0 he]
    simp
end Go.Proofs.YtejhagejjogbaaaDoor.Pt9
