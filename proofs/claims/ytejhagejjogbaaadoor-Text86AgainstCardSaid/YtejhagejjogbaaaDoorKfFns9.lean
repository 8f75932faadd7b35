import Derived.Test.YtejhagejjogbaaaDoorKfDoc9
import Derived.Test.YtejhagejjogbaaaDoorKfRc9
namespace Go.Proofs.YtejhagejjogbaaaDoor.Fns9
open Go.RowKit Go.Proofs.YtejhagejjogbaaaDoorW.PrintWords Go.Proofs.YtejhagejjogbaaaDoorW.PrintLast Go.Proofs.YtejhagejjogbaaaDoorW.PrintMore Go.Proofs.YtejhagejjogbaaaDoor.Tab9 Go.Proofs.YtejhagejjogbaaaDoor.Words9 Go.Proofs.YtejhagejjogbaaaDoor.Codes9 Go.Proofs.YtejhagejjogbaaaDoor.Lay9 Go.Proofs.YtejhagejjogbaaaDoor.Fun9 Go.Proofs.YtejhagejjogbaaaDoor.Ref9 Go.Proofs.YtejhagejjogbaaaDoor.Pl9 Go.Proofs.YtejhagejjogbaaaDoor.Op9 Go.Proofs.YtejhagejjogbaaaDoor.Doc9 Go.Proofs.YtejhagejjogbaaaDoor.Rc9
set_option linter.unusedVariables false
def text86_Name.f (a0 : Int) : Option ByteArray := if a0 ≤ 9223372036854775807 then some (nameB a0) else none
theorem text86_Name.calls (a0 : Int) (r : ByteArray) (w : World) (hG : Aside0 (G9 w)) (h : text86_Name.f a0 = some r) : Calls Tryd.prog 53 #[.int .i64 a0] w fun e w' => e = .returned (.string r) ∧ Below w.heap.size w w' := by
  unfold text86_Name.f at h
  by_cases hc : a0 ≤ 9223372036854775807
  · rw [if_pos hc] at h; obtain rfl := Option.some.inj h; exact Name_calls a0 hc w hG.out
  · rw [if_neg hc] at h; cases h
def text86_Arg.f (a0 : Int) : Option ByteArray := if a0 ≤ 9223372036854775807 then some (argB a0) else none
theorem text86_Arg.calls (a0 : Int) (r : ByteArray) (w : World) (hG : Aside0 (G9 w)) (h : text86_Arg.f a0 = some r) : Calls Tryd.prog 58 #[.int .i64 a0] w fun e w' => e = .returned (.string r) ∧ Below w.heap.size w w' := by
  unfold text86_Arg.f at h
  by_cases hc : a0 ≤ 9223372036854775807
  · rw [if_pos hc] at h; obtain rfl := Option.some.inj h; exact Arg_calls a0 hc w hG.out
  · rw [if_neg hc] at h; cases h
def text86_Op.f (a0 : ByteArray) : Option (Int × Bool) := some (opW a0)
theorem text86_Op.calls (a0 : ByteArray) (r1 : Int) (r2 : Bool) (w : World) (hG : Aside0 (G9 w)) (h : text86_Op.f a0 = some (r1, r2)) : Calls Tryd.prog 60 #[.string a0] w fun e w' => e = .returned (.tuple #[.int .i64 r1, .bool r2]) ∧ Below w.heap.size w w' := by
  have h' := Option.some.inj h
  have := Op_calls a0 w hG.out
  rw [h'] at this
  exact this
def text86_Code.f (a0 : ByteArray) : Option (Int × Bool) := some (codeW argsL 1 a0)
theorem text86_Code.calls (a0 : ByteArray) (r1 : Int) (r2 : Bool) (w : World) (hG : Aside0 (G9 w)) (h : text86_Code.f a0 = some (r1, r2)) : Calls Tryd.prog 56 #[.string a0] w fun e w' => e = .returned (.tuple #[.int .i64 r1, .bool r2]) ∧ Below w.heap.size w w' := by
  have h' := Option.some.inj h
  have := Code_calls a0 w hG.out
  rw [h'] at this
  exact this
def text86_Against.f (a0 : Int) : Option (Int × Bool) := if a0 ≤ 9223372036854775807 then some (againstB a0) else none
theorem text86_Against.calls (a0 : Int) (r1 : Int) (r2 : Bool) (w : World) (hG : Aside0 (G9 w)) (h : text86_Against.f a0 = some (r1, r2)) : Calls Tryd.prog 54 #[.int .i64 a0] w fun e w' => e = .returned (.tuple #[.int .i64 r1, .bool r2]) ∧ Below w.heap.size w w' := by
  unfold text86_Against.f at h
  by_cases hc : a0 ≤ 9223372036854775807
  · rw [if_pos hc] at h
    have h' := Option.some.inj h
    have := Against_calls a0 hc w hG.out
    rw [h'] at this
    exact this
  · rw [if_neg hc] at h; cases h
def pidginref09_Name.f (a0 : Int) : Option ByteArray := some (atR namesR a0)
theorem pidginref09_Name.calls (a0 : Int) (r : ByteArray) (w : World) (h : pidginref09_Name.f a0 = some r) : Calls Tryd.prog 62 #[.int .i64 a0] w fun e w' => e = .returned (.string r) ∧ Below w.heap.size w w' := by
  obtain rfl := Option.some.inj h
  exact refName_calls a0 w
def pidginref09_Arg.f (a0 : Int) : Option ByteArray := some (atR argsR a0)
theorem pidginref09_Arg.calls (a0 : Int) (r : ByteArray) (w : World) (h : pidginref09_Arg.f a0 = some r) : Calls Tryd.prog 59 #[.int .i64 a0] w fun e w' => e = .returned (.string r) ∧ Below w.heap.size w w' := by
  obtain rfl := Option.some.inj h
  exact refArg_calls a0 w
def pidginref09_Op.f (a0 : ByteArray) : Option (Int × Bool) := some (findE namesR a0)
theorem pidginref09_Op.calls (a0 : ByteArray) (r1 : Int) (r2 : Bool) (w : World) (h : pidginref09_Op.f a0 = some (r1, r2)) : Calls Tryd.prog 61 #[.string a0] w fun e w' => e = .returned (.tuple #[.int .i64 r1, .bool r2]) ∧ Below w.heap.size w w' := by
  have h' := Option.some.inj h
  have := refOp_calls a0 w
  rw [h'] at this
  exact this
def pidginref09_Code.f (a0 : ByteArray) : Option (Int × Bool) := some (findE argsR a0)
theorem pidginref09_Code.calls (a0 : ByteArray) (r1 : Int) (r2 : Bool) (w : World) (h : pidginref09_Code.f a0 = some (r1, r2)) : Calls Tryd.prog 57 #[.string a0] w fun e w' => e = .returned (.tuple #[.int .i64 r1, .bool r2]) ∧ Below w.heap.size w w' := by
  have h' := Option.some.inj h
  have := refCode_calls a0 w
  rw [h'] at this
  exact this
def pidginref09_Against.f (a0 : Int) : Option (Int × Bool) := some (againstB a0)
theorem pidginref09_Against.calls (a0 : Int) (r1 : Int) (r2 : Bool) (w : World) (h : pidginref09_Against.f a0 = some (r1, r2)) : Calls Tryd.prog 55 #[.int .i64 a0] w fun e w' => e = .returned (.tuple #[.int .i64 r1, .bool r2]) ∧ Below w.heap.size w w' := by
  have h' := Option.some.inj h
  have := refAgainst_calls a0 w
  rw [h'] at this
  exact this
def pidginlaw09_alive.f : Option Bool := some true
theorem pidginlaw09_alive.calls (r : Bool) (w : World) (hG : Aside0 (G9 w)) (h : pidginlaw09_alive.f = some r) : Calls Tryd.prog 52 #[] w fun e w' => e = .returned (.bool r) ∧ Below w.heap.size w w' := by
  obtain rfl := Option.some.inj h
  exact alive_calls w hG.out
end Go.Proofs.YtejhagejjogbaaaDoor.Fns9
