import Derived.Test.YtejhagejjogbaaaDoorProg
import Derived.Below
import Derived.Deep.Draws
import Derived.Deep.AppendLies
import Derived.Maps.AppendAt
import Derived.OwnWalk
import Derived.Laws.BytesArg
import Derived.Laws.MakeOwn
import Derived.Laws.OwnMore
import Derived.Deep.OwnRows
import Derived.Tactics
import Derived.Lib.ConvBytes
import Derived.Laws.Slices
import Derived.WalkKit
import Derived.KernelRfl
import Derived.RowKit3
import Derived.Deep.LoopGhost
import Derived.Deep.QuietTactic
import Derived.BigQuiet
import Derived.WideLaws
import Derived.Deep.DeepCutAuto
import Derived.Deep.CutBlock
import Derived.Deep.RegionHeld3
import Derived.Laws.Rows
import Derived.Lib.AppendStr
import Derived.ArgAppend
import Derived.Laws.IdiomCopy
import Derived.OrdersHeld
import Derived.Laws.BitsLemmas
import Derived.RowKit
import Derived.Test.YtejhagejjogbaaaDoorVPn0
import Derived.Test.YtejhagejjogbaaaDoorVPn1
import Derived.Test.YtejhagejjogbaaaDoorVPa0
import Derived.Test.YtejhagejjogbaaaDoorVPa1
import Derived.Test.YtejhagejjogbaaaDoorVPa2
import Derived.Test.YtejhagejjogbaaaDoorVPa3
import Derived.Test.YtejhagejjogbaaaDoorVPa5
import Derived.Test.YtejhagejjogbaaaDoorVPb0
import Derived.Test.YtejhagejjogbaaaDoorVPb1
import Derived.Test.YtejhagejjogbaaaDoorVPc0
import Derived.Test.YtejhagejjogbaaaDoorVPc1
import Derived.Test.YtejhagejjogbaaaDoorVPe0
import Derived.Test.YtejhagejjogbaaaDoorVPe1
import Derived.Test.YtejhagejjogbaaaDoorVWWords
import Derived.Test.YtejhagejjogbaaaDoorVWLast
import Derived.Test.YtejhagejjogbaaaDoorVWTab
import Derived.Test.YtejhagejjogbaaaDoorVWApart
import Derived.Test.YtejhagejjogbaaaDoorVWFoot
import Derived.Test.YtejhagejjogbaaaDoorVWKept
import Derived.Test.YtejhagejjogbaaaDoorVWShare
import Derived.Test.YtejhagejjogbaaaDoorVWN
import Derived.Test.YtejhagejjogbaaaDoorVWEqStruct
import Derived.Test.YtejhagejjogbaaaDoorVWRepsOne
import Derived.Test.YtejhagejjogbaaaDoorVWGuard
import Derived.Test.YtejhagejjogbaaaDoorVWMore
namespace Go.Proofs.YtejhagejjogbaaaDoor.Pf
open Go.RowKit Go.Proofs.YtejhagejjogbaaaDoorW.PrintWords Go.Proofs.YtejhagejjogbaaaDoorW.PrintLast Go.Proofs.YtejhagejjogbaaaDoorW.PrintMore Go.Proofs.YtejhagejjogbaaaDoor.Given Go.Proofs.YtejhagejjogbaaaDoor.TokSpan Go.Proofs.YtejhagejjogbaaaDoor.Pn Go.Proofs.YtejhagejjogbaaaDoor.Pa Go.Proofs.YtejhagejjogbaaaDoor.Pb Go.Proofs.YtejhagejjogbaaaDoor.Pc Go.Proofs.YtejhagejjogbaaaDoor.Pe
attribute [local go_sem] max2_int min2_int max_two min_two max_three min_three max_four min_four   -- for this text's walks alone
set_option linter.unusedVariables false
set_option linter.unusedSimpArgs false
def errW : Option Int → Value
  | none => .nilIface
  | some c => .iface 0 (.int .i64 c)
theorem errW_none : errW none = .nilIface := rfl
theorem errW_some (c : Int) : errW (some c) = .iface 0 (.int .i64 c) := rfl
theorem info31 : (Tryd.prog.info? 31).map (fun i => (i.zero, i.size, i.bytes)) = some (some (.slice none 0 0), 1, 24) := by kernel_rfl
theorem info41 : (Tryd.prog.info? 41).map (fun i => (i.zero, i.size, i.bytes)) = some (some (.agg #[(.int .i64 0), (.string ⟨#[]⟩), (.int .u16 0)]), 3, 32) := by kernel_rfl
theorem info46 : (Tryd.prog.info? 46).map (fun i => (i.zero, i.size, i.bytes)) = some (some (.agg #[(.int .i64 0), (.string ⟨#[]⟩), (.int .u16 0)]), 3, 32) := by kernel_rfl
def rd_L7 (xs : List (List S41)) (i : Int) : (List S41) := xs.getD i.toNat ([] : List S41)
theorem at_L7 {w : World} {A : Option Addr} {n : Nat} {xs : List (List S41)} (h : Kd.C (Kd.slice 41 k41) w A n xs) (i : Int) (h0 : 0 ≤ i) (h1 : i < n) : ∃ ad A0 c0, A = some ad ∧ w.cell? (ad.add i.toNat) = some (.slice A0 (rd_L7 xs i).length c0) ∧ (rd_L7 xs i).length ≤ c0 ∧ k41.C w A0 (rd_L7 xs i).length (rd_L7 xs i) := by
  obtain ⟨ad, c, e, _, hK, hc0⟩ := Kd.C_get h ([] : List S41) i h0 h1
  have hc : ∀ j u, c[j]? = some u → w.cell? (ad.add (i.toNat * 1 + j)) = some u := hc0
  obtain ⟨A0, c0, rfl, l0, g0⟩ := hK
  exact ⟨ad, A0, c0, e, by have hq := hc 0 _ rfl; rwa [Nat.mul_one, Nat.add_zero] at hq, l0, g0⟩
end Go.Proofs.YtejhagejjogbaaaDoor.Pf
