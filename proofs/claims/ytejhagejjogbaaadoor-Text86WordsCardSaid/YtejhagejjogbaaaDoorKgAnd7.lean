import Derived.Test.YtejhagejjogbaaaDoorKgGiven
namespace Go.Proofs.YtejhagejjogbaaaDoor.And7
open Go.RowKit Go.Proofs.YtejhagejjogbaaaDoorW.PrintWords
theorem and7_all : ∀ n : Fin 256, Go.bits .and .u8 ((n.val : Nat) : Int) 7 = ((n.val % 8 : Nat) : Int) := by decide +kernel
theorem and7 (x : Int) : x % 8 = Go.bits .and .u8 (x % 256) 7 := by
  have h := and7_all ⟨(x % 256).toNat, by omega⟩
  simp only at h
  rw [show (((x % 256).toNat : Nat) : Int) = x % 256 by omega] at h
  rw [h]
  omega
end Go.Proofs.YtejhagejjogbaaaDoor.And7
