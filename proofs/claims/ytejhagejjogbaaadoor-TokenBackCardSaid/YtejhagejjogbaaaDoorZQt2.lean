import Derived.Test.YtejhagejjogbaaaDoorZQt
namespace Go.Proofs.YtejhagejjogbaaaDoor.Num
open Go.RowKit Go.Proofs.YtejhagejjogbaaaDoor.Given Go.Proofs.YtejhagejjogbaaaDoor.Pn Go.Proofs.YtejhagejjogbaaaDoorW.PrintWords Go.Proofs.YtejhagejjogbaaaDoorW.PrintLast
set_option linter.unusedSimpArgs false
theorem Llist (l : List UInt8) : L ⟨l.toArray⟩ = l := by rw [L_mk, List.toList_toArray]
theorem eq39 (c : UInt8) : (c.toNat : Int) = 39 ↔ c = 39 := by
  constructor
  · intro h
    exact UInt8.toNat_inj.1 (by have : c.toNat = 39 := by omega
                                rw [this]; rfl)
  · rintro rfl; rfl
theorem num_quote (x : ByteArray) (hs : x.size ≤ 1000) : number_Quote.f x = some ⟨(39 :: (dbl (L x) ++ [39])).toArray⟩ := by
  have r3 := Lib.countB_le ⟨#[39]⟩ (by decide) x.size x (Nat.le_refl _)
  have hd := dbl_len (L x)
  rw [L_len] at hd
  unfold number_Quote.f strings_ReplaceAll.f
  rw [if_pos ⟨by omega, by decide, by rw [show (⟨#[39, 39]⟩ : ByteArray).size = 2 from rfl]; omega⟩]
  have e : Lib.replaceAll x.data.toList (#[39] : Array UInt8).toList (#[39, 39] : Array UInt8).toList = dbl (L x) := dbl_eq (L x)
  simp only [Option.bind_some, e, sizeL]
  rw [if_pos (by omega), if_pos (by simp only [ByteArray.size_append, sizeL, List.length_cons, List.length_nil]; omega)]
  congr 1
end Go.Proofs.YtejhagejjogbaaaDoor.Num
