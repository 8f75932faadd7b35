import Derived.Test.YtejhagejjogbaaaDoorProg
import Derived.Below
import Derived.Deep.Draws
import Derived.Deep.AppendLies
import Derived.Maps.AppendAt
import Derived.OwnWalk
import Derived.Laws.BytesArg
import Derived.Laws.MakeOwn
import Derived.Laws.OwnMore
import Derived.Deep.OwnRows
import Derived.Tactics
import Derived.Lib.ConvBytes
import Derived.Laws.Slices
import Derived.WalkKit
import Derived.KernelRfl
import Derived.RowKit3
import Derived.Deep.LoopGhost
import Derived.Deep.QuietTactic
import Derived.BigQuiet
import Derived.WideLaws
import Derived.Deep.DeepCutAuto
import Derived.Deep.CutBlock
import Derived.Deep.RegionHeld3
import Derived.Laws.Rows
import Derived.Lib.AppendStr
import Derived.ArgAppend
import Derived.Laws.IdiomCopy
import Derived.OrdersHeld
import Derived.Laws.BitsLemmas
import Derived.RowKit
import Derived.Test.YtejhagejjogbaaaDoorKgWWords
import Derived.Test.YtejhagejjogbaaaDoorKgWLast
import Derived.Test.YtejhagejjogbaaaDoorKgWApart
import Derived.Test.YtejhagejjogbaaaDoorKgWFoot
import Derived.Test.YtejhagejjogbaaaDoorKgWKept
import Derived.Test.YtejhagejjogbaaaDoorKgWShare
import Derived.Test.YtejhagejjogbaaaDoorKgWN
import Derived.Laws.StructEq
import Derived.Test.YtejhagejjogbaaaDoorKgWRepsOne
import Derived.Test.YtejhagejjogbaaaDoorKgWGuard
import Derived.Test.YtejhagejjogbaaaDoorKgWMore
import Derived.Lib.Hide
import Derived.Laws.RangeAny
import Derived.Lib.TrimU
import Derived.Lib.CountLaws
import Derived.Lib.SplitLaws
import Derived.Lib.ReplaceLaws
import Derived.Lib.SlBytesConst
import Derived.Deep.Onto
import Derived.Shelf.Strings.Builder1
import Derived.Shelf.Strings.Builder2
import Derived.Shelf.Strings.OnBuilder
import Derived.Shelf.Strings.TrimSpace
import Derived.Shelf.Small.Utf8
import Derived.Shelf.Small.Strs
import Derived.Shelf.Small.Wraps
import Derived.Shelf.Utf8.RuneCount
import Derived.Shelf.Strconv.Itoa0
import Derived.Shelf.Strconv.Itoa1
import Derived.Shelf.LaysM
import Derived.Shelf.Strconv.Itoa2
import Derived.Shelf.Strconv.Itoa3
import Derived.Shelf.Strings.Search1
import Derived.Shelf.Strings.Search2
import Derived.Shelf.Strings.Search3
import Derived.Shelf.Strings.Count
import Derived.Shelf.Strings.Shaped
import Derived.Shelf.GgClosure.StringsIndexFunc
import Derived.Shelf.Strings.Prefix
import Derived.Shelf.Strings.Split
import Derived.Shelf.Strings.Fields
import Derived.Shelf.Strings.Replace
import Derived.Shelf.Strings.SplitShaped
import Derived.Shelf.Unicode.Latin
import Derived.Shelf.Unicode.Decode
import Derived.Shelf.Strings.RuneCount
import Derived.Shelf.Unicode.DecodeSlow
import Derived.Shelf.Unicode.DecodeAny
import Derived.Shelf.Unicode.Is16White
import Derived.Shelf.Unicode.IsSpaceAny
import Derived.Shelf.Unicode.DecodeLast
import Derived.Shelf.Strings.TrimSpaceAny
import Derived.Shelf.Unicode.Is16WhiteD
import Derived.Shelf.Unicode.IsSpaceAnyD
import Derived.Shelf.Unicode.Is16Any
import Derived.Shelf.Unicode.Is32Any
import Derived.Shelf.Unicode.ExclAny
import Derived.Shelf.Slices.Turned
namespace Go.Proofs.YtejhagejjogbaaaDoor.Given
open Go.RowKit Go.Proofs.YtejhagejjogbaaaDoorW.PrintWords Go.Proofs.YtejhagejjogbaaaDoorW.PrintLast Go.Proofs.YtejhagejjogbaaaDoorW.PrintMore
def up1 (c : UInt8) : UInt8 := if 97 ≤ c.toNat ∧ c.toNat ≤ 122 then (c.toNat - 32).toUInt8 else c
def upv (s : ByteArray) (k j : Nat) : Int := if j < k then ((up1 (s.data.toList.getD j 0)).toNat : Int) else ((s.data.toList.getD j 0).toNat : Int)
def UpRow (s : ByteArray) (g k : Nat) (w : World) : Prop :=
  ∃ C : Array Value, w.heap[g]? = some (.cells C 5 (C.size, C.size + 1)) ∧ s.size ≤ C.size ∧ ∀ j, j < s.size → C[j]? = some (.int .u8 (upv s k j))
theorem UpRow.cell {s : ByteArray} {g k : Nat} {w : World} (h : UpRow s g k w) {j : Nat} (hj : j < s.size) :
    w.cell? ⟨g, j, none⟩ = some (.int .u8 (upv s k j)) := by
  obtain ⟨C, hC, _, hc⟩ := h
  simp [World.cell?, hC, hc j hj]
theorem UpRow.put {s : ByteArray} {g k : Nat} {w : World} (h : UpRow s g k w) (v : Int) (he : upv s (k + 1) k = v) : UpRow s g (k + 1) (w.setCell ⟨g, k, none⟩ (.int .u8 v)) := by
  obtain ⟨C, hC, hs, hc⟩ := h
  refine ⟨C.setIfInBounds k (.int .u8 v), ?_, by simpa using hs, fun j hj => ?_⟩
  · simp [World.setCell, Array.getElem?_modify, hC]
  · by_cases e : j = k
    · subst e
      rw [Array.getElem?_setIfInBounds_self_of_lt (by omega), he]
    · have : upv s (k + 1) j = upv s k j := by
        unfold upv
        by_cases h1 : j < k
        · rw [if_pos h1, if_pos (by omega)]
        · rw [if_neg h1, if_neg (by omega)]
      rw [Array.getElem?_setIfInBounds_ne (by omega), hc j hj, this]
def G0 (w : World) : Prop := ∃ m, w.cell? ⟨2, 0, none⟩ = some (.int .i64 m)
theorem G0.below {w w' : World} (h : G0 w) (hb : Below w.heap.size w w') : G0 w' := by
  obtain ⟨m, hm⟩ := h
  exact ⟨m, pw_cell_below hb hm⟩
theorem G0.drewN {w : World} (h : G0 w) (n : Nat) : G0 (w.drewN n) := h
def RM (w : World) (base : Nat) (v : Value) (xs : List Int) : Prop :=
  Kd.R (Kd.int .u8) 5 w base (fun _ => True) v xs ∨
    ∃ g, base ≤ g ∧ v = .slice (some ⟨g, 0, none⟩) xs.length xs.length ∧ ∀ j u, (encs (Value.int .u8) xs)[j]? = some u → w.cell? ((⟨g, 0, none⟩ : Addr).add j) = some u
theorem RM.below {w w1 : World} {base : Nat} {v : Value} {xs : List Int} (h : RM w base v xs) (hb : Below w.heap.size w w1) : RM w1 base v xs := by
  rcases h with h | ⟨g, hg, hv, hc⟩
  · exact .inl (Kd.R_of_own (h1 := fun _ => rfl) (pw_own_below (Kd.own_of_R h) hb) (fun _ _ => trivial))
  · exact .inr ⟨g, hg, hv, fun j u hj => pw_cell_below hb (hc j u hj)⟩
theorem RM.alloc {w : World} {base : Nat} {v : Value} {xs : List Int} (h : RM w base v xs) (o : Obj) : RM (w.alloc o) base v xs := h.below (below_alloc (Below.refl _ _) o)
theorem RM.drewN {w : World} {base : Nat} {v : Value} {xs : List Int} (h : RM w base v xs) (n : Nat) : RM (w.drewN n) base v xs := h.below (pw_below_drewN (Below.refl _ _) n)
theorem RM.drew {w : World} {base : Nat} {v : Value} {xs : List Int} (h : RM w base v xs) : RM w.drew base v xs := h.below (below_drew1 (Below.refl _ _))
section
variable {ops : Array Oper} {rest : List Oper} {o : Oper} {a : Act} {Q : Exit → Act → World → Prop}
end
end Go.Proofs.YtejhagejjogbaaaDoor.Given
