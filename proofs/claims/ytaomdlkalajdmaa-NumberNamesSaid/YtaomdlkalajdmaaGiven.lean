import Derived.Test.YtaomdlkalajdmaaProg
import Derived.Below
import Derived.Deep.Draws
import Derived.Deep.AppendLies
import Derived.Maps.AppendAt
import Derived.OwnWalk
import Derived.Laws.BytesArg
import Derived.Laws.MakeOwn
import Derived.Laws.OwnMore
import Derived.Deep.OwnRows
import Derived.Tactics
import Derived.Lib.ConvBytes
import Derived.Laws.Slices
import Derived.WalkKit
import Derived.KernelRfl
import Derived.RowKit3
import Derived.Deep.LoopGhost
import Derived.Deep.QuietTactic
import Derived.BigQuiet
import Derived.WideLaws
import Derived.Deep.DeepCutAuto
import Derived.Deep.CutBlock
import Derived.Deep.RegionHeld3
import Derived.Laws.Rows
import Derived.Lib.AppendStr
import Derived.ArgAppend
import Derived.Laws.IdiomCopy
import Derived.OrdersHeld
import Derived.Laws.BitsLemmas
import Derived.RowKit
import Derived.Test.YtaomdlkalajdmaaWWords
import Derived.Test.YtaomdlkalajdmaaWLast
import Derived.Test.YtaomdlkalajdmaaWTab
import Derived.Test.YtaomdlkalajdmaaWFour
import Derived.Test.YtaomdlkalajdmaaWQPut
import Derived.Test.YtaomdlkalajdmaaWApart
import Derived.Test.YtaomdlkalajdmaaWArr
import Derived.Test.YtaomdlkalajdmaaWZeros
import Derived.Test.YtaomdlkalajdmaaWFoot
import Derived.Test.YtaomdlkalajdmaaWKept
import Derived.Test.YtaomdlkalajdmaaWShare
import Derived.Test.YtaomdlkalajdmaaWN
import Derived.Test.YtaomdlkalajdmaaWFootNe
import Derived.Test.YtaomdlkalajdmaaWAt
import Derived.Test.YtaomdlkalajdmaaWEqStruct
import Derived.Test.YtaomdlkalajdmaaWRepsOne
import Derived.Test.YtaomdlkalajdmaaWInv
import Derived.Test.YtaomdlkalajdmaaWInvWords
import Derived.Test.YtaomdlkalajdmaaWGuard
import Derived.Test.YtaomdlkalajdmaaWNEv
import Derived.Test.YtaomdlkalajdmaaWMore
import Derived.Lib.Hide
import Derived.Test.YtaomdlkalajdmaaShelf
namespace Go.Proofs.Ytaomdlkalajdmaa.Given
open Go.RowKit Go.Proofs.YtaomdlkalajdmaaW.PrintWords Go.Proofs.YtaomdlkalajdmaaW.PrintLast Go.Proofs.YtaomdlkalajdmaaW.PrintMore

def up1 (c : UInt8) : UInt8 := if 97 ≤ c.toNat ∧ c.toNat ≤ 122 then (c.toNat - 32).toUInt8 else c
def upB (s : ByteArray) : ByteArray := ⟨s.data.map up1⟩
def number_Upper.f (a0 : ByteArray) : Option ByteArray := if a0.size ≤ 9223372036854775807 then some (upB a0) else none

/-- Cell j of the row after k rounds. -/
def upv (s : ByteArray) (k j : Nat) : Int := if j < k then ((up1 (s.data.toList.getD j 0)).toNat : Int) else ((s.data.toList.getD j 0).toNat : Int)

def UpRow (s : ByteArray) (g k : Nat) (w : World) : Prop :=
  ∃ C : Array Value, w.heap[g]? = some (.cells C 5 (C.size, C.size + 1)) ∧ s.size ≤ C.size ∧ ∀ j, j < s.size → C[j]? = some (.int .u8 (upv s k j))

theorem UpRow.cell {s : ByteArray} {g k : Nat} {w : World} (h : UpRow s g k w) {j : Nat} (hj : j < s.size) :
    w.cell? ⟨g, j, none⟩ = some (.int .u8 (upv s k j)) := by
  obtain ⟨C, hC, _, hc⟩ := h
  simp [World.cell?, hC, hc j hj]
theorem UpRow.free {s : ByteArray} {g k : Nat} {w : World} (h : UpRow s g k w) {j : Nat} (hj : j < s.size) :
    w.frozen? ⟨g, j, none⟩ = false := by
  obtain ⟨C, hC, hs, _⟩ := h
  simp [World.frozen?, hC]
  omega
theorem UpRow.stay {s : ByteArray} {g k : Nat} {w : World} (h : UpRow s g k w) (he : upv s (k + 1) k = upv s k k) : UpRow s g (k + 1) w := by
  obtain ⟨C, hC, hs, hc⟩ := h
  refine ⟨C, hC, hs, fun j hj => ?_⟩
  rw [hc j hj]
  by_cases e : j = k
  · subst e; rw [he]
  · have : upv s (k + 1) j = upv s k j := by
      unfold upv
      by_cases h1 : j < k
      · rw [if_pos h1, if_pos (by omega)]
      · rw [if_neg h1, if_neg (by omega)]
    rw [this]
theorem UpRow.put {s : ByteArray} {g k : Nat} {w : World} (h : UpRow s g k w) (v : Int) (he : upv s (k + 1) k = v) : UpRow s g (k + 1) (w.setCell ⟨g, k, none⟩ (.int .u8 v)) := by
  obtain ⟨C, hC, hs, hc⟩ := h
  refine ⟨C.setIfInBounds k (.int .u8 v), ?_, by simpa using hs, fun j hj => ?_⟩
  · simp [World.setCell, Array.getElem?_modify, hC]
  · by_cases e : j = k
    · subst e
      rw [Array.getElem?_setIfInBounds_self_of_lt (by omega), he]
    · have : upv s (k + 1) j = upv s k j := by
        unfold upv
        by_cases h1 : j < k
        · rw [if_pos h1, if_pos (by omega)]
        · rw [if_neg h1, if_neg (by omega)]
      rw [Array.getElem?_setIfInBounds_ne (by omega), hc j hj, this]
theorem upv_lt (s : ByteArray) (k : Nat) : 0 ≤ upv s k k ∧ upv s k k < 256 := by
  unfold upv
  rw [if_neg (by omega)]
  have := (s.data.toList.getD k 0).toNat_lt
  omega
theorem up1_int (c : UInt8) : ((up1 c).toNat : Int) = if 97 ≤ (c.toNat : Int) ∧ (c.toNat : Int) ≤ 122 then (c.toNat : Int) - 97 + 65 else (c.toNat : Int) := by
  unfold up1
  have hc := c.toNat_lt
  by_cases h : 97 ≤ c.toNat ∧ c.toNat ≤ 122
  · have h' : 97 ≤ (c.toNat : Int) ∧ (c.toNat : Int) ≤ 122 := by omega
    rw [if_pos h, if_pos h']
    have : (c.toNat - 32).toUInt8.toNat = c.toNat - 32 := by
      simp only [Nat.toUInt8, UInt8.toNat_ofNat']
      omega
    rw [this]
    omega
  · have h' : ¬ (97 ≤ (c.toNat : Int) ∧ (c.toNat : Int) ≤ 122) := by omega
    rw [if_neg h, if_neg h']
theorem upv_step (s : ByteArray) (k : Nat) : upv s (k + 1) k = if 97 ≤ upv s k k ∧ upv s k k ≤ 122 then upv s k k - 97 + 65 else upv s k k := by
  have h1 : upv s (k + 1) k = ((up1 (s.data.toList.getD k 0)).toNat : Int) := if_pos (by omega)
  have h2 : upv s k k = ((s.data.toList.getD k 0).toNat : Int) := if_neg (by omega)
  rw [h1, h2, up1_int]
theorem str_bytes (s : ByteArray) : strOfNums (bytesOf s) = s := by
  unfold strOfNums bytesOf
  rw [List.map_map]
  have : ((fun n : Int => UInt8.ofNat n.toNat) ∘ fun b : UInt8 => (b.toNat : Int)) = id := by funext b; simp
  rw [this, List.map_id]

set_option maxHeartbeats 8000000 in
set_option maxRecDepth 100000 in
theorem number_Upper.calls (a0 : ByteArray) (r : ByteArray) (w : World) (h : number_Upper.f a0 = some r) :
    Calls Try.prog 16 #[.string a0] w fun e w' => e = .returned (.string r) ∧ Below w.heap.size w w' := by
  have hconv := fun W => print_bytes (P := Try.prog) 9 36 5 Try.underlying9 Try.underlying36 Try.underlying5 a0 W
  unfold number_Upper.f at h
  split at h
  case isFalse => simp at h
  rename_i hs
  obtain rfl := Option.some.inj h
  go_enter Try.func16, Try.ntmps16
  go_wp2
  go_loopw [10] (fun i wr => ∃ k : Nat, k ≤ a0.size ∧ i = .int .i64 k ∧ Aside0 (Below w.heap.size w wr) ∧ Aside0 (UpRow a0 w.heap.size k wr)) (fun i _ => a0.size - (intOf i).toNat)
  case atStart =>
    refine ⟨0, Nat.zero_le _, rfl, ⟨bytes_below (Below.refl _ _) (Nat.le_refl _) 5 a0⟩, ⟨_, Lib.bytesWorld_at_new w 5 a0, ?_, ?_⟩⟩
    · simp [Lib.bytesCells]
    · intro j hj
      have := Lib.bytesWorld_cell w 5 a0 j hj
      simp only [World.cell?, Lib.bytesWorld_at_new] at this
      simpa [upv] using this
  case round =>
    obtain ⟨k, hk, rfl, HB, HU⟩ := hrel
    by_cases hlt : k < a0.size
    · have c0 := HU.out.cell hlt
      have f0 := HU.out.free hlt
      have hr := upv_lt a0 k
      have hst := Lib.hid (upv_step a0 k)
      go_wp2
      all_goals
        refine ⟨⟨k + 1, by omega, by go_num, ?_, ?_⟩, by simp [intOf]; omega⟩
      · exact ⟨HB.out.setCell (Nat.le_refl _) _⟩
      · exact ⟨HU.out.put _ (by rw [hst.out, if_pos (by constructor <;> assumption)])⟩
      · exact HB
      · exact ⟨HU.out.stay (by rw [hst.out, if_neg (by omega)])⟩
      · exact HB
      · exact ⟨HU.out.stay (by rw [hst.out, if_neg (by omega)])⟩
    · obtain rfl : k = a0.size := by omega
      have hback := run_convert_bytes_arg (P := Try.prog) wr 36 5 Try.underlying36 Try.underlying5 w.heap.size 0 a0.size (grownCap w a0.size 0 5) (bytesOf (upB a0)) (by simp [bytesOf, upB]) (fun i hi => by
        rw [Nat.zero_add, HU.out.cell hi]
        simp [upv, hi, bytesOf, upB]) 9 Try.underlying9
      go_wp2
      go_ret
      exact ⟨by rw [str_bytes]; rfl, HB.out⟩

def strings_IndexByte.f (a0 : ByteArray) (a1 : Int) : Option Int := some (Lib.indexByte a0.data.toList a1.toNat.toUInt8)
theorem strings_IndexByte.calls (a0 : ByteArray) (a1 : Int) (r : Int) (w : World) (h : strings_IndexByte.f a0 a1 = some r) :
    Calls Try.prog 19 #[.string a0, .int .u8 a1] w fun e w' => e = .returned (.int .i64 r) ∧ Drawn0 w w' := by
  unfold strings_IndexByte.f at h
  obtain rfl := Option.some.inj h
  refine (Try.strings_IndexByte a0 a1 w).mono ?_
  rintro e w' ⟨rfl, rfl⟩
  exact ⟨rfl, Drawn0.refl _⟩
end Go.Proofs.Ytaomdlkalajdmaa.Given
