import Derived.Test.YtejhagejjogbaaaDoorProg
import Derived.Below
import Derived.Deep.Draws
import Derived.Deep.AppendLies
import Derived.Maps.AppendAt
import Derived.OwnWalk
import Derived.Laws.BytesArg
import Derived.Laws.MakeOwn
import Derived.Laws.OwnMore
import Derived.Deep.OwnRows
import Derived.Tactics
import Derived.Lib.ConvBytes
import Derived.Laws.Slices
import Derived.WalkKit
import Derived.KernelRfl
import Derived.RowKit3
import Derived.Deep.LoopGhost
import Derived.Deep.QuietTactic
import Derived.BigQuiet
import Derived.WideLaws
import Derived.Deep.DeepCutAuto
import Derived.Deep.CutBlock
import Derived.Deep.RegionHeld3
import Derived.Laws.Rows
import Derived.Lib.AppendStr
import Derived.ArgAppend
import Derived.Laws.IdiomCopy
import Derived.OrdersHeld
import Derived.Laws.BitsLemmas
import Derived.RowKit
import Derived.Test.YtejhagejjogbaaaDoorVWWords
import Derived.Test.YtejhagejjogbaaaDoorVWLast
import Derived.Test.YtejhagejjogbaaaDoorVWTab
import Derived.Test.YtejhagejjogbaaaDoorVWApart
import Derived.Test.YtejhagejjogbaaaDoorVWFoot
import Derived.Test.YtejhagejjogbaaaDoorVWKept
import Derived.Test.YtejhagejjogbaaaDoorVWShare
import Derived.Test.YtejhagejjogbaaaDoorVWN
import Derived.Test.YtejhagejjogbaaaDoorVWEqStruct
import Derived.Test.YtejhagejjogbaaaDoorVWRepsOne
import Derived.Test.YtejhagejjogbaaaDoorVWGuard
import Derived.Test.YtejhagejjogbaaaDoorVWMore
import Derived.Lib.Hide
import Derived.Laws.RangeAny
import Derived.Lib.TrimU
import Derived.Lib.CountLaws
import Derived.Lib.SplitLaws
import Derived.Lib.ReplaceLaws
import Derived.Lib.SlBytesConst
import Derived.Deep.Onto
import Derived.Test.YtejhagejjogbaaaDoorVShelf
namespace Go.Proofs.YtejhagejjogbaaaDoor.Given
open Go.RowKit Go.Proofs.YtejhagejjogbaaaDoorW.PrintWords Go.Proofs.YtejhagejjogbaaaDoorW.PrintLast Go.Proofs.YtejhagejjogbaaaDoorW.PrintMore
def up1 (c : UInt8) : UInt8 := if 97 ≤ c.toNat ∧ c.toNat ≤ 122 then (c.toNat - 32).toUInt8 else c
def upB (s : ByteArray) : ByteArray := ⟨s.data.map up1⟩
def number_Upper.f (a0 : ByteArray) : Option ByteArray := if a0.size ≤ 9223372036854775807 then some (upB a0) else none
def upv (s : ByteArray) (k j : Nat) : Int := if j < k then ((up1 (s.data.toList.getD j 0)).toNat : Int) else ((s.data.toList.getD j 0).toNat : Int)
def UpRow (s : ByteArray) (g k : Nat) (w : World) : Prop :=
  ∃ C : Array Value, w.heap[g]? = some (.cells C 5 (C.size, C.size + 1)) ∧ s.size ≤ C.size ∧ ∀ j, j < s.size → C[j]? = some (.int .u8 (upv s k j))
theorem UpRow.cell {s : ByteArray} {g k : Nat} {w : World} (h : UpRow s g k w) {j : Nat} (hj : j < s.size) :
    w.cell? ⟨g, j, none⟩ = some (.int .u8 (upv s k j)) := by
  obtain ⟨C, hC, _, hc⟩ := h
  simp [World.cell?, hC, hc j hj]
theorem UpRow.free {s : ByteArray} {g k : Nat} {w : World} (h : UpRow s g k w) {j : Nat} (hj : j < s.size) :
    w.frozen? ⟨g, j, none⟩ = false := by
  obtain ⟨C, hC, hs, _⟩ := h
  simp [World.frozen?, hC]
  omega
theorem UpRow.stay {s : ByteArray} {g k : Nat} {w : World} (h : UpRow s g k w) (he : upv s (k + 1) k = upv s k k) : UpRow s g (k + 1) w := by
  obtain ⟨C, hC, hs, hc⟩ := h
  refine ⟨C, hC, hs, fun j hj => ?_⟩
  rw [hc j hj]
  by_cases e : j = k
  · subst e; rw [he]
  · have : upv s (k + 1) j = upv s k j := by
      unfold upv
      by_cases h1 : j < k
      · rw [if_pos h1, if_pos (by omega)]
      · rw [if_neg h1, if_neg (by omega)]
    rw [this]
theorem UpRow.put {s : ByteArray} {g k : Nat} {w : World} (h : UpRow s g k w) (v : Int) (he : upv s (k + 1) k = v) : UpRow s g (k + 1) (w.setCell ⟨g, k, none⟩ (.int .u8 v)) := by
  obtain ⟨C, hC, hs, hc⟩ := h
  refine ⟨C.setIfInBounds k (.int .u8 v), ?_, by simpa using hs, fun j hj => ?_⟩
  · simp [World.setCell, Array.getElem?_modify, hC]
  · by_cases e : j = k
    · subst e
      rw [Array.getElem?_setIfInBounds_self_of_lt (by omega), he]
    · have : upv s (k + 1) j = upv s k j := by
        unfold upv
        by_cases h1 : j < k
        · rw [if_pos h1, if_pos (by omega)]
        · rw [if_neg h1, if_neg (by omega)]
      rw [Array.getElem?_setIfInBounds_ne (by omega), hc j hj, this]
theorem upv_lt (s : ByteArray) (k : Nat) : 0 ≤ upv s k k ∧ upv s k k < 256 := by
  unfold upv
  rw [if_neg (by omega)]
  have := (s.data.toList.getD k 0).toNat_lt
  omega
theorem up1_int (c : UInt8) : ((up1 c).toNat : Int) = if 97 ≤ (c.toNat : Int) ∧ (c.toNat : Int) ≤ 122 then (c.toNat : Int) - 97 + 65 else (c.toNat : Int) := by
  unfold up1
  have hc := c.toNat_lt
  by_cases h : 97 ≤ c.toNat ∧ c.toNat ≤ 122
  · have h' : 97 ≤ (c.toNat : Int) ∧ (c.toNat : Int) ≤ 122 := by omega
    rw [if_pos h, if_pos h']
    have : (c.toNat - 32).toUInt8.toNat = c.toNat - 32 := by
      simp only [Nat.toUInt8, UInt8.toNat_ofNat']
      omega
    rw [this]
    omega
  · have h' : ¬ (97 ≤ (c.toNat : Int) ∧ (c.toNat : Int) ≤ 122) := by omega
    rw [if_neg h, if_neg h']
theorem upv_step (s : ByteArray) (k : Nat) : upv s (k + 1) k = if 97 ≤ upv s k k ∧ upv s k k ≤ 122 then upv s k k - 97 + 65 else upv s k k := by
  have h1 : upv s (k + 1) k = ((up1 (s.data.toList.getD k 0)).toNat : Int) := if_pos (by omega)
  have h2 : upv s k k = ((s.data.toList.getD k 0).toNat : Int) := if_neg (by omega)
  rw [h1, h2, up1_int]
theorem str_bytes (s : ByteArray) : strOfNums (bytesOf s) = s := by
  unfold strOfNums bytesOf
  rw [List.map_map]
  have : ((fun n : Int => UInt8.ofNat n.toNat) ∘ fun b : UInt8 => (b.toNat : Int)) = id := by funext b; simp
  rw [this, List.map_id]
set_option maxHeartbeats 8000000 in
set_option maxRecDepth 100000 in
theorem number_Upper.calls (a0 : ByteArray) (r : ByteArray) (w : World) (h : number_Upper.f a0 = some r) :
    Calls Tryd.prog 33 #[.string a0] w fun e w' => e = .returned (.string r) ∧ Below w.heap.size w w' := by
  have hconv := fun W => print_bytes (P := Tryd.prog) 9 82 5 Tryd.underlying9 Tryd.underlying82 Tryd.underlying5 a0 W
  unfold number_Upper.f at h
  split at h
  case isFalse => simp at h
  rename_i hs
  obtain rfl := Option.some.inj h
  go_enter Tryd.func33, Tryd.ntmps33
  go_wp2
  go_loopw [10] (fun i wr => ∃ k : Nat, k ≤ a0.size ∧ i = .int .i64 k ∧ Aside0 (Below w.heap.size w wr) ∧ Aside0 (UpRow a0 w.heap.size k wr)) (fun i _ => a0.size - (intOf i).toNat)
  case atStart =>
    refine ⟨0, Nat.zero_le _, rfl, ⟨bytes_below (Below.refl _ _) (Nat.le_refl _) 5 a0⟩, ⟨_, Lib.bytesWorld_at_new w 5 a0, ?_, ?_⟩⟩
    · simp [Lib.bytesCells]
    · intro j hj
      have := Lib.bytesWorld_cell w 5 a0 j hj
      simp only [World.cell?, Lib.bytesWorld_at_new] at this
      simpa [upv] using this
  case round =>
    obtain ⟨k, hk, rfl, HB, HU⟩ := hrel
    by_cases hlt : k < a0.size
    · have c0 := HU.out.cell hlt
      have f0 := HU.out.free hlt
      have hr := upv_lt a0 k
      have hst := Lib.hid (upv_step a0 k)
      go_wp2
      all_goals
        refine ⟨⟨k + 1, by omega, by go_num, ?_, ?_⟩, by simp [intOf]; omega⟩
      · exact ⟨HB.out.setCell (Nat.le_refl _) _⟩
      · exact ⟨HU.out.put _ (by rw [hst.out, if_pos (by constructor <;> assumption)])⟩
      · exact HB
      · exact ⟨HU.out.stay (by rw [hst.out, if_neg (by omega)])⟩
      · exact HB
      · exact ⟨HU.out.stay (by rw [hst.out, if_neg (by omega)])⟩
    · obtain rfl : k = a0.size := by omega
      have hback := run_convert_bytes_arg (P := Tryd.prog) wr 82 5 Tryd.underlying82 Tryd.underlying5 w.heap.size 0 a0.size (grownCap w a0.size 0 5) (bytesOf (upB a0)) (by simp [bytesOf, upB]) (fun i hi => by
        rw [Nat.zero_add, HU.out.cell hi]
        simp [upv, hi, bytesOf, upB]) 9 Tryd.underlying9
      go_wp2
      go_ret
      exact ⟨by rw [str_bytes]; rfl, HB.out⟩
def strings_IndexByte.f (a0 : ByteArray) (a1 : Int) : Option Int := some (Lib.indexByte a0.data.toList a1.toNat.toUInt8)
theorem strings_IndexByte.calls (a0 : ByteArray) (a1 : Int) (r : Int) (w : World) (h : strings_IndexByte.f a0 a1 = some r) :
    Calls Tryd.prog 101 #[.string a0, .int .u8 a1] w fun e w' => e = .returned (.int .i64 r) ∧ Drawn0 w w' := by
  unfold strings_IndexByte.f at h
  obtain rfl := Option.some.inj h
  refine (Tryd.strings_IndexByte a0 a1 w).mono ?_
  rintro e w' ⟨rfl, rfl⟩
  exact ⟨rfl, Drawn0.refl _⟩
def G0 (w : World) : Prop := ∃ m, w.cell? ⟨2, 0, none⟩ = some (.int .i64 m)
theorem G0.below {w w' : World} (h : G0 w) (hb : Below w.heap.size w w') : G0 w' := by
  obtain ⟨m, hm⟩ := h
  exact ⟨m, pw_cell_below hb hm⟩
theorem G0.drewN {w : World} (h : G0 w) (n : Nat) : G0 (w.drewN n) := h
def strings_HasPrefix.f (a0 a1 : ByteArray) : Option Bool := some (Lib.hasPrefix a0.data.toList a1.data.toList)
theorem strings_HasPrefix.calls (a0 a1 : ByteArray) (r : Bool) (w : World) (h : strings_HasPrefix.f a0 a1 = some r) :
    Calls Tryd.prog 140 #[.string a0, .string a1] w fun e w' => e = .returned (.bool r) ∧ Drawn0 w w' := by
  unfold strings_HasPrefix.f at h
  obtain rfl := Option.some.inj h
  refine (Tryd.strings_HasPrefix a0 a1 w).mono ?_
  rintro e w' ⟨rfl, rfl⟩
  exact ⟨rfl, Drawn0.refl _⟩
def strings_ReplaceAll.f (a0 a1 a2 : ByteArray) : Option ByteArray :=
  if a0.size < 4294967281 ∧ 1 ≤ a1.size ∧ a0.size + Lib.countB a0 a1 * a2.size ≤ 140737488355328 then some ⟨(Lib.replaceAll a0.data.toList a1.data.toList a2.data.toList).toArray⟩ else none
theorem strings_ReplaceAll.calls (a0 a1 a2 : ByteArray) (r : ByteArray) (w : World) (hG : Aside0 (G0 w)) (h : strings_ReplaceAll.f a0 a1 a2 = some r) :
    Calls Tryd.prog 67 #[.string a0, .string a1, .string a2] w fun e w' => e = .returned (.string r) ∧ Below w.heap.size w w' := by
  unfold strings_ReplaceAll.f at h
  by_cases hs : a0.size < 4294967281 ∧ 1 ≤ a1.size ∧ a0.size + Lib.countB a0 a1 * a2.size ≤ 140737488355328
  · rw [if_pos hs] at h
    obtain rfl := Option.some.inj h
    obtain ⟨m, hm⟩ := hG.out
    exact Tryd.strings_ReplaceAll a0 a1 a2 m w hs.1 hm hs.2.1 hs.2.2
  · rw [if_neg hs] at h; cases h
def badB (c : UInt8) : Bool := decide (c.toNat < 32) || decide (126 < c.toNat)
theorem decode_end (s : ByteArray) (pos : Nat) (h : pos < s.size) : pos + (Utf8.decode s pos).2 ≤ s.size := by
  simp only [Utf8.decode]
  repeat' split
  all_goals simp_all
  all_goals omega
def unqS (l : List UInt8) : List UInt8 × Int :=
  let i0 := Lib.trimPrefix l [39]
  let i := Lib.trimSuffix i0 [39]
  let o := Lib.replaceAll i [39, 39] [39]
  if Lib.hasPrefix l [39] = true ∧ Lib.hasSuffix i0 [39] = true ∧ i.any badB = false ∧ Lib.replaceAll o [39] [39, 39] = i then (o, 0) else ([], 2)
theorem sizeL (l : List UInt8) : (⟨l.toArray⟩ : ByteArray).size = l.length := by simp [ByteArray.size]
theorem trimP_len (l p : List UInt8) : (Lib.trimPrefix l p).length ≤ l.length := by
  unfold Lib.trimPrefix; split <;> simp
theorem trimS_len (l p : List UInt8) : (Lib.trimSuffix l p).length ≤ l.length := by
  unfold Lib.trimSuffix; split <;> simp
theorem replK_len (k : Nat) : ∀ l : List UInt8, (Lib.replaceK [39, 39] [39] k l).length ≤ l.length := by
  induction k with
  | zero => intro l; exact Nat.le_refl _
  | succ k ih =>
    intro l
    unfold Lib.replaceK
    split
    · exact Nat.le_refl _
    · rename_i hx
      have hge := Lib.index_ge l [39, 39]
      obtain ⟨i, hi⟩ : ∃ i : Nat, Lib.index l [39, 39] = i := by
        have : ¬ Lib.index l [39, 39] = -1 := by simpa using hx
        exact ⟨(Lib.index l [39, 39]).toNat, by omega⟩
      have hroom := Lib.index_room l [39, 39] (by omega)
      have := ih (l.drop ((Lib.index l [39, 39]).toNat + [39, 39].length))
      simp only [List.length_append, List.length_take, List.length_drop, List.length_cons, List.length_nil, hi, Int.toNat_natCast] at this hroom ⊢
      omega
theorem repl_len (l : List UInt8) : (Lib.replaceAll l [39, 39] [39]).length ≤ l.length := by
  unfold Lib.replaceAll Lib.replace
  rw [if_neg (by decide)]
  exact replK_len _ l
theorem take_snoc' (l : List UInt8) (k : Nat) (h : k < l.length) : l.take (k + 1) = l.take k ++ [l[k]] := by
  rw [List.take_succ_eq_append_getElem h]
theorem bad_step (s : ByteArray) (pos : Nat) (h : pos < s.size) :
    (s.data.toList.take (pos + (Utf8.decode s pos).2)).any badB = ((s.data.toList.take pos).any badB || (decide (((Utf8.decode s pos).1 : Int) < 32) || decide (126 < ((Utf8.decode s pos).1 : Int)))) := by
  have hl : pos < s.data.toList.length := by rw [data_length]; exact h
  have hc : s.data.toList[pos] = s[pos]'h := rfl
  by_cases ha : (s[pos]'h).toNat < 128
  · rw [decode_ascii s pos h ha, take_snoc' _ _ hl, List.any_append, hc]
    congr 1
    unfold badB
    simp
    rw [Bool.eq_iff_iff]; simp; omega
  · obtain ⟨h1, h2⟩ := decode_high s pos h (by omega)
    have e : (decide (((Utf8.decode s pos).1 : Int) < 32) || decide (126 < ((Utf8.decode s pos).1 : Int))) = true := by simp; omega
    rw [e, Bool.or_true, List.any_eq_true]
    refine ⟨s[pos]'h, ?_, ?_⟩
    · rw [List.mem_take_iff_getElem]
      exact ⟨pos, by omega, rfl⟩
    · unfold badB; simp; omega
set_option maxHeartbeats 4000000 in
set_option maxRecDepth 100000 in
theorem tryU (a0 : ByteArray) (w : World) (hG : Aside0 (G0 w)) (hs : a0.size ≤ 1000000) :
    Calls Tryd.prog 21 #[.string a0] w fun e w' => e = .returned (.tuple #[.string ⟨(unqS a0.data.toList).1.toArray⟩, .int .i64 (unqS a0.data.toList).2]) ∧ Below w.heap.size w w' := by
  go_enter Tryd.func21, Tryd.ntmps21
  go_wp2_with fail
  refine (Tryd.strings_CutPrefix a0 ⟨#[39]⟩ w).mono ?_
  rintro e w' ⟨rfl, hw⟩; subst w'
  obtain ⟨s1, hs1⟩ : ∃ s1 : ByteArray, (⟨(Lib.trimPrefix a0.data.toList [39]).toArray⟩ : ByteArray) = s1 := ⟨_, rfl⟩
  obtain ⟨b1, hb1⟩ : ∃ b1 : Bool, Lib.hasPrefix a0.data.toList [39] = b1 := ⟨_, rfl⟩
  have z1 : s1.size ≤ 1000000 := by rw [← hs1, sizeL]; exact Nat.le_trans (trimP_len _ _) (by rw [data_length]; exact hs)
  rw [hs1, hb1]
  have HS1 := Lib.hid hs1
  have HB1 := Lib.hid hb1
  clear hs1 hb1
  go_wp2_with fail
  refine (Tryd.strings_CutSuffix s1 ⟨#[39]⟩ _ (by omega)).mono ?_
  rintro e w' ⟨rfl, hw⟩; subst w'
  obtain ⟨s2, hs2⟩ : ∃ s2 : ByteArray, (⟨(Lib.trimSuffix s1.data.toList [39]).toArray⟩ : ByteArray) = s2 := ⟨_, rfl⟩
  obtain ⟨b2, hb2⟩ : ∃ b2 : Bool, Lib.hasSuffix s1.data.toList [39] = b2 := ⟨_, rfl⟩
  have z2 : s2.size ≤ 1000000 := by rw [← hs2, sizeL]; exact Nat.le_trans (trimS_len _ _) (by rw [data_length]; exact z1)
  rw [hs2, hb2]
  have HS2 := Lib.hid hs2
  have HB2 := Lib.hid hb2
  clear hs2 hb2
  go_wp2_with fail
  have r3 := Lib.countB_le ⟨#[39, 39]⟩ (by decide) s2.size s2 (Nat.le_refl _)
  obtain ⟨s3, hs3⟩ : ∃ s3, strings_ReplaceAll.f s2 ⟨#[39, 39]⟩ ⟨#[39]⟩ = some s3 := by
    unfold strings_ReplaceAll.f
    rw [if_pos ⟨by omega, by decide, by rw [show (⟨#[39]⟩ : ByteArray).size = 1 from rfl]; omega⟩]
    exact ⟨_, rfl⟩
  refine (strings_ReplaceAll.calls s2 ⟨#[39, 39]⟩ ⟨#[39]⟩ s3 _ hG hs3).mono ?_
  have HS3 := Lib.hid hs3
  clear hs3 r3
  rintro e w1 ⟨rfl, hb⟩
  have HB := Aside0.mk hb
  clear hb
  go_wp2_with fail
  have hn := fun pos (h : pos < s2.size) => run_next_any (P := Tryd.prog) w1 s2 pos 0 h
  have he := fun pos (h : ¬ pos < s2.size) => run_next_end (P := Tryd.prog) w1 s2 pos 0 h
  go_loopw [8] (fun v wr => ∃ pos : Nat, pos ≤ s2.size ∧ wr = w1.iter s2 pos ∧ v = .bool ((s2.data.toList.take pos).any badB)) (fun _ wr => s2.size - wr.iterPos w1.heap.size)
  case atStart => exact ⟨0, Nat.zero_le _, rfl, rfl⟩
  case round =>
    obtain ⟨pos, hpos, rfl, rfl⟩ := hrel
    by_cases hlt : pos < s2.size
    · have hn' := hn pos hlt
      have hst := Lib.hid (bad_step s2 pos hlt)
      have hend := decode_end s2 pos hlt
      have hwp := Lib.decode_width_pos s2 pos hlt
      clear hn he
      have hr : (Utf8.decode s2 pos).1 ≤ 2147483647 := decode_le s2 pos
      generalize (Utf8.decode s2 pos).1 = r at hn' hst hr
      generalize (Utf8.decode s2 pos).2 = wd at hn' hst hend hwp
      generalize hbb : (s2.data.toList.take pos).any badB = b0
      have HBB := Lib.hid hbb
      clear hbb
      cases b0
      all_goals
        by_cases h32 : (r : Int) < 32
        all_goals by_cases h126 : 126 < (r : Int)
        all_goals
          go_wp2
          refine ⟨⟨pos + wd, by omega, rfl, ?_⟩, by simp; omega⟩
          rw [hst.out, HBB.out]
          simp [h32, h126]
    · have he' := he pos hlt
      obtain rfl : pos = s2.size := by omega
      clear hn he
      have hall : (s2.data.toList.take s2.size).any badB = s2.data.toList.any badB := by
        rw [List.take_of_length_le (by rw [data_length]; exact Nat.le_refl _)]
      rw [hall]
      have e1 : s1.data.toList = Lib.trimPrefix a0.data.toList [39] := by rw [← HS1.out]
      have e2 : s2.data.toList = Lib.trimSuffix s1.data.toList [39] := by rw [← HS2.out]
      have e3 : s3.data.toList = Lib.replaceAll s2.data.toList [39, 39] [39] := by
        have h3 := HS3.out
        unfold strings_ReplaceAll.f at h3
        split at h3
        · rw [← Option.some.inj h3]
        · cases h3
      have z3 : s3.size ≤ 1000000 := by
        rw [← data_length, e3]
        exact Nat.le_trans (repl_len _) (by rw [data_length]; exact z2)
      have key : unqS a0.data.toList = if b1 = true ∧ b2 = true ∧ s2.data.toList.any badB = false ∧ Lib.replaceAll s3.data.toList [39] [39, 39] = s2.data.toList then (s3.data.toList, 0) else ([], 2) := by
        unfold unqS
        simp only [← e1, HB1.out, HB2.out, ← e2, ← e3]
      have KEY := Lib.hid key
      clear key e1 e2 e3 hlt hpos hall HS1 HS2 HB1 HB2
      obtain ⟨s4, hs4⟩ : ∃ s4, strings_ReplaceAll.f s3 ⟨#[39]⟩ ⟨#[39, 39]⟩ = some s4 := by
        have r3 := Lib.countB_le ⟨#[39]⟩ (by decide) s3.size s3 (Nat.le_refl _)
        unfold strings_ReplaceAll.f
        rw [if_pos ⟨by omega, by decide, by rw [show (⟨#[39, 39]⟩ : ByteArray).size = 2 from rfl]; omega⟩]
        exact ⟨_, rfl⟩
      have e4 : s4.data.toList = Lib.replaceAll s3.data.toList [39] [39, 39] := by
        unfold strings_ReplaceAll.f at hs4
        split at hs4
        · rw [← Option.some.inj hs4]
        · cases hs4
      rw [← e4] at KEY
      have HS4 := Lib.hid hs4
      clear hs4 e4
      generalize hoo : s2.data.toList.any badB = o at KEY
      clear hoo
      have HI : Aside0 (Below w.heap.size w (w1.iter s2 s2.size)) := ⟨HB.out.alloc HB.out.size _⟩
      by_cases hne : s4.data.toList = s2.data.toList
      · have q1 : (s4.toList == s2.toList) = true := by rw [Lib.toList_data, Lib.toList_data]; simpa using hne
        have q2 : (s4.toList != s2.toList) = false := by rw [Lib.toList_data, Lib.toList_data]; simpa using hne
        have HNE := Lib.hid hne
        clear hne
        cases b1 <;> cases b2 <;> cases o
        all_goals
          go_wp2_with (go_at_call 67; refine (strings_ReplaceAll.calls s3 ⟨#[39]⟩ ⟨#[39, 39]⟩ s4 _ ⟨hG.out.below HI.out⟩ HS4.out).mono ?_; rintro e w2 ⟨rfl, hb2⟩; have HI := Aside0.mk (below_step HI.out hb2); clear hb2)
          go_ret2
          exact ⟨by rw [KEY.out]; simp [HNE.out] <;> rfl, HI.out⟩
      · have q1 : (s4.toList == s2.toList) = false := by rw [Lib.toList_data, Lib.toList_data]; simpa using hne
        have q2 : (s4.toList != s2.toList) = true := by rw [Lib.toList_data, Lib.toList_data]; simpa using hne
        have HNE := Lib.hid hne
        clear hne
        cases b1 <;> cases b2 <;> cases o
        all_goals
          go_wp2_with (go_at_call 67; refine (strings_ReplaceAll.calls s3 ⟨#[39]⟩ ⟨#[39, 39]⟩ s4 _ ⟨hG.out.below HI.out⟩ HS4.out).mono ?_; rintro e w2 ⟨rfl, hb2⟩; have HI := Aside0.mk (below_step HI.out hb2); clear hb2)
          go_ret2
          exact ⟨by rw [KEY.out]; simp [HNE.out] <;> rfl, HI.out⟩
def number_Unquote.f (a0 : ByteArray) : Option (ByteArray × Int) := if a0.size ≤ 1000000 then some (⟨(unqS a0.data.toList).1.toArray⟩, (unqS a0.data.toList).2) else none
theorem number_Unquote.calls (a0 : ByteArray) (r1 : ByteArray) (r2 : Int) (w : World) (hG : Aside0 (G0 w)) (h : number_Unquote.f a0 = some (r1, r2)) :
    Calls Tryd.prog 21 #[.string a0] w fun e w' => e = .returned (.tuple #[.string r1, .int .i64 r2]) ∧ Below w.heap.size w w' := by
  unfold number_Unquote.f at h
  by_cases hs : a0.size ≤ 1000000
  · rw [if_pos hs] at h
    simp only [Option.some.injEq, Prod.mk.injEq] at h
    obtain ⟨rfl, rfl⟩ := h
    exact tryU a0 w hG hs
  · rw [if_neg hs] at h; cases h
def RM (w : World) (base : Nat) (v : Value) (xs : List Int) : Prop :=
  Kd.R (Kd.int .u8) 5 w base (fun _ => True) v xs ∨
    ∃ g, base ≤ g ∧ v = .slice (some ⟨g, 0, none⟩) xs.length xs.length ∧ ∀ j u, (encs (Value.int .u8) xs)[j]? = some u → w.cell? ((⟨g, 0, none⟩ : Addr).add j) = some u
theorem RM.below {w w1 : World} {base : Nat} {v : Value} {xs : List Int} (h : RM w base v xs) (hb : Below w.heap.size w w1) : RM w1 base v xs := by
  rcases h with h | ⟨g, hg, hv, hc⟩
  · exact .inl (Kd.R_of_own (h1 := fun _ => rfl) (pw_own_below (Kd.own_of_R h) hb) (fun _ _ => trivial))
  · exact .inr ⟨g, hg, hv, fun j u hj => pw_cell_below hb (hc j u hj)⟩
theorem RM.alloc {w : World} {base : Nat} {v : Value} {xs : List Int} (h : RM w base v xs) (o : Obj) : RM (w.alloc o) base v xs := h.below (below_alloc (Below.refl _ _) o)
theorem RM.drewN {w : World} {base : Nat} {v : Value} {xs : List Int} (h : RM w base v xs) (n : Nat) : RM (w.drewN n) base v xs := h.below (pw_below_drewN (Below.refl _ _) n)
theorem RM.drew {w : World} {base : Nat} {v : Value} {xs : List Int} (h : RM w base v xs) : RM w.drew base v xs := h.below (below_drew1 (Below.refl _ _))
section
variable {ops : Array Oper} {rest : List Oper} {o : Oper} {a : Act} {Q : Exit → Act → World → Prop}
end
end Go.Proofs.YtejhagejjogbaaaDoor.Given
