import Derived.Test.YtejhagejjogbaaaDoorKgGiven
import Derived.Test.YtejhagejjogbaaaDoorKgShelf4
namespace Go.Proofs.YtejhagejjogbaaaDoor.Tab9
open Go.Sort (grow)
open Go.RowKit Go.Proofs.YtejhagejjogbaaaDoorW.PrintWords Go.Proofs.YtejhagejjogbaaaDoorW.PrintLast Go.Proofs.YtejhagejjogbaaaDoorW.PrintMore
theorem tab_below {name : String} {k : IntKind} {zs : List Int} {w w' : World} (h : Lib.TabIs Tryd.prog w name k zs) (hb : Below w.heap.size w w') : Lib.TabIs Tryd.prog w' name k zs := by
  unfold Lib.TabIs World.var? at h ⊢
  cases hg : Tryd.prog.globalNamed name with
  | none => rw [hg] at h; cases h
  | some g =>
    rw [hg] at h
    simp only [Option.bind_some] at h ⊢
    have hlt : g < w.heap.size := by
      rcases Nat.lt_or_ge g w.heap.size with h' | h'
      · exact h'
      · rw [Array.getElem?_eq_none h'] at h; cases h
    rw [hb.block g hlt]
    exact h
structure G9 (w : World) : Prop where
  g : Given.G0 w
  sp : Lib.TabIs Tryd.prog w "strings.asciiSpace" .u8 Lib.asciiSpaceTab
  p10 : Lib.TabIs Tryd.prog w "internal/strconv.uint64pow10" .u64 Lib.pow10Tab
theorem G9.below {w w' : World} (h : G9 w) (hb : Below w.heap.size w w') : G9 w' := ⟨h.g.below hb, tab_below h.sp hb, tab_below h.p10 hb⟩
def ascii (s : ByteArray) : Bool := s.data.toList.all fun b => decide (b.toNat < 128)
theorem ascii_at {s : ByteArray} (h : ascii s = true) (j : Nat) (b : UInt8) (hj : s.data.toList[j]? = some b) : b.toNat < 128 := by
  have := List.all_eq_true.1 h b (List.mem_of_getElem? hj)
  simpa using this
theorem below_grow9 (w : World) (k : Nat) (os : Array Obj) : Below w.heap.size w (grow (w.drewN k) os) :=
  ⟨rfl, rfl, rfl, by show w.heap.size ≤ (w.heap ++ os).size; simp, fun i hi => by show (w.heap ++ os)[i]? = w.heap[i]?; exact Array.getElem?_append_left hi⟩
theorem trim_calls (s : ByteArray) (w : World) (hG : G9 w) (hs : s.size ≤ 1000) (ha : ascii s = true) : Calls Tryd.prog 88 #[.string s] w fun e w' => e = .returned (.string ⟨(Lib.trimSpace s.data.toList).toArray⟩) ∧ Below w.heap.size w w' := by
  refine (Tryd.strings_TrimSpace s w (by omega) (ascii_at ha) hG.sp).mono fun e w' ⟨he, hw⟩ => ⟨he, ?_⟩
  rw [hw]
  exact bytes_below (Below.refl _ _) (Nat.le_refl _) _ _
theorem itoa_calls (n : Int) (h0 : 0 ≤ n) (h1 : n ≤ 65535) (w : World) (hG : G9 w) : Calls Tryd.prog 87 #[.int .i64 n] w fun e w' => e = .returned (.string ⟨(Lib.itoa n).toArray⟩) ∧ Below w.heap.size w w' := by
  refine (Tryd.strconv_Itoa n (by omega) (by omega) w hG.p10).mono fun e w' ⟨he, k, os, hw⟩ => ⟨he, ?_⟩
  rw [hw]
  exact below_grow9 w k os
theorem fields_calls (s : ByteArray) (w : World) (hG : G9 w) (hs : s.size ≤ 1000) (ha : ascii s = true) : Calls Tryd.prog 166 #[.string s] w fun e w' =>
    e = .returned (.slice (some ⟨w.heap.size, 0, none⟩) (Lib.fields s.data.toList).length (Lib.fields s.data.toList).length) ∧ w' = w.alloc (.cells ((Lib.fields s.data.toList).map fun l => Value.string ⟨l.toArray⟩).toArray 9) :=
  Tryd.strings_Fields s w (by omega) (ascii_at ha) hG.sp
end Go.Proofs.YtejhagejjogbaaaDoor.Tab9
