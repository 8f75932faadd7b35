import Derived.Test.YtejhagejjogbaaaDoorKfWords9
import Derived.Test.YtejhagejjogbaaaDoorKfIx0
import Derived.Test.YtejhagejjogbaaaDoorKfIx1
namespace Go.Proofs.YtejhagejjogbaaaDoor.Codes9
open Go.RowKit Go.Proofs.YtejhagejjogbaaaDoorW.PrintWords Go.Proofs.YtejhagejjogbaaaDoorW.PrintLast Go.Proofs.YtejhagejjogbaaaDoorW.PrintMore Go.Proofs.YtejhagejjogbaaaDoor.Tab9 Go.Proofs.YtejhagejjogbaaaDoor.Lay9 Go.Proofs.YtejhagejjogbaaaDoor.Words9 Go.Proofs.YtejhagejjogbaaaDoor.Ix
set_option linter.unusedVariables false
set_option linter.unusedSimpArgs false
theorem w64 {n : Int} (h0 : -9223372036854775808 ≤ n) (h1 : n ≤ 9223372036854775807) : wrap64 n = n := by
  unfold wrap64; omega
def idxP : List ByteArray → ByteArray → Nat → Int
  | [], _, _ => -1
  | x :: l, s, i => if s.toList = x.toList then (i : Int) else idxP l s (i + 1)
theorem idx_l0 (l : List ByteArray) (s : ByteArray) (hl : l.length ≤ 1000) (d : Nat) : ∀ i : Nat, i + d = l.length → Ev (fun k => slices_Index_string_string.l0 k l s (l.length : Int) (i : Int)) (idxP (l.drop i) s i) := by
  induction d with
  | zero =>
    intro i hi
    refine Ev.step (fun k => rfl) ?_
    simp only [slices_Index_string_string.l0, if_neg (show ¬ (i : Int) < (l.length : Int) by omega)]
    rw [List.drop_of_length_le (by omega)]
    exact Ev.now _
  | succ d ih =>
    intro i hi
    have h1 : i < l.length := by omega
    have hrd : rdOf ByteArray.empty l (i : Int) = l[i] := by simp [rdOf, List.getD_eq_getElem?_getD, List.getElem?_eq_getElem h1]
    refine Ev.step (fun k => rfl) ?_
    simp only [slices_Index_string_string.l0, if_pos (show (i : Int) < (l.length : Int) by omega), if_pos (show (0 : Int) ≤ (i : Int) by omega), hrd]
    rw [List.drop_eq_getElem_cons h1, idxP]
    by_cases h : s.toList = l[i].toList
    · simp only [if_pos h]; exact Ev.now _
    · simp only [if_neg h, show wrap64 ((i : Int) + 1) = ((i + 1 : Nat) : Int) from (w64 (by omega) (by omega)).trans (by omega)]
      exact ih (i + 1) (by omega)
theorem idx_ev (l : List ByteArray) (s : ByteArray) (hl : l.length ≤ 1000) : Ev (fun k => slices_Index_string_string.f k l s) (idxP l s 0) := by
  have := idx_l0 l s hl l.length 0 (by omega)
  rw [List.drop_zero] at this
  exact this
theorem idx_rng (l : List ByteArray) (s : ByteArray) : ∀ i : Nat, idxP l s i = -1 ∨ (0 ≤ idxP l s i ∧ idxP l s i < (i + l.length : Nat)) := by
  induction l with
  | nil => intro i; exact .inl rfl
  | cons x l ih =>
    intro i
    rw [idxP]
    by_cases h : s.toList = x.toList
    · rw [if_pos h]; right; simp only [List.length_cons]; omega
    · rw [if_neg h]
      rcases ih (i + 1) with h2 | h2
      · exact .inl h2
      · right; simp only [List.length_cons]; omega
def codeW (l : List ByteArray) (from_ : Int) (s : ByteArray) : Int × Bool := if idxP l s 0 < 0 then (0, false) else if s.toList = [] then (0, false) else (from_ + idxP l s 0, true)
section
variable (l : List ByteArray) (g : Nat) (from_ : Int) (s : ByteArray) (w : World) (k : Nat)
set_option maxHeartbeats 8000000 in
set_option maxRecDepth 100000 in
theorem code_none (hS : StrsAt w g l) (hl : l.length ≤ 1000) (r : Int) (h1 : slices_Index_string_string.f k l s = some r) (hd : decide (r < 0) = true) :
    Calls Tryd.prog 95 #[.agg #[.slice (some ⟨g, 0, none⟩) l.length l.length, .int .i64 from_], .string s] w fun e w' => e = .returned (.tuple #[.int .i64 0, .bool false]) ∧ Below w.heap.size w w' := by
  have hu107 := Tryd.underlying107
  have HC := Aside0.mk (strs_C hS hl)
  have H1 := Aside0.mk h1
  have HW0 := Aside0.mk (Below.refl w.heap.size w)
  clear hS h1
  go_enter Tryd.func95, Tryd.ntmps95
  go_wp2_with (first | ((with_reducible refine gate_dst (N := 2) rfl ?_); refine box_event ?hg (N := 2) ?hd (cs := #[.slice (some ⟨g, 0, none⟩) l.length l.length, .int .i64 from_]) (t := 107) ?hr ?_; (case hd => rfl); (case hg => rfl); (case hr => first | (go_simp; done) | (go_simp; rfl)); intro b hg w1 hbox hb; have HW1 := Aside0.mk (below_step HW0.out hb); have BK1 := Aside0.mk hbox; obtain ⟨⟨x0, x1⟩, ⟨f0, f1⟩⟩ := blk107 hbox; clear hb hbox hg) | (go_at_call 136; (with_reducible refine (slices_Index_string_string.calls k (some ⟨g, 0, none⟩) l.length l s r _ (Kd.C_below HC.out HW1.out) (Nat.le_refl _) H1.out).mono ?_); rintro ex w2 ⟨rfl, hdr⟩; have hb := hdr.below; have HW2 := Aside0.mk (below_step HW1.out hb); have BK2 := Aside0.mk (blk_below BK1.out hb); clear x0 x1 f0 f1 hdr hb; obtain ⟨⟨x0, x1⟩, ⟨f0, f1⟩⟩ := blk107 BK2.out))
  go_ret2
  exact ⟨rfl, HW2.out⟩
set_option maxHeartbeats 8000000 in
set_option maxRecDepth 100000 in
theorem code_empty (hS : StrsAt w g l) (hl : l.length ≤ 1000) (r : Int) (h1 : slices_Index_string_string.f k l s = some r) (hd : decide (r < 0) = false) (he : (s.toList == ([] : List UInt8)) = true) :
    Calls Tryd.prog 95 #[.agg #[.slice (some ⟨g, 0, none⟩) l.length l.length, .int .i64 from_], .string s] w fun e w' => e = .returned (.tuple #[.int .i64 0, .bool false]) ∧ Below w.heap.size w w' := by
  have hu107 := Tryd.underlying107
  have HC := Aside0.mk (strs_C hS hl)
  have H1 := Aside0.mk h1
  have HW0 := Aside0.mk (Below.refl w.heap.size w)
  clear hS h1
  go_enter Tryd.func95, Tryd.ntmps95
  go_wp2_with (first | ((with_reducible refine gate_dst (N := 2) rfl ?_); refine box_event ?hg (N := 2) ?hd (cs := #[.slice (some ⟨g, 0, none⟩) l.length l.length, .int .i64 from_]) (t := 107) ?hr ?_; (case hd => rfl); (case hg => rfl); (case hr => first | (go_simp; done) | (go_simp; rfl)); intro b hg w1 hbox hb; have HW1 := Aside0.mk (below_step HW0.out hb); have BK1 := Aside0.mk hbox; obtain ⟨⟨x0, x1⟩, ⟨f0, f1⟩⟩ := blk107 hbox; clear hb hbox hg) | (go_at_call 136; (with_reducible refine (slices_Index_string_string.calls k (some ⟨g, 0, none⟩) l.length l s r _ (Kd.C_below HC.out HW1.out) (Nat.le_refl _) H1.out).mono ?_); rintro ex w2 ⟨rfl, hdr⟩; have hb := hdr.below; have HW2 := Aside0.mk (below_step HW1.out hb); have BK2 := Aside0.mk (blk_below BK1.out hb); clear x0 x1 f0 f1 hdr hb; obtain ⟨⟨x0, x1⟩, ⟨f0, f1⟩⟩ := blk107 BK2.out))
  go_ret2
  exact ⟨rfl, HW2.out⟩
set_option maxHeartbeats 8000000 in
set_option maxRecDepth 100000 in
theorem code_some (hS : StrsAt w g l) (hl : l.length ≤ 1000) (r : Int) (h1 : slices_Index_string_string.f k l s = some r) (hd : decide (r < 0) = false) (he : (s.toList == ([] : List UInt8)) = false) (v : Int) (hv : wrap64 (from_ + r) = v) :
    Calls Tryd.prog 95 #[.agg #[.slice (some ⟨g, 0, none⟩) l.length l.length, .int .i64 from_], .string s] w fun e w' => e = .returned (.tuple #[.int .i64 v, .bool true]) ∧ Below w.heap.size w w' := by
  have hu107 := Tryd.underlying107
  have HC := Aside0.mk (strs_C hS hl)
  have H1 := Aside0.mk h1
  have HW0 := Aside0.mk (Below.refl w.heap.size w)
  clear hS h1
  go_enter Tryd.func95, Tryd.ntmps95
  go_wp2_with (first | ((with_reducible refine gate_dst (N := 2) rfl ?_); refine box_event ?hg (N := 2) ?hd (cs := #[.slice (some ⟨g, 0, none⟩) l.length l.length, .int .i64 from_]) (t := 107) ?hr ?_; (case hd => rfl); (case hg => rfl); (case hr => first | (go_simp; done) | (go_simp; rfl)); intro b hg w1 hbox hb; have HW1 := Aside0.mk (below_step HW0.out hb); have BK1 := Aside0.mk hbox; obtain ⟨⟨x0, x1⟩, ⟨f0, f1⟩⟩ := blk107 hbox; clear hb hbox hg) | (go_at_call 136; (with_reducible refine (slices_Index_string_string.calls k (some ⟨g, 0, none⟩) l.length l s r _ (Kd.C_below HC.out HW1.out) (Nat.le_refl _) H1.out).mono ?_); rintro ex w2 ⟨rfl, hdr⟩; have hb := hdr.below; have HW2 := Aside0.mk (below_step HW1.out hb); have BK2 := Aside0.mk (blk_below BK1.out hb); clear x0 x1 f0 f1 hdr hb; obtain ⟨⟨x0, x1⟩, ⟨f0, f1⟩⟩ := blk107 BK2.out))
  go_ret2
  exact ⟨by rw [hv]; rfl, HW2.out⟩
theorem code_calls (hS : StrsAt w g l) (hl : l.length ≤ 1000) (hf : 0 ≤ from_) (hf1 : from_ ≤ 1000) (n : Nat) (hn : l.length = n) :
    Calls Tryd.prog 95 #[.agg #[.slice (some ⟨g, 0, none⟩) n n, .int .i64 from_], .string s] w fun e w' => e = .returned (.tuple #[.int .i64 (codeW l from_ s).1, .bool (codeW l from_ s).2]) ∧ Below w.heap.size w w' := by
  subst hn
  obtain ⟨k, hk⟩ := (idx_ev l s hl).rounds
  unfold codeW
  by_cases h : idxP l s 0 < 0
  · rw [if_pos h]; exact code_none l g from_ s w k hS hl _ hk (decide_eq_true h)
  · rw [if_neg h]
    by_cases he : s.toList = []
    · rw [if_pos he]; exact code_empty l g from_ s w k hS hl _ hk (decide_eq_false h) (beq_iff_eq.mpr he)
    · rw [if_neg he]
      refine code_some l g from_ s w k hS hl _ hk (decide_eq_false h) (beq_eq_false_iff_ne.mpr he) _ ?_
      rcases idx_rng l s 0 with h2 | h2
      · omega
      · unfold wrap64; omega
end
end Go.Proofs.YtejhagejjogbaaaDoor.Codes9
