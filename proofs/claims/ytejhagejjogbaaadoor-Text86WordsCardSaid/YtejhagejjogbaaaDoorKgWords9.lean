import Derived.Test.YtejhagejjogbaaaDoorKgLay9
namespace Go.Proofs.YtejhagejjogbaaaDoor.Words9
open Go.RowKit Go.Proofs.YtejhagejjogbaaaDoorW.PrintWords Go.Proofs.YtejhagejjogbaaaDoorW.PrintLast Go.Proofs.YtejhagejjogbaaaDoorW.PrintMore Go.Proofs.YtejhagejjogbaaaDoor.Tab9 Go.Proofs.YtejhagejjogbaaaDoor.Lay9
set_option linter.unusedVariables false
set_option linter.unusedSimpArgs false
theorem fld109 (a b : Value) (W : World) : (Instr.field 109 (.agg #[a, b]) 0).run Tryd.prog W = .ok (.agg #[a, b]) W := by
  have h1 := Tryd.underlying109
  have h2 := Tryd.underlying107
  have h3 : Tryd.prog.cellsOf 107 = 2 := by kernel_rfl
  unfold Instr.field
  simp [go_sem, h1, h2, h3]
  rfl
def atW (l : List ByteArray) (from_ code : Int) : ByteArray := if code < from_ then ⟨#[]⟩ else l.getD (code - from_).toNat ⟨#[]⟩
theorem blk107 {W : World} {b : Nat} {a0 a1 : Value} (h : W.heap[b]? = some (.cells #[a0, a1] 107 (0, 0))) : (W.cell? ⟨b, 0, none⟩ = some a0 ∧ W.cell? ⟨b, 1, none⟩ = some a1) ∧ (W.frozen? ⟨b, 0, none⟩ = false ∧ W.frozen? ⟨b, 1, none⟩ = false) :=
  ⟨⟨(blk_cell h 0).trans rfl, (blk_cell h 1).trans rfl⟩, ⟨blk_frozen h 0, blk_frozen h 1⟩⟩
set_option maxHeartbeats 8000000 in
set_option maxRecDepth 100000 in
theorem of_low (g n : Nat) (from_ code : Int) (w : World) (h : code < from_) : Calls Tryd.prog 90 #[.agg #[.slice (some ⟨g, 0, none⟩) n n, .int .i64 from_], .int .i64 code] w fun e w' => e = .returned (.string ⟨#[]⟩) ∧ Below w.heap.size w w' := by
  have hu107 := Tryd.underlying107
  have hd := decide_eq_true h
  have HW0 := Aside0.mk (Below.refl w.heap.size w)
  clear h
  go_enter Tryd.func90, Tryd.ntmps90
  go_wp2_with ((with_reducible refine gate_dst (N := 2) rfl ?_); refine box_event ?hg (N := 2) ?hd (cs := #[.slice (some ⟨g, 0, none⟩) n n, .int .i64 from_]) (t := 107) ?hr ?_; (case hd => rfl); (case hg => rfl); (case hr => first | (go_simp; done) | (go_simp; rfl)); intro b hg w1 hbox hb; have HW1 := Aside0.mk (below_step HW0.out hb); obtain ⟨⟨x0, x1⟩, ⟨f0, f1⟩⟩ := blk107 hbox; clear hb hbox hg)
  go_ret
  exact ⟨rfl, HW1.out⟩
set_option maxHeartbeats 8000000 in
set_option maxRecDepth 100000 in
theorem of_high (g n : Nat) (from_ code : Int) (k : Nat) (w : World) (h : decide (code < from_) = false) (hk : wrap64 (code - from_) = (k : Int)) (hn : decide (n ≤ k) = true) : Calls Tryd.prog 90 #[.agg #[.slice (some ⟨g, 0, none⟩) n n, .int .i64 from_], .int .i64 code] w fun e w' => e = .returned (.string ⟨#[]⟩) ∧ Below w.heap.size w w' := by
  have hu107 := Tryd.underlying107
  have HW0 := Aside0.mk (Below.refl w.heap.size w)
  go_enter Tryd.func90, Tryd.ntmps90
  go_wp2_with ((with_reducible refine gate_dst (N := 2) rfl ?_); refine box_event ?hg (N := 2) ?hd (cs := #[.slice (some ⟨g, 0, none⟩) n n, .int .i64 from_]) (t := 107) ?hr ?_; (case hd => rfl); (case hg => rfl); (case hr => first | (go_simp; done) | (go_simp; rfl)); intro b hg w1 hbox hb; have HW1 := Aside0.mk (below_step HW0.out hb); obtain ⟨⟨x0, x1⟩, ⟨f0, f1⟩⟩ := blk107 hbox; clear hb hbox hg)
  go_ret
  exact ⟨rfl, HW1.out⟩
set_option maxHeartbeats 8000000 in
set_option maxRecDepth 100000 in
theorem of_in (g n : Nat) (from_ code : Int) (k : Nat) (s : ByteArray) (w : World) (h : decide (code < from_) = false) (hk : wrap64 (code - from_) = (k : Int)) (hn : decide (n ≤ k) = false) (hkn : k < n) (hs : w.cell? ⟨g, k, none⟩ = some (.string s)) : Calls Tryd.prog 90 #[.agg #[.slice (some ⟨g, 0, none⟩) n n, .int .i64 from_], .int .i64 code] w fun e w' => e = .returned (.string s) ∧ Below w.heap.size w w' := by
  have hu107 := Tryd.underlying107
  have HW0 := Aside0.mk (Below.refl w.heap.size w)
  have HS := Aside0.mk hs
  clear hs
  go_enter Tryd.func90, Tryd.ntmps90
  go_wp2_with ((with_reducible refine gate_dst (N := 2) rfl ?_); refine box_event ?hg (N := 2) ?hd (cs := #[.slice (some ⟨g, 0, none⟩) n n, .int .i64 from_]) (t := 107) ?hr ?_; (case hd => rfl); (case hg => rfl); (case hr => first | (go_simp; done) | (go_simp; rfl)); intro b hg w1 hbox hb; have HW1 := Aside0.mk (below_step HW0.out hb); obtain ⟨⟨x0, x1⟩, ⟨f0, f1⟩⟩ := blk107 hbox; have hc := pw_cell_below hb HS.out; clear hb hbox hg)
  go_ret
  exact ⟨rfl, HW1.out⟩
theorem of_calls (g : Nat) (l : List ByteArray) (n : Nat) (hn : l.length = n) (from_ code : Int) (hf : 0 ≤ from_) (hc : code ≤ 9223372036854775807) (w : World) (hS : StrsAt w g l) :
    Calls Tryd.prog 90 #[.agg #[.slice (some ⟨g, 0, none⟩) n n, .int .i64 from_], .int .i64 code] w fun e w' => e = .returned (.string (atW l from_ code)) ∧ Below w.heap.size w w' := by
  unfold atW
  by_cases h : code < from_
  · rw [if_pos h]; exact of_low g n from_ code w h
  · rw [if_neg h]
    obtain ⟨k, hk⟩ : ∃ k : Nat, code - from_ = (k : Int) := ⟨(code - from_).toNat, by omega⟩
    have hw : wrap64 (code - from_) = (k : Int) := by rw [hk]; unfold wrap64; omega
    rw [show (code - from_).toNat = k by omega]
    by_cases hkn : k < n
    · obtain ⟨s, hs⟩ : ∃ s, l[k]? = some s := ⟨l[k], List.getElem?_eq_getElem (by omega)⟩
      have e : l.getD k ⟨#[]⟩ = s := by rw [List.getD_eq_getElem?_getD, hs]; rfl
      rw [e]
      exact of_in g n from_ code k s w (decide_eq_false h) hw (decide_eq_false (by omega)) hkn (strs_cell hS hs)
    · have e : l.getD k ⟨#[]⟩ = ⟨#[]⟩ := by rw [List.getD_eq_getElem?_getD, List.getElem?_eq_none (by omega)]; rfl
      rw [e]
      exact of_high g n from_ code k w (decide_eq_false h) hw (decide_eq_true (by omega))
theorem atW_size {l : List ByteArray} (m : Nat) (h : (l.all fun s => decide (s.size ≤ m)) = true) (from_ code : Int) : (atW l from_ code).size ≤ m := by
  unfold atW
  split
  · exact Nat.zero_le m
  · rw [List.getD_eq_getElem?_getD]
    cases hx : l[(code - from_).toNat]? with
    | none => exact Nat.zero_le m
    | some s => simpa using List.all_eq_true.1 h s (List.mem_of_getElem? hx)
def nameB (code : Int) : ByteArray := atW plainL 1 code ++ atW equalL 42 code ++ atW signL 48 code
def argB (code : Int) : ByteArray := atW argsL 1 code
set_option maxHeartbeats 8000000 in
set_option maxRecDepth 100000 in
theorem Name_calls (code : Int) (hc : code ≤ 9223372036854775807) (w : World) (hG : G9 w) : Calls Tryd.prog 53 #[.int .i64 code] w fun e w' => e = .returned (.string (nameB code)) ∧ Below w.heap.size w w' := by
  have hfl := fld109
  have hu109 := Tryd.underlying109
  have hu107 := Tryd.underlying107
  have HG := Aside0.mk hG
  have HC := Aside0.mk hc
  clear hG hc
  have e1 := atW_size (l := plainL) 10 (by decide +kernel) 1 code
  have e2 := atW_size (l := equalL) 10 (by decide +kernel) 42 code
  have e3 := atW_size (l := signL) 10 (by decide +kernel) 48 code
  have hz1 : ¬ 9223372036854775807 < (atW plainL 1 code).size + (atW equalL 42 code).size := by omega
  have hz2 : ¬ 9223372036854775807 < (atW plainL 1 code).size + (atW equalL 42 code).size + (atW signL 48 code).size := by omega
  clear e1 e2 e3
  have HW0 := Aside0.mk (Below.refl w.heap.size w)
  go_enter Tryd.func53, Tryd.ntmps53
  go_wp2_with (first | (go_at_call 89; (with_reducible refine (plain_calls _ (HG.out.below HW0.out)).mono ?_); rintro ex w1 ⟨b1, rfl, hst, hb⟩; have HS1 := Aside0.mk hst; have HW1 := Aside0.mk (below_step HW0.out hb); clear hst hb) | (go_at_call 90; (with_reducible refine (of_calls b1 plainL 35 rfl 1 code (by decide) HC.out _ HS1.out).mono ?_); rintro ex w2 ⟨rfl, hb⟩; have HW2 := Aside0.mk (below_step HW1.out hb); clear hb) | (go_at_call 91; (with_reducible refine (equal_calls _ (HG.out.below HW2.out)).mono ?_); rintro ex w3 ⟨b3, rfl, hst, hb⟩; have HS3 := Aside0.mk hst; have HW3 := Aside0.mk (below_step HW2.out hb); clear hst hb) | (go_at_call 90; (with_reducible refine (of_calls b3 equalL 4 rfl 42 code (by decide) HC.out _ HS3.out).mono ?_); rintro ex w4 ⟨rfl, hb⟩; have HW4 := Aside0.mk (below_step HW3.out hb); clear hb) | (go_at_call 92; (with_reducible refine (sign_calls _ (HG.out.below HW4.out)).mono ?_); rintro ex w5 ⟨b5, rfl, hst, hb⟩; have HS5 := Aside0.mk hst; have HW5 := Aside0.mk (below_step HW4.out hb); clear hst hb) | (go_at_call 90; (with_reducible refine (of_calls b5 signL 4 rfl 48 code (by decide) HC.out _ HS5.out).mono ?_); rintro ex w6 ⟨rfl, hb⟩; have HW6 := Aside0.mk (below_step HW5.out hb); clear hb))
  go_ret
  exact ⟨rfl, HW6.out⟩
set_option maxHeartbeats 8000000 in
set_option maxRecDepth 100000 in
theorem Arg_calls (code : Int) (hc : code ≤ 9223372036854775807) (w : World) (hG : G9 w) : Calls Tryd.prog 58 #[.int .i64 code] w fun e w' => e = .returned (.string (argB code)) ∧ Below w.heap.size w w' := by
  have hfl := fld109
  have hu109 := Tryd.underlying109
  have hu107 := Tryd.underlying107
  have HG := Aside0.mk hG
  have HC := Aside0.mk hc
  clear hG hc
  have HW0 := Aside0.mk (Below.refl w.heap.size w)
  go_enter Tryd.func58, Tryd.ntmps58
  go_wp2_with (first | (go_at_call 94; (with_reducible refine (args_calls _ (HG.out.below HW0.out)).mono ?_); rintro ex w1 ⟨b1, rfl, hst, hb⟩; have HS1 := Aside0.mk hst; have HW1 := Aside0.mk (below_step HW0.out hb); clear hst hb) | (go_at_call 90; (with_reducible refine (of_calls b1 argsL 20 rfl 1 code (by decide) HC.out _ HS1.out).mono ?_); rintro ex w2 ⟨rfl, hb⟩; have HW2 := Aside0.mk (below_step HW1.out hb); clear hb))
  go_ret
  exact ⟨rfl, HW2.out⟩
end Go.Proofs.YtejhagejjogbaaaDoor.Words9
