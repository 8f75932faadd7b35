import Derived.Test.YtejhagejjogbaaaDoorKfPl9
namespace Go.Proofs.YtejhagejjogbaaaDoor.Op9
open Go.RowKit Go.Proofs.YtejhagejjogbaaaDoorW.PrintWords Go.Proofs.YtejhagejjogbaaaDoorW.PrintLast Go.Proofs.YtejhagejjogbaaaDoorW.PrintMore Go.Proofs.YtejhagejjogbaaaDoor.Tab9 Go.Proofs.YtejhagejjogbaaaDoor.Lay9 Go.Proofs.YtejhagejjogbaaaDoor.Words9 Go.Proofs.YtejhagejjogbaaaDoor.Codes9 Go.Proofs.YtejhagejjogbaaaDoor.Fun9 Go.Proofs.YtejhagejjogbaaaDoor.Ref9 Go.Proofs.YtejhagejjogbaaaDoor.Pl9
set_option linter.unusedVariables false
set_option linter.unusedSimpArgs false
set_option maxHeartbeats 8000000 in
set_option maxRecDepth 100000 in
theorem against_f (op : Int) (hc : op ≤ 9223372036854775807) (w : World) (hG : G9 w) (h : condB op = false) : Calls Tryd.prog 54 #[.int .i64 op] w fun e w' => e = .returned (.tuple #[.int .i64 0, .bool false]) ∧ Below w.heap.size w w' := by
  have hfl := fld109
  have hu109 := Tryd.underlying109
  have hu107 := Tryd.underlying107
  have HG := Aside0.mk hG
  have HC := Aside0.mk hc
  have e2 := atW_size (l := equalL) 10 (by decide +kernel) 42 op
  have e3 := atW_size (l := signL) 10 (by decide +kernel) 48 op
  have hz1 : ¬ 9223372036854775807 < (atW equalL 42 op).size + (atW signL 48 op).size := by omega
  have e0 := condS_no op h
  unfold condS at e0
  have he : ((atW equalL 42 op ++ atW signL 48 op).toList == ([] : List UInt8)) = true := by rw [e0, Lib.toList_data]; rfl
  clear e0
  clear hG hc e2 e3 h
  have HW0 := Aside0.mk (Below.refl w.heap.size w)
  go_enter Tryd.func54, Tryd.ntmps54
  go_wp2_with (first | (go_at_call 91; (with_reducible refine (equal_calls _ (HG.out.below HW0.out)).mono ?_); rintro ex w3 ⟨b3, rfl, hst, hb⟩; have HS3 := Aside0.mk hst; have HW3 := Aside0.mk (below_step HW0.out hb); clear hst hb) | (go_at_call 90; (with_reducible refine (of_calls b3 equalL 4 rfl 42 op (by decide) HC.out _ HS3.out).mono ?_); rintro ex w4 ⟨rfl, hb⟩; have HW4 := Aside0.mk (below_step HW3.out hb); clear hb) | (go_at_call 92; (with_reducible refine (sign_calls _ (HG.out.below HW4.out)).mono ?_); rintro ex w5 ⟨b5, rfl, hst, hb⟩; have HS5 := Aside0.mk hst; have HW5 := Aside0.mk (below_step HW4.out hb); clear hst hb) | (go_at_call 90; (with_reducible refine (of_calls b5 signL 4 rfl 48 op (by decide) HC.out _ HS5.out).mono ?_); rintro ex w6 ⟨rfl, hb⟩; have HW6 := Aside0.mk (below_step HW5.out hb); clear hb))
  go_ret2
  exact ⟨rfl, HW6.out⟩
set_option maxHeartbeats 8000000 in
set_option maxRecDepth 100000 in
theorem against_t (op : Int) (hc : op ≤ 9223372036854775807) (w : World) (hG : G9 w) (h : condB op = true) (v : Int) (hv : (againstB op).1 = v) : Calls Tryd.prog 54 #[.int .i64 op] w fun e w' => e = .returned (.tuple #[.int .i64 v, .bool true]) ∧ Below w.heap.size w w' := by
  have hfl := fld109
  have hu109 := Tryd.underlying109
  have hu107 := Tryd.underlying107
  have HG := Aside0.mk hG
  have HC := Aside0.mk hc
  have e2 := atW_size (l := equalL) 10 (by decide +kernel) 42 op
  have e3 := atW_size (l := signL) 10 (by decide +kernel) 48 op
  have hz1 : ¬ 9223372036854775807 < (atW equalL 42 op).size + (atW signL 48 op).size := by omega
  have e0 := condS_is op h
  unfold condS at e0
  have he : ((atW equalL 42 op ++ atW signL 48 op).toList == ([] : List UInt8)) = false := beq_eq_false_iff_ne.mpr (fun e => e0 ((tl_nil _).1 e))
  have hx : bits .xor .i64 op 1 = v := (against_xor op h).trans hv
  clear e0
  clear hG hc e2 e3 h
  have HW0 := Aside0.mk (Below.refl w.heap.size w)
  go_enter Tryd.func54, Tryd.ntmps54
  go_wp2_with (first | (go_at_call 91; (with_reducible refine (equal_calls _ (HG.out.below HW0.out)).mono ?_); rintro ex w3 ⟨b3, rfl, hst, hb⟩; have HS3 := Aside0.mk hst; have HW3 := Aside0.mk (below_step HW0.out hb); clear hst hb) | (go_at_call 90; (with_reducible refine (of_calls b3 equalL 4 rfl 42 op (by decide) HC.out _ HS3.out).mono ?_); rintro ex w4 ⟨rfl, hb⟩; have HW4 := Aside0.mk (below_step HW3.out hb); clear hb) | (go_at_call 92; (with_reducible refine (sign_calls _ (HG.out.below HW4.out)).mono ?_); rintro ex w5 ⟨b5, rfl, hst, hb⟩; have HS5 := Aside0.mk hst; have HW5 := Aside0.mk (below_step HW4.out hb); clear hst hb) | (go_at_call 90; (with_reducible refine (of_calls b5 signL 4 rfl 48 op (by decide) HC.out _ HS5.out).mono ?_); rintro ex w6 ⟨rfl, hb⟩; have HW6 := Aside0.mk (below_step HW5.out hb); clear hb))
  go_ret2
  exact ⟨rfl, HW6.out⟩
theorem Against_calls (op : Int) (hc : op ≤ 9223372036854775807) (w : World) (hG : G9 w) : Calls Tryd.prog 54 #[.int .i64 op] w fun e w' => e = .returned (.tuple #[.int .i64 (againstB op).1, .bool (againstB op).2]) ∧ Below w.heap.size w w' := by
  cases h : condB op with
  | false => rw [against_no op h]; exact against_f op hc w hG h
  | true => rw [against_is op h]; exact against_t op hc w hG h _ rfl
theorem code_calls2 (l : List ByteArray) (g : Nat) (from_ : Int) (s : ByteArray) (w : World) (hS : StrsAt w g l) (hl : l.length ≤ 1000) (hf : 0 ≤ from_) (hf1 : from_ ≤ 1000) (n : Nat) (hn : l.length = n) (v : Int) (b : Bool) (h : codeW l from_ s = (v, b)) :
    Calls Tryd.prog 95 #[.agg #[.slice (some ⟨g, 0, none⟩) n n, .int .i64 from_], .string s] w fun e w' => e = .returned (.tuple #[.int .i64 v, .bool b]) ∧ Below w.heap.size w w' := by
  have := code_calls l g from_ s w hS hl hf hf1 n hn
  rw [h] at this
  exact this
theorem idx114_0 (a b c d e f : Value) (W : World) : (Instr.index 114 (.agg #[a, b, c, d, e, f]) (.int .i64 0)).run Tryd.prog W = .ok (.agg #[a, b]) W := by kernel_rfl
theorem idx114_1 (a b c d e f : Value) (W : World) : (Instr.index 114 (.agg #[a, b, c, d, e, f]) (.int .i64 1)).run Tryd.prog W = .ok (.agg #[c, d]) W := by kernel_rfl
theorem idx114_2 (a b c d e f : Value) (W : World) : (Instr.index 114 (.agg #[a, b, c, d, e, f]) (.int .i64 2)).run Tryd.prog W = .ok (.agg #[e, f]) W := by kernel_rfl
def restW (k : Nat) (s : ByteArray) : Int × Bool := match k with
  | 0 => opW s
  | 1 => if (codeW equalL 42 s).2 = true then codeW equalL 42 s else if (codeW signL 48 s).2 = true then codeW signL 48 s else (0, false)
  | 2 => if (codeW signL 48 s).2 = true then codeW signL 48 s else (0, false)
  | _ => (0, false)
set_option maxHeartbeats 8000000 in
set_option maxRecDepth 100000 in
theorem Op_calls (s : ByteArray) (w : World) (hG : G9 w) : Calls Tryd.prog 60 #[.string s] w fun e w' => e = .returned (.tuple #[.int .i64 (opW s).1, .bool (opW s).2]) ∧ Below w.heap.size w w' := by
  have hfl := fld109
  have hi0 := idx114_0
  have hi1 := idx114_1
  have hi2 := idx114_2
  have hu109 := Tryd.underlying109
  have hu107 := Tryd.underlying107
  have HG := Aside0.mk hG
  clear hG
  have HW0 := Aside0.mk (Below.refl w.heap.size w)
  go_enter Tryd.func60, Tryd.ntmps60
  go_wp2_with (first | (go_at_call 89; (with_reducible refine (plain_calls _ (HG.out.below HW0.out)).mono ?_); rintro ex w1 ⟨b1, rfl, hst, hb⟩; have HS1 := Aside0.mk hst; have HW1 := Aside0.mk (below_step HW0.out hb); clear hst hb) | (go_at_call 91; (with_reducible refine (equal_calls _ (HG.out.below HW1.out)).mono ?_); rintro ex w2 ⟨b2, rfl, hst, hb⟩; have HS1' := Aside0.mk (HS1.out.below hb); have HS2 := Aside0.mk hst; have HW2 := Aside0.mk (below_step HW1.out hb); clear hst hb HS1) | (go_at_call 92; (with_reducible refine (sign_calls _ (HG.out.below HW2.out)).mono ?_); rintro ex w3 ⟨b3, rfl, hst, hb⟩; have HS1 := Aside0.mk (HS1'.out.below hb); have HS2' := Aside0.mk (HS2.out.below hb); have HS3 := Aside0.mk hst; have HW3 := Aside0.mk (below_step HW2.out hb); clear hst hb HS1' HS2; have HS2 := HS2'; clear HS2'))
  go_loopw [12] (fun v wr => ∃ k : Nat, k ≤ 3 ∧ v = .int .i64 k ∧ Aside0 (Below w3.heap.size w3 wr) ∧ Aside0 (restW k s = opW s)) (fun v _ => 3 - (intOf v).toNat)
  case atStart => exact ⟨0, by omega, rfl, ⟨Below.refl _ _⟩, ⟨rfl⟩⟩
  case round =>
    obtain ⟨k, hk, rfl, HB, HR⟩ := hrel
    obtain rfl | rfl | rfl | rfl : k = 0 ∨ k = 1 ∨ k = 2 ∨ k = 3 := by omega
    · -- table 0
      have HSr := Aside0.mk (HS1.out.below HB.out)
      cases hv2 : (codeW plainL 1 s).2 with
      | true =>
        obtain ⟨v, hv1⟩ : ∃ v, (codeW plainL 1 s).1 = v := ⟨_, rfl⟩
        have HV := Aside0.mk (show codeW plainL 1 s = (v, true) from Prod.ext hv1 hv2)
        have HZ := Aside0.mk (show opW s = (v, true) from (by rw [← HR.out]; simp only [restW, opW]; exact (if_pos hv2).trans HV.out))
        clear hv1 hv2 HR
        go_wp2_with (first | ((with_reducible refine gate_dst (N := 5) rfl ?_); refine box_event ?hg (N := 5) ?hd (cs := #[.slice none 0 0, .int .i64 0]) (t := 109) ?hr ?_; (case hd => rfl); (case hg => rfl); (case hr => first | (go_simp; done) | (go_simp; rfl)); intro b hg w4 hbox hb; have HW4 := Aside0.mk (below_step HB.out hb); have BK4 := Aside0.mk hbox; have HE4 := Aside0.mk hg; have x0 : w4.cell? ⟨b, 0, none⟩ = some (.slice none 0 0) := (blk_cell hbox 0).trans rfl; have x1 : w4.cell? ⟨b, 1, none⟩ = some (.int .i64 0) := (blk_cell hbox 1).trans rfl; have f0 := blk_frozen hbox 0; have f1 := blk_frozen hbox 1; have HS4 := Aside0.mk (HSr.out.below hb); clear hb hbox hg) | ((with_reducible refine gate_store (t := 109) (p := 5) rfl ?_); refine store_event (t := 109) (p := 5) (v := ?vo) ?hg ?ho ?hN (w1 := (w4.setCell ⟨b, 0, none⟩ (.slice (some ⟨b1, 0, none⟩) 35 35)).setCell ⟨b, 1, none⟩ (.int .i64 1)) ?hr ?_; (case ho => rfl); (case hg => rfl); (case hN => rfl); (case hr => first | (go_simp; done) | (go_simp; rfl)); intro w5 hw; have HW5 := Aside0.mk (show Below w3.heap.size w3 w5 from (by rw [hw]; exact below_set (below_set HW4.out (Nat.le_trans HB.out.size (Nat.le_of_eq HE4.out.symm))) (Nat.le_trans HB.out.size (Nat.le_of_eq HE4.out.symm)))); have BK5 := Aside0.mk (show w5.heap[b]? = some (.cells #[.slice (some ⟨b1, 0, none⟩) 35 35, .int .i64 1] 109 (0, 0)) from (by rw [hw]; exact put109 BK4.out)); have HN5 := (show b1 ≠ b from (by intro hx; have h1 := HS4.out; have h2 := BK4.out; unfold StrsAt at h1; rw [hx, h2] at h1; simp at h1)); have HS5 := Aside0.mk (show StrsAt w5 b1 plainL from (by rw [hw]; exact blk_far (blk_far HS4.out HN5 _) HN5 _)); clear hw x0 x1 f0 f1 HN5; have x0 : w5.cell? ⟨b, 0, none⟩ = some (.slice (some ⟨b1, 0, none⟩) 35 35) := (blk_cell BK5.out 0).trans rfl; have x1 : w5.cell? ⟨b, 1, none⟩ = some (.int .i64 1) := (blk_cell BK5.out 1).trans rfl; have f0 := blk_frozen BK5.out 0; have f1 := blk_frozen BK5.out 1) | (go_at_call 95; (with_reducible refine (code_calls2 plainL b1 1 s _ HS5.out (by decide) (by decide) (by decide) 35 rfl v true HV.out).mono ?_); rintro ex w6 ⟨rfl, hb⟩; have HW6 := Aside0.mk (below_step HW5.out hb); clear hb))
        go_ret2
        exact ⟨by rw [HZ.out]; rfl, below_step HW3.out HW6.out⟩
      | false =>
        obtain ⟨v, hv1⟩ : ∃ v, (codeW plainL 1 s).1 = v := ⟨_, rfl⟩
        have HV := Aside0.mk (show codeW plainL 1 s = (v, false) from Prod.ext hv1 hv2)
        have HZ := Aside0.mk (show restW 1 s = opW s from (by rw [← HR.out]; simp only [restW, opW]; exact (if_neg (show ¬ (codeW plainL 1 s).2 = true from (by rw [hv2]; decide))).symm))
        clear hv1 hv2 HR
        go_wp2_with (first | ((with_reducible refine gate_dst (N := 5) rfl ?_); refine box_event ?hg (N := 5) ?hd (cs := #[.slice none 0 0, .int .i64 0]) (t := 109) ?hr ?_; (case hd => rfl); (case hg => rfl); (case hr => first | (go_simp; done) | (go_simp; rfl)); intro b hg w4 hbox hb; have HW4 := Aside0.mk (below_step HB.out hb); have BK4 := Aside0.mk hbox; have HE4 := Aside0.mk hg; have x0 : w4.cell? ⟨b, 0, none⟩ = some (.slice none 0 0) := (blk_cell hbox 0).trans rfl; have x1 : w4.cell? ⟨b, 1, none⟩ = some (.int .i64 0) := (blk_cell hbox 1).trans rfl; have f0 := blk_frozen hbox 0; have f1 := blk_frozen hbox 1; have HS4 := Aside0.mk (HSr.out.below hb); clear hb hbox hg) | ((with_reducible refine gate_store (t := 109) (p := 5) rfl ?_); refine store_event (t := 109) (p := 5) (v := ?vo) ?hg ?ho ?hN (w1 := (w4.setCell ⟨b, 0, none⟩ (.slice (some ⟨b1, 0, none⟩) 35 35)).setCell ⟨b, 1, none⟩ (.int .i64 1)) ?hr ?_; (case ho => rfl); (case hg => rfl); (case hN => rfl); (case hr => first | (go_simp; done) | (go_simp; rfl)); intro w5 hw; have HW5 := Aside0.mk (show Below w3.heap.size w3 w5 from (by rw [hw]; exact below_set (below_set HW4.out (Nat.le_trans HB.out.size (Nat.le_of_eq HE4.out.symm))) (Nat.le_trans HB.out.size (Nat.le_of_eq HE4.out.symm)))); have BK5 := Aside0.mk (show w5.heap[b]? = some (.cells #[.slice (some ⟨b1, 0, none⟩) 35 35, .int .i64 1] 109 (0, 0)) from (by rw [hw]; exact put109 BK4.out)); have HN5 := (show b1 ≠ b from (by intro hx; have h1 := HS4.out; have h2 := BK4.out; unfold StrsAt at h1; rw [hx, h2] at h1; simp at h1)); have HS5 := Aside0.mk (show StrsAt w5 b1 plainL from (by rw [hw]; exact blk_far (blk_far HS4.out HN5 _) HN5 _)); clear hw x0 x1 f0 f1 HN5; have x0 : w5.cell? ⟨b, 0, none⟩ = some (.slice (some ⟨b1, 0, none⟩) 35 35) := (blk_cell BK5.out 0).trans rfl; have x1 : w5.cell? ⟨b, 1, none⟩ = some (.int .i64 1) := (blk_cell BK5.out 1).trans rfl; have f0 := blk_frozen BK5.out 0; have f1 := blk_frozen BK5.out 1) | (go_at_call 95; (with_reducible refine (code_calls2 plainL b1 1 s _ HS5.out (by decide) (by decide) (by decide) 35 rfl v false HV.out).mono ?_); rintro ex w6 ⟨rfl, hb⟩; have HW6 := Aside0.mk (below_step HW5.out hb); clear hb))
        exact ⟨⟨1, by omega, rfl, HW6, HZ⟩, by decide⟩
    · -- table 1
      have HSr := Aside0.mk (HS2.out.below HB.out)
      cases hv2 : (codeW equalL 42 s).2 with
      | true =>
        obtain ⟨v, hv1⟩ : ∃ v, (codeW equalL 42 s).1 = v := ⟨_, rfl⟩
        have HV := Aside0.mk (show codeW equalL 42 s = (v, true) from Prod.ext hv1 hv2)
        have HZ := Aside0.mk (show opW s = (v, true) from (by rw [← HR.out]; simp only [restW, opW]; exact (if_pos hv2).trans HV.out))
        clear hv1 hv2 HR
        go_wp2_with (first | ((with_reducible refine gate_dst (N := 5) rfl ?_); refine box_event ?hg (N := 5) ?hd (cs := #[.slice none 0 0, .int .i64 0]) (t := 109) ?hr ?_; (case hd => rfl); (case hg => rfl); (case hr => first | (go_simp; done) | (go_simp; rfl)); intro b hg w4 hbox hb; have HW4 := Aside0.mk (below_step HB.out hb); have BK4 := Aside0.mk hbox; have HE4 := Aside0.mk hg; have x0 : w4.cell? ⟨b, 0, none⟩ = some (.slice none 0 0) := (blk_cell hbox 0).trans rfl; have x1 : w4.cell? ⟨b, 1, none⟩ = some (.int .i64 0) := (blk_cell hbox 1).trans rfl; have f0 := blk_frozen hbox 0; have f1 := blk_frozen hbox 1; have HS4 := Aside0.mk (HSr.out.below hb); clear hb hbox hg) | ((with_reducible refine gate_store (t := 109) (p := 5) rfl ?_); refine store_event (t := 109) (p := 5) (v := ?vo) ?hg ?ho ?hN (w1 := (w4.setCell ⟨b, 0, none⟩ (.slice (some ⟨b2, 0, none⟩) 4 4)).setCell ⟨b, 1, none⟩ (.int .i64 42)) ?hr ?_; (case ho => rfl); (case hg => rfl); (case hN => rfl); (case hr => first | (go_simp; done) | (go_simp; rfl)); intro w5 hw; have HW5 := Aside0.mk (show Below w3.heap.size w3 w5 from (by rw [hw]; exact below_set (below_set HW4.out (Nat.le_trans HB.out.size (Nat.le_of_eq HE4.out.symm))) (Nat.le_trans HB.out.size (Nat.le_of_eq HE4.out.symm)))); have BK5 := Aside0.mk (show w5.heap[b]? = some (.cells #[.slice (some ⟨b2, 0, none⟩) 4 4, .int .i64 42] 109 (0, 0)) from (by rw [hw]; exact put109 BK4.out)); have HN5 := (show b2 ≠ b from (by intro hx; have h1 := HS4.out; have h2 := BK4.out; unfold StrsAt at h1; rw [hx, h2] at h1; simp at h1)); have HS5 := Aside0.mk (show StrsAt w5 b2 equalL from (by rw [hw]; exact blk_far (blk_far HS4.out HN5 _) HN5 _)); clear hw x0 x1 f0 f1 HN5; have x0 : w5.cell? ⟨b, 0, none⟩ = some (.slice (some ⟨b2, 0, none⟩) 4 4) := (blk_cell BK5.out 0).trans rfl; have x1 : w5.cell? ⟨b, 1, none⟩ = some (.int .i64 42) := (blk_cell BK5.out 1).trans rfl; have f0 := blk_frozen BK5.out 0; have f1 := blk_frozen BK5.out 1) | (go_at_call 95; (with_reducible refine (code_calls2 equalL b2 42 s _ HS5.out (by decide) (by decide) (by decide) 4 rfl v true HV.out).mono ?_); rintro ex w6 ⟨rfl, hb⟩; have HW6 := Aside0.mk (below_step HW5.out hb); clear hb))
        go_ret2
        exact ⟨by rw [HZ.out]; rfl, below_step HW3.out HW6.out⟩
      | false =>
        obtain ⟨v, hv1⟩ : ∃ v, (codeW equalL 42 s).1 = v := ⟨_, rfl⟩
        have HV := Aside0.mk (show codeW equalL 42 s = (v, false) from Prod.ext hv1 hv2)
        have HZ := Aside0.mk (show restW 2 s = opW s from (by rw [← HR.out]; simp only [restW, opW]; exact (if_neg (show ¬ (codeW equalL 42 s).2 = true from (by rw [hv2]; decide))).symm))
        clear hv1 hv2 HR
        go_wp2_with (first | ((with_reducible refine gate_dst (N := 5) rfl ?_); refine box_event ?hg (N := 5) ?hd (cs := #[.slice none 0 0, .int .i64 0]) (t := 109) ?hr ?_; (case hd => rfl); (case hg => rfl); (case hr => first | (go_simp; done) | (go_simp; rfl)); intro b hg w4 hbox hb; have HW4 := Aside0.mk (below_step HB.out hb); have BK4 := Aside0.mk hbox; have HE4 := Aside0.mk hg; have x0 : w4.cell? ⟨b, 0, none⟩ = some (.slice none 0 0) := (blk_cell hbox 0).trans rfl; have x1 : w4.cell? ⟨b, 1, none⟩ = some (.int .i64 0) := (blk_cell hbox 1).trans rfl; have f0 := blk_frozen hbox 0; have f1 := blk_frozen hbox 1; have HS4 := Aside0.mk (HSr.out.below hb); clear hb hbox hg) | ((with_reducible refine gate_store (t := 109) (p := 5) rfl ?_); refine store_event (t := 109) (p := 5) (v := ?vo) ?hg ?ho ?hN (w1 := (w4.setCell ⟨b, 0, none⟩ (.slice (some ⟨b2, 0, none⟩) 4 4)).setCell ⟨b, 1, none⟩ (.int .i64 42)) ?hr ?_; (case ho => rfl); (case hg => rfl); (case hN => rfl); (case hr => first | (go_simp; done) | (go_simp; rfl)); intro w5 hw; have HW5 := Aside0.mk (show Below w3.heap.size w3 w5 from (by rw [hw]; exact below_set (below_set HW4.out (Nat.le_trans HB.out.size (Nat.le_of_eq HE4.out.symm))) (Nat.le_trans HB.out.size (Nat.le_of_eq HE4.out.symm)))); have BK5 := Aside0.mk (show w5.heap[b]? = some (.cells #[.slice (some ⟨b2, 0, none⟩) 4 4, .int .i64 42] 109 (0, 0)) from (by rw [hw]; exact put109 BK4.out)); have HN5 := (show b2 ≠ b from (by intro hx; have h1 := HS4.out; have h2 := BK4.out; unfold StrsAt at h1; rw [hx, h2] at h1; simp at h1)); have HS5 := Aside0.mk (show StrsAt w5 b2 equalL from (by rw [hw]; exact blk_far (blk_far HS4.out HN5 _) HN5 _)); clear hw x0 x1 f0 f1 HN5; have x0 : w5.cell? ⟨b, 0, none⟩ = some (.slice (some ⟨b2, 0, none⟩) 4 4) := (blk_cell BK5.out 0).trans rfl; have x1 : w5.cell? ⟨b, 1, none⟩ = some (.int .i64 42) := (blk_cell BK5.out 1).trans rfl; have f0 := blk_frozen BK5.out 0; have f1 := blk_frozen BK5.out 1) | (go_at_call 95; (with_reducible refine (code_calls2 equalL b2 42 s _ HS5.out (by decide) (by decide) (by decide) 4 rfl v false HV.out).mono ?_); rintro ex w6 ⟨rfl, hb⟩; have HW6 := Aside0.mk (below_step HW5.out hb); clear hb))
        exact ⟨⟨2, by omega, rfl, HW6, HZ⟩, by decide⟩
    · -- table 2
      have HSr := Aside0.mk (HS3.out.below HB.out)
      cases hv2 : (codeW signL 48 s).2 with
      | true =>
        obtain ⟨v, hv1⟩ : ∃ v, (codeW signL 48 s).1 = v := ⟨_, rfl⟩
        have HV := Aside0.mk (show codeW signL 48 s = (v, true) from Prod.ext hv1 hv2)
        have HZ := Aside0.mk (show opW s = (v, true) from (by rw [← HR.out]; simp only [restW, opW]; exact (if_pos hv2).trans HV.out))
        clear hv1 hv2 HR
        go_wp2_with (first | ((with_reducible refine gate_dst (N := 5) rfl ?_); refine box_event ?hg (N := 5) ?hd (cs := #[.slice none 0 0, .int .i64 0]) (t := 109) ?hr ?_; (case hd => rfl); (case hg => rfl); (case hr => first | (go_simp; done) | (go_simp; rfl)); intro b hg w4 hbox hb; have HW4 := Aside0.mk (below_step HB.out hb); have BK4 := Aside0.mk hbox; have HE4 := Aside0.mk hg; have x0 : w4.cell? ⟨b, 0, none⟩ = some (.slice none 0 0) := (blk_cell hbox 0).trans rfl; have x1 : w4.cell? ⟨b, 1, none⟩ = some (.int .i64 0) := (blk_cell hbox 1).trans rfl; have f0 := blk_frozen hbox 0; have f1 := blk_frozen hbox 1; have HS4 := Aside0.mk (HSr.out.below hb); clear hb hbox hg) | ((with_reducible refine gate_store (t := 109) (p := 5) rfl ?_); refine store_event (t := 109) (p := 5) (v := ?vo) ?hg ?ho ?hN (w1 := (w4.setCell ⟨b, 0, none⟩ (.slice (some ⟨b3, 0, none⟩) 4 4)).setCell ⟨b, 1, none⟩ (.int .i64 48)) ?hr ?_; (case ho => rfl); (case hg => rfl); (case hN => rfl); (case hr => first | (go_simp; done) | (go_simp; rfl)); intro w5 hw; have HW5 := Aside0.mk (show Below w3.heap.size w3 w5 from (by rw [hw]; exact below_set (below_set HW4.out (Nat.le_trans HB.out.size (Nat.le_of_eq HE4.out.symm))) (Nat.le_trans HB.out.size (Nat.le_of_eq HE4.out.symm)))); have BK5 := Aside0.mk (show w5.heap[b]? = some (.cells #[.slice (some ⟨b3, 0, none⟩) 4 4, .int .i64 48] 109 (0, 0)) from (by rw [hw]; exact put109 BK4.out)); have HN5 := (show b3 ≠ b from (by intro hx; have h1 := HS4.out; have h2 := BK4.out; unfold StrsAt at h1; rw [hx, h2] at h1; simp at h1)); have HS5 := Aside0.mk (show StrsAt w5 b3 signL from (by rw [hw]; exact blk_far (blk_far HS4.out HN5 _) HN5 _)); clear hw x0 x1 f0 f1 HN5; have x0 : w5.cell? ⟨b, 0, none⟩ = some (.slice (some ⟨b3, 0, none⟩) 4 4) := (blk_cell BK5.out 0).trans rfl; have x1 : w5.cell? ⟨b, 1, none⟩ = some (.int .i64 48) := (blk_cell BK5.out 1).trans rfl; have f0 := blk_frozen BK5.out 0; have f1 := blk_frozen BK5.out 1) | (go_at_call 95; (with_reducible refine (code_calls2 signL b3 48 s _ HS5.out (by decide) (by decide) (by decide) 4 rfl v true HV.out).mono ?_); rintro ex w6 ⟨rfl, hb⟩; have HW6 := Aside0.mk (below_step HW5.out hb); clear hb))
        go_ret2
        exact ⟨by rw [HZ.out]; rfl, below_step HW3.out HW6.out⟩
      | false =>
        obtain ⟨v, hv1⟩ : ∃ v, (codeW signL 48 s).1 = v := ⟨_, rfl⟩
        have HV := Aside0.mk (show codeW signL 48 s = (v, false) from Prod.ext hv1 hv2)
        have HZ := Aside0.mk (show restW 3 s = opW s from (by rw [← HR.out]; simp only [restW, opW]; exact (if_neg (show ¬ (codeW signL 48 s).2 = true from (by rw [hv2]; decide))).symm))
        clear hv1 hv2 HR
        go_wp2_with (first | ((with_reducible refine gate_dst (N := 5) rfl ?_); refine box_event ?hg (N := 5) ?hd (cs := #[.slice none 0 0, .int .i64 0]) (t := 109) ?hr ?_; (case hd => rfl); (case hg => rfl); (case hr => first | (go_simp; done) | (go_simp; rfl)); intro b hg w4 hbox hb; have HW4 := Aside0.mk (below_step HB.out hb); have BK4 := Aside0.mk hbox; have HE4 := Aside0.mk hg; have x0 : w4.cell? ⟨b, 0, none⟩ = some (.slice none 0 0) := (blk_cell hbox 0).trans rfl; have x1 : w4.cell? ⟨b, 1, none⟩ = some (.int .i64 0) := (blk_cell hbox 1).trans rfl; have f0 := blk_frozen hbox 0; have f1 := blk_frozen hbox 1; have HS4 := Aside0.mk (HSr.out.below hb); clear hb hbox hg) | ((with_reducible refine gate_store (t := 109) (p := 5) rfl ?_); refine store_event (t := 109) (p := 5) (v := ?vo) ?hg ?ho ?hN (w1 := (w4.setCell ⟨b, 0, none⟩ (.slice (some ⟨b3, 0, none⟩) 4 4)).setCell ⟨b, 1, none⟩ (.int .i64 48)) ?hr ?_; (case ho => rfl); (case hg => rfl); (case hN => rfl); (case hr => first | (go_simp; done) | (go_simp; rfl)); intro w5 hw; have HW5 := Aside0.mk (show Below w3.heap.size w3 w5 from (by rw [hw]; exact below_set (below_set HW4.out (Nat.le_trans HB.out.size (Nat.le_of_eq HE4.out.symm))) (Nat.le_trans HB.out.size (Nat.le_of_eq HE4.out.symm)))); have BK5 := Aside0.mk (show w5.heap[b]? = some (.cells #[.slice (some ⟨b3, 0, none⟩) 4 4, .int .i64 48] 109 (0, 0)) from (by rw [hw]; exact put109 BK4.out)); have HN5 := (show b3 ≠ b from (by intro hx; have h1 := HS4.out; have h2 := BK4.out; unfold StrsAt at h1; rw [hx, h2] at h1; simp at h1)); have HS5 := Aside0.mk (show StrsAt w5 b3 signL from (by rw [hw]; exact blk_far (blk_far HS4.out HN5 _) HN5 _)); clear hw x0 x1 f0 f1 HN5; have x0 : w5.cell? ⟨b, 0, none⟩ = some (.slice (some ⟨b3, 0, none⟩) 4 4) := (blk_cell BK5.out 0).trans rfl; have x1 : w5.cell? ⟨b, 1, none⟩ = some (.int .i64 48) := (blk_cell BK5.out 1).trans rfl; have f0 := blk_frozen BK5.out 0; have f1 := blk_frozen BK5.out 1) | (go_at_call 95; (with_reducible refine (code_calls2 signL b3 48 s _ HS5.out (by decide) (by decide) (by decide) 4 rfl v false HV.out).mono ?_); rintro ex w6 ⟨rfl, hb⟩; have HW6 := Aside0.mk (below_step HW5.out hb); clear hb))
        exact ⟨⟨3, by omega, rfl, HW6, HZ⟩, by decide⟩
    · go_wp2
      go_ret2
      exact ⟨by rw [← HR.out]; rfl, below_step HW3.out HB.out⟩
end Go.Proofs.YtejhagejjogbaaaDoor.Op9
