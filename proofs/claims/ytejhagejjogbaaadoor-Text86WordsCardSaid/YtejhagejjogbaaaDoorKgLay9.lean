import Derived.Test.YtejhagejjogbaaaDoorKgTab9
import Derived.Test.YtejhagejjogbaaaDoorKgTokJoin
namespace Go.Proofs.YtejhagejjogbaaaDoor.Lay9
open Go.RowKit Go.Proofs.YtejhagejjogbaaaDoorW.PrintWords Go.Proofs.YtejhagejjogbaaaDoorW.PrintLast Go.Proofs.YtejhagejjogbaaaDoorW.PrintMore Go.Proofs.YtejhagejjogbaaaDoor.Tab9 Go.Proofs.YtejhagejjogbaaaDoor.TokJoin
set_option linter.unusedVariables false
set_option linter.unusedSimpArgs false
def StrsAt (w : World) (g : Nat) (l : List ByteArray) : Prop := w.heap[g]? = some (.cells (l.map Value.string).toArray 9 (0, 0))
theorem StrsAt.below {w w' : World} {g : Nat} {l : List ByteArray} (h : StrsAt w g l) (hb : Below w.heap.size w w') : StrsAt w' g l := blk_below h hb
theorem strs_cell {w : World} {g : Nat} {l : List ByteArray} (h : StrsAt w g l) {j : Nat} {p : ByteArray} (hp : l[j]? = some p) : w.cell? ⟨g, j, none⟩ = some (.string p) := by
  rw [blk_cell h j]
  simp [hp]
theorem strs_C {w : World} {g : Nat} {l : List ByteArray} (h : StrsAt w g l) (hl : l.length ≤ 1000) : Kd.C Kd.string w (some ⟨g, 0, none⟩) l.length l := by
  refine ⟨rfl, by omega, fun _ => ⟨⟨g, 0, none⟩, rfl, fun j p hp => ⟨[.string p], rfl, rfl, fun u v huv => ?_⟩⟩⟩
  have hu : u = 0 := by
    by_cases e : u = 0
    · exact e
    · rw [List.getElem?_eq_none (by simp; omega)] at huv; cases huv
  subst hu
  obtain rfl : Value.string p = v := by simpa using huv
  have := strs_cell h hp
  by_cases hj : j = 0
  · subst hj; simpa [Addr.add, Kd.string, Kd.scalar] using this
  · simpa [Addr.add, Kd.string, Kd.scalar, hj] using this
section
variable {P : Program} {ops : Array Oper} {rest : List Oper} {o : Oper} {a : Act} {Q : Exit → Act → World → Prop}
theorem lit9_event {W : World} (hgd : o.guard = none) {N : Tmp} (_hd : o.dst = some N) {cs : Array Value} {n : Nat}
    (hrun : (execOp a.eval o).run P W = .ok (.value (.slice (some ⟨W.heap.size, 0, none⟩) n n)) (W.alloc (.cells cs 9)))
    (h : ∀ g', g' = W.heap.size → ∀ w1, w1 = W.alloc (.cells cs 9) → wpList P ops Q rest (a.put o.dst (.slice (some ⟨g', 0, none⟩) n n)) w1) : wpList P ops Q (o :: rest) a W :=
  Kd.event_run hgd hrun (h _ rfl _ rfl)
end
theorem fields2_calls (s : ByteArray) (l : List ByteArray) (hl : (Lib.fields s.data.toList).map (fun l => (⟨l.toArray⟩ : ByteArray)) = l) (w : World) (hG : G9 w) (hs : s.size ≤ 1000) (ha : ascii s = true) :
    Calls Tryd.prog 166 #[.string s] w fun e w' => ∃ g, e = .returned (.slice (some ⟨g, 0, none⟩) l.length l.length) ∧ StrsAt w' g l ∧ Below w.heap.size w w' ∧ w.heap.size ≤ g := by
  refine (fields_calls s w hG hs ha).mono fun e w' ⟨he, hw⟩ => ?_
  subst hl hw
  refine ⟨w.heap.size, by simpa using he, ?_, below_alloc (Below.refl _ _) _, Nat.le_refl _⟩
  unfold StrsAt
  rw [List.map_map]
  exact blk_new w _
theorem put109 {W : World} {b : Nat} {z0 z1 x0 x1 : Value} (h : W.heap[b]? = some (.cells #[z0, z1] 109 (0, 0))) : ((W.setCell ⟨b, 0, none⟩ x0).setCell ⟨b, 1, none⟩ x1).heap[b]? = some (.cells #[x0, x1] 109 (0, 0)) :=
  blk_put (cs := #[x0, z1]) (blk_put (cs := #[z0, z1]) h 0 _ rfl) 1 _ rfl
set_option maxHeartbeats 8000000 in
set_option maxRecDepth 100000 in
theorem lay_calls (from_ : Int) (g : Nat) (ps : List ByteArray) (w : World) (hG : G9 w) (hC : Kd.C Kd.string w (some ⟨g, 0, none⟩) ps.length ps) (j : ByteArray) (hj : strings_Join.f ps ⟨#[32]⟩ = some j) (hs : j.size ≤ 1000) (ha : ascii j = true)
    (l : List ByteArray) (hl : (Lib.fields j.data.toList).map (fun l => (⟨l.toArray⟩ : ByteArray)) = l) (n m : Nat) (hn : ps.length = n) (hm : l.length = m) :
    Calls Tryd.prog 135 #[.int .i64 from_, .slice (some ⟨g, 0, none⟩) n n] w fun e w' => ∃ b, e = .returned (.agg #[.slice (some ⟨b, 0, none⟩) m m, .int .i64 from_]) ∧ StrsAt w' b l ∧ Below w.heap.size w w' := by
  have hu109 := Tryd.underlying109
  have hu107 := Tryd.underlying107
  subst hn
  have HC := Aside0.mk hC
  have HJ := Aside0.mk hj
  have HG := Aside0.mk hG
  have HS := Aside0.mk hs
  have HA := Aside0.mk ha
  have HL := Aside0.mk hl
  have HM := Aside0.mk hm
  clear hC hj hG hs ha hl hm
  have HW0 := Aside0.mk (Below.refl w.heap.size w)
  go_enter Tryd.func135, Tryd.ntmps135
  go_wp2_with (first | ((with_reducible refine gate_dst (N := 4) rfl ?_); refine box_event ?hg (N := 4) ?hd (cs := #[.slice none 0 0, .int .i64 0]) (t := 109) ?hr ?_; (case hd => rfl); (case hg => rfl); (case hr => first | (go_simp; done) | (go_simp; rfl)); intro b hg w1 hbox hb; have HW1 := Aside0.mk (below_step HW0.out hb); have BK1 := Aside0.mk hbox; have HE1 := Aside0.mk hg; clear hb hbox hg) | (go_at_call 72; (with_reducible refine (strings_Join.calls (some ⟨g, 0, none⟩) ps.length ps ⟨#[32]⟩ j _ (Kd.C_below HC.out HW1.out) (Nat.le_refl _) HJ.out).mono ?_); rintro ex w2 ⟨rfl, hb⟩; have HW2 := Aside0.mk (below_step HW1.out hb); have BK2 := Aside0.mk (blk_below BK1.out hb); clear hb) | (go_at_call 166; (with_reducible refine (fields2_calls j l HL.out _ (HG.out.below HW2.out) HS.out HA.out).mono ?_); rintro ex w3 ⟨d, rfl, hst, hb, hge⟩; have HW3 := Aside0.mk (below_step HW2.out hb); have BK3 := Aside0.mk (blk_below BK2.out hb); have HD3 := Aside0.mk hst; have HN3 := Aside0.mk (show d ≠ b from (by have h1 := blk_lt BK2.out; omega)); have x0 : w3.cell? ⟨b, 0, none⟩ = some (.slice none 0 0) := (blk_cell BK3.out 0).trans rfl; have x1 : w3.cell? ⟨b, 1, none⟩ = some (.int .i64 0) := (blk_cell BK3.out 1).trans rfl; have f0 := blk_frozen BK3.out 0; have f1 := blk_frozen BK3.out 1; clear hb hst hge) | ((with_reducible refine gate_store (t := 109) (p := 4) rfl ?_); refine store_event (t := 109) (p := 4) (v := ?vo) ?hg ?ho ?hN (w1 := (w3.setCell ⟨b, 0, none⟩ (.slice (some ⟨d, 0, none⟩) l.length l.length)).setCell ⟨b, 1, none⟩ (.int .i64 from_)) ?hr ?_; (case ho => rfl); (case hg => rfl); (case hN => rfl); (case hr => first | (go_simp; done) | (go_simp; rfl)); intro w4 hw; have HW4 := Aside0.mk (show Below w.heap.size w w4 from (by rw [hw]; exact below_set (below_set HW3.out (Nat.le_of_eq HE1.out.symm)) (Nat.le_of_eq HE1.out.symm))); have BK4 := Aside0.mk (show w4.heap[b]? = some (.cells #[.slice (some ⟨d, 0, none⟩) l.length l.length, .int .i64 from_] 109 (0, 0)) from (by rw [hw]; exact put109 BK3.out)); have HD4 := Aside0.mk (show StrsAt w4 d l from (by rw [hw]; exact blk_far (blk_far HD3.out HN3.out _) HN3.out _)); clear hw x0 x1 f0 f1))
  exact bodyPost_ret (results_cell_row rfl _ _ b 109 #[.slice (some ⟨d, 0, none⟩) l.length l.length, .int .i64 from_] (0, 0) _ rfl BK4.out Tryd.underlying109 rfl (by kernel_rfl)) rfl ⟨d, by rw [HM.out], HD4.out, HW4.out⟩
def plainL : List ByteArray := [(⟨#[77, 79, 86]⟩ : ByteArray), (⟨#[65, 68, 68]⟩ : ByteArray), (⟨#[79, 82]⟩ : ByteArray), (⟨#[65, 68, 67]⟩ : ByteArray), (⟨#[83, 66, 66]⟩ : ByteArray), (⟨#[65, 78, 68]⟩ : ByteArray), (⟨#[83, 85, 66]⟩ : ByteArray), (⟨#[88, 79, 82]⟩ : ByteArray), (⟨#[67, 77, 80]⟩ : ByteArray), (⟨#[73, 78, 67]⟩ : ByteArray), (⟨#[68, 69, 67]⟩ : ByteArray), (⟨#[82, 79, 76]⟩ : ByteArray), (⟨#[82, 79, 82]⟩ : ByteArray), (⟨#[82, 67, 76]⟩ : ByteArray), (⟨#[82, 67, 82]⟩ : ByteArray), (⟨#[78, 79, 84]⟩ : ByteArray), (⟨#[88, 67, 72, 71]⟩ : ByteArray), (⟨#[80, 85, 83, 72]⟩ : ByteArray), (⟨#[80, 79, 80]⟩ : ByteArray), (⟨#[76, 65, 72, 70]⟩ : ByteArray), (⟨#[83, 65, 72, 70]⟩ : ByteArray), (⟨#[68, 65, 65]⟩ : ByteArray), (⟨#[67, 77, 67]⟩ : ByteArray), (⟨#[83, 84, 67]⟩ : ByteArray), (⟨#[67, 76, 67]⟩ : ByteArray), (⟨#[83, 84, 73]⟩ : ByteArray), (⟨#[67, 76, 73]⟩ : ByteArray), (⟨#[72, 76, 84]⟩ : ByteArray), (⟨#[78, 79, 80]⟩ : ByteArray), (⟨#[73, 78]⟩ : ByteArray), (⟨#[79, 85, 84]⟩ : ByteArray), (⟨#[74, 77, 80]⟩ : ByteArray), (⟨#[74, 77, 80, 83]⟩ : ByteArray), (⟨#[67, 65, 76, 76]⟩ : ByteArray), (⟨#[82, 69, 84]⟩ : ByteArray)]
def plainP : List ByteArray := [(⟨#[77, 79, 86, 32, 65, 68, 68, 32, 79, 82, 32, 65, 68, 67, 32, 83, 66, 66, 32, 65, 78, 68, 32, 83, 85, 66, 32, 88, 79, 82, 32, 67, 77, 80, 32, 73, 78, 67, 32, 68, 69, 67, 32, 82, 79, 76, 32, 82, 79, 82, 32, 82, 67, 76, 32, 82, 67, 82, 32, 78, 79, 84, 32, 88, 67, 72, 71, 32, 80, 85, 83, 72, 32, 80, 79, 80]⟩ : ByteArray), (⟨#[76, 65, 72, 70, 32, 83, 65, 72, 70, 32, 68, 65, 65, 32, 67, 77, 67, 32, 83, 84, 67, 32, 67, 76, 67, 32, 83, 84, 73, 32, 67, 76, 73, 32, 72, 76, 84, 32, 78, 79, 80, 32, 73, 78, 32, 79, 85, 84, 32, 74, 77, 80, 32, 74, 77, 80, 83, 32, 67, 65, 76, 76, 32, 82, 69, 84]⟩ : ByteArray)]
def plainJ : ByteArray := (⟨#[77, 79, 86, 32, 65, 68, 68, 32, 79, 82, 32, 65, 68, 67, 32, 83, 66, 66, 32, 65, 78, 68, 32, 83, 85, 66, 32, 88, 79, 82, 32, 67, 77, 80, 32, 73, 78, 67, 32, 68, 69, 67, 32, 82, 79, 76, 32, 82, 79, 82, 32, 82, 67, 76, 32, 82, 67, 82, 32, 78, 79, 84, 32, 88, 67, 72, 71, 32, 80, 85, 83, 72, 32, 80, 79, 80, 32, 76, 65, 72, 70, 32, 83, 65, 72, 70, 32, 68, 65, 65, 32, 67, 77, 67, 32, 83, 84, 67, 32, 67, 76, 67, 32, 83, 84, 73, 32, 67, 76, 73, 32, 72, 76, 84, 32, 78, 79, 80, 32, 73, 78, 32, 79, 85, 84, 32, 74, 77, 80, 32, 74, 77, 80, 83, 32, 67, 65, 76, 76, 32, 82, 69, 84]⟩ : ByteArray)
set_option maxRecDepth 100000 in
theorem plain_j : strings_Join.f plainP ⟨#[32]⟩ = some plainJ := by decide +kernel
set_option maxRecDepth 100000 in
theorem plain_a : ascii plainJ = true := by decide +kernel
set_option maxRecDepth 100000 in
theorem plain_f : (Lib.fields plainJ.data.toList).map (fun l => (⟨l.toArray⟩ : ByteArray)) = plainL := by decide +kernel
set_option maxHeartbeats 8000000 in
set_option maxRecDepth 100000 in
theorem plain_calls (w : World) (hG : G9 w) : Calls Tryd.prog 89 #[] w fun e w' => ∃ b, e = .returned (.agg #[.slice (some ⟨b, 0, none⟩) 35 35, .int .i64 1]) ∧ StrsAt w' b plainL ∧ Below w.heap.size w w' := by
  have hu109 := Tryd.underlying109
  have hu107 := Tryd.underlying107
  have HG := Aside0.mk hG
  clear hG
  have HW0 := Aside0.mk (Below.refl w.heap.size w)
  go_enter Tryd.func89, Tryd.ntmps89
  go_wp2_with (first | ((with_reducible refine gate_dst (N := 0) rfl ?_); refine box_event ?hg (N := 0) ?hd (cs := #[.slice none 0 0, .int .i64 0]) (t := 109) ?hr ?_; (case hd => rfl); (case hg => rfl); (case hr => first | (go_simp; done) | (go_simp; rfl)); intro b hg w1 hbox hb; have HW1 := Aside0.mk (below_step HW0.out hb); have BK1 := Aside0.mk hbox; have HE1 := Aside0.mk hg; clear hb hbox hg) | ((with_reducible refine gate_dst (N := 1) rfl ?_); refine lit9_event ?hg (N := 1) ?hd (cs := (plainP.map Value.string).toArray) (n := 2) ?hr ?_; (case hd => rfl); (case hg => rfl); (case hr => first | (go_simp; done) | (go_simp; rfl)); intro d hd2 w2 hw2; have hb := (show Below w1.heap.size w1 w2 from (by rw [hw2]; exact below_alloc (Below.refl _ _) _)); have HW2 := Aside0.mk (below_step HW1.out hb); have BK2 := Aside0.mk (blk_below BK1.out hb); have HP2 := Aside0.mk (show StrsAt w2 d plainP from (by rw [hw2, hd2]; exact blk_new w1 _)); clear hb hw2 hd2) | (go_at_call 135; (with_reducible refine (lay_calls 1 d plainP _ (HG.out.below HW2.out) (strs_C HP2.out (by decide)) plainJ plain_j (by decide) plain_a plainL plain_f 2 35 rfl rfl).mono ?_); rintro ex w3 ⟨d3, rfl, hst, hb⟩; have HW3 := Aside0.mk (below_step HW2.out hb); have BK3 := Aside0.mk (blk_below BK2.out hb); have HD3 := Aside0.mk hst; have x0 : w3.cell? ⟨b, 0, none⟩ = some (.slice none 0 0) := (blk_cell BK3.out 0).trans rfl; have x1 : w3.cell? ⟨b, 1, none⟩ = some (.int .i64 0) := (blk_cell BK3.out 1).trans rfl; have f0 := blk_frozen BK3.out 0; have f1 := blk_frozen BK3.out 1; clear hb hst) | ((with_reducible refine gate_store (t := 109) (p := 0) rfl ?_); refine store_event (t := 109) (p := 0) (v := ?vo) ?hg ?ho ?hN (w1 := (w3.setCell ⟨b, 0, none⟩ (.slice (some ⟨d3, 0, none⟩) 35 35)).setCell ⟨b, 1, none⟩ (.int .i64 1)) ?hr ?_; (case ho => rfl); (case hg => rfl); (case hN => rfl); (case hr => first | (go_simp; done) | (go_simp; rfl)); intro w4 hw; have HW4 := Aside0.mk (show Below w.heap.size w w4 from (by rw [hw]; exact below_set (below_set HW3.out (Nat.le_of_eq HE1.out.symm)) (Nat.le_of_eq HE1.out.symm))); have BK4 := Aside0.mk (show w4.heap[b]? = some (.cells #[.slice (some ⟨d3, 0, none⟩) 35 35, .int .i64 1] 109 (0, 0)) from (by rw [hw]; exact put109 BK3.out)); have HN3 := (show d3 ≠ b from (by intro hx; have h1 := HD3.out; have h2 := BK3.out; unfold StrsAt at h1; rw [hx, h2] at h1; simp at h1)); have HD4 := Aside0.mk (show StrsAt w4 d3 plainL from (by rw [hw]; exact blk_far (blk_far HD3.out HN3 _) HN3 _)); clear hw x0 x1 f0 f1 HN3))
  exact bodyPost_ret (results_cell_row rfl _ _ b 109 #[.slice (some ⟨d3, 0, none⟩) 35 35, .int .i64 1] (0, 0) _ rfl BK4.out Tryd.underlying109 rfl (by kernel_rfl)) rfl ⟨d3, rfl, HD4.out, HW4.out⟩
def equalL : List ByteArray := [(⟨#[74, 66]⟩ : ByteArray), (⟨#[74, 78, 66]⟩ : ByteArray), (⟨#[74, 90]⟩ : ByteArray), (⟨#[74, 78, 90]⟩ : ByteArray)]
def equalP : List ByteArray := [(⟨#[74, 66, 32, 74, 78, 66, 32, 74, 90, 32, 74, 78, 90]⟩ : ByteArray)]
def equalJ : ByteArray := (⟨#[74, 66, 32, 74, 78, 66, 32, 74, 90, 32, 74, 78, 90]⟩ : ByteArray)
set_option maxRecDepth 100000 in
theorem equal_j : strings_Join.f equalP ⟨#[32]⟩ = some equalJ := by decide +kernel
set_option maxRecDepth 100000 in
theorem equal_a : ascii equalJ = true := by decide +kernel
set_option maxRecDepth 100000 in
theorem equal_f : (Lib.fields equalJ.data.toList).map (fun l => (⟨l.toArray⟩ : ByteArray)) = equalL := by decide +kernel
set_option maxHeartbeats 8000000 in
set_option maxRecDepth 100000 in
theorem equal_calls (w : World) (hG : G9 w) : Calls Tryd.prog 91 #[] w fun e w' => ∃ b, e = .returned (.agg #[.slice (some ⟨b, 0, none⟩) 4 4, .int .i64 42]) ∧ StrsAt w' b equalL ∧ Below w.heap.size w w' := by
  have hu109 := Tryd.underlying109
  have hu107 := Tryd.underlying107
  have HG := Aside0.mk hG
  clear hG
  have HW0 := Aside0.mk (Below.refl w.heap.size w)
  go_enter Tryd.func91, Tryd.ntmps91
  go_wp2_with (first | ((with_reducible refine gate_dst (N := 0) rfl ?_); refine box_event ?hg (N := 0) ?hd (cs := #[.slice none 0 0, .int .i64 0]) (t := 109) ?hr ?_; (case hd => rfl); (case hg => rfl); (case hr => first | (go_simp; done) | (go_simp; rfl)); intro b hg w1 hbox hb; have HW1 := Aside0.mk (below_step HW0.out hb); have BK1 := Aside0.mk hbox; have HE1 := Aside0.mk hg; clear hb hbox hg) | ((with_reducible refine gate_dst (N := 1) rfl ?_); refine lit9_event ?hg (N := 1) ?hd (cs := (equalP.map Value.string).toArray) (n := 1) ?hr ?_; (case hd => rfl); (case hg => rfl); (case hr => first | (go_simp; done) | (go_simp; rfl)); intro d hd2 w2 hw2; have hb := (show Below w1.heap.size w1 w2 from (by rw [hw2]; exact below_alloc (Below.refl _ _) _)); have HW2 := Aside0.mk (below_step HW1.out hb); have BK2 := Aside0.mk (blk_below BK1.out hb); have HP2 := Aside0.mk (show StrsAt w2 d equalP from (by rw [hw2, hd2]; exact blk_new w1 _)); clear hb hw2 hd2) | (go_at_call 135; (with_reducible refine (lay_calls 42 d equalP _ (HG.out.below HW2.out) (strs_C HP2.out (by decide)) equalJ equal_j (by decide) equal_a equalL equal_f 1 4 rfl rfl).mono ?_); rintro ex w3 ⟨d3, rfl, hst, hb⟩; have HW3 := Aside0.mk (below_step HW2.out hb); have BK3 := Aside0.mk (blk_below BK2.out hb); have HD3 := Aside0.mk hst; have x0 : w3.cell? ⟨b, 0, none⟩ = some (.slice none 0 0) := (blk_cell BK3.out 0).trans rfl; have x1 : w3.cell? ⟨b, 1, none⟩ = some (.int .i64 0) := (blk_cell BK3.out 1).trans rfl; have f0 := blk_frozen BK3.out 0; have f1 := blk_frozen BK3.out 1; clear hb hst) | ((with_reducible refine gate_store (t := 109) (p := 0) rfl ?_); refine store_event (t := 109) (p := 0) (v := ?vo) ?hg ?ho ?hN (w1 := (w3.setCell ⟨b, 0, none⟩ (.slice (some ⟨d3, 0, none⟩) 4 4)).setCell ⟨b, 1, none⟩ (.int .i64 42)) ?hr ?_; (case ho => rfl); (case hg => rfl); (case hN => rfl); (case hr => first | (go_simp; done) | (go_simp; rfl)); intro w4 hw; have HW4 := Aside0.mk (show Below w.heap.size w w4 from (by rw [hw]; exact below_set (below_set HW3.out (Nat.le_of_eq HE1.out.symm)) (Nat.le_of_eq HE1.out.symm))); have BK4 := Aside0.mk (show w4.heap[b]? = some (.cells #[.slice (some ⟨d3, 0, none⟩) 4 4, .int .i64 42] 109 (0, 0)) from (by rw [hw]; exact put109 BK3.out)); have HN3 := (show d3 ≠ b from (by intro hx; have h1 := HD3.out; have h2 := BK3.out; unfold StrsAt at h1; rw [hx, h2] at h1; simp at h1)); have HD4 := Aside0.mk (show StrsAt w4 d3 equalL from (by rw [hw]; exact blk_far (blk_far HD3.out HN3 _) HN3 _)); clear hw x0 x1 f0 f1 HN3))
  exact bodyPost_ret (results_cell_row rfl _ _ b 109 #[.slice (some ⟨d3, 0, none⟩) 4 4, .int .i64 42] (0, 0) _ rfl BK4.out Tryd.underlying109 rfl (by kernel_rfl)) rfl ⟨d3, rfl, HD4.out, HW4.out⟩
def signL : List ByteArray := [(⟨#[74, 83]⟩ : ByteArray), (⟨#[74, 78, 83]⟩ : ByteArray), (⟨#[74, 80]⟩ : ByteArray), (⟨#[74, 78, 80]⟩ : ByteArray)]
def signP : List ByteArray := [(⟨#[74, 83, 32, 74, 78, 83, 32, 74, 80, 32, 74, 78, 80]⟩ : ByteArray)]
def signJ : ByteArray := (⟨#[74, 83, 32, 74, 78, 83, 32, 74, 80, 32, 74, 78, 80]⟩ : ByteArray)
set_option maxRecDepth 100000 in
theorem sign_j : strings_Join.f signP ⟨#[32]⟩ = some signJ := by decide +kernel
set_option maxRecDepth 100000 in
theorem sign_a : ascii signJ = true := by decide +kernel
set_option maxRecDepth 100000 in
theorem sign_f : (Lib.fields signJ.data.toList).map (fun l => (⟨l.toArray⟩ : ByteArray)) = signL := by decide +kernel
set_option maxHeartbeats 8000000 in
set_option maxRecDepth 100000 in
theorem sign_calls (w : World) (hG : G9 w) : Calls Tryd.prog 92 #[] w fun e w' => ∃ b, e = .returned (.agg #[.slice (some ⟨b, 0, none⟩) 4 4, .int .i64 48]) ∧ StrsAt w' b signL ∧ Below w.heap.size w w' := by
  have hu109 := Tryd.underlying109
  have hu107 := Tryd.underlying107
  have HG := Aside0.mk hG
  clear hG
  have HW0 := Aside0.mk (Below.refl w.heap.size w)
  go_enter Tryd.func92, Tryd.ntmps92
  go_wp2_with (first | ((with_reducible refine gate_dst (N := 0) rfl ?_); refine box_event ?hg (N := 0) ?hd (cs := #[.slice none 0 0, .int .i64 0]) (t := 109) ?hr ?_; (case hd => rfl); (case hg => rfl); (case hr => first | (go_simp; done) | (go_simp; rfl)); intro b hg w1 hbox hb; have HW1 := Aside0.mk (below_step HW0.out hb); have BK1 := Aside0.mk hbox; have HE1 := Aside0.mk hg; clear hb hbox hg) | ((with_reducible refine gate_dst (N := 1) rfl ?_); refine lit9_event ?hg (N := 1) ?hd (cs := (signP.map Value.string).toArray) (n := 1) ?hr ?_; (case hd => rfl); (case hg => rfl); (case hr => first | (go_simp; done) | (go_simp; rfl)); intro d hd2 w2 hw2; have hb := (show Below w1.heap.size w1 w2 from (by rw [hw2]; exact below_alloc (Below.refl _ _) _)); have HW2 := Aside0.mk (below_step HW1.out hb); have BK2 := Aside0.mk (blk_below BK1.out hb); have HP2 := Aside0.mk (show StrsAt w2 d signP from (by rw [hw2, hd2]; exact blk_new w1 _)); clear hb hw2 hd2) | (go_at_call 135; (with_reducible refine (lay_calls 48 d signP _ (HG.out.below HW2.out) (strs_C HP2.out (by decide)) signJ sign_j (by decide) sign_a signL sign_f 1 4 rfl rfl).mono ?_); rintro ex w3 ⟨d3, rfl, hst, hb⟩; have HW3 := Aside0.mk (below_step HW2.out hb); have BK3 := Aside0.mk (blk_below BK2.out hb); have HD3 := Aside0.mk hst; have x0 : w3.cell? ⟨b, 0, none⟩ = some (.slice none 0 0) := (blk_cell BK3.out 0).trans rfl; have x1 : w3.cell? ⟨b, 1, none⟩ = some (.int .i64 0) := (blk_cell BK3.out 1).trans rfl; have f0 := blk_frozen BK3.out 0; have f1 := blk_frozen BK3.out 1; clear hb hst) | ((with_reducible refine gate_store (t := 109) (p := 0) rfl ?_); refine store_event (t := 109) (p := 0) (v := ?vo) ?hg ?ho ?hN (w1 := (w3.setCell ⟨b, 0, none⟩ (.slice (some ⟨d3, 0, none⟩) 4 4)).setCell ⟨b, 1, none⟩ (.int .i64 48)) ?hr ?_; (case ho => rfl); (case hg => rfl); (case hN => rfl); (case hr => first | (go_simp; done) | (go_simp; rfl)); intro w4 hw; have HW4 := Aside0.mk (show Below w.heap.size w w4 from (by rw [hw]; exact below_set (below_set HW3.out (Nat.le_of_eq HE1.out.symm)) (Nat.le_of_eq HE1.out.symm))); have BK4 := Aside0.mk (show w4.heap[b]? = some (.cells #[.slice (some ⟨d3, 0, none⟩) 4 4, .int .i64 48] 109 (0, 0)) from (by rw [hw]; exact put109 BK3.out)); have HN3 := (show d3 ≠ b from (by intro hx; have h1 := HD3.out; have h2 := BK3.out; unfold StrsAt at h1; rw [hx, h2] at h1; simp at h1)); have HD4 := Aside0.mk (show StrsAt w4 d3 signL from (by rw [hw]; exact blk_far (blk_far HD3.out HN3 _) HN3 _)); clear hw x0 x1 f0 f1 HN3))
  exact bodyPost_ret (results_cell_row rfl _ _ b 109 #[.slice (some ⟨d3, 0, none⟩) 4 4, .int .i64 48] (0, 0) _ rfl BK4.out Tryd.underlying109 rfl (by kernel_rfl)) rfl ⟨d3, rfl, HD4.out, HW4.out⟩
def argsL : List ByteArray := [(⟨#[65, 76]⟩ : ByteArray), (⟨#[67, 76]⟩ : ByteArray), (⟨#[68, 76]⟩ : ByteArray), (⟨#[66, 76]⟩ : ByteArray), (⟨#[65, 72]⟩ : ByteArray), (⟨#[67, 72]⟩ : ByteArray), (⟨#[68, 72]⟩ : ByteArray), (⟨#[66, 72]⟩ : ByteArray), (⟨#[65, 88]⟩ : ByteArray), (⟨#[67, 88]⟩ : ByteArray), (⟨#[68, 88]⟩ : ByteArray), (⟨#[66, 88]⟩ : ByteArray), (⟨#[83, 80]⟩ : ByteArray), (⟨#[66, 80]⟩ : ByteArray), (⟨#[83, 73]⟩ : ByteArray), (⟨#[68, 73]⟩ : ByteArray), (⟨#[91, 66, 88, 93]⟩ : ByteArray), (⟨#[91, 83, 73, 93]⟩ : ByteArray), (⟨#[91, 110, 110, 93]⟩ : ByteArray), (⟨#[110, 110]⟩ : ByteArray)]
def argsP : List ByteArray := [(⟨#[65, 76, 32, 67, 76, 32, 68, 76, 32, 66, 76, 32, 65, 72, 32, 67, 72, 32, 68, 72, 32, 66, 72]⟩ : ByteArray), (⟨#[65, 88, 32, 67, 88, 32, 68, 88, 32, 66, 88, 32, 83, 80, 32, 66, 80, 32, 83, 73, 32, 68, 73]⟩ : ByteArray), (⟨#[91, 66, 88, 93, 32, 91, 83, 73, 93, 32, 91, 110, 110, 93, 32, 110, 110]⟩ : ByteArray)]
def argsJ : ByteArray := (⟨#[65, 76, 32, 67, 76, 32, 68, 76, 32, 66, 76, 32, 65, 72, 32, 67, 72, 32, 68, 72, 32, 66, 72, 32, 65, 88, 32, 67, 88, 32, 68, 88, 32, 66, 88, 32, 83, 80, 32, 66, 80, 32, 83, 73, 32, 68, 73, 32, 91, 66, 88, 93, 32, 91, 83, 73, 93, 32, 91, 110, 110, 93, 32, 110, 110]⟩ : ByteArray)
set_option maxRecDepth 100000 in
theorem args_j : strings_Join.f argsP ⟨#[32]⟩ = some argsJ := by decide +kernel
set_option maxRecDepth 100000 in
theorem args_a : ascii argsJ = true := by decide +kernel
set_option maxRecDepth 100000 in
theorem args_f : (Lib.fields argsJ.data.toList).map (fun l => (⟨l.toArray⟩ : ByteArray)) = argsL := by decide +kernel
set_option maxHeartbeats 8000000 in
set_option maxRecDepth 100000 in
theorem args_calls (w : World) (hG : G9 w) : Calls Tryd.prog 94 #[] w fun e w' => ∃ b, e = .returned (.agg #[.slice (some ⟨b, 0, none⟩) 20 20, .int .i64 1]) ∧ StrsAt w' b argsL ∧ Below w.heap.size w w' := by
  have hu109 := Tryd.underlying109
  have hu107 := Tryd.underlying107
  have HG := Aside0.mk hG
  clear hG
  have HW0 := Aside0.mk (Below.refl w.heap.size w)
  go_enter Tryd.func94, Tryd.ntmps94
  go_wp2_with (first | ((with_reducible refine gate_dst (N := 0) rfl ?_); refine box_event ?hg (N := 0) ?hd (cs := #[.slice none 0 0, .int .i64 0]) (t := 109) ?hr ?_; (case hd => rfl); (case hg => rfl); (case hr => first | (go_simp; done) | (go_simp; rfl)); intro b hg w1 hbox hb; have HW1 := Aside0.mk (below_step HW0.out hb); have BK1 := Aside0.mk hbox; have HE1 := Aside0.mk hg; clear hb hbox hg) | ((with_reducible refine gate_dst (N := 1) rfl ?_); refine lit9_event ?hg (N := 1) ?hd (cs := (argsP.map Value.string).toArray) (n := 3) ?hr ?_; (case hd => rfl); (case hg => rfl); (case hr => first | (go_simp; done) | (go_simp; rfl)); intro d hd2 w2 hw2; have hb := (show Below w1.heap.size w1 w2 from (by rw [hw2]; exact below_alloc (Below.refl _ _) _)); have HW2 := Aside0.mk (below_step HW1.out hb); have BK2 := Aside0.mk (blk_below BK1.out hb); have HP2 := Aside0.mk (show StrsAt w2 d argsP from (by rw [hw2, hd2]; exact blk_new w1 _)); clear hb hw2 hd2) | (go_at_call 135; (with_reducible refine (lay_calls 1 d argsP _ (HG.out.below HW2.out) (strs_C HP2.out (by decide)) argsJ args_j (by decide) args_a argsL args_f 3 20 rfl rfl).mono ?_); rintro ex w3 ⟨d3, rfl, hst, hb⟩; have HW3 := Aside0.mk (below_step HW2.out hb); have BK3 := Aside0.mk (blk_below BK2.out hb); have HD3 := Aside0.mk hst; have x0 : w3.cell? ⟨b, 0, none⟩ = some (.slice none 0 0) := (blk_cell BK3.out 0).trans rfl; have x1 : w3.cell? ⟨b, 1, none⟩ = some (.int .i64 0) := (blk_cell BK3.out 1).trans rfl; have f0 := blk_frozen BK3.out 0; have f1 := blk_frozen BK3.out 1; clear hb hst) | ((with_reducible refine gate_store (t := 109) (p := 0) rfl ?_); refine store_event (t := 109) (p := 0) (v := ?vo) ?hg ?ho ?hN (w1 := (w3.setCell ⟨b, 0, none⟩ (.slice (some ⟨d3, 0, none⟩) 20 20)).setCell ⟨b, 1, none⟩ (.int .i64 1)) ?hr ?_; (case ho => rfl); (case hg => rfl); (case hN => rfl); (case hr => first | (go_simp; done) | (go_simp; rfl)); intro w4 hw; have HW4 := Aside0.mk (show Below w.heap.size w w4 from (by rw [hw]; exact below_set (below_set HW3.out (Nat.le_of_eq HE1.out.symm)) (Nat.le_of_eq HE1.out.symm))); have BK4 := Aside0.mk (show w4.heap[b]? = some (.cells #[.slice (some ⟨d3, 0, none⟩) 20 20, .int .i64 1] 109 (0, 0)) from (by rw [hw]; exact put109 BK3.out)); have HN3 := (show d3 ≠ b from (by intro hx; have h1 := HD3.out; have h2 := BK3.out; unfold StrsAt at h1; rw [hx, h2] at h1; simp at h1)); have HD4 := Aside0.mk (show StrsAt w4 d3 argsL from (by rw [hw]; exact blk_far (blk_far HD3.out HN3 _) HN3 _)); clear hw x0 x1 f0 f1 HN3))
  exact bodyPost_ret (results_cell_row rfl _ _ b 109 #[.slice (some ⟨d3, 0, none⟩) 20 20, .int .i64 1] (0, 0) _ rfl BK4.out Tryd.underlying109 rfl (by kernel_rfl)) rfl ⟨d3, rfl, HD4.out, HW4.out⟩
end Go.Proofs.YtejhagejjogbaaaDoor.Lay9
