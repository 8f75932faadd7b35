import Derived.Test.YtejhagejjogbaaaDoorKgShow9
import Derived.Test.YtejhagejjogbaaaDoorKgRa1
namespace Go.Proofs.YtejhagejjogbaaaDoor.Rc9
open Go.RowKit Go.Proofs.YtejhagejjogbaaaDoorW.PrintWords Go.Proofs.YtejhagejjogbaaaDoorW.PrintLast Go.Proofs.YtejhagejjogbaaaDoorW.PrintMore Go.Proofs.YtejhagejjogbaaaDoor.Tab9 Go.Proofs.YtejhagejjogbaaaDoor.Lay9 Go.Proofs.YtejhagejjogbaaaDoor.Words9 Go.Proofs.YtejhagejjogbaaaDoor.Codes9 Go.Proofs.YtejhagejjogbaaaDoor.Fun9 Go.Proofs.YtejhagejjogbaaaDoor.Show9 Go.Proofs.YtejhagejjogbaaaDoor.Ra Go.Proofs.YtejhagejjogbaaaDoor.TokJoin Go.Proofs.YtejhagejjogbaaaDoor.TokRep
set_option linter.unusedVariables false
set_option linter.unusedSimpArgs false
theorem put139 {W : World} {b : Nat} {z0 z1 x0 x1 : Value} (h : W.heap[b]? = some (.cells #[z0, z1] 139 (0, 0))) : ((W.setCell ⟨b, 0, none⟩ x0).setCell ⟨b, 1, none⟩ x1).heap[b]? = some (.cells #[x0, x1] 139 (0, 0)) :=
  blk_put (cs := #[x0, z1]) (blk_put (cs := #[z0, z1]) h 0 _ rfl) 1 _ rfl
theorem wide_is (a r : Int) (w : World) (h : isa86_wide.f 20 a = some r) : Calls Tryd.prog 174 #[.int .i64 a] w fun e w' => e = .returned (.int .i64 r) ∧ Below w.heap.size w w' :=
  (isa86_wide.calls 20 a r w h).mono fun e w' h => ⟨h.1, h.2.below⟩
section
variable {P : Program} {ops : Array Oper} {rest : List Oper} {o : Oper} {a : Act} {Q : Exit → Act → World → Prop}
theorem lit5_event {W : World} (hgd : o.guard = none) {N : Tmp} (_hd : o.dst = some N) {cs : Array Value} {n : Nat}
    (hrun : (execOp a.eval o).run P W = .ok (.value (.slice (some ⟨W.heap.size, 0, none⟩) n n)) (W.alloc (.cells cs 5)))
    (h : ∀ g' w1, Below W.heap.size W w1 → wpList P ops Q rest (a.put o.dst (.slice (some ⟨g', 0, none⟩) n n)) w1) : wpList P ops Q (o :: rest) a W :=
  Kd.event_run hgd hrun (h _ _ (below_alloc (Below.refl _ _) _))
end
set_option maxHeartbeats 8000000 in
set_option maxRecDepth 100000 in
theorem of_any (t : Int) (A : Option Addr) (n c : Nat) (w : World) : Calls Tryd.prog 157 #[.int .i64 t, .slice A n c] w fun e w' => e = .returned (.agg #[.slice A n c, .int .i64 t]) ∧ Below w.heap.size w w' := by
  have hu139 := Tryd.underlying139
  have Hw0 := Aside0.mk (Below.refl w.heap.size w)
  go_enter Tryd.func157, Tryd.ntmps157
  go_wp2_with (first | ((with_reducible refine gate_dst (N := 4) rfl ?_); refine box_event ?hg (N := 4) ?hd (cs := #[.slice none 0 0, .int .i64 0]) (t := 139) ?hr ?_; (case hd => rfl); (case hg => rfl); (case hr => first | (go_simp; done) | (go_simp; rfl)); intro b hg w1 hbox hb; have Hw1 := Aside0.mk (below_step Hw0.out hb); have Bw1 := Aside0.mk hbox; have HE1 := Aside0.mk (show w.heap.size ≤ b from (by rw [hg]; exact below_size Hw0.out)); clear hb hbox hg; have x0 : w1.cell? ⟨b, 0, none⟩ = some (.slice none 0 0) := (blk_cell Bw1.out 0).trans rfl; have x1 : w1.cell? ⟨b, 1, none⟩ = some (.int .i64 0) := (blk_cell Bw1.out 1).trans rfl; have f0 := blk_frozen Bw1.out 0; have f1 := blk_frozen Bw1.out 1) | ((with_reducible refine gate_store (t := 139) (p := 4) rfl ?_); refine store_event (t := 139) (p := 4) (v := ?vo) ?hg ?ho ?hN (w1 := (w1.setCell ⟨b, 0, none⟩ (.slice A n c)).setCell ⟨b, 1, none⟩ (.int .i64 t)) ?hr ?_; (case ho => rfl); (case hg => rfl); (case hN => rfl); (case hr => first | (go_simp; done) | (go_simp; rfl)); intro w2 hw; have Hw2 := Aside0.mk (show Below w.heap.size w w2 from (by rw [hw]; exact below_set (below_set Hw1.out HE1.out) HE1.out)); have Bw2 := Aside0.mk (show w2.heap[b]? = some (.cells #[.slice A n c, .int .i64 t] 139 (0, 0)) from (by rw [hw]; exact put139 Bw1.out)); clear hw x0 x1 f0 f1))
  exact bodyPost_ret (results_cell_row rfl _ _ b 139 #[.slice A n c, .int .i64 t] (0, 0) _ rfl Bw2.out Tryd.underlying139 rfl (by kernel_rfl)) rfl ⟨rfl, Hw2.out⟩
theorem wide1 : isa86_wide.f 20 1 = some 8 := by decide +kernel
theorem wide19 : isa86_wide.f 20 19 = some 0 := by decide +kernel
set_option maxHeartbeats 8000000 in
set_option maxRecDepth 100000 in
theorem places_c (w : World) : Calls Tryd.prog 177 #[.int .i64 1, .int .i64 19] w fun e w' => (∃ g, e = .returned (.agg #[.slice (some ⟨g, 0, none⟩) 1 1, .int .i64 2])) ∧ Below w.heap.size w w' := by
  have hu139 := Tryd.underlying139
  have Hw0 := Aside0.mk (Below.refl w.heap.size w)
  go_enter Tryd.func177, Tryd.ntmps177
  go_wp2_with (first | ((with_reducible refine gate_dst (N := 4) rfl ?_); refine box_event ?hg (N := 4) ?hd (cs := #[.slice none 0 0, .int .i64 0]) (t := 139) ?hr ?_; (case hd => rfl); (case hg => rfl); (case hr => first | (go_simp; done) | (go_simp; rfl)); intro b hg w1 hbox hb; have Hw1 := Aside0.mk (below_step Hw0.out hb); have Bw1 := Aside0.mk hbox; have HE1 := Aside0.mk (show w.heap.size ≤ b from (by rw [hg]; exact below_size Hw0.out)); clear hb hbox hg) | (go_at_call 174; (with_reducible refine (wide_is 1 8 _ wide1).mono ?_); rintro ex w2 ⟨rfl, hb⟩; have Hw2 := Aside0.mk (below_step Hw1.out hb); have Bw2 := Aside0.mk (blk_below Bw1.out hb); clear hb) | ((with_reducible refine gate_dst (N := 56) rfl ?_); refine lit5_event (N := 56) ?hg ?hd (cs := #[.int .u8 160]) (n := 1) ?hr ?_; (case hd => rfl); (case hg => rfl); (case hr => first | (go_simp; done) | (go_simp; rfl)); intro g w3 hb; have Hw3 := Aside0.mk (below_step Hw2.out hb); have Bw3 := Aside0.mk (blk_below Bw2.out hb); clear hb) | (go_at_call 157; (with_reducible refine (of_any 2 (some ⟨g, 0, none⟩) 1 1 _).mono ?_); rintro ex w4 ⟨rfl, hb⟩; have Hw4 := Aside0.mk (below_step Hw3.out hb); have Bw4 := Aside0.mk (blk_below Bw3.out hb); clear hb; have x0 : w4.cell? ⟨b, 0, none⟩ = some (.slice none 0 0) := (blk_cell Bw4.out 0).trans rfl; have x1 : w4.cell? ⟨b, 1, none⟩ = some (.int .i64 0) := (blk_cell Bw4.out 1).trans rfl; have f0 := blk_frozen Bw4.out 0; have f1 := blk_frozen Bw4.out 1) | ((with_reducible refine gate_store (t := 139) (p := 4) rfl ?_); refine store_event (t := 139) (p := 4) (v := ?vo) ?hg ?ho ?hN (w1 := (w4.setCell ⟨b, 0, none⟩ (.slice (some ⟨g, 0, none⟩) 1 1)).setCell ⟨b, 1, none⟩ (.int .i64 2)) ?hr ?_; (case ho => rfl); (case hg => rfl); (case hN => rfl); (case hr => first | (go_simp; done) | (go_simp; rfl)); intro w5 hw; have Hw5 := Aside0.mk (show Below w.heap.size w w5 from (by rw [hw]; exact below_set (below_set Hw4.out HE1.out) HE1.out)); have Bw5 := Aside0.mk (show w5.heap[b]? = some (.cells #[.slice (some ⟨g, 0, none⟩) 1 1, .int .i64 2] 139 (0, 0)) from (by rw [hw]; exact put139 Bw4.out)); clear hw x0 x1 f0 f1))
  exact bodyPost_ret (results_cell_row rfl _ _ b 139 #[.slice (some ⟨g, 0, none⟩) 1 1, .int .i64 2] (0, 0) _ rfl Bw5.out Tryd.underlying139 rfl (by kernel_rfl)) rfl ⟨⟨g, rfl⟩, Hw5.out⟩
set_option maxHeartbeats 8000000 in
set_option maxRecDepth 100000 in
theorem two_c (w : World) : Calls Tryd.prog 155 #[.int .i64 1, .int .i64 1, .int .i64 19] w fun e w' => (∃ g, e = .returned (.agg #[.slice (some ⟨g, 0, none⟩) 1 1, .int .i64 2])) ∧ Below w.heap.size w w' := by
  have hu139 := Tryd.underlying139
  have Hw0 := Aside0.mk (Below.refl w.heap.size w)
  go_enter Tryd.func155, Tryd.ntmps155
  go_wp2_with (first | ((with_reducible refine gate_dst (N := 6) rfl ?_); refine box_event ?hg (N := 6) ?hd (cs := #[.slice none 0 0, .int .i64 0]) (t := 139) ?hr ?_; (case hd => rfl); (case hg => rfl); (case hr => first | (go_simp; done) | (go_simp; rfl)); intro b hg w1 hbox hb; have Hw1 := Aside0.mk (below_step Hw0.out hb); have Bw1 := Aside0.mk hbox; have HE1 := Aside0.mk (show w.heap.size ≤ b from (by rw [hg]; exact below_size Hw0.out)); clear hb hbox hg) | (go_at_call 174; (with_reducible refine (wide_is 1 8 _ wide1).mono ?_); rintro ex w2 ⟨rfl, hb⟩; have Hw2 := Aside0.mk (below_step Hw1.out hb); have Bw2 := Aside0.mk (blk_below Bw1.out hb); clear hb) | (go_at_call 174; (with_reducible refine (wide_is 1 8 _ wide1).mono ?_); rintro ex w3 ⟨rfl, hb⟩; have Hw3 := Aside0.mk (below_step Hw2.out hb); have Bw3 := Aside0.mk (blk_below Bw2.out hb); clear hb) | (go_at_call 174; (with_reducible refine (wide_is 19 0 _ wide19).mono ?_); rintro ex w4 ⟨rfl, hb⟩; have Hw4 := Aside0.mk (below_step Hw3.out hb); have Bw4 := Aside0.mk (blk_below Bw3.out hb); clear hb) | (go_at_call 174; (with_reducible refine (wide_is 1 8 _ wide1).mono ?_); rintro ex w5 ⟨rfl, hb⟩; have Hw5 := Aside0.mk (below_step Hw4.out hb); have Bw5 := Aside0.mk (blk_below Bw4.out hb); clear hb) | (go_at_call 177; (with_reducible refine (places_c _).mono ?_); rintro ex w6 ⟨⟨g, rfl⟩, hb⟩; have Hw6 := Aside0.mk (below_step Hw5.out hb); have Bw6 := Aside0.mk (blk_below Bw5.out hb); clear hb; have x0 : w6.cell? ⟨b, 0, none⟩ = some (.slice none 0 0) := (blk_cell Bw6.out 0).trans rfl; have x1 : w6.cell? ⟨b, 1, none⟩ = some (.int .i64 0) := (blk_cell Bw6.out 1).trans rfl; have f0 := blk_frozen Bw6.out 0; have f1 := blk_frozen Bw6.out 1) | ((with_reducible refine gate_store (t := 139) (p := 6) rfl ?_); refine store_event (t := 139) (p := 6) (v := ?vo) ?hg ?ho ?hN (w1 := (w6.setCell ⟨b, 0, none⟩ (.slice (some ⟨g, 0, none⟩) 1 1)).setCell ⟨b, 1, none⟩ (.int .i64 2)) ?hr ?_; (case ho => rfl); (case hg => rfl); (case hN => rfl); (case hr => first | (go_simp; done) | (go_simp; rfl)); intro w7 hw; have Hw7 := Aside0.mk (show Below w.heap.size w w7 from (by rw [hw]; exact below_set (below_set Hw6.out HE1.out) HE1.out)); have Bw7 := Aside0.mk (show w7.heap[b]? = some (.cells #[.slice (some ⟨g, 0, none⟩) 1 1, .int .i64 2] 139 (0, 0)) from (by rw [hw]; exact put139 Bw6.out)); clear hw x0 x1 f0 f1))
  exact bodyPost_ret (results_cell_row rfl _ _ b 139 #[.slice (some ⟨g, 0, none⟩) 1 1, .int .i64 2] (0, 0) _ rfl Bw7.out Tryd.underlying139 rfl (by kernel_rfl)) rfl ⟨⟨g, rfl⟩, Hw7.out⟩
set_option maxHeartbeats 8000000 in
set_option maxRecDepth 100000 in
theorem heads_c (w : World) : Calls Tryd.prog 127 #[.int .i64 1, .int .i64 1, .int .i64 19] w fun e w' => (∃ g, e = .returned (.agg #[.slice (some ⟨g, 0, none⟩) 1 1, .int .i64 2])) ∧ Below w.heap.size w w' := by
  have hu139 := Tryd.underlying139
  have Hw0 := Aside0.mk (Below.refl w.heap.size w)
  go_enter Tryd.func127, Tryd.ntmps127
  go_wp2_with (first | ((with_reducible refine gate_dst (N := 6) rfl ?_); refine box_event ?hg (N := 6) ?hd (cs := #[.slice none 0 0, .int .i64 0]) (t := 139) ?hr ?_; (case hd => rfl); (case hg => rfl); (case hr => first | (go_simp; done) | (go_simp; rfl)); intro b hg w1 hbox hb; have Hw1 := Aside0.mk (below_step Hw0.out hb); have Bw1 := Aside0.mk hbox; have HE1 := Aside0.mk (show w.heap.size ≤ b from (by rw [hg]; exact below_size Hw0.out)); clear hb hbox hg) | (go_at_call 155; (with_reducible refine (two_c _).mono ?_); rintro ex w6 ⟨⟨g, rfl⟩, hb⟩; have Hw6 := Aside0.mk (below_step Hw1.out hb); have Bw6 := Aside0.mk (blk_below Bw1.out hb); clear hb; have x0 : w6.cell? ⟨b, 0, none⟩ = some (.slice none 0 0) := (blk_cell Bw6.out 0).trans rfl; have x1 : w6.cell? ⟨b, 1, none⟩ = some (.int .i64 0) := (blk_cell Bw6.out 1).trans rfl; have f0 := blk_frozen Bw6.out 0; have f1 := blk_frozen Bw6.out 1) | ((with_reducible refine gate_store (t := 139) (p := 6) rfl ?_); refine store_event (t := 139) (p := 6) (v := ?vo) ?hg ?ho ?hN (w1 := (w6.setCell ⟨b, 0, none⟩ (.slice (some ⟨g, 0, none⟩) 1 1)).setCell ⟨b, 1, none⟩ (.int .i64 2)) ?hr ?_; (case ho => rfl); (case hg => rfl); (case hN => rfl); (case hr => first | (go_simp; done) | (go_simp; rfl)); intro w7 hw; have Hw7 := Aside0.mk (show Below w.heap.size w w7 from (by rw [hw]; exact below_set (below_set Hw6.out HE1.out) HE1.out)); have Bw7 := Aside0.mk (show w7.heap[b]? = some (.cells #[.slice (some ⟨g, 0, none⟩) 1 1, .int .i64 2] 139 (0, 0)) from (by rw [hw]; exact put139 Bw6.out)); clear hw x0 x1 f0 f1))
  exact bodyPost_ret (results_cell_row rfl _ _ b 139 #[.slice (some ⟨g, 0, none⟩) 1 1, .int .i64 2] (0, 0) _ rfl Bw7.out Tryd.underlying139 rfl (by kernel_rfl)) rfl ⟨⟨g, rfl⟩, Hw7.out⟩
set_option maxHeartbeats 8000000 in
set_option maxRecDepth 100000 in
theorem Right_c (w : World) : Calls Tryd.prog 85 #[.agg #[.int .i64 1, .int .i64 1, .int .i64 19, .int .u16 300]] w fun e w' => e = .returned (.int .i64 0) ∧ Below w.heap.size w w' := by
  have hu68 := Tryd.underlying68
  have hu139 := Tryd.underlying139
  have Hw0 := Aside0.mk (Below.refl w.heap.size w)
  go_enter Tryd.func85, Tryd.ntmps85
  go_wp2_with (first | ((with_reducible refine gate_dst (N := 1) rfl ?_); refine box_event ?hg (N := 1) ?hd (cs := #[.int .i64 1, .int .i64 1, .int .i64 19, .int .u16 300]) (t := 68) ?hr ?_; (case hd => rfl); (case hg => rfl); (case hr => first | (go_simp; done) | (go_simp; rfl)); intro b0 hg w1 hbox hb; have Hw1 := Aside0.mk (below_step Hw0.out hb); obtain ⟨⟨x0, x1, x2, x3⟩, ⟨f0, f1, f2, f3⟩⟩ := blk68 hbox; clear hb hbox hg) | (go_at_call 127; (with_reducible refine (heads_c _).mono ?_); rintro ex w2 ⟨⟨g, rfl⟩, hb⟩; have Hw2 := Aside0.mk (below_step Hw1.out hb); clear hb x0 x1 x2 x3 f0 f1 f2 f3) | ((with_reducible refine gate_dst (N := 3) rfl ?_); refine box_event ?hg (N := 3) ?hd (cs := #[.slice none 0 0, .int .i64 0]) (t := 139) ?hr ?_; (case hd => rfl); (case hg => rfl); (case hr => first | (go_simp; done) | (go_simp; rfl)); intro b hg w3 hbox hb; have Hw3 := Aside0.mk (below_step Hw2.out hb); have Bw3 := Aside0.mk hbox; have HE1 := Aside0.mk (show w.heap.size ≤ b from (by rw [hg]; exact below_size Hw2.out)); clear hb hbox hg; have x0 : w3.cell? ⟨b, 0, none⟩ = some (.slice none 0 0) := (blk_cell Bw3.out 0).trans rfl; have x1 : w3.cell? ⟨b, 1, none⟩ = some (.int .i64 0) := (blk_cell Bw3.out 1).trans rfl; have f0 := blk_frozen Bw3.out 0; have f1 := blk_frozen Bw3.out 1) | ((with_reducible refine gate_store (t := 139) (p := 3) rfl ?_); refine store_event (t := 139) (p := 3) (v := ?vo) ?hg ?ho ?hN (w1 := (w3.setCell ⟨b, 0, none⟩ (.slice (some ⟨g, 0, none⟩) 1 1)).setCell ⟨b, 1, none⟩ (.int .i64 2)) ?hr ?_; (case ho => rfl); (case hg => rfl); (case hN => rfl); (case hr => first | (go_simp; done) | (go_simp; rfl)); intro w4 hw; have Hw4 := Aside0.mk (show Below w.heap.size w w4 from (by rw [hw]; exact below_set (below_set Hw3.out HE1.out) HE1.out)); have Bw4 := Aside0.mk (show w4.heap[b]? = some (.cells #[.slice (some ⟨g, 0, none⟩) 1 1, .int .i64 2] 139 (0, 0)) from (by rw [hw]; exact put139 Bw3.out)); clear hw x0 x1 f0 f1; have x0 : w4.cell? ⟨b, 0, none⟩ = some (.slice (some ⟨g, 0, none⟩) 1 1) := (blk_cell Bw4.out 0).trans rfl; have x1 : w4.cell? ⟨b, 1, none⟩ = some (.int .i64 2) := (blk_cell Bw4.out 1).trans rfl; have f0 := blk_frozen Bw4.out 0; have f1 := blk_frozen Bw4.out 1))
  go_ret
  exact ⟨rfl, Hw4.out⟩
theorem ex_r : strings_Replace.f (argB 1) ⟨#[110, 110]⟩ ⟨(Lib.itoa 300).toArray⟩ 1 = some ⟨#[65, 76]⟩ := by decide +kernel
theorem ex_q : strings_Replace.f (argB 19) ⟨#[110, 110]⟩ ⟨(Lib.itoa 300).toArray⟩ 1 = some ⟨#[91, 51, 48, 48, 93]⟩ := by decide +kernel
theorem ex_l : shownL (argB 1) (argB 19) ⟨#[65, 76]⟩ ⟨#[91, 51, 48, 48, 93]⟩ 2 = [⟨#[65, 76]⟩, ⟨#[91, 51, 48, 48, 93]⟩] := by
  have h1 : argB 1 = ⟨#[65, 76]⟩ := by decide +kernel
  have h2 : argB 19 = ⟨#[91, 110, 110, 93]⟩ := by decide +kernel
  rw [h1, h2]
  unfold shownL
  simp only [Lib.toList_data]
  rfl
theorem ex_j : strings_Join.f [⟨#[65, 76]⟩, ⟨#[91, 51, 48, 48, 93]⟩] ⟨#[44]⟩ = some ⟨#[65, 76, 44, 91, 51, 48, 48, 93]⟩ := by decide +kernel
theorem ex_t : (⟨(Lib.trimSpace ((nameB 1).data.toList ++ 32 :: (⟨#[65, 76, 44, 91, 51, 48, 48, 93]⟩ : ByteArray).data.toList)).toArray⟩ : ByteArray) = (⟨#[77, 79, 86, 32, 65, 76, 44, 91, 51, 48, 48, 93]⟩ : ByteArray) := by decide +kernel
theorem Show_c (w : World) (hG : G9 w) : Calls Tryd.prog 50 #[.agg #[.int .i64 1, .int .i64 1, .int .i64 19, .int .u16 300]] w fun e w' => e = .returned (.tuple #[.string (⟨#[77, 79, 86, 32, 65, 76, 44, 91, 51, 48, 48, 93]⟩ : ByteArray), .int .i64 0]) ∧ Below w.heap.size w w' := by
  rw [← ex_t]
  exact Show_ok 1 1 19 300 w hG (by decide) (by decide) (by decide) (by decide) (by decide) (fun w _ => Right_c w) _ _ _ ex_r ex_q (by rw [ex_l]; exact ex_j) (by decide +kernel) (by decide +kernel)
set_option maxHeartbeats 8000000 in
set_option maxRecDepth 100000 in
theorem alive_calls (w : World) (hG : G9 w) : Calls Tryd.prog 52 #[] w fun e w' => e = .returned (.bool true) ∧ Below w.heap.size w w' := by
  have he : ((⟨#[77, 79, 86, 32, 65, 76, 44, 91, 51, 48, 48, 93]⟩ : ByteArray).toList == (⟨#[77, 79, 86, 32, 65, 76, 44, 91, 51, 48, 48, 93]⟩ : ByteArray).toList) = true := beq_self_eq_true _
  have Hw0 := Aside0.mk (Below.refl w.heap.size w)
  have HG := Aside0.mk hG
  clear hG
  go_enter Tryd.func52, Tryd.ntmps52
  go_wp2_with (go_at_call 50; (with_reducible refine (Show_c _ (HG.out.below Hw0.out)).mono ?_); rintro ex w1 ⟨rfl, hb⟩; have Hw1 := Aside0.mk (below_step Hw0.out hb); clear hb)
  go_ret
  exact ⟨rfl, Hw1.out⟩
end Go.Proofs.YtejhagejjogbaaaDoor.Rc9
