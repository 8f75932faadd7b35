import Derived.Test.YtejhagejjogbaaaDoorKcM6
import Derived.Test.YtejhagejjogbaaaDoorKcM7
import Derived.Test.YtejhagejjogbaaaDoorKcM2
import Derived.Test.YtejhagejjogbaaaDoorKcM3
section
namespace Go.Proofs.YtejhagejjogbaaaDoor.Qa
open Go.RowKit Go.Proofs.YtejhagejjogbaaaDoorW.PrintWords Go.Proofs.YtejhagejjogbaaaDoorW.PrintLast Go.Proofs.YtejhagejjogbaaaDoorW.PrintMore Go.Proofs.YtejhagejjogbaaaDoor.Given Go.Proofs.YtejhagejjogbaaaDoor.TokSpan Go.Proofs.YtejhagejjogbaaaDoor.TokJoin Go.Proofs.YtejhagejjogbaaaDoor.TokRep Go.Proofs.YtejhagejjogbaaaDoor.Pn Go.Proofs.YtejhagejjogbaaaDoor.Pa Go.Proofs.YtejhagejjogbaaaDoor.Pb Go.Proofs.YtejhagejjogbaaaDoor.Pc Go.Proofs.YtejhagejjogbaaaDoor.Pd Go.Proofs.YtejhagejjogbaaaDoor.Pe
attribute [local go_sem] max2_int min2_int max_two min_two max_three min_three max_four min_four   -- for this text's walks alone
set_option linter.unusedVariables false
set_option linter.unusedSimpArgs false
def IsS136 (w0 W : World) (g : Nat) (f0 : List (S41)) (f1 : Int) (f2 : Int) : Prop := ∃ A0 c0, W.heap[g]? = some (.cells #[.slice A0 f0.length c0, .int .i64 f1, .int .i64 f2] 136 (0, 0)) ∧ w0.heap.size ≤ g ∧ Kd.C k41 w0 A0 f0.length f0
theorem IsS136.grown {w0 W : World} {g : Nat} {f0 : List (S41)} {f1 : Int} {f2 : Int} {W1 : World} {row : Option Nat} (h : IsS136 w0 W g f0 f1 f2) (hw : W.grownBy W1 row) (hne : some g ≠ row) : IsS136 w0 W1 g f0 f1 f2 := by
 obtain ⟨A0, c0, hb, hg, hr0⟩ := h
 exact ⟨A0, c0, blk_grown hb hw hne, hg, hr0⟩
theorem IsS136.fresh {w0 W : World} {g : Nat} {f0 : List (S41)} {f1 : Int} {f2 : Int} (h : IsS136 w0 W g f0 f1 f2) : ∀ k, W.heap.size ≤ k → k ≠ g := by
 obtain ⟨A0, c0, hb, hg, hr0⟩ := h
 exact Kd.freshB hb
theorem IsS136.kept {w0 W : World} {g : Nat} {f0 : List (S41)} {f1 : Int} {f2 : Int} {W1 : World} {S : Nat → Prop} (h : IsS136 w0 W g f0 f1 f2) (hk : Kept W W1 S) (hne : ¬ S g) : IsS136 w0 W1 g f0 f1 f2 := by
 obtain ⟨A0, c0, hb, hg, hr0⟩ := h
 exact ⟨A0, c0, blk_kept hb hk hne, hg, hr0⟩
theorem IsS136.below {w0 W : World} {g : Nat} {f0 : List (S41)} {f1 : Int} {f2 : Int} {W1 : World} (h : IsS136 w0 W g f0 f1 f2) (hw : Below W.heap.size W W1) : IsS136 w0 W1 g f0 f1 f2 := h.grown (grown_of_below hw none) (by simp)
theorem IsS136.alloc {w0 W : World} {g : Nat} {f0 : List (S41)} {f1 : Int} {f2 : Int} (h : IsS136 w0 W g f0 f1 f2) (o : Obj) : IsS136 w0 (W.alloc o) g f0 f1 f2 := h.below (below_alloc (Below.refl _ _) o)
theorem IsS136.drewN {w0 W : World} {g : Nat} {f0 : List (S41)} {f1 : Int} {f2 : Int} (h : IsS136 w0 W g f0 f1 f2) (m : Nat) : IsS136 w0 (W.drewN m) g f0 f1 f2 := h
theorem IsS136.drew {w0 W : World} {g : Nat} {f0 : List (S41)} {f1 : Int} {f2 : Int} (h : IsS136 w0 W g f0 f1 f2) : IsS136 w0 W.drew g f0 f1 f2 := h
theorem IsS136.at_ {w0 W : World} {g : Nat} {f0 : List (S41)} {f1 : Int} {f2 : Int} {w' : World} {m : Nat} (hq : W.drewN m = w') (h : IsS136 w0 W g f0 f1 f2) : IsS136 w0 w' g f0 f1 f2 := by subst hq; exact IsS136.drewN h m
theorem IsS136.apart {w0 W : World} {g : Nat} {f0 : List (S41)} {f1 : Int} {f2 : Int} {α : Type} {d : Kd α} {e : Nat} {base : Nat} {ok : Nat → Prop} {v : Value} {xs : List α} (h : IsS136 w0 W g f0 f1 f2) (ho : d.R e W base ok v xs) (ht : ∀ q, q ∈ e :: d.E → q ≠ 136) : d.R e W base (fun k => ok k ∧ k ≠ g) v xs := by
 obtain ⟨A0, c0, hb, hg, hr0⟩ := h
 exact Kd.R_types ho hb ht
theorem IsS136.own_ne {w0 W : World} {g : Nat} {f0 : List (S41)} {f1 : Int} {f2 : Int} {α : Type} {d : Kd α} {e : Nat} {base : Nat} {ok : Nat → Prop} {v : Value} {xs : List α} (h : IsS136 w0 W g f0 f1 f2) (ho : d.R e W base ok v xs) (ht : e ≠ 136) : some g ≠ v.ownBlock := by
 obtain ⟨A0, c0, hb, hg, hr0⟩ := h
 exact Kd.R_ne ho hb ht
theorem IsS136.lt {w0 W : World} {g : Nat} {f0 : List (S41)} {f1 : Int} {f2 : Int} (h : IsS136 w0 W g f0 f1 f2) : g < W.heap.size := by
 obtain ⟨A0, c0, hb, hg, hr0⟩ := h
 exact blk_lt hb
theorem IsS136.ge {w0 W : World} {g : Nat} {f0 : List (S41)} {f1 : Int} {f2 : Int} (h : IsS136 w0 W g f0 f1 f2) : w0.heap.size ≤ g := by
 obtain ⟨A0, c0, hb, hg, hr0⟩ := h
 exact hg
theorem IsS136.far {w0 W : World} {g : Nat} {f0 : List (S41)} {f1 : Int} {f2 : Int} {p : Addr} (h : IsS136 w0 W g f0 f1 f2) (hne : g ≠ p.block) (u : Value) : IsS136 w0 (W.setCell p u) g f0 f1 f2 := by
 obtain ⟨A0, c0, hb, hg, hr0⟩ := h
 exact ⟨A0, c0, blk_far hb hne u, hg, hr0⟩
theorem cellS136_0 {W : World} {g : Nat} {A0 : Option Addr} {c0 : Nat} {f0 : List (S41)} {f1 : Int} {f2 : Int} (h : W.heap[g]? = some (.cells #[.slice A0 f0.length c0, .int .i64 f1, .int .i64 f2] 136 (0, 0))) : W.cell? ⟨g, 0, none⟩ = some (.slice A0 f0.length c0) := (blk_cell h 0).trans rfl
theorem IsS136.new (w0 W : World) (A0 : Option Addr) (c0 : Nat) (f0 : List (S41)) (f1 : Int) (f2 : Int) (hB : Below w0.heap.size w0 W) (hr0 : Kd.C k41 w0 A0 f0.length f0) : IsS136 w0 (W.alloc (.cells #[.slice A0 f0.length c0, .int .i64 f1, .int .i64 f2] 136)) W.heap.size f0 f1 f2 := ⟨A0, c0, by simpa using heap_alloc_new W _, hB.size, hr0⟩
mutual
def expr_deep.l0 : Nat → Int → List (S50) → Int → Int → Option (Int)
 | 0, _, _, _, _ => none
 | k + 1, x2, x6, x7, x8 => if x8 < x7 then (if 0 ≤ x8 then (if x8 < (x6.length : Int) then ((expr_deep.f k ((rd_T50 x6 x8).f0) ((rd_T50 x6 x8).f1) ((rd_T50 x6 x8).f2) ((rd_T50 x6 x8).f3)).bind fun t191 => (expr_deep.l0 k (mx x2 t191) x6 x7 (wrap64 (x8 + 1)))) else (none)) else (none)) else (some (wrap64 (x2 + 1)))
def expr_deep.f : Nat → ByteArray → Int → ByteArray → List (S50) → Option (Int)
 | 0, _, _, _, _ => none
 | k + 1, a0_0, a0_1, a0_2, l0_3 => expr_deep.l0 k 0 l0_3 (l0_3.length : Int) 0
end
set_option maxHeartbeats 8000000 in
set_option maxRecDepth 100000 in
theorem expr_deep.calls (k : Nat) : ∀ (a0_0 : ByteArray) (a0_1 : Int) (a0_2 : ByteArray) (A0_3 : Option Addr) (c0_3 : Nat) (l0_3 : List (S50)) (r : Int) (w : World) (hr0_3 : Kd.C k50 w A0_3 l0_3.length l0_3) (hc0_3 : l0_3.length ≤ c0_3) (h : expr_deep.f k a0_0 a0_1 a0_2 l0_3 = some r),
  Calls Tryd.prog 126 #[.agg #[.string a0_0, .int .u16 a0_1, .string a0_2, .slice A0_3 l0_3.length c0_3]] w fun e w' => e = .returned (.int .i64 r) ∧ Below w.heap.size w w' := by
 induction k using Nat.strongRecOn with
 | _ k ih =>
 intro a0_0 a0_1 a0_2 A0_3 c0_3 l0_3 r w hr0_3 hc0_3 h
 cases k with
 | zero => exact absurd h (by simp [expr_deep.f])
 | succ k =>
 simp only [expr_deep.f] at h
 have hu50 := Tryd.underlying50
 have HR0_3 := Aside0.mk hr0_3
 have HC0_3 := Aside0.mk hc0_3
 clear hr0_3 hc0_3
 have HB := Aside0.mk (Below.refl w.heap.size w)
 have H : (expr_deep.l0 k 0 l0_3 (l0_3.length : Int) 0) = some r := h
 clear h
 have H' := Aside0.mk H
 clear H
 go_enter Tryd.func126, Tryd.ntmps126
 go_wp2_with (first | ((with_reducible refine gate_dst (N := 1) rfl ?_); refine box_event ?hg (N := 1) ?hd (cs := #[.string a0_0, .int .u16 a0_1, .string a0_2, .slice A0_3 l0_3.length c0_3]) (t := 50) ?hr ?_; (case hd => rfl); (case hg => rfl); (case hr => first | (go_simp; done) | (go_simp; rfl)); intro gb188 hg w2 hbox hb; have n0_ := Aside0.mk (below_step (by repeat (first | (with_reducible first | exact HB.out | apply below_alloc | apply pw_below_drewN | apply below_drew1) | exact HB.out)) hb); have n1_ := Aside0.mk (hbox); have n2_ := Aside0.mk ((by rw [hg]; exact (below_size (by repeat (first | (with_reducible first | exact HB.out | apply below_alloc | apply pw_below_drewN | apply below_drew1) | exact HB.out))) : w.heap.size ≤ gb188)); have n3_ := Aside0.mk ((by rw [hg]; exact (below_size (by repeat (first | (with_reducible first | exact HB.out | apply below_alloc | apply pw_below_drewN | apply below_drew1) | exact HB.out))) : w.heap.size ≤ gb188)); clear HB; have HB := n0_; have BK188 := n1_; have GW188 := n2_; have GE188 := n3_; clear n0_ n1_ n2_ n3_; clear hb hbox hg; have hcz3_0 : w2.cell? ⟨gb188, 0, none⟩ = some (.string a0_0) := (blk_cell BK188.out 0).trans rfl; have hcz3_1 : w2.cell? ⟨gb188, 1, none⟩ = some (.int .u16 a0_1) := (blk_cell BK188.out 1).trans rfl; have hcz3_2 : w2.cell? ⟨gb188, 2, none⟩ = some (.string a0_2) := (blk_cell BK188.out 2).trans rfl; have hcz3_3 : w2.cell? ⟨gb188, 3, none⟩ = some (.slice A0_3 l0_3.length c0_3) := (blk_cell BK188.out 3).trans rfl; have hfz3_0 := blk_frozen BK188.out 0; have hfz3_1 := blk_frozen BK188.out 1; have hfz3_2 := blk_frozen BK188.out 2; have hfz3_3 := blk_frozen BK188.out 3))
 first | go_loopg [2, 8] k (fun kq v2 v8 w' => ∃ (x2_1 : Int) (x8_1 : Int), v2 = .int .i64 x2_1 ∧ v8 = .int .i64 x8_1 ∧ Aside0 (expr_deep.l0 kq x2_1 l0_3 (l0_3.length : Int) x8_1 = some r) ∧ Aside0 (kq ≤ k) ∧ Aside0 (w'.heap[gb188]? = some (.cells #[.string a0_0, .int .u16 a0_1, .string a0_2, (.slice A0_3 l0_3.length c0_3)] 50 (0, 0))) ∧ Aside0 (Below w.heap.size w w')) | (go_simp; go_loopg [2, 8] k (fun kq v2 v8 w' => ∃ (x2_1 : Int) (x8_1 : Int), v2 = .int .i64 x2_1 ∧ v8 = .int .i64 x8_1 ∧ Aside0 (expr_deep.l0 kq x2_1 l0_3 (l0_3.length : Int) x8_1 = some r) ∧ Aside0 (kq ≤ k) ∧ Aside0 (w'.heap[gb188]? = some (.cells #[.string a0_0, .int .u16 a0_1, .string a0_2, (.slice A0_3 l0_3.length c0_3)] 50 (0, 0))) ∧ Aside0 (Below w.heap.size w w')))
 case atStart => exact ⟨(0), (0), (by first | rfl | (simp; done) | (simp [*]; done)), (by first | rfl | (simp; done) | (simp [*]; done)), H', ⟨Nat.le_refl _⟩, ⟨by (with_reducible repeat (first | refine blk_drewN ?_ _ | refine blk_drew ?_ | refine blk_alloc ?_ _)); exact BK188.out⟩, ⟨by repeat (first | (with_reducible first | exact HB.out | apply below_alloc | apply pw_below_drewN | apply below_drew1 | refine below_set ?_ GE188.out) | exact HB.out)⟩⟩
 case round =>
  clear H'
  try clear c1
  try clear p2
  try clear hcz3_0
  try clear hcz3_1
  try clear hcz3_2
  try clear hcz3_3
  try clear hfz3_0
  try clear hfz3_1
  try clear hfz3_2
  try clear hfz3_3
  obtain ⟨x2_1, x8_1, rfl, rfl, HA, HK1, BK188, HB⟩ := hrel
  cases gk with
  | zero => exact absurd HA.out (by simp [expr_deep.l0])
  | succ k1 =>
   have H := HA.out
   clear HA
   simp only [expr_deep.l0] at H
   by_cases c4 : x8_1 < (l0_3.length : Int)
   ·rw [if_pos c4] at H
    have c4b0 : decide (x8_1 < (l0_3.length : Int)) = true := decide_eq_true c4
    clear c4
    by_cases c5 : 0 ≤ x8_1
    ·rw [if_pos c5] at H
     have c5b0 : decide (0 ≤ x8_1) = true := decide_eq_true c5
     clear c5
     by_cases c6 : x8_1 < (l0_3.length : Int)
     ·rw [if_pos c6] at H
      have c6b0 : decide (x8_1 < (l0_3.length : Int)) = true := decide_eq_true c6
      clear c6
      replace H := Option.bind_eq_some_iff.mp H
      obtain ⟨t191, A70, H⟩ := H
      replace H : (expr_deep.l0 k1 (mx x2_1 t191) l0_3 (l0_3.length : Int) (wrap64 (x8_1 + 1))) = some r := H
      have A7 := Aside0.mk A70
      clear A70
      obtain ⟨ji8, hji8⟩ : ∃ j_ : Int, (mx x2_1 t191) = j_ := ⟨_, rfl⟩
      replace H : (expr_deep.l0 k1 ji8 l0_3 (l0_3.length : Int) (wrap64 (x8_1 + 1))) = some r := by first | (rw [hji8] at H; exact H) | (simp only [hji8] at H ⊢; exact H)
      (try rw [hji8] at A7)
      have hji8_ : (if x2_1 < t191 then t191 else x2_1) = ji8 := hji8
      have H' := Aside0.mk H
      clear H
      have p189 : 0 ≤ (x8_1 : Int) := of_decide_eq_true (by first | (with_reducible assumption) | assumption)
      have q189 : x8_1 < (l0_3.length : Int) := of_decide_eq_true (by first | (with_reducible assumption) | assumption)
      obtain ⟨ad189, A189_3, c189_3, e189, hx189_0, hx189_1, hx189_2, hx189_3, hl189_3, hi189_3⟩ := at_T50 HR0_3.out x8_1 p189 q189
      cases e189
      replace hx189_0 := (HB.out.cell (World.block_lt_of_cell? w _ hx189_0)).trans hx189_0
      replace hx189_1 := (HB.out.cell (World.block_lt_of_cell? w _ hx189_1)).trans hx189_1
      replace hx189_2 := (HB.out.cell (World.block_lt_of_cell? w _ hx189_2)).trans hx189_2
      replace hx189_3 := (HB.out.cell (World.block_lt_of_cell? w _ hx189_3)).trans hx189_3
      have HR189_3 := Aside0.mk hi189_3
      have HC189_3 := Aside0.mk hl189_3
      clear hi189_3 hl189_3
      replace p189 := eq_true p189
      replace q189 := eq_true q189
      go_wp2_with (first | ((with_reducible refine gate_dst (N := 4) rfl ?_); refine box_event ?hg (N := 4) ?hd (cs := #[.string (⟨#[]⟩ : ByteArray), .int .u16 0, .string (⟨#[]⟩ : ByteArray), .slice none 0 0]) (t := 50) ?hr ?_; (case hd => rfl); (case hg => rfl); (case hr => first | (go_simp; done) | (go_simp; rfl)); intro gb190 hg w9 hbox hb; have n0_ := Aside0.mk (blk_below (g := gb188) (o := .cells #[.string a0_0, .int .u16 a0_1, .string a0_2, .slice (some ad189) l0_3.length c0_3] 50 (0, 0)) (by (with_reducible repeat (first | refine blk_drewN ?_ _ | refine blk_drew ?_ | refine blk_alloc ?_ _)); exact BK188.out) hb); have n1_ := Aside0.mk (below_step (by repeat (first | (with_reducible first | exact HB.out | apply below_alloc | apply pw_below_drewN | apply below_drew1 | refine below_set ?_ GE188.out) | exact HB.out)) hb); have n2_ := Aside0.mk (hbox); have n3_ := Aside0.mk ((by rw [hg]; exact (below_size (by repeat (first | (with_reducible first | exact HB.out | apply below_alloc | apply pw_below_drewN | apply below_drew1 | refine below_set ?_ GE188.out) | exact HB.out))) : w.heap.size ≤ gb190)); have n4_ := Aside0.mk ((by rw [hg]; exact (below_size (by repeat (first | (with_reducible first | exact HB.out | apply below_alloc | apply pw_below_drewN | apply below_drew1 | refine below_set ?_ GE188.out) | exact HB.out))) : w.heap.size ≤ gb190)); have n5_ := Aside0.mk ((by rw [hg]; exact Nat.ne_of_lt (blk_lt (g := gb188) (o := .cells #[.string a0_0, .int .u16 a0_1, .string a0_2, .slice (some ad189) l0_3.length c0_3] 50 (0, 0)) (by (with_reducible repeat (first | refine blk_drewN ?_ _ | refine blk_drew ?_ | refine blk_alloc ?_ _)); exact BK188.out)) : gb188 ≠ gb190)); have n6_ := Aside0.mk ((by rw [hg]; exact Nat.ne_of_gt (blk_lt (g := gb188) (o := .cells #[.string a0_0, .int .u16 a0_1, .string a0_2, .slice (some ad189) l0_3.length c0_3] 50 (0, 0)) (by (with_reducible repeat (first | refine blk_drewN ?_ _ | refine blk_drew ?_ | refine blk_alloc ?_ _)); exact BK188.out)) : gb190 ≠ gb188)); clear BK188; clear HB; have BK188 := n0_; have HB := n1_; have BK190 := n2_; have GW190 := n3_; have GE190 := n4_; have NB188_190 := n5_; have NB190_188 := n6_; clear n0_ n1_ n2_ n3_ n4_ n5_ n6_; clear hb hbox hg; have hnb10 := NB190_188.out; have hnc10 := NB188_190.out; have hcz11_0 : w9.cell? ⟨gb190, 0, none⟩ = some (.string (⟨#[]⟩ : ByteArray)) := (blk_cell BK190.out 0).trans rfl; have hcz11_1 : w9.cell? ⟨gb190, 1, none⟩ = some (.int .u16 0) := (blk_cell BK190.out 1).trans rfl; have hcz11_2 : w9.cell? ⟨gb190, 2, none⟩ = some (.string (⟨#[]⟩ : ByteArray)) := (blk_cell BK190.out 2).trans rfl; have hcz11_3 : w9.cell? ⟨gb190, 3, none⟩ = some (.slice none 0 0) := (blk_cell BK190.out 3).trans rfl; have hfz11_0 := blk_frozen BK190.out 0; have hfz11_1 := blk_frozen BK190.out 1; have hfz11_2 := blk_frozen BK190.out 2; have hfz11_3 := blk_frozen BK190.out 3) | ((with_reducible refine gate_callee (f := 126) rfl ?_); refine goesL_ (some 14) rfl rfl Tryd.func126 (by kernel_rfl) rfl #[.agg #[.string ((rd_T50 l0_3 x8_1).f0), .int .u16 ((rd_T50 l0_3 x8_1).f1), .string ((rd_T50 l0_3 x8_1).f2), .slice A189_3 ((rd_T50 l0_3 x8_1).f3).length c189_3]] rfl (by (try simp only [List.map_toArray, List.map_cons, List.map_nil]); first | done | rfl | (simp only [List.length_drop, List.length_take]; rfl)) ?_; (with_reducible refine (ih k1 (by have := HK1.out; omega) ((rd_T50 l0_3 x8_1).f0) ((rd_T50 l0_3 x8_1).f1) ((rd_T50 l0_3 x8_1).f2) _ _ ((rd_T50 l0_3 x8_1).f3) t191 _ ?side1 ?side2 A7.out).mono ?_); (case side1 => exact Kd.C_below HR189_3.out (by repeat (first | (with_reducible first | exact HB.out | apply below_alloc | apply pw_below_drewN | apply below_drew1 | refine below_set ?_ GE188.out | refine below_set ?_ GE190.out) | exact HB.out))); (case side2 => exact HC189_3.out); rintro e w12 ⟨rfl, hb⟩; refine ⟨_, rfl, ?_⟩; have n0_ := Aside0.mk (blk_below (g := gb188) (o := .cells #[.string a0_0, .int .u16 a0_1, .string a0_2, .slice (some ad189) l0_3.length c0_3] 50 (0, 0)) (by (with_reducible repeat (first | refine blk_drewN ?_ _ | refine blk_drew ?_ | refine blk_alloc ?_ _)); refine blk_far ?_ NB188_190.out _; (with_reducible repeat (first | refine blk_drewN ?_ _ | refine blk_drew ?_ | refine blk_alloc ?_ _)); refine blk_far ?_ NB188_190.out _; (with_reducible repeat (first | refine blk_drewN ?_ _ | refine blk_drew ?_ | refine blk_alloc ?_ _)); refine blk_far ?_ NB188_190.out _; (with_reducible repeat (first | refine blk_drewN ?_ _ | refine blk_drew ?_ | refine blk_alloc ?_ _)); refine blk_far ?_ NB188_190.out _; (with_reducible repeat (first | refine blk_drewN ?_ _ | refine blk_drew ?_ | refine blk_alloc ?_ _)); exact BK188.out) hb); have n1_ := Aside0.mk (blk_below (g := gb190) (o := .cells #[.string ((rd_T50 l0_3 x8_1).f0), .int .u16 ((rd_T50 l0_3 x8_1).f1), .string ((rd_T50 l0_3 x8_1).f2), .slice A189_3 ((rd_T50 l0_3 x8_1).f3).length c189_3] 50 (0, 0)) (by (with_reducible repeat (first | refine blk_drewN ?_ _ | refine blk_drew ?_ | refine blk_alloc ?_ _)); refine blk_put (cs := #[.string ((rd_T50 l0_3 x8_1).f0), .int .u16 ((rd_T50 l0_3 x8_1).f1), .string ((rd_T50 l0_3 x8_1).f2), .slice none 0 0]) ?_ 3 _ rfl; (with_reducible repeat (first | refine blk_drewN ?_ _ | refine blk_drew ?_ | refine blk_alloc ?_ _)); refine blk_put (cs := #[.string ((rd_T50 l0_3 x8_1).f0), .int .u16 ((rd_T50 l0_3 x8_1).f1), .string (⟨#[]⟩ : ByteArray), .slice none 0 0]) ?_ 2 _ rfl; (with_reducible repeat (first | refine blk_drewN ?_ _ | refine blk_drew ?_ | refine blk_alloc ?_ _)); refine blk_put (cs := #[.string ((rd_T50 l0_3 x8_1).f0), .int .u16 0, .string (⟨#[]⟩ : ByteArray), .slice none 0 0]) ?_ 1 _ rfl; (with_reducible repeat (first | refine blk_drewN ?_ _ | refine blk_drew ?_ | refine blk_alloc ?_ _)); refine blk_put (cs := #[.string (⟨#[]⟩ : ByteArray), .int .u16 0, .string (⟨#[]⟩ : ByteArray), .slice none 0 0]) ?_ 0 _ rfl; (with_reducible repeat (first | refine blk_drewN ?_ _ | refine blk_drew ?_ | refine blk_alloc ?_ _)); exact BK190.out) hb); have n2_ := Aside0.mk (below_step (by repeat (first | (with_reducible first | exact HB.out | apply below_alloc | apply pw_below_drewN | apply below_drew1 | refine below_set ?_ GE188.out | refine below_set ?_ GE190.out) | exact HB.out)) hb); clear BK188; clear BK190; clear HB; have BK188 := n0_; have BK190 := n1_; have HB := n2_; clear n0_ n1_ n2_; (try clear hb)))
      go_roundg k1
      case measure => have := HK1.out; omega
      case rel => exact ⟨(ji8), (wrap64 (x8_1 + 1)), (by first | rfl | (simp; done) | (simp only [← hji8] <;> (first | rfl | (simp; done) | (simp [*]; done))) | (simp [*]; done)), (by first | rfl | (simp; done) | (simp [*]; done)), H', ⟨by have := HK1.out; omega⟩, ⟨by (with_reducible repeat (first | refine blk_drewN ?_ _ | refine blk_drew ?_ | refine blk_alloc ?_ _)); exact BK188.out⟩, ⟨by repeat (first | (with_reducible first | exact HB.out | apply below_alloc | apply pw_below_drewN | apply below_drew1 | refine below_set ?_ GE188.out | refine below_set ?_ GE190.out) | exact HB.out)⟩⟩
     ·rw [if_neg c6] at H
      exact absurd H (by simp)
    ·rw [if_neg c5] at H
     exact absurd H (by simp)
   ·rw [if_neg c4] at H
    have c4b0 : decide (x8_1 < (l0_3.length : Int)) = false := decide_eq_false c4
    clear c4
    obtain rfl := Option.some.inj H
    go_wp2
    go_ret
    exact ⟨by first | rfl | (simp [errW_none, errW_some] <;> rfl) | (simp [*, errW_none, errW_some] <;> rfl), by repeat (first | (with_reducible first | exact HB.out | apply below_alloc | apply pw_below_drewN | apply below_drew1 | refine below_set ?_ GE188.out) | exact HB.out)⟩
end Go.Proofs.YtejhagejjogbaaaDoor.Qa
end
section
namespace Go.Proofs.YtejhagejjogbaaaDoor.Qa
open Go.RowKit Go.Proofs.YtejhagejjogbaaaDoorW.PrintWords Go.Proofs.YtejhagejjogbaaaDoorW.PrintLast Go.Proofs.YtejhagejjogbaaaDoorW.PrintMore Go.Proofs.YtejhagejjogbaaaDoor.Given Go.Proofs.YtejhagejjogbaaaDoor.TokSpan Go.Proofs.YtejhagejjogbaaaDoor.TokJoin Go.Proofs.YtejhagejjogbaaaDoor.TokRep Go.Proofs.YtejhagejjogbaaaDoor.Pn Go.Proofs.YtejhagejjogbaaaDoor.Pa Go.Proofs.YtejhagejjogbaaaDoor.Pb Go.Proofs.YtejhagejjogbaaaDoor.Pc Go.Proofs.YtejhagejjogbaaaDoor.Pd Go.Proofs.YtejhagejjogbaaaDoor.Pe
attribute [local go_sem] max2_int min2_int max_two min_two max_three min_three max_four min_four   -- for this text's walks alone
set_option linter.unusedVariables false
set_option linter.unusedSimpArgs false
mutual
def pidginref05_Same.j0 : Nat → Bool → ByteArray → Int → ByteArray → List (S50) → ByteArray → Int → ByteArray → List (S50) → Option (Bool)
 | 0, _, _, _, _, _, _, _, _, _ => none
 | k + 1, x33, x230000, x230001, x230002, x230003, x231000, x231001, x231002, x231003 => if x33 = true then (some false) else (pidginref05_Same.l0 k 0 x230000 x230001 x230002 x230003 x231000 x231001 x231002 x231003)
def pidginref05_Same.l0 : Nat → Int → ByteArray → Int → ByteArray → List (S50) → ByteArray → Int → ByteArray → List (S50) → Option (Bool)
 | 0, _, _, _, _, _, _, _, _, _ => none
 | k + 1, x5, x230000, x230001, x230002, x230003, x231000, x231001, x231002, x231003 => if x5 < (x230003.length : Int) then (if 0 ≤ x5 then (if x5 < (x231003.length : Int) then ((pidginref05_Same.f k ((rd_T50 x230003 x5).f0) ((rd_T50 x230003 x5).f1) ((rd_T50 x230003 x5).f2) ((rd_T50 x230003 x5).f3) ((rd_T50 x231003 x5).f0) ((rd_T50 x231003 x5).f1) ((rd_T50 x231003 x5).f2) ((rd_T50 x231003 x5).f3)).bind fun t233 => (if t233 = true then (pidginref05_Same.l0 k (wrap64 (x5 + 1)) x230000 x230001 x230002 x230003 x231000 x231001 x231002 x231003) else (some false))) else (none)) else (none)) else (some true)
def pidginref05_Same.f : Nat → ByteArray → Int → ByteArray → List (S50) → ByteArray → Int → ByteArray → List (S50) → Option (Bool)
 | 0, _, _, _, _, _, _, _, _ => none
 | k + 1, a0_0, a0_1, a0_2, l0_3, a1_0, a1_1, a1_2, l1_3 => if a0_0.toList = a1_0.toList then (if a0_1 = a1_1 then (if a0_2.toList = a1_2.toList then (pidginref05_Same.j0 k ((l0_3.length : Int) != (l1_3.length : Int)) a0_0 a0_1 a0_2 l0_3 a1_0 a1_1 a1_2 l1_3) else (pidginref05_Same.j0 k true a0_0 a0_1 a0_2 l0_3 a1_0 a1_1 a1_2 l1_3)) else (pidginref05_Same.j0 k true a0_0 a0_1 a0_2 l0_3 a1_0 a1_1 a1_2 l1_3)) else (pidginref05_Same.j0 k true a0_0 a0_1 a0_2 l0_3 a1_0 a1_1 a1_2 l1_3)
end
def pidginref05_Same.T6 : Bool × List (List Nat × List Nat) := (true, [([], []), ([0], [0]), ([], []), ([1, 2], [1, 2]), ([3], [3]), ([], []), ([5], [5]), ([], []), ([6, 7], [6, 7]), ([8], [8]), ([4, 9], [4, 9]), ([10], [10])])
def pidginref05_Same.B6 : List Nat := [0, 1, 0, 7, 15, 0, 32, 0, 224, 480, 1023, 2047]
theorem pidginref05_Same.tab6 : rtab .any (opsOf Tryd.f46 6) = pidginref05_Same.T6 := by kernel_rfl
theorem pidginref05_Same.bits6 : waitsOk pidginref05_Same.T6.2 pidginref05_Same.B6 = true := by kernel_rfl
set_option maxHeartbeats 8000000 in
set_option maxRecDepth 100000 in
theorem pidginref05_Same.calls (k : Nat) : ∀ (a0_0 : ByteArray) (a0_1 : Int) (a0_2 : ByteArray) (A0_3 : Option Addr) (c0_3 : Nat) (l0_3 : List (S50)) (a1_0 : ByteArray) (a1_1 : Int) (a1_2 : ByteArray) (A1_3 : Option Addr) (c1_3 : Nat) (l1_3 : List (S50)) (r : Bool) (w : World) (hr0_3 : Kd.C k50 w A0_3 l0_3.length l0_3) (hc0_3 : l0_3.length ≤ c0_3) (hr1_3 : Kd.C k50 w A1_3 l1_3.length l1_3) (hc1_3 : l1_3.length ≤ c1_3) (h : pidginref05_Same.f k a0_0 a0_1 a0_2 l0_3 a1_0 a1_1 a1_2 l1_3 = some r),
  Calls Tryd.prog 46 #[.agg #[.string a0_0, .int .u16 a0_1, .string a0_2, .slice A0_3 l0_3.length c0_3], .agg #[.string a1_0, .int .u16 a1_1, .string a1_2, .slice A1_3 l1_3.length c1_3]] w fun e w' => e = .returned (.bool r) ∧ Below w.heap.size w w' := by
 induction k using Nat.strongRecOn with
 | _ k ih =>
 intro a0_0 a0_1 a0_2 A0_3 c0_3 l0_3 a1_0 a1_1 a1_2 A1_3 c1_3 l1_3 r w hr0_3 hc0_3 hr1_3 hc1_3 h
 cases k with
 | zero => exact absurd h (by simp [pidginref05_Same.f])
 | succ k =>
 simp only [pidginref05_Same.f] at h
 have hu50 := Tryd.underlying50
 have HR0_3 := Aside0.mk hr0_3
 have HC0_3 := Aside0.mk hc0_3
 clear hr0_3 hc0_3
 have HR1_3 := Aside0.mk hr1_3
 have HC1_3 := Aside0.mk hc1_3
 clear hr1_3 hc1_3
 have HB := Aside0.mk (Below.refl w.heap.size w)
 have H : (if a0_0.toList = a1_0.toList then (if a0_1 = a1_1 then (if a0_2.toList = a1_2.toList then (pidginref05_Same.j0 k ((l0_3.length : Int) != (l1_3.length : Int)) a0_0 a0_1 a0_2 l0_3 a1_0 a1_1 a1_2 l1_3) else (pidginref05_Same.j0 k true a0_0 a0_1 a0_2 l0_3 a1_0 a1_1 a1_2 l1_3)) else (pidginref05_Same.j0 k true a0_0 a0_1 a0_2 l0_3 a1_0 a1_1 a1_2 l1_3)) else (pidginref05_Same.j0 k true a0_0 a0_1 a0_2 l0_3 a1_0 a1_1 a1_2 l1_3)) = some r := h
 clear h
 have HC3 := Aside0.mk H
 clear H
 go_enter Tryd.func46, Tryd.ntmps46
 go_upto_region 1 with (first | ((with_reducible refine gate_dst (N := 2) rfl ?_); (try (refine gate_guard (by rfl) ?_; dsimp only)); refine box_event ?hg (N := 2) ?hd (cs := #[.string a0_0, .int .u16 a0_1, .string a0_2, .slice A0_3 l0_3.length c0_3]) (t := 50) ?hr ?_; (case hd => rfl); (case hg => rfl); (case hr => first | (go_simp; done) | (go_simp; rfl)); intro gb229 hg w4 hbox hb; have n0_ := Aside0.mk (below_step (by repeat (first | (with_reducible first | exact HB.out | apply below_alloc | apply pw_below_drewN | apply below_drew1) | exact HB.out)) hb); have n1_ := Aside0.mk (hbox); have n2_ := Aside0.mk ((by rw [hg]; exact (below_size (by repeat (first | (with_reducible first | exact HB.out | apply below_alloc | apply pw_below_drewN | apply below_drew1) | exact HB.out))) : w.heap.size ≤ gb229)); have n3_ := Aside0.mk ((by rw [hg]; exact (below_size (by repeat (first | (with_reducible first | exact HB.out | apply below_alloc | apply pw_below_drewN | apply below_drew1) | exact HB.out))) : w.heap.size ≤ gb229)); clear HB; have HB := n0_; have BK229 := n1_; have GW229 := n2_; have GE229 := n3_; clear n0_ n1_ n2_ n3_; clear hb hbox hg) | ((with_reducible refine gate_dst (N := 3) rfl ?_); (try (refine gate_guard (by rfl) ?_; dsimp only)); refine box_event ?hg (N := 3) ?hd (cs := #[.string a1_0, .int .u16 a1_1, .string a1_2, .slice A1_3 l1_3.length c1_3]) (t := 50) ?hr ?_; (case hd => rfl); (case hg => rfl); (case hr => first | (go_simp; done) | (go_simp; rfl)); intro gb230 hg w5 hbox hb; have n0_ := Aside0.mk (blk_below (g := gb229) (o := .cells #[.string a0_0, .int .u16 a0_1, .string a0_2, .slice A0_3 l0_3.length c0_3] 50 (0, 0)) (by (with_reducible repeat (first | refine blk_drewN ?_ _ | refine blk_drew ?_ | refine blk_alloc ?_ _)); exact BK229.out) hb); have n1_ := Aside0.mk (below_step (by repeat (first | (with_reducible first | exact HB.out | apply below_alloc | apply pw_below_drewN | apply below_drew1 | refine below_set ?_ GE229.out) | exact HB.out)) hb); have n2_ := Aside0.mk (hbox); have n3_ := Aside0.mk ((by rw [hg]; exact (below_size (by repeat (first | (with_reducible first | exact HB.out | apply below_alloc | apply pw_below_drewN | apply below_drew1 | refine below_set ?_ GE229.out) | exact HB.out))) : w.heap.size ≤ gb230)); have n4_ := Aside0.mk ((by rw [hg]; exact (below_size (by repeat (first | (with_reducible first | exact HB.out | apply below_alloc | apply pw_below_drewN | apply below_drew1 | refine below_set ?_ GE229.out) | exact HB.out))) : w.heap.size ≤ gb230)); have n5_ := Aside0.mk ((by rw [hg]; exact Nat.ne_of_lt (blk_lt (g := gb229) (o := .cells #[.string a0_0, .int .u16 a0_1, .string a0_2, .slice A0_3 l0_3.length c0_3] 50 (0, 0)) (by (with_reducible repeat (first | refine blk_drewN ?_ _ | refine blk_drew ?_ | refine blk_alloc ?_ _)); exact BK229.out)) : gb229 ≠ gb230)); have n6_ := Aside0.mk ((by rw [hg]; exact Nat.ne_of_gt (blk_lt (g := gb229) (o := .cells #[.string a0_0, .int .u16 a0_1, .string a0_2, .slice A0_3 l0_3.length c0_3] 50 (0, 0)) (by (with_reducible repeat (first | refine blk_drewN ?_ _ | refine blk_drew ?_ | refine blk_alloc ?_ _)); exact BK229.out)) : gb230 ≠ gb229)); clear BK229; clear HB; have BK229 := n0_; have HB := n1_; have BK230 := n2_; have GW230 := n3_; have GE230 := n4_; have NB229_230 := n5_; have NB230_229 := n6_; clear n0_ n1_ n2_ n3_ n4_ n5_ n6_; clear hb hbox hg))
 (try simp only [Act.put, List.setIfInBounds_toArray, List.set_cons_zero, List.set_cons_succ])
 go_cut [33] (fun v33 wc => ∃ (kq : Nat) (x33_2 : Bool), v33 = .bool x33_2 ∧ Aside0 (pidginref05_Same.j0 kq x33_2 a0_0 a0_1 a0_2 l0_3 a1_0 a1_1 a1_2 l1_3 = some r) ∧ Aside0 (kq ≤ k) ∧ Aside0 (wc.heap[gb229]? = some (.cells #[.string a0_0, .int .u16 a0_1, .string a0_2, (.slice A0_3 l0_3.length c0_3)] 50 (0, 0))) ∧ Aside0 (wc.heap[gb230]? = some (.cells #[.string a1_0, .int .u16 a1_1, .string a1_2, (.slice A1_3 l1_3.length c1_3)] 50 (0, 0))) ∧ Aside0 (Below w.heap.size w wc))
 case first =>
  have H := HC3.out
  clear HC3
  by_cases c6 : a0_0.toList = a1_0.toList
  ·rw [if_pos c6] at H
   have c6b0 : (a0_0.toList == a1_0.toList) = true := beq_iff_eq.mpr c6
   have c6b1 : (a0_0.toList != a1_0.toList) = false := bne_eq_false_iff_eq.mpr c6
   clear c6
   (first | rw [c6b0] | (simp only [i64_w, i32_w]; rw [c6b0]) | skip)
   by_cases c7 : a0_1 = a1_1
   ·rw [if_pos c7] at H
    have c7b0 : (a0_1 == a1_1) = true := beq_iff_eq.mpr c7
    have c7b1 : (a0_1 != a1_1) = false := bne_eq_false_iff_eq.mpr c7
    clear c7
    by_cases c8 : a0_2.toList = a1_2.toList
    ·rw [if_pos c8] at H
     have c8b0 : (a0_2.toList == a1_2.toList) = true := beq_iff_eq.mpr c8
     have c8b1 : (a0_2.toList != a1_2.toList) = false := bne_eq_false_iff_eq.mpr c8
     clear c8
     have H' := Aside0.mk H
     clear H
     have hnb9 := NB229_230.out
     have hnc9 := NB230_229.out
     have hcz10_0 : w5.cell? ⟨gb229, 0, none⟩ = some (.string a0_0) := (blk_cell BK229.out 0).trans rfl
     have hcz10_1 : w5.cell? ⟨gb229, 1, none⟩ = some (.int .u16 a0_1) := (blk_cell BK229.out 1).trans rfl
     have hcz10_2 : w5.cell? ⟨gb229, 2, none⟩ = some (.string a0_2) := (blk_cell BK229.out 2).trans rfl
     have hcz10_3 : w5.cell? ⟨gb229, 3, none⟩ = some (.slice A0_3 l0_3.length c0_3) := (blk_cell BK229.out 3).trans rfl
     have hfz10_0 := blk_frozen BK229.out 0
     have hfz10_1 := blk_frozen BK229.out 1
     have hfz10_2 := blk_frozen BK229.out 2
     have hfz10_3 := blk_frozen BK229.out 3
     have hcz11_0 : w5.cell? ⟨gb230, 0, none⟩ = some (.string a1_0) := (blk_cell BK230.out 0).trans rfl
     have hcz11_1 : w5.cell? ⟨gb230, 1, none⟩ = some (.int .u16 a1_1) := (blk_cell BK230.out 1).trans rfl
     have hcz11_2 : w5.cell? ⟨gb230, 2, none⟩ = some (.string a1_2) := (blk_cell BK230.out 2).trans rfl
     have hcz11_3 : w5.cell? ⟨gb230, 3, none⟩ = some (.slice A1_3 l1_3.length c1_3) := (blk_cell BK230.out 3).trans rfl
     have hfz11_0 := blk_frozen BK230.out 0
     have hfz11_1 := blk_frozen BK230.out 1
     have hfz11_2 := blk_frozen BK230.out 2
     have hfz11_3 := blk_frozen BK230.out 3
     go_wp2
     go_meet
     case rel => exact ⟨_, (((l0_3.length : Int) != (l1_3.length : Int))), (by first | rfl | (simp; done) | (simp [*]; done)), H', ⟨by first | omega | exact Nat.le_refl _⟩, ⟨by (with_reducible repeat (first | refine blk_drewN ?_ _ | refine blk_drew ?_ | refine blk_alloc ?_ _)); exact BK229.out⟩, ⟨by (with_reducible repeat (first | refine blk_drewN ?_ _ | refine blk_drew ?_ | refine blk_alloc ?_ _)); exact BK230.out⟩, ⟨by repeat (first | (with_reducible first | exact HB.out | apply below_alloc | apply pw_below_drewN | apply below_drew1 | refine below_set ?_ GE229.out | refine below_set ?_ GE230.out) | exact HB.out)⟩⟩
    ·rw [if_neg c8] at H
     have c8b0 : (a0_2.toList == a1_2.toList) = false := beq_eq_false_iff_ne.mpr c8
     have c8b1 : (a0_2.toList != a1_2.toList) = true := bne_iff_ne.mpr c8
     have H' := Aside0.mk H
     clear H
     have hnb12 := NB229_230.out
     have hnc12 := NB230_229.out
     have hcz13_0 : w5.cell? ⟨gb229, 0, none⟩ = some (.string a0_0) := (blk_cell BK229.out 0).trans rfl
     have hcz13_1 : w5.cell? ⟨gb229, 1, none⟩ = some (.int .u16 a0_1) := (blk_cell BK229.out 1).trans rfl
     have hcz13_2 : w5.cell? ⟨gb229, 2, none⟩ = some (.string a0_2) := (blk_cell BK229.out 2).trans rfl
     have hcz13_3 : w5.cell? ⟨gb229, 3, none⟩ = some (.slice A0_3 l0_3.length c0_3) := (blk_cell BK229.out 3).trans rfl
     have hfz13_0 := blk_frozen BK229.out 0
     have hfz13_1 := blk_frozen BK229.out 1
     have hfz13_2 := blk_frozen BK229.out 2
     have hfz13_3 := blk_frozen BK229.out 3
     have hcz14_0 : w5.cell? ⟨gb230, 0, none⟩ = some (.string a1_0) := (blk_cell BK230.out 0).trans rfl
     have hcz14_1 : w5.cell? ⟨gb230, 1, none⟩ = some (.int .u16 a1_1) := (blk_cell BK230.out 1).trans rfl
     have hcz14_2 : w5.cell? ⟨gb230, 2, none⟩ = some (.string a1_2) := (blk_cell BK230.out 2).trans rfl
     have hcz14_3 : w5.cell? ⟨gb230, 3, none⟩ = some (.slice A1_3 l1_3.length c1_3) := (blk_cell BK230.out 3).trans rfl
     have hfz14_0 := blk_frozen BK230.out 0
     have hfz14_1 := blk_frozen BK230.out 1
     have hfz14_2 := blk_frozen BK230.out 2
     have hfz14_3 := blk_frozen BK230.out 3
     go_wp2
     go_meet
     case rel => exact ⟨_, (true), (by first | rfl | (simp; done) | (simp [*]; done)), H', ⟨by first | omega | exact Nat.le_refl _⟩, ⟨by (with_reducible repeat (first | refine blk_drewN ?_ _ | refine blk_drew ?_ | refine blk_alloc ?_ _)); exact BK229.out⟩, ⟨by (with_reducible repeat (first | refine blk_drewN ?_ _ | refine blk_drew ?_ | refine blk_alloc ?_ _)); exact BK230.out⟩, ⟨by repeat (first | (with_reducible first | exact HB.out | apply below_alloc | apply pw_below_drewN | apply below_drew1 | refine below_set ?_ GE229.out | refine below_set ?_ GE230.out) | exact HB.out)⟩⟩
   ·rw [if_neg c7] at H
    have c7b0 : (a0_1 == a1_1) = false := beq_eq_false_iff_ne.mpr c7
    have c7b1 : (a0_1 != a1_1) = true := bne_iff_ne.mpr c7
    have H' := Aside0.mk H
    clear H
    have hnb15 := NB229_230.out
    have hnc15 := NB230_229.out
    have hcz16_0 : w5.cell? ⟨gb229, 0, none⟩ = some (.string a0_0) := (blk_cell BK229.out 0).trans rfl
    have hcz16_1 : w5.cell? ⟨gb229, 1, none⟩ = some (.int .u16 a0_1) := (blk_cell BK229.out 1).trans rfl
    have hcz16_2 : w5.cell? ⟨gb229, 2, none⟩ = some (.string a0_2) := (blk_cell BK229.out 2).trans rfl
    have hcz16_3 : w5.cell? ⟨gb229, 3, none⟩ = some (.slice A0_3 l0_3.length c0_3) := (blk_cell BK229.out 3).trans rfl
    have hfz16_0 := blk_frozen BK229.out 0
    have hfz16_1 := blk_frozen BK229.out 1
    have hfz16_2 := blk_frozen BK229.out 2
    have hfz16_3 := blk_frozen BK229.out 3
    have hcz17_0 : w5.cell? ⟨gb230, 0, none⟩ = some (.string a1_0) := (blk_cell BK230.out 0).trans rfl
    have hcz17_1 : w5.cell? ⟨gb230, 1, none⟩ = some (.int .u16 a1_1) := (blk_cell BK230.out 1).trans rfl
    have hcz17_2 : w5.cell? ⟨gb230, 2, none⟩ = some (.string a1_2) := (blk_cell BK230.out 2).trans rfl
    have hcz17_3 : w5.cell? ⟨gb230, 3, none⟩ = some (.slice A1_3 l1_3.length c1_3) := (blk_cell BK230.out 3).trans rfl
    have hfz17_0 := blk_frozen BK230.out 0
    have hfz17_1 := blk_frozen BK230.out 1
    have hfz17_2 := blk_frozen BK230.out 2
    have hfz17_3 := blk_frozen BK230.out 3
    go_wp2
    go_meet
    case rel => exact ⟨_, (true), (by first | rfl | (simp; done) | (simp [*]; done)), H', ⟨by first | omega | exact Nat.le_refl _⟩, ⟨by (with_reducible repeat (first | refine blk_drewN ?_ _ | refine blk_drew ?_ | refine blk_alloc ?_ _)); exact BK229.out⟩, ⟨by (with_reducible repeat (first | refine blk_drewN ?_ _ | refine blk_drew ?_ | refine blk_alloc ?_ _)); exact BK230.out⟩, ⟨by repeat (first | (with_reducible first | exact HB.out | apply below_alloc | apply pw_below_drewN | apply below_drew1 | refine below_set ?_ GE229.out | refine below_set ?_ GE230.out) | exact HB.out)⟩⟩
  ·rw [if_neg c6] at H
   have c6b0 : (a0_0.toList == a1_0.toList) = false := beq_eq_false_iff_ne.mpr c6
   have c6b1 : (a0_0.toList != a1_0.toList) = true := bne_iff_ne.mpr c6
   (first | rw [c6b0] | (simp only [i64_w, i32_w]; rw [c6b0]) | skip)
   have H' := Aside0.mk H
   clear H
   have hnb18 := NB229_230.out
   have hnc18 := NB230_229.out
   have hcz19_0 : w5.cell? ⟨gb229, 0, none⟩ = some (.string a0_0) := (blk_cell BK229.out 0).trans rfl
   have hcz19_1 : w5.cell? ⟨gb229, 1, none⟩ = some (.int .u16 a0_1) := (blk_cell BK229.out 1).trans rfl
   have hcz19_2 : w5.cell? ⟨gb229, 2, none⟩ = some (.string a0_2) := (blk_cell BK229.out 2).trans rfl
   have hcz19_3 : w5.cell? ⟨gb229, 3, none⟩ = some (.slice A0_3 l0_3.length c0_3) := (blk_cell BK229.out 3).trans rfl
   have hfz19_0 := blk_frozen BK229.out 0
   have hfz19_1 := blk_frozen BK229.out 1
   have hfz19_2 := blk_frozen BK229.out 2
   have hfz19_3 := blk_frozen BK229.out 3
   have hcz20_0 : w5.cell? ⟨gb230, 0, none⟩ = some (.string a1_0) := (blk_cell BK230.out 0).trans rfl
   have hcz20_1 : w5.cell? ⟨gb230, 1, none⟩ = some (.int .u16 a1_1) := (blk_cell BK230.out 1).trans rfl
   have hcz20_2 : w5.cell? ⟨gb230, 2, none⟩ = some (.string a1_2) := (blk_cell BK230.out 2).trans rfl
   have hcz20_3 : w5.cell? ⟨gb230, 3, none⟩ = some (.slice A1_3 l1_3.length c1_3) := (blk_cell BK230.out 3).trans rfl
   have hfz20_0 := blk_frozen BK230.out 0
   have hfz20_1 := blk_frozen BK230.out 1
   have hfz20_2 := blk_frozen BK230.out 2
   have hfz20_3 := blk_frozen BK230.out 3
   go_wp2
   go_meet
   case rel => exact ⟨_, (true), (by first | rfl | (simp; done) | (simp [*]; done)), H', ⟨by first | omega | exact Nat.le_refl _⟩, ⟨by (with_reducible repeat (first | refine blk_drewN ?_ _ | refine blk_drew ?_ | refine blk_alloc ?_ _)); exact BK229.out⟩, ⟨by (with_reducible repeat (first | refine blk_drewN ?_ _ | refine blk_drew ?_ | refine blk_alloc ?_ _)); exact BK230.out⟩, ⟨by repeat (first | (with_reducible first | exact HB.out | apply below_alloc | apply pw_below_drewN | apply below_drew1 | refine below_set ?_ GE229.out | refine below_set ?_ GE230.out) | exact HB.out)⟩⟩
 case rest =>
  clear HC3
  try clear c1
  try clear p2
  try clear c4
  try clear c6
  try clear c6b0
  try clear c6b1
  try clear c7
  try clear c7b0
  try clear c7b1
  try clear c8
  try clear c8b0
  try clear c8b1
  try clear c9
  try clear c12
  try clear c15
  try clear c18
  try clear hcz10_0
  try clear hcz10_1
  try clear hcz10_2
  try clear hcz10_3
  try clear hcz11_0
  try clear hcz11_1
  try clear hcz11_2
  try clear hcz11_3
  try clear hcz13_0
  try clear hcz13_1
  try clear hcz13_2
  try clear hcz13_3
  try clear hcz14_0
  try clear hcz14_1
  try clear hcz14_2
  try clear hcz14_3
  try clear hcz16_0
  try clear hcz16_1
  try clear hcz16_2
  try clear hcz16_3
  try clear hcz17_0
  try clear hcz17_1
  try clear hcz17_2
  try clear hcz17_3
  try clear hcz19_0
  try clear hcz19_1
  try clear hcz19_2
  try clear hcz19_3
  try clear hcz20_0
  try clear hcz20_1
  try clear hcz20_2
  try clear hcz20_3
  try clear hfz10_0
  try clear hfz10_1
  try clear hfz10_2
  try clear hfz10_3
  try clear hfz11_0
  try clear hfz11_1
  try clear hfz11_2
  try clear hfz11_3
  try clear hfz13_0
  try clear hfz13_1
  try clear hfz13_2
  try clear hfz13_3
  try clear hfz14_0
  try clear hfz14_1
  try clear hfz14_2
  try clear hfz14_3
  try clear hfz16_0
  try clear hfz16_1
  try clear hfz16_2
  try clear hfz16_3
  try clear hfz17_0
  try clear hfz17_1
  try clear hfz17_2
  try clear hfz17_3
  try clear hfz19_0
  try clear hfz19_1
  try clear hfz19_2
  try clear hfz19_3
  try clear hfz20_0
  try clear hfz20_1
  try clear hfz20_2
  try clear hfz20_3
  obtain ⟨kq, x33_2, rfl, HA, HJ2, BK229, BK230, HB⟩ := hcut
  cases kq with
  | zero => exact absurd HA.out (by simp [pidginref05_Same.j0])
  | succ kj2 =>
   have H := HA.out
   clear HA
   simp only [pidginref05_Same.j0] at H
   by_cases c21 : x33_2 = true
   ·subst c21
    have H1 : (some false) = some r := by rw [if_pos rfl] at H; exact H
    clear H
    have H := H1
    clear H1
    obtain rfl := Option.some.inj H
    go_wp2
    go_ret
    exact ⟨by first | rfl | (simp [errW_none, errW_some] <;> rfl) | (simp [*, errW_none, errW_some] <;> rfl), by repeat (first | (with_reducible first | exact HB.out | apply below_alloc | apply pw_below_drewN | apply below_drew1 | refine below_set ?_ GE229.out | refine below_set ?_ GE230.out) | exact HB.out)⟩
   ·replace c21 := Bool.eq_false_iff.mpr c21
    subst c21
    have H1 : (pidginref05_Same.l0 kj2 0 a0_0 a0_1 a0_2 l0_3 a1_0 a1_1 a1_2 l1_3) = some r := by rw [if_neg (show ¬ (false = true) by decide)] at H; exact H
    clear H
    have H := H1
    clear H1
    have H' := Aside0.mk H
    clear H
    go_wp2
    first | go_loopg [5] kj2 (fun kq v5 w' => ∃ (x5_2 : Int), v5 = .int .i64 x5_2 ∧ Aside0 (pidginref05_Same.l0 kq x5_2 a0_0 a0_1 a0_2 l0_3 a1_0 a1_1 a1_2 l1_3 = some r) ∧ Aside0 (kq ≤ kj2) ∧ Aside0 (w'.heap[gb229]? = some (.cells #[.string a0_0, .int .u16 a0_1, .string a0_2, (.slice A0_3 l0_3.length c0_3)] 50 (0, 0))) ∧ Aside0 (w'.heap[gb230]? = some (.cells #[.string a1_0, .int .u16 a1_1, .string a1_2, (.slice A1_3 l1_3.length c1_3)] 50 (0, 0))) ∧ Aside0 (Below w.heap.size w w')) | (go_simp; go_loopg [5] kj2 (fun kq v5 w' => ∃ (x5_2 : Int), v5 = .int .i64 x5_2 ∧ Aside0 (pidginref05_Same.l0 kq x5_2 a0_0 a0_1 a0_2 l0_3 a1_0 a1_1 a1_2 l1_3 = some r) ∧ Aside0 (kq ≤ kj2) ∧ Aside0 (w'.heap[gb229]? = some (.cells #[.string a0_0, .int .u16 a0_1, .string a0_2, (.slice A0_3 l0_3.length c0_3)] 50 (0, 0))) ∧ Aside0 (w'.heap[gb230]? = some (.cells #[.string a1_0, .int .u16 a1_1, .string a1_2, (.slice A1_3 l1_3.length c1_3)] 50 (0, 0))) ∧ Aside0 (Below w.heap.size w w')))
    case atStart => exact ⟨(0), (by first | rfl | (simp; done) | (simp [*]; done)), H', ⟨Nat.le_refl _⟩, ⟨by (with_reducible repeat (first | refine blk_drewN ?_ _ | refine blk_drew ?_ | refine blk_alloc ?_ _)); exact BK229.out⟩, ⟨by (with_reducible repeat (first | refine blk_drewN ?_ _ | refine blk_drew ?_ | refine blk_alloc ?_ _)); exact BK230.out⟩, ⟨by repeat (first | (with_reducible first | exact HB.out | apply below_alloc | apply pw_below_drewN | apply below_drew1 | refine below_set ?_ GE229.out | refine below_set ?_ GE230.out) | exact HB.out)⟩⟩
    case round =>
     clear H'
     try clear c1
     try clear c2
     try clear p2
     try clear c4
     try clear c6
     try clear c6b0
     try clear c6b1
     try clear c7
     try clear c7b0
     try clear c7b1
     try clear c8
     try clear c8b0
     try clear c8b1
     try clear c9
     try clear c12
     try clear c15
     try clear c18
     try clear c21
     try clear hcz10_0
     try clear hcz10_1
     try clear hcz10_2
     try clear hcz10_3
     try clear hcz11_0
     try clear hcz11_1
     try clear hcz11_2
     try clear hcz11_3
     try clear hcz13_0
     try clear hcz13_1
     try clear hcz13_2
     try clear hcz13_3
     try clear hcz14_0
     try clear hcz14_1
     try clear hcz14_2
     try clear hcz14_3
     try clear hcz16_0
     try clear hcz16_1
     try clear hcz16_2
     try clear hcz16_3
     try clear hcz17_0
     try clear hcz17_1
     try clear hcz17_2
     try clear hcz17_3
     try clear hcz19_0
     try clear hcz19_1
     try clear hcz19_2
     try clear hcz19_3
     try clear hcz20_0
     try clear hcz20_1
     try clear hcz20_2
     try clear hcz20_3
     try clear hfz10_0
     try clear hfz10_1
     try clear hfz10_2
     try clear hfz10_3
     try clear hfz11_0
     try clear hfz11_1
     try clear hfz11_2
     try clear hfz11_3
     try clear hfz13_0
     try clear hfz13_1
     try clear hfz13_2
     try clear hfz13_3
     try clear hfz14_0
     try clear hfz14_1
     try clear hfz14_2
     try clear hfz14_3
     try clear hfz16_0
     try clear hfz16_1
     try clear hfz16_2
     try clear hfz16_3
     try clear hfz17_0
     try clear hfz17_1
     try clear hfz17_2
     try clear hfz17_3
     try clear hfz19_0
     try clear hfz19_1
     try clear hfz19_2
     try clear hfz19_3
     try clear hfz20_0
     try clear hfz20_1
     try clear hfz20_2
     try clear hfz20_3
     try clear p2
     obtain ⟨x5_2, rfl, HA, HK2, BK229, BK230, HB⟩ := hrel
     cases gk with
     | zero => exact absurd HA.out (by simp [pidginref05_Same.l0])
     | succ k2 =>
      have H := HA.out
      clear HA
      simp only [pidginref05_Same.l0] at H
      by_cases c22 : x5_2 < (l0_3.length : Int)
      ·rw [if_pos c22] at H
       have c22b0 : decide (x5_2 < (l0_3.length : Int)) = true := decide_eq_true c22
       clear c22
       by_cases c23 : 0 ≤ x5_2
       ·rw [if_pos c23] at H
        have c23b0 : decide (0 ≤ x5_2) = true := decide_eq_true c23
        clear c23
        by_cases c24 : x5_2 < (l1_3.length : Int)
        ·rw [if_pos c24] at H
         have c24b0 : decide (x5_2 < (l1_3.length : Int)) = true := decide_eq_true c24
         clear c24
         replace H := Option.bind_eq_some_iff.mp H
         obtain ⟨t233, A250, H⟩ := H
         replace H : (if t233 = true then (pidginref05_Same.l0 k2 (wrap64 (x5_2 + 1)) a0_0 a0_1 a0_2 l0_3 a1_0 a1_1 a1_2 l1_3) else (some false)) = some r := H
         have A25 := Aside0.mk A250
         clear A250
         by_cases c26 : t233 = true
         ·subst c26
          have H1 : (pidginref05_Same.l0 k2 (wrap64 (x5_2 + 1)) a0_0 a0_1 a0_2 l0_3 a1_0 a1_1 a1_2 l1_3) = some r := by rw [if_pos rfl] at H; exact H
          clear H
          have H := H1
          clear H1
          have H' := Aside0.mk H
          clear H
          have hnb27 := NB229_230.out
          have hnc27 := NB230_229.out
          have hcz28_0 : wr.cell? ⟨gb229, 0, none⟩ = some (.string a0_0) := (blk_cell BK229.out 0).trans rfl
          have hcz28_1 : wr.cell? ⟨gb229, 1, none⟩ = some (.int .u16 a0_1) := (blk_cell BK229.out 1).trans rfl
          have hcz28_2 : wr.cell? ⟨gb229, 2, none⟩ = some (.string a0_2) := (blk_cell BK229.out 2).trans rfl
          have hcz28_3 : wr.cell? ⟨gb229, 3, none⟩ = some (.slice A0_3 l0_3.length c0_3) := (blk_cell BK229.out 3).trans rfl
          have hfz28_0 := blk_frozen BK229.out 0
          have hfz28_1 := blk_frozen BK229.out 1
          have hfz28_2 := blk_frozen BK229.out 2
          have hfz28_3 := blk_frozen BK229.out 3
          try go_wp2
          have n0_ := Aside0.mk (blk_drew BK229.out)
          have n1_ := Aside0.mk (blk_drew BK230.out)
          have n2_ := Aside0.mk (below_drew1 HB.out)
          clear BK229
          clear BK230
          clear HB
          have BK229 := n0_
          have BK230 := n1_
          have HB := n2_
          clear n0_ n1_ n2_
          have p231 : 0 ≤ (x5_2 : Int) := of_decide_eq_true (by first | (with_reducible assumption) | assumption)
          have q231 : x5_2 < (l0_3.length : Int) := of_decide_eq_true (by first | (with_reducible assumption) | assumption)
          obtain ⟨ad231, A231_3, c231_3, e231, hx231_0, hx231_1, hx231_2, hx231_3, hl231_3, hi231_3⟩ := at_T50 HR0_3.out x5_2 p231 q231
          have hw231_3 := hx231_3
          have hw231_2 := hx231_2
          have hw231_1 := hx231_1
          have hw231_0 := hx231_0
          cases e231
          replace hx231_0 := (HB.out.cell (World.block_lt_of_cell? w _ hx231_0)).trans hx231_0
          replace hx231_1 := (HB.out.cell (World.block_lt_of_cell? w _ hx231_1)).trans hx231_1
          replace hx231_2 := (HB.out.cell (World.block_lt_of_cell? w _ hx231_2)).trans hx231_2
          replace hx231_3 := (HB.out.cell (World.block_lt_of_cell? w _ hx231_3)).trans hx231_3
          have HR231_3 := Aside0.mk hi231_3
          have HC231_3 := Aside0.mk hl231_3
          clear hi231_3 hl231_3
          replace p231 := eq_true p231
          replace q231 := eq_true q231
          have p232 : 0 ≤ (x5_2 : Int) := of_decide_eq_true (by first | (with_reducible assumption) | assumption)
          have q232 : x5_2 < (l1_3.length : Int) := of_decide_eq_true (by first | (with_reducible assumption) | assumption)
          obtain ⟨ad232, A232_3, c232_3, e232, hx232_0, hx232_1, hx232_2, hx232_3, hl232_3, hi232_3⟩ := at_T50 HR1_3.out x5_2 p232 q232
          have hw232_3 := hx232_3
          have hw232_2 := hx232_2
          have hw232_1 := hx232_1
          have hw232_0 := hx232_0
          cases e232
          replace hx232_0 := (HB.out.cell (World.block_lt_of_cell? w _ hx232_0)).trans hx232_0
          replace hx232_1 := (HB.out.cell (World.block_lt_of_cell? w _ hx232_1)).trans hx232_1
          replace hx232_2 := (HB.out.cell (World.block_lt_of_cell? w _ hx232_2)).trans hx232_2
          replace hx232_3 := (HB.out.cell (World.block_lt_of_cell? w _ hx232_3)).trans hx232_3
          have HR232_3 := Aside0.mk hi232_3
          have HC232_3 := Aside0.mk hl232_3
          clear hi232_3 hl232_3
          replace p232 := eq_true p232
          replace q232 := eq_true q232
          refine start_ (n := 12) (S := fun w' => w'.cell? ⟨gb229, 0, none⟩ = some (.string a0_0) ∧ w'.cell? ⟨gb229, 1, none⟩ = some (.int .u16 a0_1) ∧ w'.cell? ⟨gb229, 2, none⟩ = some (.string a0_2) ∧ w'.cell? ⟨gb229, 3, none⟩ = some (.slice (some ad231) l0_3.length c0_3) ∧ w'.cell? ⟨gb230, 0, none⟩ = some (.string a1_0) ∧ w'.cell? ⟨gb230, 1, none⟩ = some (.int .u16 a1_1) ∧ w'.cell? ⟨gb230, 2, none⟩ = some (.string a1_2) ∧ w'.cell? ⟨gb230, 3, none⟩ = some (.slice (some ad232) l1_3.length c1_3) ∧ w'.cell? (ad231.add ((x5_2).toNat * 4)) = some (.string ((rd_T50 l0_3 x5_2).f0)) ∧ w'.cell? ⟨(ad231.add ((x5_2).toNat * 4)).block, (ad231.add ((x5_2).toNat * 4)).off + 1, none⟩ = some (.int .u16 ((rd_T50 l0_3 x5_2).f1)) ∧ w'.cell? ⟨(ad231.add ((x5_2).toNat * 4)).block, (ad231.add ((x5_2).toNat * 4)).off + 2, none⟩ = some (.string ((rd_T50 l0_3 x5_2).f2)) ∧ w'.cell? ⟨(ad231.add ((x5_2).toNat * 4)).block, (ad231.add ((x5_2).toNat * 4)).off + 3, none⟩ = some (.slice A231_3 ((rd_T50 l0_3 x5_2).f3).length c231_3) ∧ w'.cell? (ad232.add ((x5_2).toNat * 4)) = some (.string ((rd_T50 l1_3 x5_2).f0)) ∧ w'.cell? ⟨(ad232.add ((x5_2).toNat * 4)).block, (ad232.add ((x5_2).toNat * 4)).off + 1, none⟩ = some (.int .u16 ((rd_T50 l1_3 x5_2).f1)) ∧ w'.cell? ⟨(ad232.add ((x5_2).toNat * 4)).block, (ad232.add ((x5_2).toNat * 4)).off + 2, none⟩ = some (.string ((rd_T50 l1_3 x5_2).f2)) ∧ w'.cell? ⟨(ad232.add ((x5_2).toNat * 4)).block, (ad232.add ((x5_2).toNat * 4)).off + 3, none⟩ = some (.slice A232_3 ((rd_T50 l1_3 x5_2).f3).length c232_3)) (ds := []) #[false, false, false, false, false, false, false, false, false, false, false, false] (by kernel_rfl) rfl rfl ⟨(blk_cell BK229.out 0).trans rfl, (blk_cell BK229.out 1).trans rfl, (blk_cell BK229.out 2).trans rfl, (blk_cell BK229.out 3).trans rfl, (blk_cell BK230.out 0).trans rfl, (blk_cell BK230.out 1).trans rfl, (blk_cell BK230.out 2).trans rfl, (blk_cell BK230.out 3).trans rfl, ((HB.out.cell (World.block_lt_of_cell? w _ hw231_0)).trans hw231_0), ((HB.out.cell (World.block_lt_of_cell? w _ hw231_1)).trans hw231_1), ((HB.out.cell (World.block_lt_of_cell? w _ hw231_2)).trans hw231_2), ((HB.out.cell (World.block_lt_of_cell? w _ hw231_3)).trans hw231_3), ((HB.out.cell (World.block_lt_of_cell? w _ hw232_0)).trans hw232_0), ((HB.out.cell (World.block_lt_of_cell? w _ hw232_1)).trans hw232_1), ((HB.out.cell (World.block_lt_of_cell? w _ hw232_2)).trans hw232_2), ((HB.out.cell (World.block_lt_of_cell? w _ hw232_3)).trans hw232_3)⟩ (fun hHeld => ?_); refine with_tabW pidginref05_Same.tab6 pidginref05_Same.bits6 (fun HT_ HW_ => ?_)
          generalize wr.drew = w29 at BK229 BK230 HB HR231_3 HR232_3 hx231_0 hx231_1 hx231_2 hx231_3 hx232_0 hx232_1 hx232_2 hx232_3 hHeld ⊢
          refine pure_ (i := 0) (N := some 41) (v := ?_) (a' := ?_) #[true, false, false, false, false, false, false, false, false, false, false, false] rfl rfl (any_of HT_.out (by kernel_rfl)) (fun _ _ _ h => h) (Or.inl ⟨by rfl, ?_⟩) ?_ ?_
          rotate_left
          ·intro w'
           go_simp
           with_reducible rfl
          rotate_left
          ·simp only [Act.put, List.setIfInBounds_toArray, List.set_cons_zero, List.set_cons_succ, i64_w, i32_w]
           rfl
          refine pure_ (i := 2) (N := some 43) (v := ?_) (a' := ?_) #[true, false, true, false, false, false, false, false, false, false, false, false] rfl rfl (any_of HT_.out (by kernel_rfl)) (fun _ _ _ h => h) (Or.inl ⟨by rfl, ?_⟩) ?_ ?_
          rotate_left
          ·intro w'
           go_simp
           with_reducible rfl
          rotate_left
          ·simp only [Act.put, List.setIfInBounds_toArray, List.set_cons_zero, List.set_cons_succ, i64_w, i32_w]
           rfl
          refine pure_ (i := 5) (N := some 46) (v := ?_) (a' := ?_) #[true, false, true, false, false, true, false, false, false, false, false, false] rfl rfl (any_of HT_.out (by kernel_rfl)) (fun _ _ _ h => h) (Or.inl ⟨by rfl, ?_⟩) ?_ ?_
          rotate_left
          ·intro w'
           go_simp
           with_reducible rfl
          rotate_left
          ·simp only [Act.put, List.setIfInBounds_toArray, List.set_cons_zero, List.set_cons_succ, i64_w, i32_w]
           rfl
          refine pure_ (i := 7) (N := some 48) (v := ?_) (a' := ?_) #[true, false, true, false, false, true, false, true, false, false, false, false] rfl rfl (any_of HT_.out (by kernel_rfl)) (fun _ _ _ h => h) (Or.inl ⟨by rfl, ?_⟩) ?_ ?_
          rotate_left
          ·intro w'
           go_simp
           with_reducible rfl
          rotate_left
          ·simp only [Act.put, List.setIfInBounds_toArray, List.set_cons_zero, List.set_cons_succ, i64_w, i32_w]
           rfl
          refine take_ (i := 1) (N := some 42) (v := ?_) (a' := ?_) #[true, true, true, false, false, true, false, true, false, false, false, false] rfl rfl (take_ofW HT_.out HW_.out (by kernel_rfl)) (fun _ _ _ h => h) (Or.inl ⟨by rfl, ?_⟩) hHeld ?_ ?_
          rotate_left
          ·rintro w' ⟨s0, s1, s2, s3, s4, s5, s6, s7, s8, s9, s10, s11, s12, s13, s14, s15⟩
           go_simp
           with_reducible rfl
          rotate_left
          ·simp only [Act.put, List.setIfInBounds_toArray, List.set_cons_zero, List.set_cons_succ, i64_w, i32_w]
           rfl
          refine pure_ (i := 3) (N := some 44) (v := ?_) (a' := ?_) #[true, true, true, true, false, true, false, true, false, false, false, false] rfl rfl (any_of HT_.out (by kernel_rfl)) (fun _ _ _ h => h) (Or.inl ⟨by rfl, ?_⟩) ?_ ?_
          rotate_left
          ·intro w'
           go_simp
           with_reducible rfl
          rotate_left
          ·simp only [Act.put, List.setIfInBounds_toArray, List.set_cons_zero, List.set_cons_succ, i64_w, i32_w]
           rfl
          refine take_ (i := 4) (N := some 45) (v := ?_) (a' := ?_) #[true, true, true, true, true, true, false, true, false, false, false, false] rfl rfl (take_ofW HT_.out HW_.out (by kernel_rfl)) (fun _ _ _ h => h) (Or.inl ⟨by rfl, ?_⟩) hHeld ?_ ?_
          rotate_left
          ·rintro w' ⟨s0, s1, s2, s3, s4, s5, s6, s7, s8, s9, s10, s11, s12, s13, s14, s15⟩
           go_simp
           with_reducible rfl
          rotate_left
          ·simp only [Act.put, List.setIfInBounds_toArray, List.set_cons_zero, List.set_cons_succ, i64_w, i32_w]
           rfl
          refine take_ (i := 6) (N := some 47) (v := ?_) (a' := ?_) #[true, true, true, true, true, true, true, true, false, false, false, false] rfl rfl (take_ofW HT_.out HW_.out (by kernel_rfl)) (fun _ _ _ h => h) (Or.inl ⟨by rfl, ?_⟩) hHeld ?_ ?_
          rotate_left
          ·rintro w' ⟨s0, s1, s2, s3, s4, s5, s6, s7, s8, s9, s10, s11, s12, s13, s14, s15⟩
           go_simp
           with_reducible rfl
          rotate_left
          ·simp only [Act.put, List.setIfInBounds_toArray, List.set_cons_zero, List.set_cons_succ, i64_w, i32_w]
           rfl
          refine pure_ (i := 8) (N := some 49) (v := ?_) (a' := ?_) #[true, true, true, true, true, true, true, true, true, false, false, false] rfl rfl (any_of HT_.out (by kernel_rfl)) (fun _ _ _ h => h) (Or.inl ⟨by rfl, ?_⟩) ?_ ?_
          rotate_left
          ·intro w'
           go_simp
           with_reducible rfl
          rotate_left
          ·simp only [Act.put, List.setIfInBounds_toArray, List.set_cons_zero, List.set_cons_succ, i64_w, i32_w]
           rfl
          refine take_ (i := 9) (N := some 50) (v := ?_) (a' := ?_) #[true, true, true, true, true, true, true, true, true, true, false, false] rfl rfl (take_ofW HT_.out HW_.out (by kernel_rfl)) (fun _ _ _ h => h) (Or.inl ⟨by rfl, ?_⟩) hHeld ?_ ?_
          rotate_left
          ·rintro w' ⟨s0, s1, s2, s3, s4, s5, s6, s7, s8, s9, s10, s11, s12, s13, s14, s15⟩
           go_simp
           with_reducible rfl
          rotate_left
          ·simp only [Act.put, List.setIfInBounds_toArray, List.set_cons_zero, List.set_cons_succ, i64_w, i32_w]
           rfl
          refine one_ (i := 10) (N := some 51) #[true, true, true, true, true, true, true, true, true, true, true, false] rfl rfl (one_of HT_.out (by kernel_rfl)) (by decide) (fun K hK => ?_)
          refine goes_ Tryd.func46 (by kernel_rfl) rfl #[.agg #[.string ((rd_T50 l0_3 x5_2).f0), .int .u16 ((rd_T50 l0_3 x5_2).f1), .string ((rd_T50 l0_3 x5_2).f2), .slice A231_3 ((rd_T50 l0_3 x5_2).f3).length c231_3], .agg #[.string ((rd_T50 l1_3 x5_2).f0), .int .u16 ((rd_T50 l1_3 x5_2).f1), .string ((rd_T50 l1_3 x5_2).f2), .slice A232_3 ((rd_T50 l1_3 x5_2).f3).length c232_3]] (by rfl) rfl rfl (by (try simp only [List.map_toArray, List.map_cons, List.map_nil]); first | done | rfl | (simp only [List.length_drop, List.length_take]; rfl)) ?_
          with_reducible refine (ih k2 (by have := HJ2.out; have := HK2.out; omega) ((rd_T50 l0_3 x5_2).f0) ((rd_T50 l0_3 x5_2).f1) ((rd_T50 l0_3 x5_2).f2) _ _ ((rd_T50 l0_3 x5_2).f3) ((rd_T50 l1_3 x5_2).f0) ((rd_T50 l1_3 x5_2).f1) ((rd_T50 l1_3 x5_2).f2) _ _ ((rd_T50 l1_3 x5_2).f3) true _ ?side1 ?side2 ?side3 ?side4 A25.out).mono ?_
          (case side1 => repeat (first | exact (Kd.C_below HR231_3.out HB.out) | (with_reducible refine Kd.C_alloc ?_ _) | (with_reducible refine Kd.C_drewN ?_ _) | (with_reducible refine Kd.C_drew ?_)))
          (case side2 => exact HC231_3.out)
          (case side3 => repeat (first | exact (Kd.C_below HR232_3.out HB.out) | (with_reducible refine Kd.C_alloc ?_ _) | (with_reducible refine Kd.C_drewN ?_ _) | (with_reducible refine Kd.C_drew ?_)))
          (case side4 => exact HC232_3.out)
          rintro e w30 ⟨rfl, hb⟩
          refine ⟨_, rfl, ?_⟩
          have n0_ := Aside0.mk (blk_below (g := gb229) (o := .cells #[.string a0_0, .int .u16 a0_1, .string a0_2, .slice (some ad231) l0_3.length c0_3] 50 (0, 0)) (by (with_reducible repeat (first | refine blk_drewN ?_ _ | refine blk_drew ?_ | refine blk_alloc ?_ _)); exact BK229.out) hb)
          have n1_ := Aside0.mk (blk_below (g := gb230) (o := .cells #[.string a1_0, .int .u16 a1_1, .string a1_2, .slice (some ad232) l1_3.length c1_3] 50 (0, 0)) (by (with_reducible repeat (first | refine blk_drewN ?_ _ | refine blk_drew ?_ | refine blk_alloc ?_ _)); exact BK230.out) hb)
          have n2_ := Aside0.mk (below_step (by repeat (first | (with_reducible first | exact HB.out | apply below_alloc | apply pw_below_drewN | apply below_drew1 | refine below_set ?_ GE229.out | refine below_set ?_ GE230.out) | exact HB.out)) hb)
          clear BK229
          clear BK230
          clear HB
          have BK229 := n0_
          have BK230 := n1_
          have HB := n2_
          clear n0_ n1_ n2_
          (try clear hb)
          (try clear hb2)
          (try clear hk)
          (try clear hi)
          refine hK.out _ _ ⟨(blk_cell BK229.out 0).trans rfl, (blk_cell BK229.out 1).trans rfl, (blk_cell BK229.out 2).trans rfl, (blk_cell BK229.out 3).trans rfl, (blk_cell BK230.out 0).trans rfl, (blk_cell BK230.out 1).trans rfl, (blk_cell BK230.out 2).trans rfl, (blk_cell BK230.out 3).trans rfl, ((HB.out.cell (World.block_lt_of_cell? w _ hw231_0)).trans hw231_0), ((HB.out.cell (World.block_lt_of_cell? w _ hw231_1)).trans hw231_1), ((HB.out.cell (World.block_lt_of_cell? w _ hw231_2)).trans hw231_2), ((HB.out.cell (World.block_lt_of_cell? w _ hw231_3)).trans hw231_3), ((HB.out.cell (World.block_lt_of_cell? w _ hw232_0)).trans hw232_0), ((HB.out.cell (World.block_lt_of_cell? w _ hw232_1)).trans hw232_1), ((HB.out.cell (World.block_lt_of_cell? w _ hw232_2)).trans hw232_2), ((HB.out.cell (World.block_lt_of_cell? w _ hw232_3)).trans hw232_3)⟩ (fun hHeld => ?_)
          clear hK K
          refine norm_ (a' := ?_) ?_ ?_
          rotate_left
          ·show Act.put _ (some 51) _ = _
           simp only [Act.put, List.setIfInBounds_toArray, List.set_cons_zero, List.set_cons_succ, i64_w, i32_w]
           rfl
          refine pure_ (i := 11) (N := some 52) (v := ?_) (a' := ?_) #[true, true, true, true, true, true, true, true, true, true, true, true] rfl rfl (any_of HT_.out (by kernel_rfl)) (fun _ _ _ h => h) (Or.inl ⟨by rfl, ?_⟩) ?_ ?_
          rotate_left
          ·intro w'
           go_simp
           with_reducible rfl
          rotate_left
          ·simp only [Act.put, List.setIfInBounds_toArray, List.set_cons_zero, List.set_cons_succ, i64_w, i32_w]
           rfl
          refine done_ (done_of HT_.out (by kernel_rfl)) ?_
          try go_wp2
          go_roundg k2
          case measure => have := HJ2.out; have := HK2.out; omega
          case rel => exact ⟨(wrap64 (x5_2 + 1)), (by first | rfl | (simp; done) | (simp [*]; done)), H', ⟨by have := HJ2.out; have := HK2.out; omega⟩, ⟨by (with_reducible repeat (first | refine blk_drewN ?_ _ | refine blk_drew ?_ | refine blk_alloc ?_ _)); exact BK229.out⟩, ⟨by (with_reducible repeat (first | refine blk_drewN ?_ _ | refine blk_drew ?_ | refine blk_alloc ?_ _)); exact BK230.out⟩, ⟨by repeat (first | (with_reducible first | exact HB.out | apply below_alloc | apply pw_below_drewN | apply below_drew1 | refine below_set ?_ GE229.out | refine below_set ?_ GE230.out) | exact HB.out)⟩⟩
         ·replace c26 := Bool.eq_false_iff.mpr c26
          subst c26
          have H1 : (some false) = some r := by rw [if_neg (show ¬ (false = true) by decide)] at H; exact H
          clear H
          have H := H1
          clear H1
          obtain rfl := Option.some.inj H
          have hnb31 := NB229_230.out
          have hnc31 := NB230_229.out
          have hcz32_0 : wr.cell? ⟨gb229, 0, none⟩ = some (.string a0_0) := (blk_cell BK229.out 0).trans rfl
          have hcz32_1 : wr.cell? ⟨gb229, 1, none⟩ = some (.int .u16 a0_1) := (blk_cell BK229.out 1).trans rfl
          have hcz32_2 : wr.cell? ⟨gb229, 2, none⟩ = some (.string a0_2) := (blk_cell BK229.out 2).trans rfl
          have hcz32_3 : wr.cell? ⟨gb229, 3, none⟩ = some (.slice A0_3 l0_3.length c0_3) := (blk_cell BK229.out 3).trans rfl
          have hfz32_0 := blk_frozen BK229.out 0
          have hfz32_1 := blk_frozen BK229.out 1
          have hfz32_2 := blk_frozen BK229.out 2
          have hfz32_3 := blk_frozen BK229.out 3
          try go_wp2
          have n0_ := Aside0.mk (blk_drew BK229.out)
          have n1_ := Aside0.mk (blk_drew BK230.out)
          have n2_ := Aside0.mk (below_drew1 HB.out)
          clear BK229
          clear BK230
          clear HB
          have BK229 := n0_
          have BK230 := n1_
          have HB := n2_
          clear n0_ n1_ n2_
          have p231 : 0 ≤ (x5_2 : Int) := of_decide_eq_true (by first | (with_reducible assumption) | assumption)
          have q231 : x5_2 < (l0_3.length : Int) := of_decide_eq_true (by first | (with_reducible assumption) | assumption)
          obtain ⟨ad231, A231_3, c231_3, e231, hx231_0, hx231_1, hx231_2, hx231_3, hl231_3, hi231_3⟩ := at_T50 HR0_3.out x5_2 p231 q231
          have hw231_3 := hx231_3
          have hw231_2 := hx231_2
          have hw231_1 := hx231_1
          have hw231_0 := hx231_0
          cases e231
          replace hx231_0 := (HB.out.cell (World.block_lt_of_cell? w _ hx231_0)).trans hx231_0
          replace hx231_1 := (HB.out.cell (World.block_lt_of_cell? w _ hx231_1)).trans hx231_1
          replace hx231_2 := (HB.out.cell (World.block_lt_of_cell? w _ hx231_2)).trans hx231_2
          replace hx231_3 := (HB.out.cell (World.block_lt_of_cell? w _ hx231_3)).trans hx231_3
          have HR231_3 := Aside0.mk hi231_3
          have HC231_3 := Aside0.mk hl231_3
          clear hi231_3 hl231_3
          replace p231 := eq_true p231
          replace q231 := eq_true q231
          have p232 : 0 ≤ (x5_2 : Int) := of_decide_eq_true (by first | (with_reducible assumption) | assumption)
          have q232 : x5_2 < (l1_3.length : Int) := of_decide_eq_true (by first | (with_reducible assumption) | assumption)
          obtain ⟨ad232, A232_3, c232_3, e232, hx232_0, hx232_1, hx232_2, hx232_3, hl232_3, hi232_3⟩ := at_T50 HR1_3.out x5_2 p232 q232
          have hw232_3 := hx232_3
          have hw232_2 := hx232_2
          have hw232_1 := hx232_1
          have hw232_0 := hx232_0
          cases e232
          replace hx232_0 := (HB.out.cell (World.block_lt_of_cell? w _ hx232_0)).trans hx232_0
          replace hx232_1 := (HB.out.cell (World.block_lt_of_cell? w _ hx232_1)).trans hx232_1
          replace hx232_2 := (HB.out.cell (World.block_lt_of_cell? w _ hx232_2)).trans hx232_2
          replace hx232_3 := (HB.out.cell (World.block_lt_of_cell? w _ hx232_3)).trans hx232_3
          have HR232_3 := Aside0.mk hi232_3
          have HC232_3 := Aside0.mk hl232_3
          clear hi232_3 hl232_3
          replace p232 := eq_true p232
          replace q232 := eq_true q232
          refine start_ (n := 12) (S := fun w' => w'.cell? ⟨gb229, 0, none⟩ = some (.string a0_0) ∧ w'.cell? ⟨gb229, 1, none⟩ = some (.int .u16 a0_1) ∧ w'.cell? ⟨gb229, 2, none⟩ = some (.string a0_2) ∧ w'.cell? ⟨gb229, 3, none⟩ = some (.slice (some ad231) l0_3.length c0_3) ∧ w'.cell? ⟨gb230, 0, none⟩ = some (.string a1_0) ∧ w'.cell? ⟨gb230, 1, none⟩ = some (.int .u16 a1_1) ∧ w'.cell? ⟨gb230, 2, none⟩ = some (.string a1_2) ∧ w'.cell? ⟨gb230, 3, none⟩ = some (.slice (some ad232) l1_3.length c1_3) ∧ w'.cell? (ad231.add ((x5_2).toNat * 4)) = some (.string ((rd_T50 l0_3 x5_2).f0)) ∧ w'.cell? ⟨(ad231.add ((x5_2).toNat * 4)).block, (ad231.add ((x5_2).toNat * 4)).off + 1, none⟩ = some (.int .u16 ((rd_T50 l0_3 x5_2).f1)) ∧ w'.cell? ⟨(ad231.add ((x5_2).toNat * 4)).block, (ad231.add ((x5_2).toNat * 4)).off + 2, none⟩ = some (.string ((rd_T50 l0_3 x5_2).f2)) ∧ w'.cell? ⟨(ad231.add ((x5_2).toNat * 4)).block, (ad231.add ((x5_2).toNat * 4)).off + 3, none⟩ = some (.slice A231_3 ((rd_T50 l0_3 x5_2).f3).length c231_3) ∧ w'.cell? (ad232.add ((x5_2).toNat * 4)) = some (.string ((rd_T50 l1_3 x5_2).f0)) ∧ w'.cell? ⟨(ad232.add ((x5_2).toNat * 4)).block, (ad232.add ((x5_2).toNat * 4)).off + 1, none⟩ = some (.int .u16 ((rd_T50 l1_3 x5_2).f1)) ∧ w'.cell? ⟨(ad232.add ((x5_2).toNat * 4)).block, (ad232.add ((x5_2).toNat * 4)).off + 2, none⟩ = some (.string ((rd_T50 l1_3 x5_2).f2)) ∧ w'.cell? ⟨(ad232.add ((x5_2).toNat * 4)).block, (ad232.add ((x5_2).toNat * 4)).off + 3, none⟩ = some (.slice A232_3 ((rd_T50 l1_3 x5_2).f3).length c232_3)) (ds := []) #[false, false, false, false, false, false, false, false, false, false, false, false] (by kernel_rfl) rfl rfl ⟨(blk_cell BK229.out 0).trans rfl, (blk_cell BK229.out 1).trans rfl, (blk_cell BK229.out 2).trans rfl, (blk_cell BK229.out 3).trans rfl, (blk_cell BK230.out 0).trans rfl, (blk_cell BK230.out 1).trans rfl, (blk_cell BK230.out 2).trans rfl, (blk_cell BK230.out 3).trans rfl, ((HB.out.cell (World.block_lt_of_cell? w _ hw231_0)).trans hw231_0), ((HB.out.cell (World.block_lt_of_cell? w _ hw231_1)).trans hw231_1), ((HB.out.cell (World.block_lt_of_cell? w _ hw231_2)).trans hw231_2), ((HB.out.cell (World.block_lt_of_cell? w _ hw231_3)).trans hw231_3), ((HB.out.cell (World.block_lt_of_cell? w _ hw232_0)).trans hw232_0), ((HB.out.cell (World.block_lt_of_cell? w _ hw232_1)).trans hw232_1), ((HB.out.cell (World.block_lt_of_cell? w _ hw232_2)).trans hw232_2), ((HB.out.cell (World.block_lt_of_cell? w _ hw232_3)).trans hw232_3)⟩ (fun hHeld => ?_); refine with_tabW pidginref05_Same.tab6 pidginref05_Same.bits6 (fun HT_ HW_ => ?_)
          generalize wr.drew = w33 at BK229 BK230 HB HR231_3 HR232_3 hx231_0 hx231_1 hx231_2 hx231_3 hx232_0 hx232_1 hx232_2 hx232_3 hHeld ⊢
          refine pure_ (i := 0) (N := some 41) (v := ?_) (a' := ?_) #[true, false, false, false, false, false, false, false, false, false, false, false] rfl rfl (any_of HT_.out (by kernel_rfl)) (fun _ _ _ h => h) (Or.inl ⟨by rfl, ?_⟩) ?_ ?_
          rotate_left
          ·intro w'
           go_simp
           with_reducible rfl
          rotate_left
          ·simp only [Act.put, List.setIfInBounds_toArray, List.set_cons_zero, List.set_cons_succ, i64_w, i32_w]
           rfl
          refine pure_ (i := 2) (N := some 43) (v := ?_) (a' := ?_) #[true, false, true, false, false, false, false, false, false, false, false, false] rfl rfl (any_of HT_.out (by kernel_rfl)) (fun _ _ _ h => h) (Or.inl ⟨by rfl, ?_⟩) ?_ ?_
          rotate_left
          ·intro w'
           go_simp
           with_reducible rfl
          rotate_left
          ·simp only [Act.put, List.setIfInBounds_toArray, List.set_cons_zero, List.set_cons_succ, i64_w, i32_w]
           rfl
          refine pure_ (i := 5) (N := some 46) (v := ?_) (a' := ?_) #[true, false, true, false, false, true, false, false, false, false, false, false] rfl rfl (any_of HT_.out (by kernel_rfl)) (fun _ _ _ h => h) (Or.inl ⟨by rfl, ?_⟩) ?_ ?_
          rotate_left
          ·intro w'
           go_simp
           with_reducible rfl
          rotate_left
          ·simp only [Act.put, List.setIfInBounds_toArray, List.set_cons_zero, List.set_cons_succ, i64_w, i32_w]
           rfl
          refine pure_ (i := 7) (N := some 48) (v := ?_) (a' := ?_) #[true, false, true, false, false, true, false, true, false, false, false, false] rfl rfl (any_of HT_.out (by kernel_rfl)) (fun _ _ _ h => h) (Or.inl ⟨by rfl, ?_⟩) ?_ ?_
          rotate_left
          ·intro w'
           go_simp
           with_reducible rfl
          rotate_left
          ·simp only [Act.put, List.setIfInBounds_toArray, List.set_cons_zero, List.set_cons_succ, i64_w, i32_w]
           rfl
          refine take_ (i := 1) (N := some 42) (v := ?_) (a' := ?_) #[true, true, true, false, false, true, false, true, false, false, false, false] rfl rfl (take_ofW HT_.out HW_.out (by kernel_rfl)) (fun _ _ _ h => h) (Or.inl ⟨by rfl, ?_⟩) hHeld ?_ ?_
          rotate_left
          ·rintro w' ⟨s0, s1, s2, s3, s4, s5, s6, s7, s8, s9, s10, s11, s12, s13, s14, s15⟩
           go_simp
           with_reducible rfl
          rotate_left
          ·simp only [Act.put, List.setIfInBounds_toArray, List.set_cons_zero, List.set_cons_succ, i64_w, i32_w]
           rfl
          refine pure_ (i := 3) (N := some 44) (v := ?_) (a' := ?_) #[true, true, true, true, false, true, false, true, false, false, false, false] rfl rfl (any_of HT_.out (by kernel_rfl)) (fun _ _ _ h => h) (Or.inl ⟨by rfl, ?_⟩) ?_ ?_
          rotate_left
          ·intro w'
           go_simp
           with_reducible rfl
          rotate_left
          ·simp only [Act.put, List.setIfInBounds_toArray, List.set_cons_zero, List.set_cons_succ, i64_w, i32_w]
           rfl
          refine take_ (i := 4) (N := some 45) (v := ?_) (a' := ?_) #[true, true, true, true, true, true, false, true, false, false, false, false] rfl rfl (take_ofW HT_.out HW_.out (by kernel_rfl)) (fun _ _ _ h => h) (Or.inl ⟨by rfl, ?_⟩) hHeld ?_ ?_
          rotate_left
          ·rintro w' ⟨s0, s1, s2, s3, s4, s5, s6, s7, s8, s9, s10, s11, s12, s13, s14, s15⟩
           go_simp
           with_reducible rfl
          rotate_left
          ·simp only [Act.put, List.setIfInBounds_toArray, List.set_cons_zero, List.set_cons_succ, i64_w, i32_w]
           rfl
          refine take_ (i := 6) (N := some 47) (v := ?_) (a' := ?_) #[true, true, true, true, true, true, true, true, false, false, false, false] rfl rfl (take_ofW HT_.out HW_.out (by kernel_rfl)) (fun _ _ _ h => h) (Or.inl ⟨by rfl, ?_⟩) hHeld ?_ ?_
          rotate_left
          ·rintro w' ⟨s0, s1, s2, s3, s4, s5, s6, s7, s8, s9, s10, s11, s12, s13, s14, s15⟩
           go_simp
           with_reducible rfl
          rotate_left
          ·simp only [Act.put, List.setIfInBounds_toArray, List.set_cons_zero, List.set_cons_succ, i64_w, i32_w]
           rfl
          refine pure_ (i := 8) (N := some 49) (v := ?_) (a' := ?_) #[true, true, true, true, true, true, true, true, true, false, false, false] rfl rfl (any_of HT_.out (by kernel_rfl)) (fun _ _ _ h => h) (Or.inl ⟨by rfl, ?_⟩) ?_ ?_
          rotate_left
          ·intro w'
           go_simp
           with_reducible rfl
          rotate_left
          ·simp only [Act.put, List.setIfInBounds_toArray, List.set_cons_zero, List.set_cons_succ, i64_w, i32_w]
           rfl
          refine take_ (i := 9) (N := some 50) (v := ?_) (a' := ?_) #[true, true, true, true, true, true, true, true, true, true, false, false] rfl rfl (take_ofW HT_.out HW_.out (by kernel_rfl)) (fun _ _ _ h => h) (Or.inl ⟨by rfl, ?_⟩) hHeld ?_ ?_
          rotate_left
          ·rintro w' ⟨s0, s1, s2, s3, s4, s5, s6, s7, s8, s9, s10, s11, s12, s13, s14, s15⟩
           go_simp
           with_reducible rfl
          rotate_left
          ·simp only [Act.put, List.setIfInBounds_toArray, List.set_cons_zero, List.set_cons_succ, i64_w, i32_w]
           rfl
          refine one_ (i := 10) (N := some 51) #[true, true, true, true, true, true, true, true, true, true, true, false] rfl rfl (one_of HT_.out (by kernel_rfl)) (by decide) (fun K hK => ?_)
          refine goes_ Tryd.func46 (by kernel_rfl) rfl #[.agg #[.string ((rd_T50 l0_3 x5_2).f0), .int .u16 ((rd_T50 l0_3 x5_2).f1), .string ((rd_T50 l0_3 x5_2).f2), .slice A231_3 ((rd_T50 l0_3 x5_2).f3).length c231_3], .agg #[.string ((rd_T50 l1_3 x5_2).f0), .int .u16 ((rd_T50 l1_3 x5_2).f1), .string ((rd_T50 l1_3 x5_2).f2), .slice A232_3 ((rd_T50 l1_3 x5_2).f3).length c232_3]] (by rfl) rfl rfl (by (try simp only [List.map_toArray, List.map_cons, List.map_nil]); first | done | rfl | (simp only [List.length_drop, List.length_take]; rfl)) ?_
          with_reducible refine (ih k2 (by have := HJ2.out; have := HK2.out; omega) ((rd_T50 l0_3 x5_2).f0) ((rd_T50 l0_3 x5_2).f1) ((rd_T50 l0_3 x5_2).f2) _ _ ((rd_T50 l0_3 x5_2).f3) ((rd_T50 l1_3 x5_2).f0) ((rd_T50 l1_3 x5_2).f1) ((rd_T50 l1_3 x5_2).f2) _ _ ((rd_T50 l1_3 x5_2).f3) false _ ?side1 ?side2 ?side3 ?side4 A25.out).mono ?_
          (case side1 => repeat (first | exact (Kd.C_below HR231_3.out HB.out) | (with_reducible refine Kd.C_alloc ?_ _) | (with_reducible refine Kd.C_drewN ?_ _) | (with_reducible refine Kd.C_drew ?_)))
          (case side2 => exact HC231_3.out)
          (case side3 => repeat (first | exact (Kd.C_below HR232_3.out HB.out) | (with_reducible refine Kd.C_alloc ?_ _) | (with_reducible refine Kd.C_drewN ?_ _) | (with_reducible refine Kd.C_drew ?_)))
          (case side4 => exact HC232_3.out)
          rintro e w34 ⟨rfl, hb⟩
          refine ⟨_, rfl, ?_⟩
          have n0_ := Aside0.mk (blk_below (g := gb229) (o := .cells #[.string a0_0, .int .u16 a0_1, .string a0_2, .slice (some ad231) l0_3.length c0_3] 50 (0, 0)) (by (with_reducible repeat (first | refine blk_drewN ?_ _ | refine blk_drew ?_ | refine blk_alloc ?_ _)); exact BK229.out) hb)
          have n1_ := Aside0.mk (blk_below (g := gb230) (o := .cells #[.string a1_0, .int .u16 a1_1, .string a1_2, .slice (some ad232) l1_3.length c1_3] 50 (0, 0)) (by (with_reducible repeat (first | refine blk_drewN ?_ _ | refine blk_drew ?_ | refine blk_alloc ?_ _)); exact BK230.out) hb)
          have n2_ := Aside0.mk (below_step (by repeat (first | (with_reducible first | exact HB.out | apply below_alloc | apply pw_below_drewN | apply below_drew1 | refine below_set ?_ GE229.out | refine below_set ?_ GE230.out) | exact HB.out)) hb)
          clear BK229
          clear BK230
          clear HB
          have BK229 := n0_
          have BK230 := n1_
          have HB := n2_
          clear n0_ n1_ n2_
          (try clear hb)
          (try clear hb2)
          (try clear hk)
          (try clear hi)
          refine hK.out _ _ ⟨(blk_cell BK229.out 0).trans rfl, (blk_cell BK229.out 1).trans rfl, (blk_cell BK229.out 2).trans rfl, (blk_cell BK229.out 3).trans rfl, (blk_cell BK230.out 0).trans rfl, (blk_cell BK230.out 1).trans rfl, (blk_cell BK230.out 2).trans rfl, (blk_cell BK230.out 3).trans rfl, ((HB.out.cell (World.block_lt_of_cell? w _ hw231_0)).trans hw231_0), ((HB.out.cell (World.block_lt_of_cell? w _ hw231_1)).trans hw231_1), ((HB.out.cell (World.block_lt_of_cell? w _ hw231_2)).trans hw231_2), ((HB.out.cell (World.block_lt_of_cell? w _ hw231_3)).trans hw231_3), ((HB.out.cell (World.block_lt_of_cell? w _ hw232_0)).trans hw232_0), ((HB.out.cell (World.block_lt_of_cell? w _ hw232_1)).trans hw232_1), ((HB.out.cell (World.block_lt_of_cell? w _ hw232_2)).trans hw232_2), ((HB.out.cell (World.block_lt_of_cell? w _ hw232_3)).trans hw232_3)⟩ (fun hHeld => ?_)
          clear hK K
          refine norm_ (a' := ?_) ?_ ?_
          rotate_left
          ·show Act.put _ (some 51) _ = _
           simp only [Act.put, List.setIfInBounds_toArray, List.set_cons_zero, List.set_cons_succ, i64_w, i32_w]
           rfl
          refine pure_ (i := 11) (N := some 52) (v := ?_) (a' := ?_) #[true, true, true, true, true, true, true, true, true, true, true, true] rfl rfl (any_of HT_.out (by kernel_rfl)) (fun _ _ _ h => h) (Or.inl ⟨by rfl, ?_⟩) ?_ ?_
          rotate_left
          ·intro w'
           go_simp
           with_reducible rfl
          rotate_left
          ·simp only [Act.put, List.setIfInBounds_toArray, List.set_cons_zero, List.set_cons_succ, i64_w, i32_w]
           rfl
          refine done_ (done_of HT_.out (by kernel_rfl)) ?_
          try go_wp2
          go_ret
          exact ⟨by first | rfl | (simp [errW_none, errW_some] <;> rfl) | (simp [*, errW_none, errW_some] <;> rfl), by repeat (first | (with_reducible first | exact HB.out | apply below_alloc | apply pw_below_drewN | apply below_drew1 | refine below_set ?_ GE229.out | refine below_set ?_ GE230.out) | exact HB.out)⟩
        ·rw [if_neg c24] at H
         exact absurd H (by simp)
       ·rw [if_neg c23] at H
        exact absurd H (by simp)
      ·rw [if_neg c22] at H
       have c22b0 : decide (x5_2 < (l0_3.length : Int)) = false := decide_eq_false c22
       clear c22
       obtain rfl := Option.some.inj H
       have hnb35 := NB229_230.out
       have hnc35 := NB230_229.out
       have hcz36_0 : wr.cell? ⟨gb229, 0, none⟩ = some (.string a0_0) := (blk_cell BK229.out 0).trans rfl
       have hcz36_1 : wr.cell? ⟨gb229, 1, none⟩ = some (.int .u16 a0_1) := (blk_cell BK229.out 1).trans rfl
       have hcz36_2 : wr.cell? ⟨gb229, 2, none⟩ = some (.string a0_2) := (blk_cell BK229.out 2).trans rfl
       have hcz36_3 : wr.cell? ⟨gb229, 3, none⟩ = some (.slice A0_3 l0_3.length c0_3) := (blk_cell BK229.out 3).trans rfl
       have hfz36_0 := blk_frozen BK229.out 0
       have hfz36_1 := blk_frozen BK229.out 1
       have hfz36_2 := blk_frozen BK229.out 2
       have hfz36_3 := blk_frozen BK229.out 3
       go_wp2
       go_ret
       exact ⟨by first | rfl | (simp [errW_none, errW_some] <;> rfl) | (simp [*, errW_none, errW_some] <;> rfl), by repeat (first | (with_reducible first | exact HB.out | apply below_alloc | apply pw_below_drewN | apply below_drew1 | refine below_set ?_ GE229.out | refine below_set ?_ GE230.out) | exact HB.out)⟩
end Go.Proofs.YtejhagejjogbaaaDoor.Qa
end
section
namespace Go.Proofs.YtejhagejjogbaaaDoor.AnyNot
open Go.RowKit Go.Proofs.YtejhagejjogbaaaDoorW.PrintWords Go.Proofs.YtejhagejjogbaaaDoorW.PrintLast Go.Proofs.YtejhagejjogbaaaDoorW.PrintMore Go.Proofs.YtejhagejjogbaaaDoor.Given Go.Proofs.YtejhagejjogbaaaDoor.Pn Go.Proofs.YtejhagejjogbaaaDoor.Pa Go.Proofs.YtejhagejjogbaaaDoor.Qa
set_option linter.unusedVariables false
set_option linter.unusedSimpArgs false
def bindsL (l : List UInt8) : Int × Int :=
  if l = [35] ∨ l = [110] ∨ l = [36] then (7, 0) else if l = [78, 69, 71] then (6, 1)
  else if l = [42] ∨ l = [47] ∨ l = [77, 79, 68] ∨ l = [83, 72, 76] ∨ l = [83, 72, 82] then (5, 2)
  else if l = [43] ∨ l = [45] then (4, 2) else if l = [78, 79, 84] then (3, 1) else if l = [65, 78, 68] then (2, 2)
  else if l = [79, 82] ∨ l = [88, 79, 82] then (1, 2) else (0, 0)
def wordL (l : List UInt8) : Bool := [[79, 82], [88, 79, 82], [65, 78, 68], [78, 79, 84], [77, 79, 68], [83, 72, 76], [83, 72, 82]].contains l
def letB' (c : UInt8) : Bool := (97 ≤ c && c ≤ 122) || (65 ≤ c && c ≤ 90) || c == 63 || c == 64 || c == 95
def nameQ (l : List UInt8) : Bool := match l with
  | [] => false
  | c :: t => decide (t.length < 16) && letB' c && t.all fun c => letB' c || (48 ≤ c && c ≤ 57)
def namedL (l : List UInt8) : Bool := nameQ l && (l.map up1 == l) && !wordL l
def condR (e : S50) : Bool :=
  let o := e.f0.data.toList
  decide ((bindsL o).1 ≠ 0) && decide ((e.f3.length : Int) = (bindsL o).2) && (decide (e.f1 = 0) || o == [35]) && (if o = [110] then namedL e.f2.data.toList else e.f2.data.toList == [])
def rightN : Nat → S50 → Bool
  | 0, _ => false
  | n + 1, e => condR e && e.f3.all (rightN n)
def okB : Nat → S50 → Bool
  | 0, e => decide (e.f2.size ≤ 1000)
  | n + 1, e => decide (e.f2.size ≤ 1000) && e.f3.all (okB n)
def RightAt (n : Nat) : Prop := ∀ (e : S50) (A : Option Addr) (c : Nat) (w : World), Kd.C k50 w A e.f3.length e.f3 → e.f3.length ≤ c → okB n e = true →
  Calls Tryd.prog 121 #[.agg #[.string e.f0, .int .u16 e.f1, .string e.f2, .slice A e.f3.length c], .int .i64 (n : Int)] w fun e' w' => e' = .returned (.bool (rightN n e)) ∧ Below w.heap.size w w'
def GR (m : Int) (w : World) : Prop := ∀ n : Nat, (n : Int) < m → RightAt n
theorem GR.below {m : Int} {w w' : World} (h : GR m w) (hb : Below w.heap.size w w') : GR m w' := h
set_option maxHeartbeats 8000000 in
set_option maxRecDepth 100000 in
theorem clo_calls (n : Nat) (hn : n ≤ 1000) (IH : RightAt n) (e : S50) (A : Option Addr) (c : Nat) (w : World) (gb : Nat) (hr : Kd.C k50 w A e.f3.length e.f3) (hc : e.f3.length ≤ c) (hok : okB n e = true)
    (hB : w.heap[gb]? = some (.cells #[.int .i64 ((n + 1 : Nat) : Int)] 3 (0, 0))) :
    Calls Tryd.prog 146 #[.agg #[.string e.f0, .int .u16 e.f1, .string e.f2, .slice A e.f3.length c], .pointer (some ⟨gb, 0, none⟩)] w fun e' w' => e' = .returned (.bool (!rightN n e)) ∧ Below w.heap.size w w' := by
  have hu50 := Tryd.underlying50
  have hb0 : gb < w.heap.size := by
    rcases Nat.lt_or_ge gb w.heap.size with h | h
    · exact h
    · rw [Array.getElem?_eq_none h] at hB; cases hB
  have hsub : wrap64 (((n + 1 : Nat) : Int) - 1) = (n : Int) := by unfold wrap64; omega
  have HB0 := Aside0.mk hB
  have HR := Aside0.mk hr
  have HK := Aside0.mk hok
  clear hr hok hB
  go_enter Tryd.func146, Tryd.ntmps146
  go_wp2_with (first | (with_reducible refine gate_dst (N := 2) rfl ?_); refine box_event ?hg (N := 2) ?hd (cs := #[.string e.f0, .int .u16 e.f1, .string e.f2, .slice A e.f3.length c]) (t := 50) ?hr ?_; (case hd => rfl); (case hg => rfl); (case hr => first | (go_simp; done) | (go_simp; rfl)); intro gx hg w1 hbox hb; have HB1 := Aside0.mk hb; have BX := Aside0.mk hbox; have hz0 : w1.cell? ⟨gb, 0, none⟩ = some (.int .i64 ((n + 1 : Nat) : Int)) := (blk_cell (blk_below HB0.out hb) 0).trans rfl; clear hb hbox hg; have hy0 : w1.cell? ⟨gx, 0, none⟩ = some (.string e.f0) := (blk_cell BX.out 0).trans rfl; have hy1 : w1.cell? ⟨gx, 1, none⟩ = some (.int .u16 e.f1) := (blk_cell BX.out 1).trans rfl; have hy2 : w1.cell? ⟨gx, 2, none⟩ = some (.string e.f2) := (blk_cell BX.out 2).trans rfl; have hy3 : w1.cell? ⟨gx, 3, none⟩ = some (.slice A e.f3.length c) := (blk_cell BX.out 3).trans rfl)
  refine (calls_of_args ?_ (IH e A c w1 (Kd.C_below HR.out HB1.out) hc HK.out)).mono ?_
  · first | rfl | (congr 3; omega) | (simp; omega)
  rintro e' w2 ⟨rfl, hb2⟩
  go_wp2
  go_ret
  exact ⟨rfl, below_step HB1.out hb2⟩
theorem blk_stay {w w1 : World} {g : Nat} {o : Obj} (hB : w.heap[g]? = some o) (hb : Below w.heap.size w w1) : w1.heap[g]? = some o := blk_below hB hb
theorem all_at {α : Type} {p : α → Bool} {l : List α} (h : l.all p = true) (k : Nat) (hk : k < l.length) : p l[k] = true := List.all_eq_true.1 h _ (List.getElem_mem hk)
set_option maxHeartbeats 8000000 in
set_option maxRecDepth 100000 in
theorem index_calls (n : Nat) (hn : n ≤ 1000) (IH : RightAt n) (A : Option Addr) (c : Nat) (l : List S50) (w : World) (gb : Nat) (hr : Kd.C k50 w A l.length l) (hc : l.length ≤ c) (hok : l.all (okB n) = true)
    (hB : w.heap[gb]? = some (.cells #[.int .i64 ((n + 1 : Nat) : Int)] 3 (0, 0))) :
    Calls Tryd.prog 170 #[.slice A l.length c, .func (.func 146) #[] #[.pointer (some ⟨gb, 0, none⟩)]] w fun e' w' => (∃ v : Int, e' = .returned (.int .i64 v) ∧ (decide (v ≥ 0) = l.any fun e => !rightN n e)) ∧ Below w.heap.size w w' := by
  have hu50 := Tryd.underlying50
  have hsz : l.length ≤ 9223372036854775807 := hr.2.1
  have HB0 := Aside0.mk hB
  have HR := Aside0.mk hr
  have HK := Aside0.mk hok
  have IH' := Aside0.mk IH
  clear hr hok hB IH
  go_enter Tryd.func170, Tryd.ntmps170
  go_wp2
  go_loopw [8] (fun v wr => ∃ k : Nat, k ≤ l.length ∧ v = .int .i64 k ∧ Aside0 (Below w.heap.size w wr) ∧ Aside0 ((l.take k).any (fun e => !rightN n e) = false)) (fun v _ => l.length - (intOf v).toNat)
  case atStart => exact ⟨0, Nat.zero_le _, rfl, ⟨Below.refl _ _⟩, ⟨rfl⟩⟩
  case round =>
    obtain ⟨k, hk, rfl, HB, HF⟩ := hrel
    by_cases hlt : k < l.length
    · have hR1 := Kd.C_below HR.out HB.out
      obtain ⟨ad, A3, c3, rfl, h0, h1, h2, h3, hl3, hC3⟩ := at_T50 hR1 (k : Int) (by omega) (by omega)
      have hg : rd_T50 l (k : Int) = l[k] := by simp [rd_T50, List.getD_eq_getElem?_getD, List.getElem?_eq_getElem hlt]
      have HT := Aside0.mk (show (l.take (k + 1)).any (fun e => !rightN n e) = ((l.take k).any (fun e => !rightN n e) || !rightN n (rd_T50 l (k : Int))) by
        rw [List.take_succ_eq_append_getElem hlt, List.any_append, hg]; simp)
      have HA := Aside0.mk (show (!rightN n (rd_T50 l (k : Int))) = true → l.any (fun e => !rightN n e) = true from fun h => by
        rw [List.any_eq_true]; exact ⟨l[k], List.getElem_mem hlt, by rw [← hg]; exact h⟩)
      have hko : okB n (rd_T50 l (k : Int)) = true := by rw [hg]; exact all_at HK.out k hlt
      rw [Int.toNat_natCast] at h0 h1 h2 h3
      have HC := Aside0.mk (clo_calls n hn IH'.out (rd_T50 l (k : Int)) A3 c3 wr gb hC3 hl3 hko (blk_stay HB0.out HB.out))
      clear hko hg hC3 hl3 hR1
      generalize rd_T50 l (k : Int) = e at h0 h1 h2 h3 HT HA HC
      cases hx : rightN n e with
      | false =>
        have HX := Aside0.mk (HA.out (by rw [hx]; rfl))
        rw [hx] at HC
        go_wp2_with (go_at_call 146; refine HC.out.mono ?_; rintro e' w2 ⟨rfl, hb2⟩; have HB2 := Aside0.mk (below_step HB.out hb2); clear hb2)
        go_ret
        refine ⟨⟨k, rfl, ?_⟩, HB2.out⟩
        rw [HX.out]; simp
      | true =>
        have HX := Aside0.mk (HT.out.trans (by rw [hx, HF.out]))
        rw [hx] at HC
        go_wp2_with (go_at_call 146; refine HC.out.mono ?_; rintro e' w2 ⟨rfl, hb2⟩; have HB2 := Aside0.mk (below_step HB.out hb2); clear hb2)
        refine ⟨⟨k + 1, by omega, by go_num, HB2, HX⟩, by simp [intOf]; omega⟩
    · obtain rfl : k = l.length := by omega
      have HX := Aside0.mk (show (l.any fun e => !rightN n e) = false by have := HF.out; rwa [List.take_length] at this)
      go_wp2
      go_ret
      exact ⟨⟨-1, rfl, by rw [HX.out]; rfl⟩, HB.out⟩
set_option maxHeartbeats 8000000 in
set_option maxRecDepth 100000 in
theorem contains_calls (n : Nat) (hn : n ≤ 1000) (IH : RightAt n) (A : Option Addr) (c : Nat) (l : List S50) (w : World) (gb : Nat) (hr : Kd.C k50 w A l.length l) (hc : l.length ≤ c) (hok : l.all (okB n) = true)
    (hB : w.heap[gb]? = some (.cells #[.int .i64 ((n + 1 : Nat) : Int)] 3 (0, 0))) :
    Calls Tryd.prog 145 #[.slice A l.length c, .func (.func 146) #[] #[.pointer (some ⟨gb, 0, none⟩)]] w fun e' w' => e' = .returned (.bool (l.any fun e => !rightN n e)) ∧ Below w.heap.size w w' := by
  have HC := Aside0.mk (index_calls n hn IH A c l w gb hr hc hok hB)
  clear hr hok hB IH
  go_enter Tryd.func145, Tryd.ntmps145
  go_wp2_with (go_at_call 170; refine HC.out.mono ?_; rintro e' w2 ⟨⟨v, rfl, hv⟩, hb2⟩; have HV := Aside0.mk hv; have HB2 := Aside0.mk hb2; clear hb2 hv)
  go_ret
  exact ⟨by rw [← HV.out]; rfl, HB2.out⟩
def expr_anyNot.f (l : List S50) (most : Int) : Option Bool := if 1 ≤ most ∧ most ≤ 1000 ∧ l.all (okB (most - 1).toNat) = true then some (l.any fun e => !rightN (most - 1).toNat e) else none
theorem expr_anyNot.calls (A : Option Addr) (c : Nat) (l : List S50) (a1 : Int) (r : Bool) (w : World) {gb : Nat} (hG : Aside0 (GR a1 w)) (hr : Kd.C k50 w A l.length l) (hc : l.length ≤ c)
    (hB : w.heap[gb]? = some (.cells #[.int .i64 a1] 3 (0, 0))) (h : expr_anyNot.f l a1 = some r) :
    Calls Tryd.prog 145 #[.slice A l.length c, .func (.func 146) #[] #[.pointer (some ⟨gb, 0, none⟩)]] w fun e' w' => e' = .returned (.bool r) ∧ Below w.heap.size w w' := by
  unfold expr_anyNot.f at h
  by_cases hs : 1 ≤ a1 ∧ a1 ≤ 1000 ∧ l.all (okB (a1 - 1).toNat) = true
  · rw [if_pos hs] at h
    obtain rfl := Option.some.inj h
    obtain ⟨n, rfl⟩ : ∃ n : Nat, a1 = ((n + 1 : Nat) : Int) := ⟨(a1 - 1).toNat, by omega⟩
    have e : (((n + 1 : Nat) : Int) - 1).toNat = n := by omega
    rw [e] at hs ⊢
    exact contains_calls n (by omega) (hG.out n (by omega)) A c l w gb hr hc hs.2.2 hB
  · rw [if_neg hs] at h; cases h
end Go.Proofs.YtejhagejjogbaaaDoor.AnyNot
end
section
namespace Go.Proofs.YtejhagejjogbaaaDoor.Num
open Go.RowKit Go.Proofs.YtejhagejjogbaaaDoor.Given Go.Proofs.YtejhagejjogbaaaDoor.Pn Go.Proofs.YtejhagejjogbaaaDoorW.PrintWords Go.Proofs.YtejhagejjogbaaaDoorW.PrintLast
def L (s : ByteArray) : List UInt8 := s.data.toList
theorem L_inj {s t : ByteArray} (h : L s = L t) : s = t := by
  cases s; cases t; simp only [L] at h; congr; exact Array.toList_inj.1 h
theorem L_len (s : ByteArray) : (L s).length = s.size := data_length s
theorem L_mk (a : Array UInt8) : L ⟨a⟩ = a.toList := rfl
theorem L_ext (s : ByteArray) (i j : Nat) : L (s.extract i j) = ((L s).take j).drop i := by
  simp [L, ByteArray.data_extract, List.drop_take]
theorem bt_L (s : ByteArray) (i : Nat) (h : i < (L s).length) : bt s (i : Int) = ((L s)[i].toNat : Int) := by
  have h' : i < s.size := by rw [← L_len]; exact h
  unfold bt
  rw [Int.toNat_natCast, dif_pos h']
  rfl
theorem L_nums (l : List Int) : L (strOfNums l) = l.map fun n => UInt8.ofNat n.toNat := rfl
theorem w64 {n : Int} (h0 : -9223372036854775808 ≤ n) (h1 : n ≤ 9223372036854775807) : wrap64 n = n := by
  unfold wrap64; omega
theorem u16w {n : Int} (h0 : 0 ≤ n) (h1 : n ≤ 65535) : IntKind.u16.wrap n = n := by
  have : n % 65536 = n := by omega
  simp [IntKind.wrap, IntKind.bits, IntKind.signed, this]
def dval (c : UInt8) : Nat := if 48 ≤ c ∧ c ≤ 57 then c.toNat - 48 else if 65 ≤ c ∧ c ≤ 70 then c.toNat - 55 else 99
def dig (b : Nat) (c : UInt8) : Option Nat := if dval c < b then some (dval c) else none
def dnum (o : Option Nat) : Int := match o with | none => -1 | some v => v
theorem dig_ix : ∀ b ∈ [2, 8, 10, 16], ∀ c : Fin 256, Lib.indexByte (L ((⟨#[48, 49, 50, 51, 52, 53, 54, 55, 56, 57, 65, 66, 67, 68, 69, 70]⟩ : ByteArray).extract 0 b)) (UInt8.ofNat c.val) = dnum (dig b (UInt8.ofNat c.val)) := by
  decide +kernel
theorem dig_ix' {b : Nat} (hb : b ∈ [2, 8, 10, 16]) (c : UInt8) : Lib.indexByte (L ((⟨#[48, 49, 50, 51, 52, 53, 54, 55, 56, 57, 65, 66, 67, 68, 69, 70]⟩ : ByteArray).extract 0 b)) c = dnum (dig b c) := by
  have := dig_ix b hb ⟨c.toNat, c.toNat_lt⟩
  simpa using this
def pf (b : Nat) : Nat → List UInt8 → Option Nat
  | n, [] => some n
  | n, c :: l => match dig b c with
    | none => none
    | some d => pf b (min (n * b + d) 65536) l
def fin : Option Nat → Int × Int
  | none => (0, 2)
  | some n => if 65535 < n then (0, 5) else ((n : Int), 0)
theorem drop_cons {l : List UInt8} {i : Nat} (h : i < l.length) : l.drop i = l[i] :: l.drop (i + 1) := List.drop_eq_getElem_cons h
theorem dig_lt {b v : Nat} {c : UInt8} (h : dig b c = some v) : v < b := by
  unfold dig at h
  by_cases e : dval c < b
  · rw [if_pos e] at h; obtain rfl := Option.some.inj h; exact e
  · rw [if_neg e] at h; cases h
theorem acc_w {n b v : Nat} (hn : n ≤ 65536) (hb : b ≤ 16) (hv : v < b) : wrap64 (wrap64 ((n : Int) * (b : Int)) + (v : Int)) = ((n * b + v : Nat) : Int) := by
  have hm : n * b ≤ 65536 * 16 := Nat.mul_le_mul hn hb
  rw [← Int.natCast_mul]
  generalize n * b = m at hm ⊢
  rw [w64 (n := (m : Int)) (by omega) (by omega), w64 (by omega) (by omega)]
  omega
theorem acc_n {n b v : Nat} (hn : n ≤ 65536) (hb : b ≤ 16) (hv : v < b) : mn (wrap64 (wrap64 ((n : Int) * (b : Int)) + (v : Int))) 65536 = ((min (n * b + v) 65536 : Nat) : Int) := by
  rw [acc_w hn hb hv]
  generalize n * b + v = m
  unfold mn
  omega
theorem inc_w {i : Nat} (hi : i ≤ 140737488351300) : wrap64 ((i : Int) + 1) = ((i + 1 : Nat) : Int) := by rw [w64 (by omega) (by omega)]; omega
theorem at_byte (x : ByteArray) {i : Nat} (hl : i < (L x).length) : (bt x i).toNat.toUInt8 = (L x)[i] := by
  rw [bt_L x i hl]
  simp
theorem num_loop (x : ByteArray) {b : Nat} (hb : b ∈ [2, 8, 10, 16]) (hs : x.size ≤ 140737488351300) (d : Nat) : ∀ (i n : Nat), i + d = x.size → n ≤ 65536 →
    Ev (fun k => number_Parse.l0 k x (b : Int) (n : Int) (x.size : Int) (i : Int)) (fin (pf b n ((L x).drop i))) := by
  have hb16 : b ≤ 16 ∧ 2 ≤ b := by simp at hb; omega
  induction d with
  | zero =>
    intro i n hi hn
    refine Ev.step (fun k => rfl) ?_
    simp only [number_Parse.l0]
    rw [List.drop_eq_nil_of_le (by rw [L_len]; omega)]
    simp only [if_neg (show ¬ (i : Int) < (x.size : Int) by omega), pf, fin]
    by_cases h : 65535 < n
    · simp only [if_pos (show (n : Int) > 65535 by omega), if_pos h]; exact Ev.now _
    · simp only [if_neg (show ¬ (n : Int) > 65535 by omega), if_neg h]; rw [u16w (by omega) (by omega)]; exact Ev.now _
  | succ d ih =>
    intro i n hi hn
    have hl : i < (L x).length := by rw [L_len]; omega
    refine Ev.step (fun k => rfl) ?_
    simp only [number_Parse.l0]
    have hix : Lib.indexByte ((⟨#[48, 49, 50, 51, 52, 53, 54, 55, 56, 57, 65, 66, 67, 68, 69, 70]⟩ : ByteArray).extract 0 ((b : Int)).toNat).data.toList (bt x i).toNat.toUInt8 = dnum (dig b (L x)[i]) := by
      rw [at_byte x hl, Int.toNat_natCast]
      exact dig_ix' hb _
    simp only [if_pos (show (i : Int) < (x.size : Int) by omega), if_pos (show (0 : Int) ≤ (b : Int) by omega), if_pos (show (b : Int) ≤ 16 by omega), if_pos (show (0 : Int) ≤ (i : Int) by omega), strings_IndexByte.f, Option.bind_some, hix]
    rw [drop_cons hl, pf]
    generalize hd : dig b (L x)[i] = o
    cases o with
    | none => exact Ev.now _
    | some v =>
      have hv := dig_lt hd
      simp only [dnum, if_neg (show ¬ ((v : Int) < 0) by omega), acc_n hn hb16.1 hv, inc_w (show i ≤ 140737488351300 by omega)]
      exact ih (i + 1) _ (by omega) (by omega)
theorem L_up (s : ByteArray) : L (upB s) = (L s).map up1 := by simp [L, upB]
theorem size_up (s : ByteArray) : (upB s).size = s.size := by rw [← L_len, L_up, List.length_map, L_len]
theorem num_upper (x : ByteArray) (hs : x.size ≤ 140737488351300) : number_Upper.f x = some (upB x) := by
  unfold number_Upper.f
  rw [if_pos (by omega)]
def basedL (l : List UInt8) : List UInt8 × Nat :=
  match l.getLast? with
  | none => (l, 10)
  | some c => if c = 72 then (l.dropLast, 16) else if c = 79 ∨ c = 81 then (l.dropLast, 8) else if c = 66 then (l.dropLast, 2) else if c = 68 then (l.dropLast, 10) else (l, 10)
def parseL (l : List UInt8) : Int × Int :=
  match l with
  | [] => (0, 2)
  | c :: _ => if c.toNat < 48 ∨ 57 < c.toNat then (0, 2) else fin (pf (basedL l).2 0 (basedL l).1)
theorem last_at (x : ByteArray) (h : 0 < x.size) (hs : x.size ≤ 140737488351300) :
    wrap64 ((x.size : Int) - 1) = ((x.size - 1 : Nat) : Int) ∧ ∃ c, (L x).getLast? = some c ∧ bt x ((x.size - 1 : Nat) : Int) = (c.toNat : Int) ∧ L (x.extract 0 (x.size - 1)) = (L x).dropLast := by
  refine ⟨by rw [w64 (by omega) (by omega)]; omega, ?_⟩
  have hl : x.size - 1 < (L x).length := by rw [L_len]; omega
  refine ⟨(L x)[x.size - 1], ?_, bt_L x _ hl, ?_⟩
  · rw [List.getLast?_eq_getElem?, L_len, List.getElem?_eq_getElem hl]
  · rw [L_ext, List.drop_zero, List.dropLast_eq_take, L_len]
theorem ch_eq (c d : UInt8) : ((c.toNat : Int) = (d.toNat : Int)) ↔ c = d := by
  constructor
  · intro h; exact UInt8.toNat.inj (by omega)
  · rintro rfl; rfl
theorem num_based (x : ByteArray) (h : 0 < x.size) (hs : x.size ≤ 140737488351300) :
    ∃ y : ByteArray, L y = (basedL (L x)).1 ∧ Ev (fun k => number_based.f k x) (y, ((basedL (L x)).2 : Int)) := by
  obtain ⟨e1, c, hc, hb, hd⟩ := last_at x h hs
  unfold number_based.f
  rw [e1]
  simp only [if_pos (show (0 : Int) ≤ ((x.size - 1 : Nat) : Int) by omega), if_pos (show ((x.size - 1 : Nat) : Int) ≤ (x.size : Int) by omega), if_pos (show ((x.size - 1 : Nat) : Int) < (x.size : Int) by omega), Int.toNat_natCast, hb]
  unfold basedL
  rw [hc]
  have q72 := ch_eq c 72
  have q79 := ch_eq c 79
  have q81 := ch_eq c 81
  have q66 := ch_eq c 66
  have q68 := ch_eq c 68
  simp only [show ((72 : UInt8).toNat : Int) = 72 from rfl, show ((79 : UInt8).toNat : Int) = 79 from rfl, show ((81 : UInt8).toNat : Int) = 81 from rfl, show ((66 : UInt8).toNat : Int) = 66 from rfl, show ((68 : UInt8).toNat : Int) = 68 from rfl] at q72 q79 q81 q66 q68
  have hj : ∀ bb : Bool, Ev (fun k => number_based.j0 k x (x.extract 0 (x.size - 1)) (c.toNat : Int) bb) (if bb = true then (x.extract 0 (x.size - 1), 8) else if c = 66 then (x.extract 0 (x.size - 1), 2) else if c = 68 then (x.extract 0 (x.size - 1), 10) else (x, 10)) := by
    intro bb
    refine Ev.step (fun k => rfl) ?_
    simp only [number_based.j0, q66, q68]
    by_cases h1 : bb = true
    · simp only [if_pos h1]; exact Ev.now _
    · simp only [if_neg h1]
      by_cases h2 : c = 66
      · simp only [if_pos h2]; exact Ev.now _
      · simp only [if_neg h2]
        by_cases h3 : c = 68
        · simp only [if_pos h3]; exact Ev.now _
        · simp only [if_neg h3]; exact Ev.now _
  simp only [q72, q79]
  by_cases h1 : c = 72
  · simp only [if_pos h1]
    exact ⟨_, hd, Ev.now _⟩
  · simp only [if_neg h1]
    by_cases h2 : c = 79
    · simp only [if_pos h2, if_pos (show c = 79 ∨ c = 81 from .inl h2)]
      refine ⟨_, hd, ?_⟩
      have := hj true
      simp only [if_true] at this
      rw [show ((c.toNat : Int) == 79) = true by simpa using q79.2 h2]
      exact this
    · simp only [if_neg h2]
      by_cases h3 : c = 81
      · simp only [if_pos (show c = 79 ∨ c = 81 from .inr h3)]
        refine ⟨_, hd, ?_⟩
        have := hj true
        simp only [if_true] at this
        rw [show ((c.toNat : Int) == 81) = true by simpa using q81.2 h3]
        exact this
      · simp only [if_neg (show ¬ (c = 79 ∨ c = 81) by simp [h2, h3])]
        have := hj false
        simp only [if_neg (show ¬ (false = true) by decide)] at this
        rw [show ((c.toNat : Int) == 81) = false by simpa using fun e => h3 (q81.1 e)]
        by_cases h4 : c = 66
        · simp only [if_pos h4] at this ⊢; exact ⟨_, hd, this⟩
        · simp only [if_neg h4] at this ⊢
          by_cases h5 : c = 68
          · simp only [if_pos h5] at this ⊢; exact ⟨_, hd, this⟩
          · simp only [if_neg h5] at this ⊢; exact ⟨_, rfl, this⟩
theorem based_mem (l : List UInt8) : (basedL l).2 ∈ [2, 8, 10, 16] := by
  unfold basedL
  split
  · simp
  · split
    · simp
    · split
      · simp
      · split
        · simp
        · split <;> simp
theorem based_len (l : List UInt8) : (basedL l).1.length ≤ l.length := by
  unfold basedL
  split
  · simp
  · split
    · simp
    · split
      · simp
      · split
        · simp
        · split <;> simp
theorem empty_iff (x : ByteArray) : x.toList = ([] : List UInt8) ↔ x.size = 0 := by
  rw [Lib.toList_data, ← L_len, List.length_eq_zero_iff]; rfl
theorem L_pos {x : ByteArray} (h : 0 < x.size) : ∃ c l, L x = c :: l ∧ bt x 0 = (c.toNat : Int) := by
  have hl : 0 < (L x).length := by rw [L_len]; exact h
  obtain ⟨c, l, e⟩ := List.exists_cons_of_length_pos hl
  refine ⟨c, l, e, ?_⟩
  have := bt_L x 0 hl
  simp only [e] at this
  exact this
theorem num_parse_up (x : ByteArray) (hs : x.size ≤ 140737488351300) : Ev (fun k => (if x.toList = ([] : List UInt8) then (number_Parse.j0 k x true) else (if 0 < (x.size : Int) then (if (bt x 0) < 48 then (number_Parse.j0 k x true) else (number_Parse.j0 k x (decide ((bt x 0) > 57)))) else (none)))) (parseL (L x)) := by
  have hj : Ev (fun k => number_Parse.j0 k x true) (0, 2) := by
    refine Ev.step (fun k => rfl) ?_
    simp only [number_Parse.j0, if_true]
    exact Ev.now _
  by_cases h0 : x.size = 0
  · simp only [if_pos ((empty_iff x).2 h0)]
    have : L x = [] := by rw [← List.length_eq_zero_iff, L_len]; exact h0
    rw [this]
    exact hj
  · have hp : 0 < x.size := by omega
    simp only [if_neg (fun h => h0 ((empty_iff x).1 h)), if_pos (show (0 : Int) < (x.size : Int) by omega)]
    obtain ⟨c, l, hcl, hb⟩ := L_pos hp
    simp only [hb]
    rw [hcl]
    unfold parseL
    by_cases h1 : (c.toNat : Int) < 48
    · simp only [if_pos h1, if_pos (show c.toNat < 48 ∨ 57 < c.toNat by omega)]
      exact hj
    · simp only [if_neg h1]
      by_cases h2 : (c.toNat : Int) > 57
      · simp only [h2, decide_true, if_pos (show c.toNat < 48 ∨ 57 < c.toNat by omega)]
        exact hj
      · simp only [h2, decide_false, if_neg (show ¬ (c.toNat < 48 ∨ 57 < c.toNat) by omega)]
        refine Ev.step (fun k => rfl) ?_
        simp only [number_Parse.j0, if_neg (show ¬ (false = true) by decide)]
        obtain ⟨y, hy, hE⟩ := num_based x hp hs
        have hlen := based_len (L x)
        rw [← hy, L_len, L_len] at hlen
        refine Ev.bind hE ?_
        have := num_loop y (based_mem (L x)) (by omega) y.size 0 0 (by omega) (by omega)
        rw [List.drop_zero, hy, hcl] at this
        simp only [hcl]
        exact this
theorem num_parse (x : ByteArray) (hs : x.size ≤ 140737488351300) : Ev (fun k => number_Parse.f k x) (parseL (L (upB x))) := by
  unfold number_Parse.f
  rw [num_upper x hs]
  simp only [Option.bind_some]
  exact num_parse_up (upB x) (by rw [size_up]; exact hs)
end Go.Proofs.YtejhagejjogbaaaDoor.Num
end
section
namespace Go.Proofs.YtejhagejjogbaaaDoor.Num
open Go.RowKit Go.Proofs.YtejhagejjogbaaaDoor.Given Go.Proofs.YtejhagejjogbaaaDoor.Pn Go.Proofs.YtejhagejjogbaaaDoorW.PrintWords Go.Proofs.YtejhagejjogbaaaDoorW.PrintLast
theorem rd_at (l : List Int) (i : Nat) (h : i < l.length) : rd l (i : Int) = l[i] := by
  simp [rd, List.getD_eq_getElem?_getD, List.getElem?_eq_getElem h]
theorem split_ends {α : Type} (l : List α) (h : 2 ≤ l.length) : ∃ a m b, l = a :: (m ++ [b]) := by
  cases l with
  | nil => simp at h
  | cons a t =>
    have ht : t ≠ [] := by rintro rfl; simp at h
    exact ⟨a, t.dropLast, t.getLast ht, by rw [List.dropLast_concat_getLast]⟩
theorem rev_loop (n : Nat) : ∀ (pre mid post : List Int), mid.length ≤ n → (pre ++ mid ++ post).length ≤ 140737488355328 →
    Ev (fun k => slices_Reverse_byte_byte.l0 k (pre ++ mid ++ post) (pre.length : Int) ((pre.length : Int) + mid.length - 1)) (pre ++ mid.reverse ++ post) := by
  induction n using Nat.strongRecOn with
  | _ n ih =>
    intro pre mid post hn hs
    refine Ev.step (fun k => rfl) ?_
    simp only [slices_Reverse_byte_byte.l0]
    by_cases h2 : mid.length < 2
    · simp only [if_neg (show ¬ ((pre.length : Int) < (pre.length : Int) + mid.length - 1) by omega)]
      have : mid.reverse = mid := by
        match mid, h2 with
        | [], _ => rfl
        | [a], _ => rfl
        | a :: b :: l, h => simp at h; omega
      rw [this]
      exact Ev.now _
    · obtain ⟨a, m, b, rfl⟩ := split_ends mid (by omega)
      have hl : (a :: (m ++ [b])).length = m.length + 2 := by simp
      simp only [hl] at hn h2 ⊢
      simp only [List.length_append, hl] at hs
      have e1 : (pre.length : Int) + ((m.length + 2 : Nat) : Int) - 1 = ((pre.length + m.length + 1 : Nat) : Int) := by omega
      rw [e1]
      have hlen : (pre ++ (a :: (m ++ [b])) ++ post).length = pre.length + m.length + 2 + post.length := by simp; omega
      simp only [hlen]
      simp only [if_pos (show (pre.length : Int) < ((pre.length + m.length + 1 : Nat) : Int) by omega), if_pos (show (0 : Int) ≤ ((pre.length + m.length + 1 : Nat) : Int) by omega), if_pos (show ((pre.length + m.length + 1 : Nat) : Int) < ((pre.length + m.length + 2 + post.length : Nat) : Int) by omega), if_pos (show (0 : Int) ≤ (pre.length : Int) by omega), if_pos (show (pre.length : Int) < ((pre.length + m.length + 2 + post.length : Nat) : Int) by omega), Int.toNat_natCast]
      have r1 : rd (pre ++ (a :: (m ++ [b])) ++ post) ((pre.length + m.length + 1 : Nat) : Int) = b := by
        rw [rd_at _ _ (by rw [hlen]; omega)]
        simp [List.getElem_append, List.getElem_cons]
        rw [dif_neg (by omega), dif_neg (by omega), dif_neg (by omega), dif_pos (by omega)]
      have r2 : rd (pre ++ (a :: (m ++ [b])) ++ post) (pre.length : Int) = a := by
        rw [rd_at _ _ (by rw [hlen]; omega)]
        simp
      have e2 : (((pre ++ (a :: (m ++ [b])) ++ post).set pre.length b).set (pre.length + m.length + 1) a) = (pre ++ [b]) ++ m ++ ([a] ++ post) := by
        rw [List.append_assoc, List.set_append_right _ _ (Nat.le_refl _), Nat.sub_self, List.cons_append, List.set_cons_zero, List.set_append_right _ _ (by omega)]
        rw [show pre.length + m.length + 1 - pre.length = m.length + 1 by omega, List.set_cons_succ, List.append_assoc, List.set_append_right _ _ (Nat.le_refl _), Nat.sub_self, List.cons_append, List.set_cons_zero]
        simp
      rw [r1, r2, e2]
      have e3 : wrap64 ((pre.length : Int) + 1) = (((pre ++ [b]).length : Nat) : Int) := by rw [w64 (by omega) (by omega)]; simp
      have e4 : wrap64 (((pre.length + m.length + 1 : Nat) : Int) - 1) = (((pre ++ [b]).length : Nat) : Int) + m.length - 1 := by rw [w64 (by omega) (by omega)]; simp; omega
      rw [e3, e4]
      have := ih m.length (by omega) (pre ++ [b]) m ([a] ++ post) (Nat.le_refl _) (by simp; omega)
      simpa using this
theorem reverse_ev (l : List Int) (hs : l.length ≤ 140737488355328) : Ev (fun k => slices_Reverse_byte_byte.f k l) l.reverse := by
  have := rev_loop l.length [] l [] (Nat.le_refl _) (by simpa using hs)
  unfold slices_Reverse_byte_byte.f
  rw [w64 (by omega) (by omega)]
  simpa using this
def hc (d : Nat) : UInt8 := if d < 10 then UInt8.ofNat (48 + d) else UInt8.ofNat (55 + d)
def hexd : Nat → List UInt8
  | 0 => []
  | n + 1 => hc ((n + 1) % 16) :: hexd ((n + 1) / 16)
termination_by n => n
decreasing_by omega
def zeroed (l : List UInt8) : List UInt8 := match l with | [] => [] | c :: t => if 57 < c.toNat then 48 :: c :: t else c :: t
def showL (n : Nat) : List UInt8 := if n < 10 then [UInt8.ofNat (48 + n)] else zeroed ((hexd n).reverse ++ [72])
theorem hexd_pos {n : Nat} (h : 0 < n) : hexd n = hc (n % 16) :: hexd (n / 16) := by
  obtain ⟨m, rfl⟩ : ∃ m, n = m + 1 := ⟨n - 1, by omega⟩
  rw [hexd]
theorem and15 {n : Nat} (h : n ≤ 65535) : Go.bits .and .u16 (n : Int) 15 = ((n % 16 : Nat) : Int) := by
  unfold Go.bits
  have e : (BitVec.ofInt IntKind.u16.bits (n : Int) &&& BitVec.ofInt IntKind.u16.bits 15).toNat = n % 16 := by
    rw [show IntKind.u16.bits = 16 from rfl, BitVec.toNat_and]
    rw [show (BitVec.ofInt 16 (n : Int)).toNat = n by simp; omega]
    rw [show (BitVec.ofInt 16 15).toNat = 2 ^ 4 - 1 by rfl, Nat.and_two_pow_sub_one_eq_mod]
  simp only [e]
  rw [u16w (by omega) (by omega)]
theorem hexdigit : ∀ d : Fin 16, bt (⟨#[48, 49, 50, 51, 52, 53, 54, 55, 56, 57, 65, 66, 67, 68, 69, 70]⟩ : ByteArray) ((d.val : Nat) : Int) = ((hc d.val).toNat : Int) := by
  decide +kernel
def nat8 (l : List UInt8) : List Int := l.map fun c => (c.toNat : Int)
theorem L_nat8 (l : List UInt8) : strOfNums (nat8 l) = ⟨l.toArray⟩ := by
  refine L_inj ?_
  rw [L_nums, nat8, List.map_map, L_mk]
  conv => rhs; rw [← List.map_id l]
  exact List.map_congr_left fun c _ => by simp
theorem nat8_rev (l : List UInt8) : (nat8 l).reverse = nat8 l.reverse := by simp [nat8]
theorem show_loop (n : Nat) : n ≤ 65535 → ∀ acc : List UInt8, acc ≠ [] → acc.length + n ≤ 140737488350000 →
    Ev (fun k => number_Show.l0 k (n : Int) (nat8 acc)) ⟨(zeroed ((acc ++ hexd n).reverse)).toArray⟩ := by
  induction n using Nat.strongRecOn with
  | _ n ih =>
    intro hn acc hacc hs
    refine Ev.step (fun k => rfl) ?_
    simp only [number_Show.l0]
    by_cases h0 : n = 0
    · subst h0
      have hl : (nat8 acc).length = acc.length := by simp [nat8]
      have hp : 0 < acc.length := List.length_pos_iff.2 hacc
      have e1 : wrap64 (((nat8 acc).length : Int) - 1) = ((acc.length - 1 : Nat) : Int) := by rw [hl, w64 (by omega) (by omega)]; omega
      have e2 : rd (nat8 acc) ((acc.length - 1 : Nat) : Int) = ((acc.getLast hacc).toNat : Int) := by
        rw [rd_at _ _ (by omega)]
        simp [nat8, List.getLast_eq_getElem]
      simp only [if_neg (show ¬ ((0 : Nat) : Int) > 0 by omega), e1, e2, if_pos (show (0 : Int) ≤ ((acc.length - 1 : Nat) : Int) by omega)]
      rw [hl]
      simp only [if_pos (show ((acc.length - 1 : Nat) : Int) < (acc.length : Int) by omega)]
      have hz : zeroed ((acc ++ hexd 0).reverse) = if 57 < (acc.getLast hacc).toNat then 48 :: acc.reverse else acc.reverse := by
        rw [hexd, List.append_nil]
        conv => lhs; rw [← List.dropLast_concat_getLast hacc]
        rw [List.reverse_append]
        simp only [List.reverse_singleton, List.singleton_append, zeroed]
        have : acc.reverse = acc.getLast hacc :: acc.dropLast.reverse := by
          conv => lhs; rw [← List.dropLast_concat_getLast hacc]
          simp
        rw [this]
      rw [hz]
      by_cases h1 : ((acc.getLast hacc).toNat : Int) > 57
      · simp only [if_pos h1, if_pos (show 57 < (acc.getLast hacc).toNat by omega), if_pos (show acc.length < 140737488355328 by omega)]
        rw [show nat8 acc ++ [48] = nat8 (acc ++ [48]) by simp [nat8]]
        refine Ev.bind (reverse_ev _ (by simp [nat8]; omega)) ?_
        rw [nat8_rev, L_nat8, List.reverse_append]
        exact Ev.now _
      · simp only [if_neg h1, if_neg (show ¬ 57 < (acc.getLast hacc).toNat by omega)]
        refine Ev.bind (reverse_ev _ (by simp [nat8]; omega)) ?_
        rw [nat8_rev, L_nat8]
        exact Ev.now _
    · have hp : 0 < n := by omega
      have hlt : n / 16 < n := Nat.div_lt_self hp (by omega)
      have hd : (n : Int) / 16 = ((n / 16 : Nat) : Int) := by omega
      have hx := hexdigit ⟨n % 16, Nat.mod_lt _ (by omega)⟩
      simp only at hx
      simp only [if_pos (show (n : Int) > 0 by omega), and15 hn, if_pos (show (0 : Int) ≤ ((n % 16 : Nat) : Int) by omega), if_pos (show ((n % 16 : Nat) : Int) < 16 by omega), hx, hd]
      simp only [if_pos (show (nat8 acc).length < 140737488355328 by simp [nat8]; omega)]
      rw [show nat8 acc ++ [((hc (n % 16)).toNat : Int)] = nat8 (acc ++ [hc (n % 16)]) by simp [nat8]]
      have := ih (n / 16) hlt (by omega) (acc ++ [hc (n % 16)]) (by simp) (by simp; omega)
      rw [hexd_pos hp]
      rw [List.append_assoc, List.singleton_append] at this
      exact this
theorem ext_one : ∀ d : Fin 10, (⟨#[48, 49, 50, 51, 52, 53, 54, 55, 56, 57, 65, 66, 67, 68, 69, 70]⟩ : ByteArray).extract d.val (d.val + 1) = ⟨#[UInt8.ofNat (48 + d.val)]⟩ := by
  intro d
  refine L_inj ?_
  revert d
  decide +kernel
theorem num_show (n : Nat) (hn : n ≤ 65535) : Ev (fun k => number_Show.f k (n : Int)) ⟨(showL n).toArray⟩ := by
  unfold number_Show.f showL
  by_cases h : n < 10
  · have e : IntKind.u16.wrap ((n : Int) + 1) = ((n + 1 : Nat) : Int) := by rw [u16w (by omega) (by omega)]; omega
    simp only [if_pos (show (n : Int) < 10 by omega), if_pos h, e, if_pos (show (0 : Int) ≤ (n : Int) by omega), if_pos (show (n : Int) ≤ ((n + 1 : Nat) : Int) by omega), if_pos (show ((n + 1 : Nat) : Int) ≤ 16 by omega), Int.toNat_natCast]
    rw [ext_one ⟨n, h⟩]
    exact Ev.now _
  · simp only [if_neg (show ¬ (n : Int) < 10 by omega), if_neg h]
    have := show_loop n hn [72] (by simp) (by simp; omega)
    simpa [nat8] using this
def top : Nat → Nat → Nat
  | 0, d => d
  | n + 1, _ => top ((n + 1) / 16) ((n + 1) % 16)
termination_by n _ => n
decreasing_by omega
theorem top_pos {n : Nat} (h : 0 < n) (d : Nat) : top n d = top (n / 16) (n % 16) := by
  obtain ⟨m, rfl⟩ : ∃ m, n = m + 1 := ⟨n - 1, by omega⟩
  rw [top]
theorem hexd_top (n : Nat) : 0 < n → ∀ d, ∃ t, (hexd n).reverse = hc (top n d) :: t ∧ top n d < 16 := by
  induction n using Nat.strongRecOn with
  | _ n ih =>
    intro hp d
    rw [hexd_pos hp, top_pos hp, List.reverse_cons]
    by_cases h : n / 16 = 0
    · rw [h, hexd, top]
      exact ⟨[], by simp, Nat.mod_lt _ (by omega)⟩
    · obtain ⟨t, ht, hl⟩ := ih (n / 16) (Nat.div_lt_self hp (by omega)) (by omega) (n % 16)
      rw [ht]
      exact ⟨t ++ [hc (n % 16)], by simp, hl⟩
theorem hc_big : ∀ d : Fin 16, (57 < (hc d.val).toNat) ↔ 9 < d.val := by decide +kernel
theorem dval_hc : ∀ d : Fin 16, dval (hc d.val) = d.val := by decide +kernel
theorem dig_hc {b d : Nat} (h : d < b) (hb : b ≤ 16) : dig b (hc d) = some d := by
  have := dval_hc ⟨d, by omega⟩
  simp only at this
  unfold dig
  rw [this, if_pos h]
theorem pf_app (b : Nat) : ∀ (l m : List UInt8) (n : Nat), pf b n (l ++ m) = (pf b n l).bind fun n' => pf b n' m
  | [], m, n => rfl
  | c :: l, m, n => by
    simp only [List.cons_append, pf]
    cases dig b c with
    | none => rfl
    | some d => exact pf_app b l m _
theorem pf_hex (n : Nat) : n ≤ 65535 → pf 16 0 (hexd n).reverse = some n := by
  induction n using Nat.strongRecOn with
  | _ n ih =>
    intro hn
    by_cases h0 : n = 0
    · subst h0; rw [hexd]; rfl
    · have hp : 0 < n := by omega
      rw [hexd_pos hp, List.reverse_cons, pf_app, ih (n / 16) (Nat.div_lt_self hp (by omega)) (by omega), Option.bind_some]
      simp only [pf, dig_hc (Nat.mod_lt n (show 0 < 16 by omega)) (Nat.le_refl _)]
      congr 1
      omega
theorem up1_hc : ∀ d : Fin 16, up1 (hc d.val) = hc d.val := by decide +kernel
theorem hexd_up (n : Nat) : (hexd n).map up1 = hexd n := by
  induction n using Nat.strongRecOn with
  | _ n ih =>
    by_cases h0 : n = 0
    · subst h0; rw [hexd]; rfl
    · have hp : 0 < n := by omega
      rw [hexd_pos hp, List.map_cons, ih _ (Nat.div_lt_self hp (by omega)), up1_hc ⟨n % 16, Nat.mod_lt _ (by omega)⟩]
theorem show_up (n : Nat) : (showL n).map up1 = showL n := by
  unfold showL
  by_cases h : n < 10
  · rw [if_pos h]
    have : ∀ d : Fin 10, [UInt8.ofNat (48 + d.val)].map up1 = [UInt8.ofNat (48 + d.val)] := by decide +kernel
    exact this ⟨n, h⟩
  · rw [if_neg h]
    have e : (zeroed ((hexd n).reverse ++ [72])).map up1 = zeroed ((hexd n).reverse ++ [72]) := by
      have : ((hexd n).reverse ++ [72]).map up1 = (hexd n).reverse ++ [72] := by
        rw [List.map_append, List.map_reverse, hexd_up]; rfl
      unfold zeroed
      generalize (hexd n).reverse ++ [72] = l at this
      cases l with
      | nil => rfl
      | cons c t =>
        simp only
        split
        · rw [List.map_cons, this]; rfl
        · exact this
    exact e
theorem zero_last {l : List UInt8} {c : UInt8} : (zeroed (l ++ [c])).getLast? = some c ∧ (zeroed (l ++ [c])).dropLast = (match l with | [] => if 57 < c.toNat then [48] else [] | d :: t => if 57 < d.toNat then 48 :: d :: t else d :: t) := by
  cases l with
  | nil =>
    simp only [List.nil_append, zeroed]
    split <;> simp
  | cons d t =>
    simp only [List.cons_append, zeroed]
    split
    · constructor
      · rw [show 48 :: d :: (t ++ [c]) = (48 :: d :: t) ++ [c] by simp, List.getLast?_append]; simp
      · rw [show 48 :: d :: (t ++ [c]) = (48 :: d :: t) ++ [c] by simp, List.dropLast_concat]
    · constructor
      · rw [show d :: (t ++ [c]) = (d :: t) ++ [c] by simp, List.getLast?_append]; simp
      · rw [show d :: (t ++ [c]) = (d :: t) ++ [c] by simp, List.dropLast_concat]
theorem hc_digit {d : Nat} (h : d < 16) (h9 : ¬ 9 < d) : ¬ ((hc d).toNat < 48 ∨ 57 < (hc d).toNat) := by
  have : ∀ d : Fin 10, ¬ ((hc d.val).toNat < 48 ∨ 57 < (hc d.val).toNat) := by decide +kernel
  exact this ⟨d, by omega⟩
theorem parse_show (n : Nat) (hn : n ≤ 65535) : parseL (showL n) = ((n : Int), 0) := by
  unfold showL
  by_cases h : n < 10
  · rw [if_pos h]
    have : ∀ d : Fin 10, parseL [UInt8.ofNat (48 + d.val)] = (((d.val : Nat) : Int), 0) := by decide +kernel
    exact this ⟨n, h⟩
  · rw [if_neg h]
    obtain ⟨t, ht, hl⟩ := hexd_top n (by omega) 0
    have hb := hc_big ⟨top n 0, hl⟩
    simp only at hb
    have hz := @zero_last (hexd n).reverse 72
    have hh := pf_hex n hn
    rw [ht] at hz hh ⊢
    simp only at hz
    have hbase : ∀ l : List UInt8, l.getLast? = some 72 → basedL l = (l.dropLast, 16) := by
      intro l e
      unfold basedL
      rw [e]
      rfl
    have hfin : ∀ l : List UInt8, pf 16 0 l = some n → fin (pf 16 0 l) = ((n : Int), 0) := by
      intro l e
      rw [e]
      unfold fin
      simp only
      rw [if_neg (by omega)]
    by_cases h9 : 9 < top n 0
    · rw [if_pos (hb.2 h9)] at hz
      have e : zeroed (hc (top n 0) :: t ++ [72]) = 48 :: (hc (top n 0) :: t ++ [72]) := by
        rw [List.cons_append]; unfold zeroed; simp only; rw [if_pos (hb.2 h9)]
      rw [e] at hz ⊢
      unfold parseL
      simp only
      rw [if_neg (by decide), hbase _ hz.1, hz.2]
      refine hfin _ ?_
      rw [show (48 : UInt8) :: hc (top n 0) :: t = [48] ++ (hc (top n 0) :: t) by rfl, pf_app]
      have : pf 16 0 [48] = some 0 := by decide +kernel
      rw [this, Option.bind_some, hh]
    · rw [if_neg (fun a => h9 (hb.1 a))] at hz
      have e : zeroed (hc (top n 0) :: t ++ [72]) = (hc (top n 0) :: t ++ [72]) := by
        rw [List.cons_append]; unfold zeroed; simp only; rw [if_neg (fun a => h9 (hb.1 a))]
      rw [e] at hz ⊢
      rw [List.cons_append] at hz ⊢
      unfold parseL
      simp only
      rw [if_neg (hc_digit hl h9), hbase _ hz.1, hz.2]
      exact hfin _ hh
end Go.Proofs.YtejhagejjogbaaaDoor.Num
end
