import Derived.Test.YtejhagejjogbaaaDoorKeM6
namespace Go.Proofs.YtejhagejjogbaaaDoor.Qa
open Go.RowKit YtejhagejjogbaaaDoorW.PrintWords YtejhagejjogbaaaDoorW.PrintLast YtejhagejjogbaaaDoorW.PrintMore Given TokSpan TokJoin TokRep Pn Pa Pb Pc Pd Pe
attribute [local go_sem] max2_int min2_int max_two min_two max_three min_three max_four min_four   -- for this text's walks alone
set_option linter.unusedVariables false
set_option linter.unusedSimpArgs false
def IsS136 (w0 W : World) (g : Nat) (f0 : List (S41)) (f1 : Int) (f2 : Int) : Prop := ∃ A0 c0, W.heap[g]? = some (.cells #[.slice A0 f0.length c0, .int .i64 f1, .int .i64 f2] 136 (0, 0)) ∧ w0.heap.size ≤ g ∧ Kd.C k41 w0 A0 f0.length f0
theorem IsS136.grown {w0 W : World} {g : Nat} {f0 : List (S41)} {f1 : Int} {f2 : Int} {W1 : World} {row : Option Nat} (h : IsS136 w0 W g f0 f1 f2) (hw : W.grownBy W1 row) (hne : some g ≠ row) : IsS136 w0 W1 g f0 f1 f2 := by
 obtain ⟨A0, c0, hb, hg, hr0⟩ := h
 exact ⟨A0, c0, blk_grown hb hw hne, hg, hr0⟩
theorem IsS136.fresh {w0 W : World} {g : Nat} {f0 : List (S41)} {f1 : Int} {f2 : Int} (h : IsS136 w0 W g f0 f1 f2) : ∀ k, W.heap.size ≤ k → k ≠ g := by
 obtain ⟨A0, c0, hb, hg, hr0⟩ := h
 exact Kd.freshB hb
theorem IsS136.kept {w0 W : World} {g : Nat} {f0 : List (S41)} {f1 : Int} {f2 : Int} {W1 : World} {S : Nat → Prop} (h : IsS136 w0 W g f0 f1 f2) (hk : Kept W W1 S) (hne : ¬ S g) : IsS136 w0 W1 g f0 f1 f2 := by
 obtain ⟨A0, c0, hb, hg, hr0⟩ := h
 exact ⟨A0, c0, blk_kept hb hk hne, hg, hr0⟩
theorem IsS136.below {w0 W : World} {g : Nat} {f0 : List (S41)} {f1 : Int} {f2 : Int} {W1 : World} (h : IsS136 w0 W g f0 f1 f2) (hw : Below W.heap.size W W1) : IsS136 w0 W1 g f0 f1 f2 := h.grown (grown_of_below hw none) (by simp)
theorem IsS136.alloc {w0 W : World} {g : Nat} {f0 : List (S41)} {f1 : Int} {f2 : Int} (h : IsS136 w0 W g f0 f1 f2) (o : Obj) : IsS136 w0 (W.alloc o) g f0 f1 f2 := h.below (zB (Below.refl _ _) o)
theorem IsS136.drewN {w0 W : World} {g : Nat} {f0 : List (S41)} {f1 : Int} {f2 : Int} (h : IsS136 w0 W g f0 f1 f2) (m : Nat) : IsS136 w0 (W.drewN m) g f0 f1 f2 := h
theorem IsS136.drew {w0 W : World} {g : Nat} {f0 : List (S41)} {f1 : Int} {f2 : Int} (h : IsS136 w0 W g f0 f1 f2) : IsS136 w0 W.drew g f0 f1 f2 := h
theorem IsS136.at_ {w0 W : World} {g : Nat} {f0 : List (S41)} {f1 : Int} {f2 : Int} {w' : World} {m : Nat} (hq : W.drewN m = w') (h : IsS136 w0 W g f0 f1 f2) : IsS136 w0 w' g f0 f1 f2 := by subst hq; exact IsS136.drewN h m
theorem IsS136.apart {w0 W : World} {g : Nat} {f0 : List (S41)} {f1 : Int} {f2 : Int} {α : Type} {d : Kd α} {e : Nat} {base : Nat} {ok : Nat → Prop} {v : Value} {xs : List α} (h : IsS136 w0 W g f0 f1 f2) (ho : d.R e W base ok v xs) (ht : ∀ q, q ∈ e :: d.E → q ≠ 136) : d.R e W base (fun k => ok k ∧ k ≠ g) v xs := by
 obtain ⟨A0, c0, hb, hg, hr0⟩ := h
 exact Kd.R_types ho hb ht
theorem IsS136.own_ne {w0 W : World} {g : Nat} {f0 : List (S41)} {f1 : Int} {f2 : Int} {α : Type} {d : Kd α} {e : Nat} {base : Nat} {ok : Nat → Prop} {v : Value} {xs : List α} (h : IsS136 w0 W g f0 f1 f2) (ho : d.R e W base ok v xs) (ht : e ≠ 136) : some g ≠ v.ownBlock := by
 obtain ⟨A0, c0, hb, hg, hr0⟩ := h
 exact Kd.R_ne ho hb ht
theorem IsS136.lt {w0 W : World} {g : Nat} {f0 : List (S41)} {f1 : Int} {f2 : Int} (h : IsS136 w0 W g f0 f1 f2) : g < W.heap.size := by
 obtain ⟨A0, c0, hb, hg, hr0⟩ := h
 exact blk_lt hb
theorem IsS136.ge {w0 W : World} {g : Nat} {f0 : List (S41)} {f1 : Int} {f2 : Int} (h : IsS136 w0 W g f0 f1 f2) : w0.heap.size ≤ g := by
 obtain ⟨A0, c0, hb, hg, hr0⟩ := h
 exact hg
theorem IsS136.far {w0 W : World} {g : Nat} {f0 : List (S41)} {f1 : Int} {f2 : Int} {p : Addr} (h : IsS136 w0 W g f0 f1 f2) (hne : g ≠ p.block) (u : Value) : IsS136 w0 (W.setCell p u) g f0 f1 f2 := by
 obtain ⟨A0, c0, hb, hg, hr0⟩ := h
 exact ⟨A0, c0, blk_far hb hne u, hg, hr0⟩
theorem cellS136_0 {W : World} {g : Nat} {A0 : Option Addr} {c0 : Nat} {f0 : List (S41)} {f1 : Int} {f2 : Int} (h : W.heap[g]? = some (.cells #[.slice A0 f0.length c0, .int .i64 f1, .int .i64 f2] 136 (0, 0))) : W.cell? ⟨g, 0, none⟩ = some (.slice A0 f0.length c0) := (zD h 0).trans rfl
theorem IsS136.new (w0 W : World) (A0 : Option Addr) (c0 : Nat) (f0 : List (S41)) (f1 : Int) (f2 : Int) (hB : Below w0.heap.size w0 W) (hr0 : Kd.C k41 w0 A0 f0.length f0) : IsS136 w0 (W.alloc (.cells #[.slice A0 f0.length c0, .int .i64 f1, .int .i64 f2] 136)) W.heap.size f0 f1 f2 := ⟨A0, c0, by simpa using heap_alloc_new W _, hB.size, hr0⟩
mutual
def expr_deep.l0 : Nat → Int → List (S50) → Int → Int → Option (Int)
 | 0, _, _, _, _ => none
 | k + 1, x2, x6, x7, x8 => if x8 < x7 then (if 0 ≤ x8 then (if x8 < (x6.length : Int) then ((expr_deep.f k ((zL x6 x8).f0) ((zL x6 x8).f1) ((zL x6 x8).f2) ((zL x6 x8).f3)).bind fun t191 => (expr_deep.l0 k (mx x2 t191) x6 x7 (wrap64 (x8 + 1)))) else (none)) else (none)) else (some (wrap64 (x2 + 1)))
def expr_deep.f : Nat → ByteArray → Int → ByteArray → List (S50) → Option (Int)
 | 0, _, _, _, _ => none
 | k + 1, a0_0, a0_1, a0_2, l0_3 => expr_deep.l0 k 0 l0_3 (l0_3.length : Int) 0
end
set_option maxHeartbeats 8000000 in
set_option maxRecDepth 100000 in
theorem expr_deep.calls (k : Nat) : ∀ (a0_0 : ByteArray) (a0_1 : Int) (a0_2 : ByteArray) (A0_3 : Option Addr) (c0_3 : Nat) (l0_3 : List (S50)) (r : Int) (w : World) (hr0_3 : Kd.C k50 w A0_3 l0_3.length l0_3) (hc0_3 : l0_3.length ≤ c0_3) (h : expr_deep.f k a0_0 a0_1 a0_2 l0_3 = some r),
  Calls Tryd.prog 126 #[.agg #[.string a0_0, .int .u16 a0_1, .string a0_2, .slice A0_3 l0_3.length c0_3]] w fun e w' => e = .returned (.int .i64 r) ∧ Below w.heap.size w w' := by
 induction k using Nat.strongRecOn with
 | _ k ih =>
 intro a0_0 a0_1 a0_2 A0_3 c0_3 l0_3 r w hr0_3 hc0_3 h
 cases k with
 | zero => exact absurd h (by simp [expr_deep.f])
 | succ k =>
 simp only [expr_deep.f] at h
 have hu50 := Tryd.underlying50
 have HR0_3 := zz_ hr0_3
 have HC0_3 := zz_ hc0_3
 clear hr0_3 hc0_3
 have HB := zz_ (Below.refl w.heap.size w)
 have H : (expr_deep.l0 k 0 l0_3 (l0_3.length : Int) 0) = some r := h
 clear h
 have H' := zz_ H
 clear H
 go_enter Tryd.func126, Tryd.ntmps126
 go_wp2_with (first | ((with_reducible refine zS (N := 1) rfl ?_); refine zO ?hg (N := 1) ?hd (cs := #[.string a0_0, .int .u16 a0_1, .string a0_2, .slice A0_3 l0_3.length c0_3]) (t := 50) ?hr ?_; (case hd => rfl); (case hg => rfl); (case hr => first | (go_simp; done) | (go_simp; rfl)); intro gb188 hg w2 hbox hb; have n0_ := zz_ (zG (by repeat (first | (with_reducible first | exact HB.out | apply zB | apply zA | apply zC) | exact HB.out)) hb); have n1_ := zz_ (hbox); have n2_ := zz_ ((by rw [hg]; exact (zR (by repeat (first | (with_reducible first | exact HB.out | apply zB | apply zA | apply zC) | exact HB.out))) : w.heap.size ≤ gb188)); have n3_ := zz_ ((by rw [hg]; exact (zR (by repeat (first | (with_reducible first | exact HB.out | apply zB | apply zA | apply zC) | exact HB.out))) : w.heap.size ≤ gb188)); clear HB; have HB := n0_; have BK188 := n1_; have GW188 := n2_; have GE188 := n3_; clear n0_ n1_ n2_ n3_; clear hb hbox hg; have hcz3_0 : w2.cell? ⟨gb188, 0, none⟩ = some (.string a0_0) := (zD BK188.out 0).trans rfl; have hcz3_1 : w2.cell? ⟨gb188, 1, none⟩ = some (.int .u16 a0_1) := (zD BK188.out 1).trans rfl; have hcz3_2 : w2.cell? ⟨gb188, 2, none⟩ = some (.string a0_2) := (zD BK188.out 2).trans rfl; have hcz3_3 : w2.cell? ⟨gb188, 3, none⟩ = some (.slice A0_3 l0_3.length c0_3) := (zD BK188.out 3).trans rfl; have hfz3_0 := zE BK188.out 0; have hfz3_1 := zE BK188.out 1; have hfz3_2 := zE BK188.out 2; have hfz3_3 := zE BK188.out 3))
 first | go_loopg [2, 8] k (fun kq v2 v8 w' => ∃ (x2_1 : Int) (x8_1 : Int), v2 = .int .i64 x2_1 ∧ v8 = .int .i64 x8_1 ∧ Aside0 (expr_deep.l0 kq x2_1 l0_3 (l0_3.length : Int) x8_1 = some r) ∧ Aside0 (kq ≤ k) ∧ Aside0 (w'.heap[gb188]? = some (.cells #[.string a0_0, .int .u16 a0_1, .string a0_2, (.slice A0_3 l0_3.length c0_3)] 50 (0, 0))) ∧ Aside0 (Below w.heap.size w w')) | (go_simp; go_loopg [2, 8] k (fun kq v2 v8 w' => ∃ (x2_1 : Int) (x8_1 : Int), v2 = .int .i64 x2_1 ∧ v8 = .int .i64 x8_1 ∧ Aside0 (expr_deep.l0 kq x2_1 l0_3 (l0_3.length : Int) x8_1 = some r) ∧ Aside0 (kq ≤ k) ∧ Aside0 (w'.heap[gb188]? = some (.cells #[.string a0_0, .int .u16 a0_1, .string a0_2, (.slice A0_3 l0_3.length c0_3)] 50 (0, 0))) ∧ Aside0 (Below w.heap.size w w')))
 case atStart => exact ⟨(0), (0), (by first | rfl | (simp; done) | (simp [*]; done)), (by first | rfl | (simp; done) | (simp [*]; done)), H', ⟨Nat.le_refl _⟩, ⟨by (with_reducible repeat (first | refine zH ?_ _ | refine zJ ?_ | refine zI ?_ _)); exact BK188.out⟩, ⟨by repeat (first | (with_reducible first | exact HB.out | apply zB | apply zA | apply zC | refine zF ?_ GE188.out) | exact HB.out)⟩⟩
 case round =>
  clear H'
  try clear c1
  try clear p2
  try clear hcz3_0
  try clear hcz3_1
  try clear hcz3_2
  try clear hcz3_3
  try clear hfz3_0
  try clear hfz3_1
  try clear hfz3_2
  try clear hfz3_3
  obtain ⟨x2_1, x8_1, rfl, rfl, HA, HK1, BK188, HB⟩ := hrel
  cases gk with
  | zero => exact absurd HA.out (by simp [expr_deep.l0])
  | succ k1 =>
   have H := HA.out
   clear HA
   simp only [expr_deep.l0] at H
   by_cases c4 : x8_1 < (l0_3.length : Int)
   ·rw [if_pos c4] at H
    have c4b0 : decide (x8_1 < (l0_3.length : Int)) = true := decide_eq_true c4
    clear c4
    by_cases c5 : 0 ≤ x8_1
    ·rw [if_pos c5] at H
     have c5b0 : decide (0 ≤ x8_1) = true := decide_eq_true c5
     clear c5
     by_cases c6 : x8_1 < (l0_3.length : Int)
     ·rw [if_pos c6] at H
      have c6b0 : decide (x8_1 < (l0_3.length : Int)) = true := decide_eq_true c6
      clear c6
      replace H := Option.bind_eq_some_iff.mp H
      obtain ⟨t191, A70, H⟩ := H
      replace H : (expr_deep.l0 k1 (mx x2_1 t191) l0_3 (l0_3.length : Int) (wrap64 (x8_1 + 1))) = some r := H
      have A7 := zz_ A70
      clear A70
      obtain ⟨ji8, hji8⟩ : ∃ j_ : Int, (mx x2_1 t191) = j_ := ⟨_, rfl⟩
      replace H : (expr_deep.l0 k1 ji8 l0_3 (l0_3.length : Int) (wrap64 (x8_1 + 1))) = some r := by first | (rw [hji8] at H; exact H) | (simp only [hji8] at H ⊢; exact H)
      (try rw [hji8] at A7)
      have hji8_ : (if x2_1 < t191 then t191 else x2_1) = ji8 := hji8
      have H' := zz_ H
      clear H
      have p189 : 0 ≤ (x8_1 : Int) := of_decide_eq_true (by first | (with_reducible assumption) | assumption)
      have q189 : x8_1 < (l0_3.length : Int) := of_decide_eq_true (by first | (with_reducible assumption) | assumption)
      obtain ⟨ad189, A189_3, c189_3, e189, hx189_0, hx189_1, hx189_2, hx189_3, hl189_3, hi189_3⟩ := at_T50 HR0_3.out x8_1 p189 q189
      cases e189
      replace hx189_0 := (HB.out.cell (World.block_lt_of_cell? w _ hx189_0)).trans hx189_0
      replace hx189_1 := (HB.out.cell (World.block_lt_of_cell? w _ hx189_1)).trans hx189_1
      replace hx189_2 := (HB.out.cell (World.block_lt_of_cell? w _ hx189_2)).trans hx189_2
      replace hx189_3 := (HB.out.cell (World.block_lt_of_cell? w _ hx189_3)).trans hx189_3
      have HR189_3 := zz_ hi189_3
      have HC189_3 := zz_ hl189_3
      clear hi189_3 hl189_3
      replace p189 := eq_true p189
      replace q189 := eq_true q189
      go_wp2_with (first | ((with_reducible refine zS (N := 4) rfl ?_); refine zO ?hg (N := 4) ?hd (cs := #[.string (⟨#[]⟩ : ByteArray), .int .u16 0, .string (⟨#[]⟩ : ByteArray), .slice none 0 0]) (t := 50) ?hr ?_; (case hd => rfl); (case hg => rfl); (case hr => first | (go_simp; done) | (go_simp; rfl)); intro gb190 hg w9 hbox hb; have n0_ := zz_ (zK (g := gb188) (o := .cells #[.string a0_0, .int .u16 a0_1, .string a0_2, .slice (some ad189) l0_3.length c0_3] 50 (0, 0)) (by (with_reducible repeat (first | refine zH ?_ _ | refine zJ ?_ | refine zI ?_ _)); exact BK188.out) hb); have n1_ := zz_ (zG (by repeat (first | (with_reducible first | exact HB.out | apply zB | apply zA | apply zC | refine zF ?_ GE188.out) | exact HB.out)) hb); have n2_ := zz_ (hbox); have n3_ := zz_ ((by rw [hg]; exact (zR (by repeat (first | (with_reducible first | exact HB.out | apply zB | apply zA | apply zC | refine zF ?_ GE188.out) | exact HB.out))) : w.heap.size ≤ gb190)); have n4_ := zz_ ((by rw [hg]; exact (zR (by repeat (first | (with_reducible first | exact HB.out | apply zB | apply zA | apply zC | refine zF ?_ GE188.out) | exact HB.out))) : w.heap.size ≤ gb190)); have n5_ := zz_ ((by rw [hg]; exact Nat.ne_of_lt (blk_lt (g := gb188) (o := .cells #[.string a0_0, .int .u16 a0_1, .string a0_2, .slice (some ad189) l0_3.length c0_3] 50 (0, 0)) (by (with_reducible repeat (first | refine zH ?_ _ | refine zJ ?_ | refine zI ?_ _)); exact BK188.out)) : gb188 ≠ gb190)); have n6_ := zz_ ((by rw [hg]; exact Nat.ne_of_gt (blk_lt (g := gb188) (o := .cells #[.string a0_0, .int .u16 a0_1, .string a0_2, .slice (some ad189) l0_3.length c0_3] 50 (0, 0)) (by (with_reducible repeat (first | refine zH ?_ _ | refine zJ ?_ | refine zI ?_ _)); exact BK188.out)) : gb190 ≠ gb188)); clear BK188; clear HB; have BK188 := n0_; have HB := n1_; have BK190 := n2_; have GW190 := n3_; have GE190 := n4_; have NB188_190 := n5_; have NB190_188 := n6_; clear n0_ n1_ n2_ n3_ n4_ n5_ n6_; clear hb hbox hg; have hnb10 := NB190_188.out; have hnc10 := NB188_190.out; have hcz11_0 : w9.cell? ⟨gb190, 0, none⟩ = some (.string (⟨#[]⟩ : ByteArray)) := (zD BK190.out 0).trans rfl; have hcz11_1 : w9.cell? ⟨gb190, 1, none⟩ = some (.int .u16 0) := (zD BK190.out 1).trans rfl; have hcz11_2 : w9.cell? ⟨gb190, 2, none⟩ = some (.string (⟨#[]⟩ : ByteArray)) := (zD BK190.out 2).trans rfl; have hcz11_3 : w9.cell? ⟨gb190, 3, none⟩ = some (.slice none 0 0) := (zD BK190.out 3).trans rfl; have hfz11_0 := zE BK190.out 0; have hfz11_1 := zE BK190.out 1; have hfz11_2 := zE BK190.out 2; have hfz11_3 := zE BK190.out 3) | ((with_reducible refine zQ (f := 126) rfl ?_); refine goesL_ (some 14) rfl rfl Tryd.func126 (by kernel_rfl) rfl #[.agg #[.string ((zL l0_3 x8_1).f0), .int .u16 ((zL l0_3 x8_1).f1), .string ((zL l0_3 x8_1).f2), .slice A189_3 ((zL l0_3 x8_1).f3).length c189_3]] rfl (by (try simp only [List.map_toArray, List.map_cons, List.map_nil]); first | done | rfl | (simp only [List.length_drop, List.length_take]; rfl)) ?_; (with_reducible refine (ih k1 (by have := HK1.out; omega) ((zL l0_3 x8_1).f0) ((zL l0_3 x8_1).f1) ((zL l0_3 x8_1).f2) _ _ ((zL l0_3 x8_1).f3) t191 _ ?side1 ?side2 A7.out).mono ?_); (case side1 => exact Kd.zV HR189_3.out (by repeat (first | (with_reducible first | exact HB.out | apply zB | apply zA | apply zC | refine zF ?_ GE188.out | refine zF ?_ GE190.out) | exact HB.out))); (case side2 => exact HC189_3.out); rintro e w12 ⟨rfl, hb⟩; refine ⟨_, rfl, ?_⟩; have n0_ := zz_ (zK (g := gb188) (o := .cells #[.string a0_0, .int .u16 a0_1, .string a0_2, .slice (some ad189) l0_3.length c0_3] 50 (0, 0)) (by (with_reducible repeat (first | refine zH ?_ _ | refine zJ ?_ | refine zI ?_ _)); refine blk_far ?_ NB188_190.out _; (with_reducible repeat (first | refine zH ?_ _ | refine zJ ?_ | refine zI ?_ _)); refine blk_far ?_ NB188_190.out _; (with_reducible repeat (first | refine zH ?_ _ | refine zJ ?_ | refine zI ?_ _)); refine blk_far ?_ NB188_190.out _; (with_reducible repeat (first | refine zH ?_ _ | refine zJ ?_ | refine zI ?_ _)); refine blk_far ?_ NB188_190.out _; (with_reducible repeat (first | refine zH ?_ _ | refine zJ ?_ | refine zI ?_ _)); exact BK188.out) hb); have n1_ := zz_ (zK (g := gb190) (o := .cells #[.string ((zL l0_3 x8_1).f0), .int .u16 ((zL l0_3 x8_1).f1), .string ((zL l0_3 x8_1).f2), .slice A189_3 ((zL l0_3 x8_1).f3).length c189_3] 50 (0, 0)) (by (with_reducible repeat (first | refine zH ?_ _ | refine zJ ?_ | refine zI ?_ _)); refine blk_put (cs := #[.string ((zL l0_3 x8_1).f0), .int .u16 ((zL l0_3 x8_1).f1), .string ((zL l0_3 x8_1).f2), .slice none 0 0]) ?_ 3 _ rfl; (with_reducible repeat (first | refine zH ?_ _ | refine zJ ?_ | refine zI ?_ _)); refine blk_put (cs := #[.string ((zL l0_3 x8_1).f0), .int .u16 ((zL l0_3 x8_1).f1), .string (⟨#[]⟩ : ByteArray), .slice none 0 0]) ?_ 2 _ rfl; (with_reducible repeat (first | refine zH ?_ _ | refine zJ ?_ | refine zI ?_ _)); refine blk_put (cs := #[.string ((zL l0_3 x8_1).f0), .int .u16 0, .string (⟨#[]⟩ : ByteArray), .slice none 0 0]) ?_ 1 _ rfl; (with_reducible repeat (first | refine zH ?_ _ | refine zJ ?_ | refine zI ?_ _)); refine blk_put (cs := #[.string (⟨#[]⟩ : ByteArray), .int .u16 0, .string (⟨#[]⟩ : ByteArray), .slice none 0 0]) ?_ 0 _ rfl; (with_reducible repeat (first | refine zH ?_ _ | refine zJ ?_ | refine zI ?_ _)); exact BK190.out) hb); have n2_ := zz_ (zG (by repeat (first | (with_reducible first | exact HB.out | apply zB | apply zA | apply zC | refine zF ?_ GE188.out | refine zF ?_ GE190.out) | exact HB.out)) hb); clear BK188; clear BK190; clear HB; have BK188 := n0_; have BK190 := n1_; have HB := n2_; clear n0_ n1_ n2_; (try clear hb)))
      go_roundg k1
      case measure => have := HK1.out; omega
      case rel => exact ⟨(ji8), (wrap64 (x8_1 + 1)), (by first | rfl | (simp; done) | (simp only [← hji8] <;> (first | rfl | (simp; done) | (simp [*]; done))) | (simp [*]; done)), (by first | rfl | (simp; done) | (simp [*]; done)), H', ⟨by have := HK1.out; omega⟩, ⟨by (with_reducible repeat (first | refine zH ?_ _ | refine zJ ?_ | refine zI ?_ _)); exact BK188.out⟩, ⟨by repeat (first | (with_reducible first | exact HB.out | apply zB | apply zA | apply zC | refine zF ?_ GE188.out | refine zF ?_ GE190.out) | exact HB.out)⟩⟩
     ·rw [if_neg c6] at H
      exact absurd H (by simp)
    ·rw [if_neg c5] at H
     exact absurd H (by simp)
   ·rw [if_neg c4] at H
    have c4b0 : decide (x8_1 < (l0_3.length : Int)) = false := decide_eq_false c4
    clear c4
    obtain rfl := Option.some.inj H
    go_wp2
    go_ret
    exact ⟨by first | rfl | (simp [zN, zM] <;> rfl) | (simp [*, zN, zM] <;> rfl), by repeat (first | (with_reducible first | exact HB.out | apply zB | apply zA | apply zC | refine zF ?_ GE188.out) | exact HB.out)⟩
mutual
def pidginref05_rank.j0 : Nat → ByteArray → Bool → Option (Int × Int)
 | 0, _, _ => none
 | k + 1, x4, x5 => if x5 = true then (some (1, 2)) else (if x4.toList = ([65, 78, 68] : List UInt8) then (some (2, 2)) else (if x4.toList = ([78, 79, 84] : List UInt8) then (some (3, 1)) else (if x4.toList = ([43] : List UInt8) then (pidginref05_rank.j1 k x4 (x4.toList == ([43] : List UInt8))) else (pidginref05_rank.j1 k x4 (x4.toList == ([45] : List UInt8))))))
def pidginref05_rank.j1 : Nat → ByteArray → Bool → Option (Int × Int)
 | 0, _, _ => none
 | k + 1, x4, x12 => if x12 = true then (some (4, 2)) else (if x4.toList = ([42] : List UInt8) then (pidginref05_rank.j2 k x4 (x4.toList == ([42] : List UInt8))) else (if x4.toList = ([47] : List UInt8) then (pidginref05_rank.j2 k x4 (x4.toList == ([47] : List UInt8))) else (if x4.toList = ([77, 79, 68] : List UInt8) then (pidginref05_rank.j2 k x4 (x4.toList == ([77, 79, 68] : List UInt8))) else (if x4.toList = ([83, 72, 76] : List UInt8) then (pidginref05_rank.j2 k x4 (x4.toList == ([83, 72, 76] : List UInt8))) else (pidginref05_rank.j2 k x4 (x4.toList == ([83, 72, 82] : List UInt8)))))))
def pidginref05_rank.j2 : Nat → ByteArray → Bool → Option (Int × Int)
 | 0, _, _ => none
 | k + 1, x4, x15 => if x15 = true then (some (5, 2)) else (if x4.toList = ([78, 69, 71] : List UInt8) then (some (6, 1)) else (if x4.toList = ([35] : List UInt8) then (some (7, 0)) else (if x4.toList = ([110] : List UInt8) then (some (7, 0)) else (if x4.toList = ([36] : List UInt8) then (some (7, 0)) else (some (0, 0))))))
end
def pidginref05_rank.f (k : Nat) (a0 : ByteArray) : Option (Int × Int) := if a0.toList = ([79, 82] : List UInt8) then (pidginref05_rank.j0 k a0 (a0.toList == ([79, 82] : List UInt8))) else (pidginref05_rank.j0 k a0 (a0.toList == ([88, 79, 82] : List UInt8)))
set_option maxHeartbeats 8000000 in
set_option maxRecDepth 100000 in
theorem pidginref05_rank.calls (k : Nat) (a0 : ByteArray) (r1 : Int) (r2 : Int) (w : World) (h : pidginref05_rank.f k a0 = some (r1, r2)) :
  Calls Tryd.prog 147 #[.string a0] w fun e w' => e = .returned (.tuple #[.int .i64 r1, .int .i64 r2]) ∧ Drawn0 w w' := by
 have H : (if a0.toList = ([79, 82] : List UInt8) then (pidginref05_rank.j0 k a0 (a0.toList == ([79, 82] : List UInt8))) else (pidginref05_rank.j0 k a0 (a0.toList == ([88, 79, 82] : List UInt8)))) = some (r1, r2) := h
 clear h
 have HC2 := zz_ H
 clear H
 go_enter Tryd.func147, Tryd.ntmps147
 go_upto_if 5 with (fail)
 go_cut [5] (fun v5 wc => ∃ (kq : Nat) (x5_1 : Bool), v5 = .bool x5_1 ∧ Aside0 (pidginref05_rank.j0 kq a0 x5_1 = some (r1, r2)) ∧ Aside0 (kq ≤ k) ∧ Drawn0 w wc)
 case first =>
  have H := HC2.out
  clear HC2
  by_cases c3 : a0.toList = ([79, 82] : List UInt8)
  ·rw [if_pos c3] at H
   have c3b0 : (a0.toList == ([79, 82] : List UInt8)) = true := beq_iff_eq.mpr c3
   have c3b1 : (a0.toList != ([79, 82] : List UInt8)) = false := bne_eq_false_iff_eq.mpr c3
   clear c3
   (first | rw [c3b0] | (simp only [i64_w, i32_w]; rw [c3b0]) | skip)
   have H' := zz_ H
   clear H
   go_wp2
   go_meet
   case rel => exact ⟨_, ((a0.toList == ([79, 82] : List UInt8))), (by first | rfl | (simp; done) | (simp [*]; done)), H', ⟨by first | omega | exact Nat.le_refl _⟩, by repeat (first | exact Drawn0.refl _ | apply Drawn0.step)⟩
  ·rw [if_neg c3] at H
   have c3b0 : (a0.toList == ([79, 82] : List UInt8)) = false := beq_eq_false_iff_ne.mpr c3
   have c3b1 : (a0.toList != ([79, 82] : List UInt8)) = true := bne_iff_ne.mpr c3
   (first | rw [c3b0] | (simp only [i64_w, i32_w]; rw [c3b0]) | skip)
   have H' := zz_ H
   clear H
   go_wp2
   go_meet
   case rel => exact ⟨_, ((a0.toList == ([88, 79, 82] : List UInt8))), (by first | rfl | (simp; done) | (simp [*]; done)), H', ⟨by first | omega | exact Nat.le_refl _⟩, by repeat (first | exact Drawn0.refl _ | apply Drawn0.step)⟩
 case rest =>
  clear HC2
  try clear c1
  try clear p2
  try clear c3
  try clear c3b0
  try clear c3b1
  obtain ⟨kq, x5_1, rfl, HA, HJ1, ⟨mc1, rfl⟩⟩ := hcut
  cases kq with
  | zero => exact absurd HA.out (by simp [pidginref05_rank.j0])
  | succ kj1 =>
   have H := HA.out
   clear HA
   simp only [pidginref05_rank.j0] at H
   by_cases c4 : x5_1 = true
   ·subst c4
    have H1 : (some (1, 2)) = some (r1, r2) := by rw [if_pos rfl] at H; exact H
    clear H
    have H := H1
    clear H1
    simp only [Option.some.injEq, Prod.mk.injEq] at H
    obtain ⟨rfl, rfl⟩ := H
    go_wp2
    go_ret2
    exact ⟨by first | rfl | (simp; done) | (simp [*]; done), by repeat (first | exact Drawn0.refl _ | apply Drawn0.step)⟩
   ·replace c4 := Bool.eq_false_iff.mpr c4
    subst c4
    have H1 : (if a0.toList = ([65, 78, 68] : List UInt8) then (some (2, 2)) else (if a0.toList = ([78, 79, 84] : List UInt8) then (some (3, 1)) else (if a0.toList = ([43] : List UInt8) then (pidginref05_rank.j1 kj1 a0 (a0.toList == ([43] : List UInt8))) else (pidginref05_rank.j1 kj1 a0 (a0.toList == ([45] : List UInt8)))))) = some (r1, r2) := by rw [if_neg (show ¬ (false = true) by decide)] at H; exact H
    clear H
    have H := H1
    clear H1
    by_cases c5 : a0.toList = ([65, 78, 68] : List UInt8)
    ·rw [if_pos c5] at H
     have c5b0 : (a0.toList == ([65, 78, 68] : List UInt8)) = true := beq_iff_eq.mpr c5
     have c5b1 : (a0.toList != ([65, 78, 68] : List UInt8)) = false := bne_eq_false_iff_eq.mpr c5
     clear c5
     simp only [Option.some.injEq, Prod.mk.injEq] at H
     obtain ⟨rfl, rfl⟩ := H
     go_wp2
     go_ret2
     exact ⟨by first | rfl | (simp; done) | (simp [*]; done), by repeat (first | exact Drawn0.refl _ | apply Drawn0.step)⟩
    ·rw [if_neg c5] at H
     have c5b0 : (a0.toList == ([65, 78, 68] : List UInt8)) = false := beq_eq_false_iff_ne.mpr c5
     have c5b1 : (a0.toList != ([65, 78, 68] : List UInt8)) = true := bne_iff_ne.mpr c5
     by_cases c6 : a0.toList = ([78, 79, 84] : List UInt8)
     ·rw [if_pos c6] at H
      have c6b0 : (a0.toList == ([78, 79, 84] : List UInt8)) = true := beq_iff_eq.mpr c6
      have c6b1 : (a0.toList != ([78, 79, 84] : List UInt8)) = false := bne_eq_false_iff_eq.mpr c6
      clear c6
      simp only [Option.some.injEq, Prod.mk.injEq] at H
      obtain ⟨rfl, rfl⟩ := H
      go_wp2
      go_ret2
      exact ⟨by first | rfl | (simp; done) | (simp [*]; done), by repeat (first | exact Drawn0.refl _ | apply Drawn0.step)⟩
     ·rw [if_neg c6] at H
      have c6b0 : (a0.toList == ([78, 79, 84] : List UInt8)) = false := beq_eq_false_iff_ne.mpr c6
      have c6b1 : (a0.toList != ([78, 79, 84] : List UInt8)) = true := bne_iff_ne.mpr c6
      have HC7 := zz_ H
      clear H
      go_upto_if 12 with (fail)
      go_cut [12] (fun v12 wc => ∃ (kq : Nat) (x12_6 : Bool), v12 = .bool x12_6 ∧ Aside0 (pidginref05_rank.j1 kq a0 x12_6 = some (r1, r2)) ∧ Aside0 (kq ≤ kj1) ∧ Drawn0 w wc)
      case first =>
       have H := HC7.out
       clear HC7
       by_cases c8 : a0.toList = ([43] : List UInt8)
       ·rw [if_pos c8] at H
        have c8b0 : (a0.toList == ([43] : List UInt8)) = true := beq_iff_eq.mpr c8
        have c8b1 : (a0.toList != ([43] : List UInt8)) = false := bne_eq_false_iff_eq.mpr c8
        clear c8
        (first | rw [c8b0] | (simp only [i64_w, i32_w]; rw [c8b0]) | skip)
        have H' := zz_ H
        clear H
        go_wp2
        go_meet
        case rel => exact ⟨_, ((a0.toList == ([43] : List UInt8))), (by first | rfl | (simp; done) | (simp [*]; done)), H', ⟨by have := HJ1.out; first | omega | exact Nat.le_refl _⟩, by repeat (first | exact Drawn0.refl _ | apply Drawn0.step)⟩
       ·rw [if_neg c8] at H
        have c8b0 : (a0.toList == ([43] : List UInt8)) = false := beq_eq_false_iff_ne.mpr c8
        have c8b1 : (a0.toList != ([43] : List UInt8)) = true := bne_iff_ne.mpr c8
        (first | rw [c8b0] | (simp only [i64_w, i32_w]; rw [c8b0]) | skip)
        have H' := zz_ H
        clear H
        go_wp2
        go_meet
        case rel => exact ⟨_, ((a0.toList == ([45] : List UInt8))), (by first | rfl | (simp; done) | (simp [*]; done)), H', ⟨by have := HJ1.out; first | omega | exact Nat.le_refl _⟩, by repeat (first | exact Drawn0.refl _ | apply Drawn0.step)⟩
      case rest =>
       clear HC7
       try clear c1
       try clear p2
       try clear c3
       try clear c3b0
       try clear c3b1
       try clear c4
       try clear c5
       try clear c5b0
       try clear c5b1
       try clear c6
       try clear c6b0
       try clear c6b1
       try clear c8
       try clear c8b0
       try clear c8b1
       try clear p2
       obtain ⟨kq, x12_6, rfl, HA, HJ6, ⟨mc6, rfl⟩⟩ := hcut
       cases kq with
       | zero => exact absurd HA.out (by simp [pidginref05_rank.j1])
       | succ kj6 =>
        have H := HA.out
        clear HA
        simp only [pidginref05_rank.j1] at H
        by_cases c9 : x12_6 = true
        ·subst c9
         have H1 : (some (4, 2)) = some (r1, r2) := by rw [if_pos rfl] at H; exact H
         clear H
         have H := H1
         clear H1
         simp only [Option.some.injEq, Prod.mk.injEq] at H
         obtain ⟨rfl, rfl⟩ := H
         go_wp2
         go_ret2
         exact ⟨by first | rfl | (simp; done) | (simp [*]; done), by repeat (first | exact Drawn0.refl _ | apply Drawn0.step)⟩
        ·replace c9 := Bool.eq_false_iff.mpr c9
         subst c9
         have H1 : (if a0.toList = ([42] : List UInt8) then (pidginref05_rank.j2 kj6 a0 (a0.toList == ([42] : List UInt8))) else (if a0.toList = ([47] : List UInt8) then (pidginref05_rank.j2 kj6 a0 (a0.toList == ([47] : List UInt8))) else (if a0.toList = ([77, 79, 68] : List UInt8) then (pidginref05_rank.j2 kj6 a0 (a0.toList == ([77, 79, 68] : List UInt8))) else (if a0.toList = ([83, 72, 76] : List UInt8) then (pidginref05_rank.j2 kj6 a0 (a0.toList == ([83, 72, 76] : List UInt8))) else (pidginref05_rank.j2 kj6 a0 (a0.toList == ([83, 72, 82] : List UInt8))))))) = some (r1, r2) := by rw [if_neg (show ¬ (false = true) by decide)] at H; exact H
         clear H
         have H := H1
         clear H1
         have HC10 := zz_ H
         clear H
         go_upto_if 15 with (fail)
         go_cut [15] (fun v15 wc => ∃ (kq : Nat) (x15_9 : Bool), v15 = .bool x15_9 ∧ Aside0 (pidginref05_rank.j2 kq a0 x15_9 = some (r1, r2)) ∧ Aside0 (kq ≤ kj6) ∧ Drawn0 w wc)
         case first =>
          have H := HC10.out
          clear HC10
          by_cases c11 : a0.toList = ([42] : List UInt8)
          ·rw [if_pos c11] at H
           have c11b0 : (a0.toList == ([42] : List UInt8)) = true := beq_iff_eq.mpr c11
           have c11b1 : (a0.toList != ([42] : List UInt8)) = false := bne_eq_false_iff_eq.mpr c11
           clear c11
           (first | rw [c11b0] | (simp only [i64_w, i32_w]; rw [c11b0]) | skip)
           have H' := zz_ H
           clear H
           go_wp2
           go_meet
           case rel => exact ⟨_, ((a0.toList == ([42] : List UInt8))), (by first | rfl | (simp; done) | (simp [*]; done)), H', ⟨by have := HJ1.out; have := HJ6.out; first | omega | exact Nat.le_refl _⟩, by repeat (first | exact Drawn0.refl _ | apply Drawn0.step)⟩
          ·rw [if_neg c11] at H
           have c11b0 : (a0.toList == ([42] : List UInt8)) = false := beq_eq_false_iff_ne.mpr c11
           have c11b1 : (a0.toList != ([42] : List UInt8)) = true := bne_iff_ne.mpr c11
           (first | rw [c11b0] | (simp only [i64_w, i32_w]; rw [c11b0]) | skip)
           by_cases c12 : a0.toList = ([47] : List UInt8)
           ·rw [if_pos c12] at H
            have c12b0 : (a0.toList == ([47] : List UInt8)) = true := beq_iff_eq.mpr c12
            have c12b1 : (a0.toList != ([47] : List UInt8)) = false := bne_eq_false_iff_eq.mpr c12
            clear c12
            have H' := zz_ H
            clear H
            go_wp2
            go_meet
            case rel => exact ⟨_, ((a0.toList == ([47] : List UInt8))), (by first | rfl | (simp; done) | (simp [*]; done)), H', ⟨by have := HJ1.out; have := HJ6.out; first | omega | exact Nat.le_refl _⟩, by repeat (first | exact Drawn0.refl _ | apply Drawn0.step)⟩
           ·rw [if_neg c12] at H
            have c12b0 : (a0.toList == ([47] : List UInt8)) = false := beq_eq_false_iff_ne.mpr c12
            have c12b1 : (a0.toList != ([47] : List UInt8)) = true := bne_iff_ne.mpr c12
            by_cases c13 : a0.toList = ([77, 79, 68] : List UInt8)
            ·rw [if_pos c13] at H
             have c13b0 : (a0.toList == ([77, 79, 68] : List UInt8)) = true := beq_iff_eq.mpr c13
             have c13b1 : (a0.toList != ([77, 79, 68] : List UInt8)) = false := bne_eq_false_iff_eq.mpr c13
             clear c13
             have H' := zz_ H
             clear H
             go_wp2
             go_meet
             case rel => exact ⟨_, ((a0.toList == ([77, 79, 68] : List UInt8))), (by first | rfl | (simp; done) | (simp [*]; done)), H', ⟨by have := HJ1.out; have := HJ6.out; first | omega | exact Nat.le_refl _⟩, by repeat (first | exact Drawn0.refl _ | apply Drawn0.step)⟩
            ·rw [if_neg c13] at H
             have c13b0 : (a0.toList == ([77, 79, 68] : List UInt8)) = false := beq_eq_false_iff_ne.mpr c13
             have c13b1 : (a0.toList != ([77, 79, 68] : List UInt8)) = true := bne_iff_ne.mpr c13
             by_cases c14 : a0.toList = ([83, 72, 76] : List UInt8)
             ·rw [if_pos c14] at H
              have c14b0 : (a0.toList == ([83, 72, 76] : List UInt8)) = true := beq_iff_eq.mpr c14
              have c14b1 : (a0.toList != ([83, 72, 76] : List UInt8)) = false := bne_eq_false_iff_eq.mpr c14
              clear c14
              have H' := zz_ H
              clear H
              go_wp2
              go_meet
              case rel => exact ⟨_, ((a0.toList == ([83, 72, 76] : List UInt8))), (by first | rfl | (simp; done) | (simp [*]; done)), H', ⟨by have := HJ1.out; have := HJ6.out; first | omega | exact Nat.le_refl _⟩, by repeat (first | exact Drawn0.refl _ | apply Drawn0.step)⟩
             ·rw [if_neg c14] at H
              have c14b0 : (a0.toList == ([83, 72, 76] : List UInt8)) = false := beq_eq_false_iff_ne.mpr c14
              have c14b1 : (a0.toList != ([83, 72, 76] : List UInt8)) = true := bne_iff_ne.mpr c14
              have H' := zz_ H
              clear H
              go_wp2
              go_meet
              case rel => exact ⟨_, ((a0.toList == ([83, 72, 82] : List UInt8))), (by first | rfl | (simp; done) | (simp [*]; done)), H', ⟨by have := HJ1.out; have := HJ6.out; first | omega | exact Nat.le_refl _⟩, by repeat (first | exact Drawn0.refl _ | apply Drawn0.step)⟩
         case rest =>
          clear HC10
          try clear c1
          try clear p2
          try clear c3
          try clear c3b0
          try clear c3b1
          try clear c4
          try clear c5
          try clear c5b0
          try clear c5b1
          try clear c6
          try clear c6b0
          try clear c6b1
          try clear c8
          try clear c8b0
          try clear c8b1
          try clear c9
          try clear c11
          try clear c11b0
          try clear c11b1
          try clear c12
          try clear c12b0
          try clear c12b1
          try clear c13
          try clear c13b0
          try clear c13b1
          try clear c14
          try clear c14b0
          try clear c14b1
          try clear p2
          obtain ⟨kq, x15_9, rfl, HA, HJ9, ⟨mc9, rfl⟩⟩ := hcut
          cases kq with
          | zero => exact absurd HA.out (by simp [pidginref05_rank.j2])
          | succ kj9 =>
           have H := HA.out
           clear HA
           simp only [pidginref05_rank.j2] at H
           by_cases c15 : x15_9 = true
           ·subst c15
            have H1 : (some (5, 2)) = some (r1, r2) := by rw [if_pos rfl] at H; exact H
            clear H
            have H := H1
            clear H1
            simp only [Option.some.injEq, Prod.mk.injEq] at H
            obtain ⟨rfl, rfl⟩ := H
            go_wp2
            go_ret2
            exact ⟨by first | rfl | (simp; done) | (simp [*]; done), by repeat (first | exact Drawn0.refl _ | apply Drawn0.step)⟩
           ·replace c15 := Bool.eq_false_iff.mpr c15
            subst c15
            have H1 : (if a0.toList = ([78, 69, 71] : List UInt8) then (some (6, 1)) else (if a0.toList = ([35] : List UInt8) then (some (7, 0)) else (if a0.toList = ([110] : List UInt8) then (some (7, 0)) else (if a0.toList = ([36] : List UInt8) then (some (7, 0)) else (some (0, 0)))))) = some (r1, r2) := by rw [if_neg (show ¬ (false = true) by decide)] at H; exact H
            clear H
            have H := H1
            clear H1
            by_cases c16 : a0.toList = ([78, 69, 71] : List UInt8)
            ·rw [if_pos c16] at H
             have c16b0 : (a0.toList == ([78, 69, 71] : List UInt8)) = true := beq_iff_eq.mpr c16
             have c16b1 : (a0.toList != ([78, 69, 71] : List UInt8)) = false := bne_eq_false_iff_eq.mpr c16
             clear c16
             simp only [Option.some.injEq, Prod.mk.injEq] at H
             obtain ⟨rfl, rfl⟩ := H
             go_wp2
             go_ret2
             exact ⟨by first | rfl | (simp; done) | (simp [*]; done), by repeat (first | exact Drawn0.refl _ | apply Drawn0.step)⟩
            ·rw [if_neg c16] at H
             have c16b0 : (a0.toList == ([78, 69, 71] : List UInt8)) = false := beq_eq_false_iff_ne.mpr c16
             have c16b1 : (a0.toList != ([78, 69, 71] : List UInt8)) = true := bne_iff_ne.mpr c16
             by_cases c17 : a0.toList = ([35] : List UInt8)
             ·rw [if_pos c17] at H
              have c17b0 : (a0.toList == ([35] : List UInt8)) = true := beq_iff_eq.mpr c17
              have c17b1 : (a0.toList != ([35] : List UInt8)) = false := bne_eq_false_iff_eq.mpr c17
              clear c17
              simp only [Option.some.injEq, Prod.mk.injEq] at H
              obtain ⟨rfl, rfl⟩ := H
              go_wp2
              go_ret2
              exact ⟨by first | rfl | (simp; done) | (simp [*]; done), by repeat (first | exact Drawn0.refl _ | apply Drawn0.step)⟩
             ·rw [if_neg c17] at H
              have c17b0 : (a0.toList == ([35] : List UInt8)) = false := beq_eq_false_iff_ne.mpr c17
              have c17b1 : (a0.toList != ([35] : List UInt8)) = true := bne_iff_ne.mpr c17
              by_cases c18 : a0.toList = ([110] : List UInt8)
              ·rw [if_pos c18] at H
               have c18b0 : (a0.toList == ([110] : List UInt8)) = true := beq_iff_eq.mpr c18
               have c18b1 : (a0.toList != ([110] : List UInt8)) = false := bne_eq_false_iff_eq.mpr c18
               clear c18
               simp only [Option.some.injEq, Prod.mk.injEq] at H
               obtain ⟨rfl, rfl⟩ := H
               go_wp2
               go_ret2
               exact ⟨by first | rfl | (simp; done) | (simp [*]; done), by repeat (first | exact Drawn0.refl _ | apply Drawn0.step)⟩
              ·rw [if_neg c18] at H
               have c18b0 : (a0.toList == ([110] : List UInt8)) = false := beq_eq_false_iff_ne.mpr c18
               have c18b1 : (a0.toList != ([110] : List UInt8)) = true := bne_iff_ne.mpr c18
               by_cases c19 : a0.toList = ([36] : List UInt8)
               ·rw [if_pos c19] at H
                have c19b0 : (a0.toList == ([36] : List UInt8)) = true := beq_iff_eq.mpr c19
                have c19b1 : (a0.toList != ([36] : List UInt8)) = false := bne_eq_false_iff_eq.mpr c19
                clear c19
                simp only [Option.some.injEq, Prod.mk.injEq] at H
                obtain ⟨rfl, rfl⟩ := H
                go_wp2
                go_ret2
                exact ⟨by first | rfl | (simp; done) | (simp [*]; done), by repeat (first | exact Drawn0.refl _ | apply Drawn0.step)⟩
               ·rw [if_neg c19] at H
                have c19b0 : (a0.toList == ([36] : List UInt8)) = false := beq_eq_false_iff_ne.mpr c19
                have c19b1 : (a0.toList != ([36] : List UInt8)) = true := bne_iff_ne.mpr c19
                simp only [Option.some.injEq, Prod.mk.injEq] at H
                obtain ⟨rfl, rfl⟩ := H
                go_wp2
                go_ret2
                exact ⟨by first | rfl | (simp; done) | (simp [*]; done), by repeat (first | exact Drawn0.refl _ | apply Drawn0.step)⟩
def pidginref05_Word.f (a0 : ByteArray) : Option (Bool) := if a0.toList = ([79, 82] : List UInt8) then (some true) else (if a0.toList = ([88, 79, 82] : List UInt8) then (some true) else (if a0.toList = ([65, 78, 68] : List UInt8) then (some true) else (if a0.toList = ([78, 79, 84] : List UInt8) then (some true) else (if a0.toList = ([77, 79, 68] : List UInt8) then (some true) else (if a0.toList = ([83, 72, 76] : List UInt8) then (some true) else (some (a0.toList == ([83, 72, 82] : List UInt8))))))))
set_option maxHeartbeats 8000000 in
set_option maxRecDepth 100000 in
theorem pidginref05_Word.calls (a0 : ByteArray) (r : Bool) (w : World) (h : pidginref05_Word.f a0 = some r) :
  Calls Tryd.prog 149 #[.string a0] w fun e w' => e = .returned (.bool r) ∧ Drawn0 w w' := by
 have H : (if a0.toList = ([79, 82] : List UInt8) then (some true) else (if a0.toList = ([88, 79, 82] : List UInt8) then (some true) else (if a0.toList = ([65, 78, 68] : List UInt8) then (some true) else (if a0.toList = ([78, 79, 84] : List UInt8) then (some true) else (if a0.toList = ([77, 79, 68] : List UInt8) then (some true) else (if a0.toList = ([83, 72, 76] : List UInt8) then (some true) else (some (a0.toList == ([83, 72, 82] : List UInt8))))))))) = some r := h
 clear h
 by_cases c2 : a0.toList = ([79, 82] : List UInt8)
 ·rw [if_pos c2] at H
  have c2b0 : (a0.toList == ([79, 82] : List UInt8)) = true := beq_iff_eq.mpr c2
  have c2b1 : (a0.toList != ([79, 82] : List UInt8)) = false := bne_eq_false_iff_eq.mpr c2
  clear c2
  obtain rfl := Option.some.inj H
  go_enter Tryd.func149, Tryd.ntmps149
  go_wp2
  go_ret
  exact ⟨by first | rfl | (simp; done) | (simp [*]; done), by repeat (first | exact Drawn0.refl _ | apply Drawn0.step)⟩
 ·rw [if_neg c2] at H
  have c2b0 : (a0.toList == ([79, 82] : List UInt8)) = false := beq_eq_false_iff_ne.mpr c2
  have c2b1 : (a0.toList != ([79, 82] : List UInt8)) = true := bne_iff_ne.mpr c2
  by_cases c3 : a0.toList = ([88, 79, 82] : List UInt8)
  ·rw [if_pos c3] at H
   have c3b0 : (a0.toList == ([88, 79, 82] : List UInt8)) = true := beq_iff_eq.mpr c3
   have c3b1 : (a0.toList != ([88, 79, 82] : List UInt8)) = false := bne_eq_false_iff_eq.mpr c3
   clear c3
   obtain rfl := Option.some.inj H
   go_enter Tryd.func149, Tryd.ntmps149
   go_wp2
   go_ret
   exact ⟨by first | rfl | (simp; done) | (simp [*]; done), by repeat (first | exact Drawn0.refl _ | apply Drawn0.step)⟩
  ·rw [if_neg c3] at H
   have c3b0 : (a0.toList == ([88, 79, 82] : List UInt8)) = false := beq_eq_false_iff_ne.mpr c3
   have c3b1 : (a0.toList != ([88, 79, 82] : List UInt8)) = true := bne_iff_ne.mpr c3
   by_cases c4 : a0.toList = ([65, 78, 68] : List UInt8)
   ·rw [if_pos c4] at H
    have c4b0 : (a0.toList == ([65, 78, 68] : List UInt8)) = true := beq_iff_eq.mpr c4
    have c4b1 : (a0.toList != ([65, 78, 68] : List UInt8)) = false := bne_eq_false_iff_eq.mpr c4
    clear c4
    obtain rfl := Option.some.inj H
    go_enter Tryd.func149, Tryd.ntmps149
    go_wp2
    go_ret
    exact ⟨by first | rfl | (simp; done) | (simp [*]; done), by repeat (first | exact Drawn0.refl _ | apply Drawn0.step)⟩
   ·rw [if_neg c4] at H
    have c4b0 : (a0.toList == ([65, 78, 68] : List UInt8)) = false := beq_eq_false_iff_ne.mpr c4
    have c4b1 : (a0.toList != ([65, 78, 68] : List UInt8)) = true := bne_iff_ne.mpr c4
    by_cases c5 : a0.toList = ([78, 79, 84] : List UInt8)
    ·rw [if_pos c5] at H
     have c5b0 : (a0.toList == ([78, 79, 84] : List UInt8)) = true := beq_iff_eq.mpr c5
     have c5b1 : (a0.toList != ([78, 79, 84] : List UInt8)) = false := bne_eq_false_iff_eq.mpr c5
     clear c5
     obtain rfl := Option.some.inj H
     go_enter Tryd.func149, Tryd.ntmps149
     go_wp2
     go_ret
     exact ⟨by first | rfl | (simp; done) | (simp [*]; done), by repeat (first | exact Drawn0.refl _ | apply Drawn0.step)⟩
    ·rw [if_neg c5] at H
     have c5b0 : (a0.toList == ([78, 79, 84] : List UInt8)) = false := beq_eq_false_iff_ne.mpr c5
     have c5b1 : (a0.toList != ([78, 79, 84] : List UInt8)) = true := bne_iff_ne.mpr c5
     by_cases c6 : a0.toList = ([77, 79, 68] : List UInt8)
     ·rw [if_pos c6] at H
      have c6b0 : (a0.toList == ([77, 79, 68] : List UInt8)) = true := beq_iff_eq.mpr c6
      have c6b1 : (a0.toList != ([77, 79, 68] : List UInt8)) = false := bne_eq_false_iff_eq.mpr c6
      clear c6
      obtain rfl := Option.some.inj H
      go_enter Tryd.func149, Tryd.ntmps149
      go_wp2
      go_ret
      exact ⟨by first | rfl | (simp; done) | (simp [*]; done), by repeat (first | exact Drawn0.refl _ | apply Drawn0.step)⟩
     ·rw [if_neg c6] at H
      have c6b0 : (a0.toList == ([77, 79, 68] : List UInt8)) = false := beq_eq_false_iff_ne.mpr c6
      have c6b1 : (a0.toList != ([77, 79, 68] : List UInt8)) = true := bne_iff_ne.mpr c6
      by_cases c7 : a0.toList = ([83, 72, 76] : List UInt8)
      ·rw [if_pos c7] at H
       have c7b0 : (a0.toList == ([83, 72, 76] : List UInt8)) = true := beq_iff_eq.mpr c7
       have c7b1 : (a0.toList != ([83, 72, 76] : List UInt8)) = false := bne_eq_false_iff_eq.mpr c7
       clear c7
       obtain rfl := Option.some.inj H
       go_enter Tryd.func149, Tryd.ntmps149
       go_wp2
       go_ret
       exact ⟨by first | rfl | (simp; done) | (simp [*]; done), by repeat (first | exact Drawn0.refl _ | apply Drawn0.step)⟩
      ·rw [if_neg c7] at H
       have c7b0 : (a0.toList == ([83, 72, 76] : List UInt8)) = false := beq_eq_false_iff_ne.mpr c7
       have c7b1 : (a0.toList != ([83, 72, 76] : List UInt8)) = true := bne_iff_ne.mpr c7
       obtain rfl := Option.some.inj H
       go_enter Tryd.func149, Tryd.ntmps149
       go_wp2
       go_ret
       exact ⟨by first | rfl | (simp; done) | (simp [*]; done), by repeat (first | exact Drawn0.refl _ | apply Drawn0.step)⟩
end Go.Proofs.YtejhagejjogbaaaDoor.Qa
