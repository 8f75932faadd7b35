import Derived.Test.YtejhagejjogbaaaDoorKdM6
import Derived.Test.YtejhagejjogbaaaDoorKdM7
import Derived.Test.YtejhagejjogbaaaDoorKdM2
import Derived.Test.YtejhagejjogbaaaDoorKdM3
import Derived.Test.YtejhagejjogbaaaDoorKdM4
import Derived.Test.YtejhagejjogbaaaDoorKdM5
import Derived.Test.YtejhagejjogbaaaDoorProg
import Derived.Below
import Derived.Deep.Draws
import Derived.Deep.AppendLies
import Derived.Maps.AppendAt
import Derived.OwnWalk
import Derived.Laws.BytesArg
import Derived.Laws.MakeOwn
import Derived.Laws.OwnMore
import Derived.Deep.OwnRows
import Derived.Tactics
import Derived.Lib.ConvBytes
import Derived.Laws.Slices
import Derived.WalkKit
import Derived.KernelRfl
import Derived.RowKit3
import Derived.Deep.LoopGhost
import Derived.Deep.QuietTactic
import Derived.BigQuiet
import Derived.WideLaws
import Derived.Deep.DeepCutAuto
import Derived.Deep.CutBlock
import Derived.Deep.RegionHeld3
import Derived.Laws.Rows
import Derived.Lib.AppendStr
import Derived.ArgAppend
import Derived.Laws.IdiomCopy
import Derived.OrdersHeld
import Derived.Laws.BitsLemmas
import Derived.RowKit
import Derived.Test.YtejhagejjogbaaaDoorKdM1
section
namespace Go.Proofs.YtejhagejjogbaaaDoor.Qa
open Go.RowKit Go.Proofs.YtejhagejjogbaaaDoorW.PrintWords Go.Proofs.YtejhagejjogbaaaDoorW.PrintLast Go.Proofs.YtejhagejjogbaaaDoorW.PrintMore Go.Proofs.YtejhagejjogbaaaDoor.Given Go.Proofs.YtejhagejjogbaaaDoor.TokSpan Go.Proofs.YtejhagejjogbaaaDoor.TokJoin Go.Proofs.YtejhagejjogbaaaDoor.TokRep Go.Proofs.YtejhagejjogbaaaDoor.Pn Go.Proofs.YtejhagejjogbaaaDoor.Pa Go.Proofs.YtejhagejjogbaaaDoor.Pb Go.Proofs.YtejhagejjogbaaaDoor.Pc Go.Proofs.YtejhagejjogbaaaDoor.Pd Go.Proofs.YtejhagejjogbaaaDoor.Pe
attribute [local go_sem] max2_int min2_int max_two min_two max_three min_three max_four min_four   -- for this text's walks alone
set_option linter.unusedVariables false
set_option linter.unusedSimpArgs false
def IsS136 (w0 W : World) (g : Nat) (f0 : List (S41)) (f1 : Int) (f2 : Int) : Prop := ∃ A0 c0, W.heap[g]? = some (.cells #[.slice A0 f0.length c0, .int .i64 f1, .int .i64 f2] 136 (0, 0)) ∧ w0.heap.size ≤ g ∧ Kd.C k41 w0 A0 f0.length f0
theorem IsS136.grown {w0 W : World} {g : Nat} {f0 : List (S41)} {f1 : Int} {f2 : Int} {W1 : World} {row : Option Nat} (h : IsS136 w0 W g f0 f1 f2) (hw : W.grownBy W1 row) (hne : some g ≠ row) : IsS136 w0 W1 g f0 f1 f2 := by
 obtain ⟨A0, c0, hb, hg, hr0⟩ := h
 exact ⟨A0, c0, blk_grown hb hw hne, hg, hr0⟩
theorem IsS136.fresh {w0 W : World} {g : Nat} {f0 : List (S41)} {f1 : Int} {f2 : Int} (h : IsS136 w0 W g f0 f1 f2) : ∀ k, W.heap.size ≤ k → k ≠ g := by
 obtain ⟨A0, c0, hb, hg, hr0⟩ := h
 exact Kd.freshB hb
theorem IsS136.kept {w0 W : World} {g : Nat} {f0 : List (S41)} {f1 : Int} {f2 : Int} {W1 : World} {S : Nat → Prop} (h : IsS136 w0 W g f0 f1 f2) (hk : Kept W W1 S) (hne : ¬ S g) : IsS136 w0 W1 g f0 f1 f2 := by
 obtain ⟨A0, c0, hb, hg, hr0⟩ := h
 exact ⟨A0, c0, blk_kept hb hk hne, hg, hr0⟩
theorem IsS136.below {w0 W : World} {g : Nat} {f0 : List (S41)} {f1 : Int} {f2 : Int} {W1 : World} (h : IsS136 w0 W g f0 f1 f2) (hw : Below W.heap.size W W1) : IsS136 w0 W1 g f0 f1 f2 := h.grown (grown_of_below hw none) (by simp)
theorem IsS136.alloc {w0 W : World} {g : Nat} {f0 : List (S41)} {f1 : Int} {f2 : Int} (h : IsS136 w0 W g f0 f1 f2) (o : Obj) : IsS136 w0 (W.alloc o) g f0 f1 f2 := h.below (below_alloc (Below.refl _ _) o)
theorem IsS136.drewN {w0 W : World} {g : Nat} {f0 : List (S41)} {f1 : Int} {f2 : Int} (h : IsS136 w0 W g f0 f1 f2) (m : Nat) : IsS136 w0 (W.drewN m) g f0 f1 f2 := h
theorem IsS136.drew {w0 W : World} {g : Nat} {f0 : List (S41)} {f1 : Int} {f2 : Int} (h : IsS136 w0 W g f0 f1 f2) : IsS136 w0 W.drew g f0 f1 f2 := h
theorem IsS136.at_ {w0 W : World} {g : Nat} {f0 : List (S41)} {f1 : Int} {f2 : Int} {w' : World} {m : Nat} (hq : W.drewN m = w') (h : IsS136 w0 W g f0 f1 f2) : IsS136 w0 w' g f0 f1 f2 := by subst hq; exact IsS136.drewN h m
theorem IsS136.apart {w0 W : World} {g : Nat} {f0 : List (S41)} {f1 : Int} {f2 : Int} {α : Type} {d : Kd α} {e : Nat} {base : Nat} {ok : Nat → Prop} {v : Value} {xs : List α} (h : IsS136 w0 W g f0 f1 f2) (ho : d.R e W base ok v xs) (ht : ∀ q, q ∈ e :: d.E → q ≠ 136) : d.R e W base (fun k => ok k ∧ k ≠ g) v xs := by
 obtain ⟨A0, c0, hb, hg, hr0⟩ := h
 exact Kd.R_types ho hb ht
theorem IsS136.own_ne {w0 W : World} {g : Nat} {f0 : List (S41)} {f1 : Int} {f2 : Int} {α : Type} {d : Kd α} {e : Nat} {base : Nat} {ok : Nat → Prop} {v : Value} {xs : List α} (h : IsS136 w0 W g f0 f1 f2) (ho : d.R e W base ok v xs) (ht : e ≠ 136) : some g ≠ v.ownBlock := by
 obtain ⟨A0, c0, hb, hg, hr0⟩ := h
 exact Kd.R_ne ho hb ht
theorem IsS136.lt {w0 W : World} {g : Nat} {f0 : List (S41)} {f1 : Int} {f2 : Int} (h : IsS136 w0 W g f0 f1 f2) : g < W.heap.size := by
 obtain ⟨A0, c0, hb, hg, hr0⟩ := h
 exact blk_lt hb
theorem IsS136.ge {w0 W : World} {g : Nat} {f0 : List (S41)} {f1 : Int} {f2 : Int} (h : IsS136 w0 W g f0 f1 f2) : w0.heap.size ≤ g := by
 obtain ⟨A0, c0, hb, hg, hr0⟩ := h
 exact hg
theorem IsS136.far {w0 W : World} {g : Nat} {f0 : List (S41)} {f1 : Int} {f2 : Int} {p : Addr} (h : IsS136 w0 W g f0 f1 f2) (hne : g ≠ p.block) (u : Value) : IsS136 w0 (W.setCell p u) g f0 f1 f2 := by
 obtain ⟨A0, c0, hb, hg, hr0⟩ := h
 exact ⟨A0, c0, blk_far hb hne u, hg, hr0⟩
theorem cellS136_0 {W : World} {g : Nat} {A0 : Option Addr} {c0 : Nat} {f0 : List (S41)} {f1 : Int} {f2 : Int} (h : W.heap[g]? = some (.cells #[.slice A0 f0.length c0, .int .i64 f1, .int .i64 f2] 136 (0, 0))) : W.cell? ⟨g, 0, none⟩ = some (.slice A0 f0.length c0) := (blk_cell h 0).trans rfl
theorem IsS136.new (w0 W : World) (A0 : Option Addr) (c0 : Nat) (f0 : List (S41)) (f1 : Int) (f2 : Int) (hB : Below w0.heap.size w0 W) (hr0 : Kd.C k41 w0 A0 f0.length f0) : IsS136 w0 (W.alloc (.cells #[.slice A0 f0.length c0, .int .i64 f1, .int .i64 f2] 136)) W.heap.size f0 f1 f2 := ⟨A0, c0, by simpa using heap_alloc_new W _, hB.size, hr0⟩
mutual
def expr_deep.l0 : Nat → Int → List (S50) → Int → Int → Option (Int)
 | 0, _, _, _, _ => none
 | k + 1, x2, x6, x7, x8 => if x8 < x7 then (if 0 ≤ x8 then (if x8 < (x6.length : Int) then ((expr_deep.f k ((rd_T50 x6 x8).f0) ((rd_T50 x6 x8).f1) ((rd_T50 x6 x8).f2) ((rd_T50 x6 x8).f3)).bind fun t191 => (expr_deep.l0 k (mx x2 t191) x6 x7 (wrap64 (x8 + 1)))) else (none)) else (none)) else (some (wrap64 (x2 + 1)))
def expr_deep.f : Nat → ByteArray → Int → ByteArray → List (S50) → Option (Int)
 | 0, _, _, _, _ => none
 | k + 1, a0_0, a0_1, a0_2, l0_3 => expr_deep.l0 k 0 l0_3 (l0_3.length : Int) 0
end
set_option maxHeartbeats 8000000 in
set_option maxRecDepth 100000 in
theorem expr_deep.calls (k : Nat) : ∀ (a0_0 : ByteArray) (a0_1 : Int) (a0_2 : ByteArray) (A0_3 : Option Addr) (c0_3 : Nat) (l0_3 : List (S50)) (r : Int) (w : World) (hr0_3 : Kd.C k50 w A0_3 l0_3.length l0_3) (hc0_3 : l0_3.length ≤ c0_3) (h : expr_deep.f k a0_0 a0_1 a0_2 l0_3 = some r),
  Calls Tryd.prog 126 #[.agg #[.string a0_0, .int .u16 a0_1, .string a0_2, .slice A0_3 l0_3.length c0_3]] w fun e w' => e = .returned (.int .i64 r) ∧ Below w.heap.size w w' := by
 induction k using Nat.strongRecOn with
 | _ k ih =>
 intro a0_0 a0_1 a0_2 A0_3 c0_3 l0_3 r w hr0_3 hc0_3 h
 cases k with
 | zero => exact absurd h (by simp [expr_deep.f])
 | succ k =>
 simp only [expr_deep.f] at h
 have hu50 := Tryd.underlying50
 have HR0_3 := Aside0.mk hr0_3
 have HC0_3 := Aside0.mk hc0_3
 clear hr0_3 hc0_3
 have HB := Aside0.mk (Below.refl w.heap.size w)
 have H : (expr_deep.l0 k 0 l0_3 (l0_3.length : Int) 0) = some r := h
 clear h
 have H' := Aside0.mk H
 clear H
 go_enter Tryd.func126, Tryd.ntmps126
 go_wp2_with (first | ((with_reducible refine gate_dst (N := 1) rfl ?_); refine box_event ?hg (N := 1) ?hd (cs := #[.string a0_0, .int .u16 a0_1, .string a0_2, .slice A0_3 l0_3.length c0_3]) (t := 50) ?hr ?_; (case hd => rfl); (case hg => rfl); (case hr => first | (go_simp; done) | (go_simp; rfl)); intro gb188 hg w2 hbox hb; have n0_ := Aside0.mk (below_step (by repeat (first | (with_reducible first | exact HB.out | apply below_alloc | apply pw_below_drewN | apply below_drew1) | exact HB.out)) hb); have n1_ := Aside0.mk (hbox); have n2_ := Aside0.mk ((by rw [hg]; exact (below_size (by repeat (first | (with_reducible first | exact HB.out | apply below_alloc | apply pw_below_drewN | apply below_drew1) | exact HB.out))) : w.heap.size ≤ gb188)); have n3_ := Aside0.mk ((by rw [hg]; exact (below_size (by repeat (first | (with_reducible first | exact HB.out | apply below_alloc | apply pw_below_drewN | apply below_drew1) | exact HB.out))) : w.heap.size ≤ gb188)); clear HB; have HB := n0_; have BK188 := n1_; have GW188 := n2_; have GE188 := n3_; clear n0_ n1_ n2_ n3_; clear hb hbox hg; have hcz3_0 : w2.cell? ⟨gb188, 0, none⟩ = some (.string a0_0) := (blk_cell BK188.out 0).trans rfl; have hcz3_1 : w2.cell? ⟨gb188, 1, none⟩ = some (.int .u16 a0_1) := (blk_cell BK188.out 1).trans rfl; have hcz3_2 : w2.cell? ⟨gb188, 2, none⟩ = some (.string a0_2) := (blk_cell BK188.out 2).trans rfl; have hcz3_3 : w2.cell? ⟨gb188, 3, none⟩ = some (.slice A0_3 l0_3.length c0_3) := (blk_cell BK188.out 3).trans rfl; have hfz3_0 := blk_frozen BK188.out 0; have hfz3_1 := blk_frozen BK188.out 1; have hfz3_2 := blk_frozen BK188.out 2; have hfz3_3 := blk_frozen BK188.out 3))
 first | go_loopg [2, 8] k (fun kq v2 v8 w' => ∃ (x2_1 : Int) (x8_1 : Int), v2 = .int .i64 x2_1 ∧ v8 = .int .i64 x8_1 ∧ Aside0 (expr_deep.l0 kq x2_1 l0_3 (l0_3.length : Int) x8_1 = some r) ∧ Aside0 (kq ≤ k) ∧ Aside0 (w'.heap[gb188]? = some (.cells #[.string a0_0, .int .u16 a0_1, .string a0_2, (.slice A0_3 l0_3.length c0_3)] 50 (0, 0))) ∧ Aside0 (Below w.heap.size w w')) | (go_simp; go_loopg [2, 8] k (fun kq v2 v8 w' => ∃ (x2_1 : Int) (x8_1 : Int), v2 = .int .i64 x2_1 ∧ v8 = .int .i64 x8_1 ∧ Aside0 (expr_deep.l0 kq x2_1 l0_3 (l0_3.length : Int) x8_1 = some r) ∧ Aside0 (kq ≤ k) ∧ Aside0 (w'.heap[gb188]? = some (.cells #[.string a0_0, .int .u16 a0_1, .string a0_2, (.slice A0_3 l0_3.length c0_3)] 50 (0, 0))) ∧ Aside0 (Below w.heap.size w w')))
 case atStart => exact ⟨(0), (0), (by first | rfl | (simp; done) | (simp [*]; done)), (by first | rfl | (simp; done) | (simp [*]; done)), H', ⟨Nat.le_refl _⟩, ⟨by (with_reducible repeat (first | refine blk_drewN ?_ _ | refine blk_drew ?_ | refine blk_alloc ?_ _)); exact BK188.out⟩, ⟨by repeat (first | (with_reducible first | exact HB.out | apply below_alloc | apply pw_below_drewN | apply below_drew1 | refine below_set ?_ GE188.out) | exact HB.out)⟩⟩
 case round =>
  clear H'
  try clear c1
  try clear p2
  try clear hcz3_0
  try clear hcz3_1
  try clear hcz3_2
  try clear hcz3_3
  try clear hfz3_0
  try clear hfz3_1
  try clear hfz3_2
  try clear hfz3_3
  obtain ⟨x2_1, x8_1, rfl, rfl, HA, HK1, BK188, HB⟩ := hrel
  cases gk with
  | zero => exact absurd HA.out (by simp [expr_deep.l0])
  | succ k1 =>
   have H := HA.out
   clear HA
   simp only [expr_deep.l0] at H
   by_cases c4 : x8_1 < (l0_3.length : Int)
   ·rw [if_pos c4] at H
    have c4b0 : decide (x8_1 < (l0_3.length : Int)) = true := decide_eq_true c4
    clear c4
    by_cases c5 : 0 ≤ x8_1
    ·rw [if_pos c5] at H
     have c5b0 : decide (0 ≤ x8_1) = true := decide_eq_true c5
     clear c5
     by_cases c6 : x8_1 < (l0_3.length : Int)
     ·rw [if_pos c6] at H
      have c6b0 : decide (x8_1 < (l0_3.length : Int)) = true := decide_eq_true c6
      clear c6
      replace H := Option.bind_eq_some_iff.mp H
      obtain ⟨t191, A70, H⟩ := H
      replace H : (expr_deep.l0 k1 (mx x2_1 t191) l0_3 (l0_3.length : Int) (wrap64 (x8_1 + 1))) = some r := H
      have A7 := Aside0.mk A70
      clear A70
      obtain ⟨ji8, hji8⟩ : ∃ j_ : Int, (mx x2_1 t191) = j_ := ⟨_, rfl⟩
      replace H : (expr_deep.l0 k1 ji8 l0_3 (l0_3.length : Int) (wrap64 (x8_1 + 1))) = some r := by first | (rw [hji8] at H; exact H) | (simp only [hji8] at H ⊢; exact H)
      (try rw [hji8] at A7)
      have hji8_ : (if x2_1 < t191 then t191 else x2_1) = ji8 := hji8
      have H' := Aside0.mk H
      clear H
      have p189 : 0 ≤ (x8_1 : Int) := of_decide_eq_true (by first | (with_reducible assumption) | assumption)
      have q189 : x8_1 < (l0_3.length : Int) := of_decide_eq_true (by first | (with_reducible assumption) | assumption)
      obtain ⟨ad189, A189_3, c189_3, e189, hx189_0, hx189_1, hx189_2, hx189_3, hl189_3, hi189_3⟩ := at_T50 HR0_3.out x8_1 p189 q189
      cases e189
      replace hx189_0 := (HB.out.cell (World.block_lt_of_cell? w _ hx189_0)).trans hx189_0
      replace hx189_1 := (HB.out.cell (World.block_lt_of_cell? w _ hx189_1)).trans hx189_1
      replace hx189_2 := (HB.out.cell (World.block_lt_of_cell? w _ hx189_2)).trans hx189_2
      replace hx189_3 := (HB.out.cell (World.block_lt_of_cell? w _ hx189_3)).trans hx189_3
      have HR189_3 := Aside0.mk hi189_3
      have HC189_3 := Aside0.mk hl189_3
      clear hi189_3 hl189_3
      replace p189 := eq_true p189
      replace q189 := eq_true q189
      go_wp2_with (first | ((with_reducible refine gate_dst (N := 4) rfl ?_); refine box_event ?hg (N := 4) ?hd (cs := #[.string (⟨#[]⟩ : ByteArray), .int .u16 0, .string (⟨#[]⟩ : ByteArray), .slice none 0 0]) (t := 50) ?hr ?_; (case hd => rfl); (case hg => rfl); (case hr => first | (go_simp; done) | (go_simp; rfl)); intro gb190 hg w9 hbox hb; have n0_ := Aside0.mk (blk_below (g := gb188) (o := .cells #[.string a0_0, .int .u16 a0_1, .string a0_2, .slice (some ad189) l0_3.length c0_3] 50 (0, 0)) (by (with_reducible repeat (first | refine blk_drewN ?_ _ | refine blk_drew ?_ | refine blk_alloc ?_ _)); exact BK188.out) hb); have n1_ := Aside0.mk (below_step (by repeat (first | (with_reducible first | exact HB.out | apply below_alloc | apply pw_below_drewN | apply below_drew1 | refine below_set ?_ GE188.out) | exact HB.out)) hb); have n2_ := Aside0.mk (hbox); have n3_ := Aside0.mk ((by rw [hg]; exact (below_size (by repeat (first | (with_reducible first | exact HB.out | apply below_alloc | apply pw_below_drewN | apply below_drew1 | refine below_set ?_ GE188.out) | exact HB.out))) : w.heap.size ≤ gb190)); have n4_ := Aside0.mk ((by rw [hg]; exact (below_size (by repeat (first | (with_reducible first | exact HB.out | apply below_alloc | apply pw_below_drewN | apply below_drew1 | refine below_set ?_ GE188.out) | exact HB.out))) : w.heap.size ≤ gb190)); have n5_ := Aside0.mk ((by rw [hg]; exact Nat.ne_of_lt (blk_lt (g := gb188) (o := .cells #[.string a0_0, .int .u16 a0_1, .string a0_2, .slice (some ad189) l0_3.length c0_3] 50 (0, 0)) (by (with_reducible repeat (first | refine blk_drewN ?_ _ | refine blk_drew ?_ | refine blk_alloc ?_ _)); exact BK188.out)) : gb188 ≠ gb190)); have n6_ := Aside0.mk ((by rw [hg]; exact Nat.ne_of_gt (blk_lt (g := gb188) (o := .cells #[.string a0_0, .int .u16 a0_1, .string a0_2, .slice (some ad189) l0_3.length c0_3] 50 (0, 0)) (by (with_reducible repeat (first | refine blk_drewN ?_ _ | refine blk_drew ?_ | refine blk_alloc ?_ _)); exact BK188.out)) : gb190 ≠ gb188)); clear BK188; clear HB; have BK188 := n0_; have HB := n1_; have BK190 := n2_; have GW190 := n3_; have GE190 := n4_; have NB188_190 := n5_; have NB190_188 := n6_; clear n0_ n1_ n2_ n3_ n4_ n5_ n6_; clear hb hbox hg; have hnb10 := NB190_188.out; have hnc10 := NB188_190.out; have hcz11_0 : w9.cell? ⟨gb190, 0, none⟩ = some (.string (⟨#[]⟩ : ByteArray)) := (blk_cell BK190.out 0).trans rfl; have hcz11_1 : w9.cell? ⟨gb190, 1, none⟩ = some (.int .u16 0) := (blk_cell BK190.out 1).trans rfl; have hcz11_2 : w9.cell? ⟨gb190, 2, none⟩ = some (.string (⟨#[]⟩ : ByteArray)) := (blk_cell BK190.out 2).trans rfl; have hcz11_3 : w9.cell? ⟨gb190, 3, none⟩ = some (.slice none 0 0) := (blk_cell BK190.out 3).trans rfl; have hfz11_0 := blk_frozen BK190.out 0; have hfz11_1 := blk_frozen BK190.out 1; have hfz11_2 := blk_frozen BK190.out 2; have hfz11_3 := blk_frozen BK190.out 3) | ((with_reducible refine gate_callee (f := 126) rfl ?_); refine goesL_ (some 14) rfl rfl Tryd.func126 (by kernel_rfl) rfl #[.agg #[.string ((rd_T50 l0_3 x8_1).f0), .int .u16 ((rd_T50 l0_3 x8_1).f1), .string ((rd_T50 l0_3 x8_1).f2), .slice A189_3 ((rd_T50 l0_3 x8_1).f3).length c189_3]] rfl (by (try simp only [List.map_toArray, List.map_cons, List.map_nil]); first | done | rfl | (simp only [List.length_drop, List.length_take]; rfl)) ?_; (with_reducible refine (ih k1 (by have := HK1.out; omega) ((rd_T50 l0_3 x8_1).f0) ((rd_T50 l0_3 x8_1).f1) ((rd_T50 l0_3 x8_1).f2) _ _ ((rd_T50 l0_3 x8_1).f3) t191 _ ?side1 ?side2 A7.out).mono ?_); (case side1 => exact Kd.C_below HR189_3.out (by repeat (first | (with_reducible first | exact HB.out | apply below_alloc | apply pw_below_drewN | apply below_drew1 | refine below_set ?_ GE188.out | refine below_set ?_ GE190.out) | exact HB.out))); (case side2 => exact HC189_3.out); rintro e w12 ⟨rfl, hb⟩; refine ⟨_, rfl, ?_⟩; have n0_ := Aside0.mk (blk_below (g := gb188) (o := .cells #[.string a0_0, .int .u16 a0_1, .string a0_2, .slice (some ad189) l0_3.length c0_3] 50 (0, 0)) (by (with_reducible repeat (first | refine blk_drewN ?_ _ | refine blk_drew ?_ | refine blk_alloc ?_ _)); refine blk_far ?_ NB188_190.out _; (with_reducible repeat (first | refine blk_drewN ?_ _ | refine blk_drew ?_ | refine blk_alloc ?_ _)); refine blk_far ?_ NB188_190.out _; (with_reducible repeat (first | refine blk_drewN ?_ _ | refine blk_drew ?_ | refine blk_alloc ?_ _)); refine blk_far ?_ NB188_190.out _; (with_reducible repeat (first | refine blk_drewN ?_ _ | refine blk_drew ?_ | refine blk_alloc ?_ _)); refine blk_far ?_ NB188_190.out _; (with_reducible repeat (first | refine blk_drewN ?_ _ | refine blk_drew ?_ | refine blk_alloc ?_ _)); exact BK188.out) hb); have n1_ := Aside0.mk (blk_below (g := gb190) (o := .cells #[.string ((rd_T50 l0_3 x8_1).f0), .int .u16 ((rd_T50 l0_3 x8_1).f1), .string ((rd_T50 l0_3 x8_1).f2), .slice A189_3 ((rd_T50 l0_3 x8_1).f3).length c189_3] 50 (0, 0)) (by (with_reducible repeat (first | refine blk_drewN ?_ _ | refine blk_drew ?_ | refine blk_alloc ?_ _)); refine blk_put (cs := #[.string ((rd_T50 l0_3 x8_1).f0), .int .u16 ((rd_T50 l0_3 x8_1).f1), .string ((rd_T50 l0_3 x8_1).f2), .slice none 0 0]) ?_ 3 _ rfl; (with_reducible repeat (first | refine blk_drewN ?_ _ | refine blk_drew ?_ | refine blk_alloc ?_ _)); refine blk_put (cs := #[.string ((rd_T50 l0_3 x8_1).f0), .int .u16 ((rd_T50 l0_3 x8_1).f1), .string (⟨#[]⟩ : ByteArray), .slice none 0 0]) ?_ 2 _ rfl; (with_reducible repeat (first | refine blk_drewN ?_ _ | refine blk_drew ?_ | refine blk_alloc ?_ _)); refine blk_put (cs := #[.string ((rd_T50 l0_3 x8_1).f0), .int .u16 0, .string (⟨#[]⟩ : ByteArray), .slice none 0 0]) ?_ 1 _ rfl; (with_reducible repeat (first | refine blk_drewN ?_ _ | refine blk_drew ?_ | refine blk_alloc ?_ _)); refine blk_put (cs := #[.string (⟨#[]⟩ : ByteArray), .int .u16 0, .string (⟨#[]⟩ : ByteArray), .slice none 0 0]) ?_ 0 _ rfl; (with_reducible repeat (first | refine blk_drewN ?_ _ | refine blk_drew ?_ | refine blk_alloc ?_ _)); exact BK190.out) hb); have n2_ := Aside0.mk (below_step (by repeat (first | (with_reducible first | exact HB.out | apply below_alloc | apply pw_below_drewN | apply below_drew1 | refine below_set ?_ GE188.out | refine below_set ?_ GE190.out) | exact HB.out)) hb); clear BK188; clear BK190; clear HB; have BK188 := n0_; have BK190 := n1_; have HB := n2_; clear n0_ n1_ n2_; (try clear hb)))
      go_roundg k1
      case measure => have := HK1.out; omega
      case rel => exact ⟨(ji8), (wrap64 (x8_1 + 1)), (by first | rfl | (simp; done) | (simp only [← hji8] <;> (first | rfl | (simp; done) | (simp [*]; done))) | (simp [*]; done)), (by first | rfl | (simp; done) | (simp [*]; done)), H', ⟨by have := HK1.out; omega⟩, ⟨by (with_reducible repeat (first | refine blk_drewN ?_ _ | refine blk_drew ?_ | refine blk_alloc ?_ _)); exact BK188.out⟩, ⟨by repeat (first | (with_reducible first | exact HB.out | apply below_alloc | apply pw_below_drewN | apply below_drew1 | refine below_set ?_ GE188.out | refine below_set ?_ GE190.out) | exact HB.out)⟩⟩
     ·rw [if_neg c6] at H
      exact absurd H (by simp)
    ·rw [if_neg c5] at H
     exact absurd H (by simp)
   ·rw [if_neg c4] at H
    have c4b0 : decide (x8_1 < (l0_3.length : Int)) = false := decide_eq_false c4
    clear c4
    obtain rfl := Option.some.inj H
    go_wp2
    go_ret
    exact ⟨by first | rfl | (simp [errW_none, errW_some] <;> rfl) | (simp [*, errW_none, errW_some] <;> rfl), by repeat (first | (with_reducible first | exact HB.out | apply below_alloc | apply pw_below_drewN | apply below_drew1 | refine below_set ?_ GE188.out) | exact HB.out)⟩
end Go.Proofs.YtejhagejjogbaaaDoor.Qa
end
section
namespace Go.Proofs.YtejhagejjogbaaaDoor.AnyNot
open Go.RowKit Go.Proofs.YtejhagejjogbaaaDoorW.PrintWords Go.Proofs.YtejhagejjogbaaaDoorW.PrintLast Go.Proofs.YtejhagejjogbaaaDoorW.PrintMore Go.Proofs.YtejhagejjogbaaaDoor.Given Go.Proofs.YtejhagejjogbaaaDoor.Pn Go.Proofs.YtejhagejjogbaaaDoor.Pa Go.Proofs.YtejhagejjogbaaaDoor.Qa
set_option linter.unusedVariables false
set_option linter.unusedSimpArgs false
def bindsL (l : List UInt8) : Int × Int :=
  if l = [35] ∨ l = [110] ∨ l = [36] then (7, 0) else if l = [78, 69, 71] then (6, 1)
  else if l = [42] ∨ l = [47] ∨ l = [77, 79, 68] ∨ l = [83, 72, 76] ∨ l = [83, 72, 82] then (5, 2)
  else if l = [43] ∨ l = [45] then (4, 2) else if l = [78, 79, 84] then (3, 1) else if l = [65, 78, 68] then (2, 2)
  else if l = [79, 82] ∨ l = [88, 79, 82] then (1, 2) else (0, 0)
def wordL (l : List UInt8) : Bool := [[79, 82], [88, 79, 82], [65, 78, 68], [78, 79, 84], [77, 79, 68], [83, 72, 76], [83, 72, 82]].contains l
def letB' (c : UInt8) : Bool := (97 ≤ c && c ≤ 122) || (65 ≤ c && c ≤ 90) || c == 63 || c == 64 || c == 95
def nameQ (l : List UInt8) : Bool := match l with
  | [] => false
  | c :: t => decide (t.length < 16) && letB' c && t.all fun c => letB' c || (48 ≤ c && c ≤ 57)
def namedL (l : List UInt8) : Bool := nameQ l && (l.map up1 == l) && !wordL l
def condR (e : S50) : Bool :=
  let o := e.f0.data.toList
  decide ((bindsL o).1 ≠ 0) && decide ((e.f3.length : Int) = (bindsL o).2) && (decide (e.f1 = 0) || o == [35]) && (if o = [110] then namedL e.f2.data.toList else e.f2.data.toList == [])
def rightN : Nat → S50 → Bool
  | 0, _ => false
  | n + 1, e => condR e && e.f3.all (rightN n)
def okB : Nat → S50 → Bool
  | 0, e => decide (e.f2.size ≤ 1000)
  | n + 1, e => decide (e.f2.size ≤ 1000) && e.f3.all (okB n)
def RightAt (n : Nat) : Prop := ∀ (e : S50) (A : Option Addr) (c : Nat) (w : World), Kd.C k50 w A e.f3.length e.f3 → e.f3.length ≤ c → okB n e = true →
  Calls Tryd.prog 121 #[.agg #[.string e.f0, .int .u16 e.f1, .string e.f2, .slice A e.f3.length c], .int .i64 (n : Int)] w fun e' w' => e' = .returned (.bool (rightN n e)) ∧ Below w.heap.size w w'
def GR (m : Int) (w : World) : Prop := ∀ n : Nat, (n : Int) < m → RightAt n
theorem GR.below {m : Int} {w w' : World} (h : GR m w) (hb : Below w.heap.size w w') : GR m w' := h
set_option maxHeartbeats 8000000 in
set_option maxRecDepth 100000 in
theorem clo_calls (n : Nat) (hn : n ≤ 1000) (IH : RightAt n) (e : S50) (A : Option Addr) (c : Nat) (w : World) (gb : Nat) (hr : Kd.C k50 w A e.f3.length e.f3) (hc : e.f3.length ≤ c) (hok : okB n e = true)
    (hB : w.heap[gb]? = some (.cells #[.int .i64 ((n + 1 : Nat) : Int)] 3 (0, 0))) :
    Calls Tryd.prog 146 #[.agg #[.string e.f0, .int .u16 e.f1, .string e.f2, .slice A e.f3.length c], .pointer (some ⟨gb, 0, none⟩)] w fun e' w' => e' = .returned (.bool (!rightN n e)) ∧ Below w.heap.size w w' := by
  have hu50 := Tryd.underlying50
  have hb0 : gb < w.heap.size := by
    rcases Nat.lt_or_ge gb w.heap.size with h | h
    · exact h
    · rw [Array.getElem?_eq_none h] at hB; cases hB
  have hsub : wrap64 (((n + 1 : Nat) : Int) - 1) = (n : Int) := by unfold wrap64; omega
  have HB0 := Aside0.mk hB
  have HR := Aside0.mk hr
  have HK := Aside0.mk hok
  clear hr hok hB
  go_enter Tryd.func146, Tryd.ntmps146
  go_wp2_with (first | (with_reducible refine gate_dst (N := 2) rfl ?_); refine box_event ?hg (N := 2) ?hd (cs := #[.string e.f0, .int .u16 e.f1, .string e.f2, .slice A e.f3.length c]) (t := 50) ?hr ?_; (case hd => rfl); (case hg => rfl); (case hr => first | (go_simp; done) | (go_simp; rfl)); intro gx hg w1 hbox hb; have HB1 := Aside0.mk hb; have BX := Aside0.mk hbox; have hz0 : w1.cell? ⟨gb, 0, none⟩ = some (.int .i64 ((n + 1 : Nat) : Int)) := (blk_cell (blk_below HB0.out hb) 0).trans rfl; clear hb hbox hg; have hy0 : w1.cell? ⟨gx, 0, none⟩ = some (.string e.f0) := (blk_cell BX.out 0).trans rfl; have hy1 : w1.cell? ⟨gx, 1, none⟩ = some (.int .u16 e.f1) := (blk_cell BX.out 1).trans rfl; have hy2 : w1.cell? ⟨gx, 2, none⟩ = some (.string e.f2) := (blk_cell BX.out 2).trans rfl; have hy3 : w1.cell? ⟨gx, 3, none⟩ = some (.slice A e.f3.length c) := (blk_cell BX.out 3).trans rfl)
  refine (calls_of_args ?_ (IH e A c w1 (Kd.C_below HR.out HB1.out) hc HK.out)).mono ?_
  · first | rfl | (congr 3; omega) | (simp; omega)
  rintro e' w2 ⟨rfl, hb2⟩
  go_wp2
  go_ret
  exact ⟨rfl, below_step HB1.out hb2⟩
theorem blk_stay {w w1 : World} {g : Nat} {o : Obj} (hB : w.heap[g]? = some o) (hb : Below w.heap.size w w1) : w1.heap[g]? = some o := blk_below hB hb
theorem all_at {α : Type} {p : α → Bool} {l : List α} (h : l.all p = true) (k : Nat) (hk : k < l.length) : p l[k] = true := List.all_eq_true.1 h _ (List.getElem_mem hk)
set_option maxHeartbeats 8000000 in
set_option maxRecDepth 100000 in
theorem index_calls (n : Nat) (hn : n ≤ 1000) (IH : RightAt n) (A : Option Addr) (c : Nat) (l : List S50) (w : World) (gb : Nat) (hr : Kd.C k50 w A l.length l) (hc : l.length ≤ c) (hok : l.all (okB n) = true)
    (hB : w.heap[gb]? = some (.cells #[.int .i64 ((n + 1 : Nat) : Int)] 3 (0, 0))) :
    Calls Tryd.prog 170 #[.slice A l.length c, .func (.func 146) #[] #[.pointer (some ⟨gb, 0, none⟩)]] w fun e' w' => (∃ v : Int, e' = .returned (.int .i64 v) ∧ (decide (v ≥ 0) = l.any fun e => !rightN n e)) ∧ Below w.heap.size w w' := by
  have hu50 := Tryd.underlying50
  have hsz : l.length ≤ 9223372036854775807 := hr.2.1
  have HB0 := Aside0.mk hB
  have HR := Aside0.mk hr
  have HK := Aside0.mk hok
  have IH' := Aside0.mk IH
  clear hr hok hB IH
  go_enter Tryd.func170, Tryd.ntmps170
  go_wp2
  go_loopw [8] (fun v wr => ∃ k : Nat, k ≤ l.length ∧ v = .int .i64 k ∧ Aside0 (Below w.heap.size w wr) ∧ Aside0 ((l.take k).any (fun e => !rightN n e) = false)) (fun v _ => l.length - (intOf v).toNat)
  case atStart => exact ⟨0, Nat.zero_le _, rfl, ⟨Below.refl _ _⟩, ⟨rfl⟩⟩
  case round =>
    obtain ⟨k, hk, rfl, HB, HF⟩ := hrel
    by_cases hlt : k < l.length
    · have hR1 := Kd.C_below HR.out HB.out
      obtain ⟨ad, A3, c3, rfl, h0, h1, h2, h3, hl3, hC3⟩ := at_T50 hR1 (k : Int) (by omega) (by omega)
      have hg : rd_T50 l (k : Int) = l[k] := by simp [rd_T50, List.getD_eq_getElem?_getD, List.getElem?_eq_getElem hlt]
      have HT := Aside0.mk (show (l.take (k + 1)).any (fun e => !rightN n e) = ((l.take k).any (fun e => !rightN n e) || !rightN n (rd_T50 l (k : Int))) by
        rw [List.take_succ_eq_append_getElem hlt, List.any_append, hg]; simp)
      have HA := Aside0.mk (show (!rightN n (rd_T50 l (k : Int))) = true → l.any (fun e => !rightN n e) = true from fun h => by
        rw [List.any_eq_true]; exact ⟨l[k], List.getElem_mem hlt, by rw [← hg]; exact h⟩)
      have hko : okB n (rd_T50 l (k : Int)) = true := by rw [hg]; exact all_at HK.out k hlt
      rw [Int.toNat_natCast] at h0 h1 h2 h3
      have HC := Aside0.mk (clo_calls n hn IH'.out (rd_T50 l (k : Int)) A3 c3 wr gb hC3 hl3 hko (blk_stay HB0.out HB.out))
      clear hko hg hC3 hl3 hR1
      generalize rd_T50 l (k : Int) = e at h0 h1 h2 h3 HT HA HC
      cases hx : rightN n e with
      | false =>
        have HX := Aside0.mk (HA.out (by rw [hx]; rfl))
        rw [hx] at HC
        go_wp2_with (go_at_call 146; refine HC.out.mono ?_; rintro e' w2 ⟨rfl, hb2⟩; have HB2 := Aside0.mk (below_step HB.out hb2); clear hb2)
        go_ret
        refine ⟨⟨k, rfl, ?_⟩, HB2.out⟩
        rw [HX.out]; simp
      | true =>
        have HX := Aside0.mk (HT.out.trans (by rw [hx, HF.out]))
        rw [hx] at HC
        go_wp2_with (go_at_call 146; refine HC.out.mono ?_; rintro e' w2 ⟨rfl, hb2⟩; have HB2 := Aside0.mk (below_step HB.out hb2); clear hb2)
        refine ⟨⟨k + 1, by omega, by go_num, HB2, HX⟩, by simp [intOf]; omega⟩
    · obtain rfl : k = l.length := by omega
      have HX := Aside0.mk (show (l.any fun e => !rightN n e) = false by have := HF.out; rwa [List.take_length] at this)
      go_wp2
      go_ret
      exact ⟨⟨-1, rfl, by rw [HX.out]; rfl⟩, HB.out⟩
set_option maxHeartbeats 8000000 in
set_option maxRecDepth 100000 in
theorem contains_calls (n : Nat) (hn : n ≤ 1000) (IH : RightAt n) (A : Option Addr) (c : Nat) (l : List S50) (w : World) (gb : Nat) (hr : Kd.C k50 w A l.length l) (hc : l.length ≤ c) (hok : l.all (okB n) = true)
    (hB : w.heap[gb]? = some (.cells #[.int .i64 ((n + 1 : Nat) : Int)] 3 (0, 0))) :
    Calls Tryd.prog 145 #[.slice A l.length c, .func (.func 146) #[] #[.pointer (some ⟨gb, 0, none⟩)]] w fun e' w' => e' = .returned (.bool (l.any fun e => !rightN n e)) ∧ Below w.heap.size w w' := by
  have HC := Aside0.mk (index_calls n hn IH A c l w gb hr hc hok hB)
  clear hr hok hB IH
  go_enter Tryd.func145, Tryd.ntmps145
  go_wp2_with (go_at_call 170; refine HC.out.mono ?_; rintro e' w2 ⟨⟨v, rfl, hv⟩, hb2⟩; have HV := Aside0.mk hv; have HB2 := Aside0.mk hb2; clear hb2 hv)
  go_ret
  exact ⟨by rw [← HV.out]; rfl, HB2.out⟩
def expr_anyNot.f (l : List S50) (most : Int) : Option Bool := if 1 ≤ most ∧ most ≤ 1000 ∧ l.all (okB (most - 1).toNat) = true then some (l.any fun e => !rightN (most - 1).toNat e) else none
theorem expr_anyNot.calls (A : Option Addr) (c : Nat) (l : List S50) (a1 : Int) (r : Bool) (w : World) {gb : Nat} (hG : Aside0 (GR a1 w)) (hr : Kd.C k50 w A l.length l) (hc : l.length ≤ c)
    (hB : w.heap[gb]? = some (.cells #[.int .i64 a1] 3 (0, 0))) (h : expr_anyNot.f l a1 = some r) :
    Calls Tryd.prog 145 #[.slice A l.length c, .func (.func 146) #[] #[.pointer (some ⟨gb, 0, none⟩)]] w fun e' w' => e' = .returned (.bool r) ∧ Below w.heap.size w w' := by
  unfold expr_anyNot.f at h
  by_cases hs : 1 ≤ a1 ∧ a1 ≤ 1000 ∧ l.all (okB (a1 - 1).toNat) = true
  · rw [if_pos hs] at h
    obtain rfl := Option.some.inj h
    obtain ⟨n, rfl⟩ : ∃ n : Nat, a1 = ((n + 1 : Nat) : Int) := ⟨(a1 - 1).toNat, by omega⟩
    have e : (((n + 1 : Nat) : Int) - 1).toNat = n := by omega
    rw [e] at hs ⊢
    exact contains_calls n (by omega) (hG.out n (by omega)) A c l w gb hr hc hs.2.2 hB
  · rw [if_neg hs] at h; cases h
end Go.Proofs.YtejhagejjogbaaaDoor.AnyNot
end
section
namespace Go.Proofs.YtejhagejjogbaaaDoor.Num
open Go.RowKit Go.Proofs.YtejhagejjogbaaaDoor.Given Go.Proofs.YtejhagejjogbaaaDoor.Pn Go.Proofs.YtejhagejjogbaaaDoorW.PrintWords Go.Proofs.YtejhagejjogbaaaDoorW.PrintLast
def L (s : ByteArray) : List UInt8 := s.data.toList
theorem L_inj {s t : ByteArray} (h : L s = L t) : s = t := by
  cases s; cases t; simp only [L] at h; congr; exact Array.toList_inj.1 h
theorem L_len (s : ByteArray) : (L s).length = s.size := data_length s
theorem L_mk (a : Array UInt8) : L ⟨a⟩ = a.toList := rfl
theorem bt_L (s : ByteArray) (i : Nat) (h : i < (L s).length) : bt s (i : Int) = ((L s)[i].toNat : Int) := by
  have h' : i < s.size := by rw [← L_len]; exact h
  unfold bt
  rw [Int.toNat_natCast, dif_pos h']
  rfl
theorem L_nums (l : List Int) : L (strOfNums l) = l.map fun n => UInt8.ofNat n.toNat := rfl
theorem w64 {n : Int} (h0 : -9223372036854775808 ≤ n) (h1 : n ≤ 9223372036854775807) : wrap64 n = n := by
  unfold wrap64; omega
theorem u16w {n : Int} (h0 : 0 ≤ n) (h1 : n ≤ 65535) : IntKind.u16.wrap n = n := by
  have : n % 65536 = n := by omega
  simp [IntKind.wrap, IntKind.bits, IntKind.signed, this]
def dval (c : UInt8) : Nat := if 48 ≤ c ∧ c ≤ 57 then c.toNat - 48 else if 65 ≤ c ∧ c ≤ 70 then c.toNat - 55 else 99
def dig (b : Nat) (c : UInt8) : Option Nat := if dval c < b then some (dval c) else none
def pf (b : Nat) : Nat → List UInt8 → Option Nat
  | n, [] => some n
  | n, c :: l => match dig b c with
    | none => none
    | some d => pf b (min (n * b + d) 65536) l
def fin : Option Nat → Int × Int
  | none => (0, 2)
  | some n => if 65535 < n then (0, 5) else ((n : Int), 0)
theorem drop_cons {l : List UInt8} {i : Nat} (h : i < l.length) : l.drop i = l[i] :: l.drop (i + 1) := List.drop_eq_getElem_cons h
theorem inc_w {i : Nat} (hi : i ≤ 140737488351300) : wrap64 ((i : Int) + 1) = ((i + 1 : Nat) : Int) := by rw [w64 (by omega) (by omega)]; omega
theorem L_up (s : ByteArray) : L (upB s) = (L s).map up1 := by simp [L, upB]
theorem num_upper (x : ByteArray) (hs : x.size ≤ 140737488351300) : number_Upper.f x = some (upB x) := by
  unfold number_Upper.f
  rw [if_pos (by omega)]
def basedL (l : List UInt8) : List UInt8 × Nat :=
  match l.getLast? with
  | none => (l, 10)
  | some c => if c = 72 then (l.dropLast, 16) else if c = 79 ∨ c = 81 then (l.dropLast, 8) else if c = 66 then (l.dropLast, 2) else if c = 68 then (l.dropLast, 10) else (l, 10)
def parseL (l : List UInt8) : Int × Int :=
  match l with
  | [] => (0, 2)
  | c :: _ => if c.toNat < 48 ∨ 57 < c.toNat then (0, 2) else fin (pf (basedL l).2 0 (basedL l).1)
theorem empty_iff (x : ByteArray) : x.toList = ([] : List UInt8) ↔ x.size = 0 := by
  rw [Lib.toList_data, ← L_len, List.length_eq_zero_iff]; rfl
theorem L_pos {x : ByteArray} (h : 0 < x.size) : ∃ c l, L x = c :: l ∧ bt x 0 = (c.toNat : Int) := by
  have hl : 0 < (L x).length := by rw [L_len]; exact h
  obtain ⟨c, l, e⟩ := List.exists_cons_of_length_pos hl
  refine ⟨c, l, e, ?_⟩
  have := bt_L x 0 hl
  simp only [e] at this
  exact this
end Go.Proofs.YtejhagejjogbaaaDoor.Num
end
section
namespace Go.Proofs.YtejhagejjogbaaaDoor.Num
open Go.RowKit Go.Proofs.YtejhagejjogbaaaDoor.Given Go.Proofs.YtejhagejjogbaaaDoor.Pn Go.Proofs.YtejhagejjogbaaaDoorW.PrintWords Go.Proofs.YtejhagejjogbaaaDoorW.PrintLast
theorem rd_at (l : List Int) (i : Nat) (h : i < l.length) : rd l (i : Int) = l[i] := by
  simp [rd, List.getD_eq_getElem?_getD, List.getElem?_eq_getElem h]
theorem split_ends {α : Type} (l : List α) (h : 2 ≤ l.length) : ∃ a m b, l = a :: (m ++ [b]) := by
  cases l with
  | nil => simp at h
  | cons a t =>
    have ht : t ≠ [] := by rintro rfl; simp at h
    exact ⟨a, t.dropLast, t.getLast ht, by rw [List.dropLast_concat_getLast]⟩
theorem rev_loop (n : Nat) : ∀ (pre mid post : List Int), mid.length ≤ n → (pre ++ mid ++ post).length ≤ 140737488355328 →
    Ev (fun k => slices_Reverse_byte_byte.l0 k (pre ++ mid ++ post) (pre.length : Int) ((pre.length : Int) + mid.length - 1)) (pre ++ mid.reverse ++ post) := by
  induction n using Nat.strongRecOn with
  | _ n ih =>
    intro pre mid post hn hs
    refine Ev.step (fun k => rfl) ?_
    simp only [slices_Reverse_byte_byte.l0]
    by_cases h2 : mid.length < 2
    · simp only [if_neg (show ¬ ((pre.length : Int) < (pre.length : Int) + mid.length - 1) by omega)]
      have : mid.reverse = mid := by
        match mid, h2 with
        | [], _ => rfl
        | [a], _ => rfl
        | a :: b :: l, h => simp at h; omega
      rw [this]
      exact Ev.now _
    · obtain ⟨a, m, b, rfl⟩ := split_ends mid (by omega)
      have hl : (a :: (m ++ [b])).length = m.length + 2 := by simp
      simp only [hl] at hn h2 ⊢
      simp only [List.length_append, hl] at hs
      have e1 : (pre.length : Int) + ((m.length + 2 : Nat) : Int) - 1 = ((pre.length + m.length + 1 : Nat) : Int) := by omega
      rw [e1]
      have hlen : (pre ++ (a :: (m ++ [b])) ++ post).length = pre.length + m.length + 2 + post.length := by simp; omega
      simp only [hlen]
      simp only [if_pos (show (pre.length : Int) < ((pre.length + m.length + 1 : Nat) : Int) by omega), if_pos (show (0 : Int) ≤ ((pre.length + m.length + 1 : Nat) : Int) by omega), if_pos (show ((pre.length + m.length + 1 : Nat) : Int) < ((pre.length + m.length + 2 + post.length : Nat) : Int) by omega), if_pos (show (0 : Int) ≤ (pre.length : Int) by omega), if_pos (show (pre.length : Int) < ((pre.length + m.length + 2 + post.length : Nat) : Int) by omega), Int.toNat_natCast]
      have r1 : rd (pre ++ (a :: (m ++ [b])) ++ post) ((pre.length + m.length + 1 : Nat) : Int) = b := by
        rw [rd_at _ _ (by rw [hlen]; omega)]
        simp [List.getElem_append, List.getElem_cons]
        rw [dif_neg (by omega), dif_neg (by omega), dif_neg (by omega), dif_pos (by omega)]
      have r2 : rd (pre ++ (a :: (m ++ [b])) ++ post) (pre.length : Int) = a := by
        rw [rd_at _ _ (by rw [hlen]; omega)]
        simp
      have e2 : (((pre ++ (a :: (m ++ [b])) ++ post).set pre.length b).set (pre.length + m.length + 1) a) = (pre ++ [b]) ++ m ++ ([a] ++ post) := by
        rw [List.append_assoc, List.set_append_right _ _ (Nat.le_refl _), Nat.sub_self, List.cons_append, List.set_cons_zero, List.set_append_right _ _ (by omega)]
        rw [show pre.length + m.length + 1 - pre.length = m.length + 1 by omega, List.set_cons_succ, List.append_assoc, List.set_append_right _ _ (Nat.le_refl _), Nat.sub_self, List.cons_append, List.set_cons_zero]
        simp
      rw [r1, r2, e2]
      have e3 : wrap64 ((pre.length : Int) + 1) = (((pre ++ [b]).length : Nat) : Int) := by rw [w64 (by omega) (by omega)]; simp
      have e4 : wrap64 (((pre.length + m.length + 1 : Nat) : Int) - 1) = (((pre ++ [b]).length : Nat) : Int) + m.length - 1 := by rw [w64 (by omega) (by omega)]; simp; omega
      rw [e3, e4]
      have := ih m.length (by omega) (pre ++ [b]) m ([a] ++ post) (Nat.le_refl _) (by simp; omega)
      simpa using this
theorem reverse_ev (l : List Int) (hs : l.length ≤ 140737488355328) : Ev (fun k => slices_Reverse_byte_byte.f k l) l.reverse := by
  have := rev_loop l.length [] l [] (Nat.le_refl _) (by simpa using hs)
  unfold slices_Reverse_byte_byte.f
  rw [w64 (by omega) (by omega)]
  simpa using this
def hc (d : Nat) : UInt8 := if d < 10 then UInt8.ofNat (48 + d) else UInt8.ofNat (55 + d)
def hexd : Nat → List UInt8
  | 0 => []
  | n + 1 => hc ((n + 1) % 16) :: hexd ((n + 1) / 16)
termination_by n => n
decreasing_by omega
def zeroed (l : List UInt8) : List UInt8 := match l with | [] => [] | c :: t => if 57 < c.toNat then 48 :: c :: t else c :: t
def showL (n : Nat) : List UInt8 := if n < 10 then [UInt8.ofNat (48 + n)] else zeroed ((hexd n).reverse ++ [72])
theorem hexd_pos {n : Nat} (h : 0 < n) : hexd n = hc (n % 16) :: hexd (n / 16) := by
  obtain ⟨m, rfl⟩ : ∃ m, n = m + 1 := ⟨n - 1, by omega⟩
  rw [hexd]
theorem and15 {n : Nat} (h : n ≤ 65535) : Go.bits .and .u16 (n : Int) 15 = ((n % 16 : Nat) : Int) := by
  unfold Go.bits
  have e : (BitVec.ofInt IntKind.u16.bits (n : Int) &&& BitVec.ofInt IntKind.u16.bits 15).toNat = n % 16 := by
    rw [show IntKind.u16.bits = 16 from rfl, BitVec.toNat_and]
    rw [show (BitVec.ofInt 16 (n : Int)).toNat = n by simp; omega]
    rw [show (BitVec.ofInt 16 15).toNat = 2 ^ 4 - 1 by rfl, Nat.and_two_pow_sub_one_eq_mod]
  simp only [e]
  rw [u16w (by omega) (by omega)]
theorem hexdigit : ∀ d : Fin 16, bt (⟨#[48, 49, 50, 51, 52, 53, 54, 55, 56, 57, 65, 66, 67, 68, 69, 70]⟩ : ByteArray) ((d.val : Nat) : Int) = ((hc d.val).toNat : Int) := by
  decide +kernel
def nat8 (l : List UInt8) : List Int := l.map fun c => (c.toNat : Int)
theorem L_nat8 (l : List UInt8) : strOfNums (nat8 l) = ⟨l.toArray⟩ := by
  refine L_inj ?_
  rw [L_nums, nat8, List.map_map, L_mk]
  conv => rhs; rw [← List.map_id l]
  exact List.map_congr_left fun c _ => by simp
theorem nat8_rev (l : List UInt8) : (nat8 l).reverse = nat8 l.reverse := by simp [nat8]
theorem show_loop (n : Nat) : n ≤ 65535 → ∀ acc : List UInt8, acc ≠ [] → acc.length + n ≤ 140737488350000 →
    Ev (fun k => number_Show.l0 k (n : Int) (nat8 acc)) ⟨(zeroed ((acc ++ hexd n).reverse)).toArray⟩ := by
  induction n using Nat.strongRecOn with
  | _ n ih =>
    intro hn acc hacc hs
    refine Ev.step (fun k => rfl) ?_
    simp only [number_Show.l0]
    by_cases h0 : n = 0
    · subst h0
      have hl : (nat8 acc).length = acc.length := by simp [nat8]
      have hp : 0 < acc.length := List.length_pos_iff.2 hacc
      have e1 : wrap64 (((nat8 acc).length : Int) - 1) = ((acc.length - 1 : Nat) : Int) := by rw [hl, w64 (by omega) (by omega)]; omega
      have e2 : rd (nat8 acc) ((acc.length - 1 : Nat) : Int) = ((acc.getLast hacc).toNat : Int) := by
        rw [rd_at _ _ (by omega)]
        simp [nat8, List.getLast_eq_getElem]
      simp only [if_neg (show ¬ ((0 : Nat) : Int) > 0 by omega), e1, e2, if_pos (show (0 : Int) ≤ ((acc.length - 1 : Nat) : Int) by omega)]
      rw [hl]
      simp only [if_pos (show ((acc.length - 1 : Nat) : Int) < (acc.length : Int) by omega)]
      have hz : zeroed ((acc ++ hexd 0).reverse) = if 57 < (acc.getLast hacc).toNat then 48 :: acc.reverse else acc.reverse := by
        rw [hexd, List.append_nil]
        conv => lhs; rw [← List.dropLast_concat_getLast hacc]
        rw [List.reverse_append]
        simp only [List.reverse_singleton, List.singleton_append, zeroed]
        have : acc.reverse = acc.getLast hacc :: acc.dropLast.reverse := by
          conv => lhs; rw [← List.dropLast_concat_getLast hacc]
          simp
        rw [this]
      rw [hz]
      by_cases h1 : ((acc.getLast hacc).toNat : Int) > 57
      · simp only [if_pos h1, if_pos (show 57 < (acc.getLast hacc).toNat by omega), if_pos (show acc.length < 140737488355328 by omega)]
        rw [show nat8 acc ++ [48] = nat8 (acc ++ [48]) by simp [nat8]]
        refine Ev.bind (reverse_ev _ (by simp [nat8]; omega)) ?_
        rw [nat8_rev, L_nat8, List.reverse_append]
        exact Ev.now _
      · simp only [if_neg h1, if_neg (show ¬ 57 < (acc.getLast hacc).toNat by omega)]
        refine Ev.bind (reverse_ev _ (by simp [nat8]; omega)) ?_
        rw [nat8_rev, L_nat8]
        exact Ev.now _
    · have hp : 0 < n := by omega
      have hlt : n / 16 < n := Nat.div_lt_self hp (by omega)
      have hd : (n : Int) / 16 = ((n / 16 : Nat) : Int) := by omega
      have hx := hexdigit ⟨n % 16, Nat.mod_lt _ (by omega)⟩
      simp only at hx
      simp only [if_pos (show (n : Int) > 0 by omega), and15 hn, if_pos (show (0 : Int) ≤ ((n % 16 : Nat) : Int) by omega), if_pos (show ((n % 16 : Nat) : Int) < 16 by omega), hx, hd]
      simp only [if_pos (show (nat8 acc).length < 140737488355328 by simp [nat8]; omega)]
      rw [show nat8 acc ++ [((hc (n % 16)).toNat : Int)] = nat8 (acc ++ [hc (n % 16)]) by simp [nat8]]
      have := ih (n / 16) hlt (by omega) (acc ++ [hc (n % 16)]) (by simp) (by simp; omega)
      rw [hexd_pos hp]
      rw [List.append_assoc, List.singleton_append] at this
      exact this
theorem ext_one : ∀ d : Fin 10, (⟨#[48, 49, 50, 51, 52, 53, 54, 55, 56, 57, 65, 66, 67, 68, 69, 70]⟩ : ByteArray).extract d.val (d.val + 1) = ⟨#[UInt8.ofNat (48 + d.val)]⟩ := by
  intro d
  refine L_inj ?_
  revert d
  decide +kernel
theorem num_show (n : Nat) (hn : n ≤ 65535) : Ev (fun k => number_Show.f k (n : Int)) ⟨(showL n).toArray⟩ := by
  unfold number_Show.f showL
  by_cases h : n < 10
  · have e : IntKind.u16.wrap ((n : Int) + 1) = ((n + 1 : Nat) : Int) := by rw [u16w (by omega) (by omega)]; omega
    simp only [if_pos (show (n : Int) < 10 by omega), if_pos h, e, if_pos (show (0 : Int) ≤ (n : Int) by omega), if_pos (show (n : Int) ≤ ((n + 1 : Nat) : Int) by omega), if_pos (show ((n + 1 : Nat) : Int) ≤ 16 by omega), Int.toNat_natCast]
    rw [ext_one ⟨n, h⟩]
    exact Ev.now _
  · simp only [if_neg (show ¬ (n : Int) < 10 by omega), if_neg h]
    have := show_loop n hn [72] (by simp) (by simp; omega)
    simpa [nat8] using this
def top : Nat → Nat → Nat
  | 0, d => d
  | n + 1, _ => top ((n + 1) / 16) ((n + 1) % 16)
termination_by n _ => n
decreasing_by omega
theorem top_pos {n : Nat} (h : 0 < n) (d : Nat) : top n d = top (n / 16) (n % 16) := by
  obtain ⟨m, rfl⟩ : ∃ m, n = m + 1 := ⟨n - 1, by omega⟩
  rw [top]
theorem hexd_top (n : Nat) : 0 < n → ∀ d, ∃ t, (hexd n).reverse = hc (top n d) :: t ∧ top n d < 16 := by
  induction n using Nat.strongRecOn with
  | _ n ih =>
    intro hp d
    rw [hexd_pos hp, top_pos hp, List.reverse_cons]
    by_cases h : n / 16 = 0
    · rw [h, hexd, top]
      exact ⟨[], by simp, Nat.mod_lt _ (by omega)⟩
    · obtain ⟨t, ht, hl⟩ := ih (n / 16) (Nat.div_lt_self hp (by omega)) (by omega) (n % 16)
      rw [ht]
      exact ⟨t ++ [hc (n % 16)], by simp, hl⟩
theorem hc_big : ∀ d : Fin 16, (57 < (hc d.val).toNat) ↔ 9 < d.val := by decide +kernel
theorem dval_hc : ∀ d : Fin 16, dval (hc d.val) = d.val := by decide +kernel
theorem dig_hc {b d : Nat} (h : d < b) (hb : b ≤ 16) : dig b (hc d) = some d := by
  have := dval_hc ⟨d, by omega⟩
  simp only at this
  unfold dig
  rw [this, if_pos h]
theorem pf_app (b : Nat) : ∀ (l m : List UInt8) (n : Nat), pf b n (l ++ m) = (pf b n l).bind fun n' => pf b n' m
  | [], m, n => rfl
  | c :: l, m, n => by
    simp only [List.cons_append, pf]
    cases dig b c with
    | none => rfl
    | some d => exact pf_app b l m _
theorem pf_hex (n : Nat) : n ≤ 65535 → pf 16 0 (hexd n).reverse = some n := by
  induction n using Nat.strongRecOn with
  | _ n ih =>
    intro hn
    by_cases h0 : n = 0
    · subst h0; rw [hexd]; rfl
    · have hp : 0 < n := by omega
      rw [hexd_pos hp, List.reverse_cons, pf_app, ih (n / 16) (Nat.div_lt_self hp (by omega)) (by omega), Option.bind_some]
      simp only [pf, dig_hc (Nat.mod_lt n (show 0 < 16 by omega)) (Nat.le_refl _)]
      congr 1
      omega
theorem up1_hc : ∀ d : Fin 16, up1 (hc d.val) = hc d.val := by decide +kernel
theorem hexd_up (n : Nat) : (hexd n).map up1 = hexd n := by
  induction n using Nat.strongRecOn with
  | _ n ih =>
    by_cases h0 : n = 0
    · subst h0; rw [hexd]; rfl
    · have hp : 0 < n := by omega
      rw [hexd_pos hp, List.map_cons, ih _ (Nat.div_lt_self hp (by omega)), up1_hc ⟨n % 16, Nat.mod_lt _ (by omega)⟩]
theorem show_up (n : Nat) : (showL n).map up1 = showL n := by
  unfold showL
  by_cases h : n < 10
  · rw [if_pos h]
    have : ∀ d : Fin 10, [UInt8.ofNat (48 + d.val)].map up1 = [UInt8.ofNat (48 + d.val)] := by decide +kernel
    exact this ⟨n, h⟩
  · rw [if_neg h]
    have e : (zeroed ((hexd n).reverse ++ [72])).map up1 = zeroed ((hexd n).reverse ++ [72]) := by
      have : ((hexd n).reverse ++ [72]).map up1 = (hexd n).reverse ++ [72] := by
        rw [List.map_append, List.map_reverse, hexd_up]; rfl
      unfold zeroed
      generalize (hexd n).reverse ++ [72] = l at this
      cases l with
      | nil => rfl
      | cons c t =>
        simp only
        split
        · rw [List.map_cons, this]; rfl
        · exact this
    exact e
theorem zero_last {l : List UInt8} {c : UInt8} : (zeroed (l ++ [c])).getLast? = some c ∧ (zeroed (l ++ [c])).dropLast = (match l with | [] => if 57 < c.toNat then [48] else [] | d :: t => if 57 < d.toNat then 48 :: d :: t else d :: t) := by
  cases l with
  | nil =>
    simp only [List.nil_append, zeroed]
    split <;> simp
  | cons d t =>
    simp only [List.cons_append, zeroed]
    split
    · constructor
      · rw [show 48 :: d :: (t ++ [c]) = (48 :: d :: t) ++ [c] by simp, List.getLast?_append]; simp
      · rw [show 48 :: d :: (t ++ [c]) = (48 :: d :: t) ++ [c] by simp, List.dropLast_concat]
    · constructor
      · rw [show d :: (t ++ [c]) = (d :: t) ++ [c] by simp, List.getLast?_append]; simp
      · rw [show d :: (t ++ [c]) = (d :: t) ++ [c] by simp, List.dropLast_concat]
theorem hc_digit {d : Nat} (h : d < 16) (h9 : ¬ 9 < d) : ¬ ((hc d).toNat < 48 ∨ 57 < (hc d).toNat) := by
  have : ∀ d : Fin 10, ¬ ((hc d.val).toNat < 48 ∨ 57 < (hc d.val).toNat) := by decide +kernel
  exact this ⟨d, by omega⟩
theorem parse_show (n : Nat) (hn : n ≤ 65535) : parseL (showL n) = ((n : Int), 0) := by
  unfold showL
  by_cases h : n < 10
  · rw [if_pos h]
    have : ∀ d : Fin 10, parseL [UInt8.ofNat (48 + d.val)] = (((d.val : Nat) : Int), 0) := by decide +kernel
    exact this ⟨n, h⟩
  · rw [if_neg h]
    obtain ⟨t, ht, hl⟩ := hexd_top n (by omega) 0
    have hb := hc_big ⟨top n 0, hl⟩
    simp only at hb
    have hz := @zero_last (hexd n).reverse 72
    have hh := pf_hex n hn
    rw [ht] at hz hh ⊢
    simp only at hz
    have hbase : ∀ l : List UInt8, l.getLast? = some 72 → basedL l = (l.dropLast, 16) := by
      intro l e
      unfold basedL
      rw [e]
      rfl
    have hfin : ∀ l : List UInt8, pf 16 0 l = some n → fin (pf 16 0 l) = ((n : Int), 0) := by
      intro l e
      rw [e]
      unfold fin
      simp only
      rw [if_neg (by omega)]
    by_cases h9 : 9 < top n 0
    · rw [if_pos (hb.2 h9)] at hz
      have e : zeroed (hc (top n 0) :: t ++ [72]) = 48 :: (hc (top n 0) :: t ++ [72]) := by
        rw [List.cons_append]; unfold zeroed; simp only; rw [if_pos (hb.2 h9)]
      rw [e] at hz ⊢
      unfold parseL
      simp only
      rw [if_neg (by decide), hbase _ hz.1, hz.2]
      refine hfin _ ?_
      rw [show (48 : UInt8) :: hc (top n 0) :: t = [48] ++ (hc (top n 0) :: t) by rfl, pf_app]
      have : pf 16 0 [48] = some 0 := by decide +kernel
      rw [this, Option.bind_some, hh]
    · rw [if_neg (fun a => h9 (hb.1 a))] at hz
      have e : zeroed (hc (top n 0) :: t ++ [72]) = (hc (top n 0) :: t ++ [72]) := by
        rw [List.cons_append]; unfold zeroed; simp only; rw [if_neg (fun a => h9 (hb.1 a))]
      rw [e] at hz ⊢
      rw [List.cons_append] at hz ⊢
      unfold parseL
      simp only
      rw [if_neg (hc_digit hl h9), hbase _ hz.1, hz.2]
      exact hfin _ hh
end Go.Proofs.YtejhagejjogbaaaDoor.Num
end
section
namespace Go.Proofs.YtejhagejjogbaaaDoor.Num
open Go.RowKit Go.Proofs.YtejhagejjogbaaaDoor.Given Go.Proofs.YtejhagejjogbaaaDoor.Pn Go.Proofs.YtejhagejjogbaaaDoorW.PrintWords Go.Proofs.YtejhagejjogbaaaDoorW.PrintLast
set_option linter.unusedSimpArgs false
theorem hexd_len (m : Nat) : ∀ n, n < 16 ^ m → (hexd n).length ≤ m := by
  induction m with
  | zero => intro n h; have : n = 0 := by omega
            subst this; rw [hexd]; simp
  | succ m ih =>
    intro n h
    by_cases h0 : n = 0
    · subst h0; rw [hexd]; simp
    · rw [hexd_pos (by omega), List.length_cons]
      have := ih (n / 16) (by rw [Nat.pow_succ] at h; omega)
      omega
theorem zeroed_len (l : List UInt8) : (zeroed l).length ≤ l.length + 1 := by
  unfold zeroed
  split
  · simp
  · split <;> simp
theorem show_len (n : Nat) (hn : n ≤ 65535) : 1 ≤ (showL n).length ∧ (showL n).length ≤ 6 := by
  unfold showL
  by_cases h : n < 10
  · rw [if_pos h]; simp
  · rw [if_neg h]
    have h1 := zeroed_len ((hexd n).reverse ++ [72])
    have h2 := hexd_len 4 n (by omega)
    simp only [List.length_append, List.length_reverse, List.length_singleton] at h1
    refine ⟨?_, by omega⟩
    obtain ⟨t, ht, _⟩ := hexd_top n (by omega) 0
    rw [ht, List.cons_append]
    unfold zeroed
    simp only
    split <;> simp
def letterB (c : UInt8) : Bool := (97 ≤ c && c ≤ 122) || (65 ≤ c && c ≤ 90) || c == 63 || c == 64 || c == 95
def digitB (c : UInt8) : Bool := 48 ≤ c && c ≤ 57
def tailB (c : UInt8) : Bool := letterB c || digitB c
def nameL (l : List UInt8) : Bool := match l with
  | [] => false
  | c :: t => decide (t.length < 16) && letterB c && t.all tailB
theorem digit_all : ∀ c : Fin 256, (decide (¬ ((c.val : Nat) : Int) < 48) && decide (¬ ((c.val : Nat) : Int) > 57)) = digitB (UInt8.ofNat c.val) := by decide +kernel
theorem digit_at (c : UInt8) : (decide (¬ (c.toNat : Int) < 48) && decide (¬ (c.toNat : Int) > 57)) = digitB c := by
  have := digit_all ⟨c.toNat, c.toNat_lt⟩
  simpa using this
theorem begins_all : ∀ c : Fin 256, ∃ b, number_begins.f ((c.val : Nat) : Int) = some b ∧ letterB (UInt8.ofNat c.val) = ((b && decide (((c.val : Nat) : Int) < 128)) || ((c.val : Nat) : Int) == 63 || ((c.val : Nat) : Int) == 64 || ((c.val : Nat) : Int) == 95) := by
  decide +kernel
theorem begins_at (c : UInt8) : ∃ b, number_begins.f (c.toNat : Int) = some b ∧ letterB c = ((b && decide ((c.toNat : Int) < 128)) || (c.toNat : Int) == 63 || (c.toNat : Int) == 64 || (c.toNat : Int) == 95) := by
  have := begins_all ⟨c.toNat, c.toNat_lt⟩
  simpa using this
theorem digit_at' (c : UInt8) : (decide (48 ≤ (c.toNat : Int)) && decide ((c.toNat : Int) ≤ 57)) = digitB c := by
  rw [← digit_at c]
  congr 1 <;> (apply decide_eq_decide.2; omega)
theorem num_name_step (x : ByteArray) (hs : x.size ≤ 140737488351300) {i : Nat} (hl : i < (L x).length) {r : Bool} (key : Ev (fun k => number_Name.l0 k x (x.size : Int) ((i + 1 : Nat) : Int)) r) :
    Ev (fun k => number_Name.l0 k x (x.size : Int) (i : Int)) ((letterB (L x)[i] || (decide (0 < i) && digitB (L x)[i])) && r) := by
  have hi : i < x.size := by rw [← L_len]; exact hl
  have hbt := bt_L x i hl
  generalize (L x)[i] = c at hbt ⊢
  have j3 : ∀ b : Bool, Ev (fun k => number_Name.j3 k x (i : Int) (c.toNat : Int) (x.size : Int) (i : Int) b) ((b || (decide (0 < i) && digitB c)) && r) := by
    intro b
    refine Ev.step (fun k => rfl) ?_
    simp only [number_Name.j3, inc_w (show i ≤ 140737488351300 by omega)]
    have hd := digit_at' c
    cases b with
    | true => simp only [if_true, Bool.true_or, Bool.true_and]; exact key
    | false =>
      simp only [if_neg (show ¬ (false = true) by decide), Bool.false_or]
      by_cases h0 : 0 < i
      · simp only [if_pos (show (i : Int) > 0 by omega), h0, decide_true, Bool.true_and, ← hd]
        by_cases h1 : 48 ≤ (c.toNat : Int)
        · by_cases h2 : (c.toNat : Int) ≤ 57
          · simp only [if_pos h1, if_pos h2, h1, h2, decide_true, Bool.and_self, Bool.true_and]; exact key
          · simp only [if_pos h1, if_neg h2, h1, h2, decide_false, Bool.and_false, Bool.false_and]; exact Ev.now _
        · simp only [if_neg h1, h1, decide_false, Bool.false_and]; exact Ev.now _
      · simp only [if_neg (show ¬ (i : Int) > 0 by omega), h0, decide_false, Bool.false_and]; exact Ev.now _
  have j2 : ∀ b : Bool, Ev (fun k => number_Name.j2 k x (i : Int) (c.toNat : Int) (x.size : Int) (i : Int) b) (((b || (c.toNat : Int) == 63 || (c.toNat : Int) == 64 || (c.toNat : Int) == 95) || (decide (0 < i) && digitB c)) && r) := by
    intro b
    refine Ev.step (fun k => rfl) ?_
    simp only [number_Name.j2]
    cases b with
    | true => simp only [if_true, Bool.true_or]; simpa using j3 true
    | false =>
      simp only [if_neg (show ¬ (false = true) by decide), Bool.false_or]
      by_cases h1 : (c.toNat : Int) = 63
      · have e : ((c.toNat : Int) == 63) = true := by simpa using h1
        simp only [if_pos h1, e, Bool.true_or]; simpa using j3 true
      · have e : ((c.toNat : Int) == 63) = false := by simpa using h1
        simp only [if_neg h1, e, Bool.false_or]
        by_cases h2 : (c.toNat : Int) = 64
        · have e : ((c.toNat : Int) == 64) = true := by simpa using h2
          simp only [if_pos h2, e, Bool.true_or]; simpa using j3 true
        · have e : ((c.toNat : Int) == 64) = false := by simpa using h2
          simp only [if_neg h2, e, Bool.false_or]; exact j3 _
  refine Ev.step (fun k => rfl) ?_
  simp only [number_Name.l0]
  obtain ⟨b, hb, hl⟩ := begins_at c
  simp only [if_pos (show (i : Int) < (x.size : Int) by omega), if_pos (show (0 : Int) ≤ (i : Int) by omega), hbt, hb, Option.bind_some, hl]
  cases b with
  | true => simpa only [↓reduceIte, Bool.true_and] using j2 (decide ((c.toNat : Int) < 128))
  | false => simpa only [↓reduceIte, Bool.false_and, reduceCtorEq] using j2 false
theorem num_name_loop (x : ByteArray) (hs : x.size ≤ 140737488351300) (d : Nat) : ∀ i : Nat, i + d = x.size → 0 < i →
    Ev (fun k => number_Name.l0 k x (x.size : Int) (i : Int)) (((L x).drop i).all tailB) := by
  induction d with
  | zero =>
    intro i hi h0
    refine Ev.step (fun k => rfl) ?_
    simp only [number_Name.l0]
    rw [List.drop_eq_nil_of_le (by rw [L_len]; omega)]
    simp only [if_neg (show ¬ (i : Int) < (x.size : Int) by omega), List.all_nil]
    exact Ev.now _
  | succ d ih =>
    intro i hi h0
    have hl : i < (L x).length := by rw [L_len]; omega
    have := num_name_step x hs hl (ih (i + 1) (by omega) (by omega))
    rw [drop_cons hl, List.all_cons]
    unfold tailB at this ⊢
    simpa [h0] using this
theorem num_name (x : ByteArray) (hs : x.size ≤ 140737488351300) : Ev (fun k => number_Name.f k x) (nameL (L x)) := by
  have hj : Ev (fun k => number_Name.j0 k x true) false := by
    refine Ev.step (fun k => rfl) ?_
    simp only [number_Name.j0, if_true]
    exact Ev.now _
  unfold number_Name.f
  have hl := L_len x
  by_cases h0 : x.size = 0
  · simp only [if_pos ((empty_iff x).2 h0)]
    have : L x = [] := by rw [← List.length_eq_zero_iff, L_len]; exact h0
    rw [this]
    exact hj
  · obtain ⟨c, t, ht, hb⟩ := L_pos (show 0 < x.size by omega)
    rw [ht, List.length_cons] at hl
    simp only [if_neg (fun h => h0 ((empty_iff x).1 h))]
    by_cases h16 : (x.size : Int) > 16
    · rw [ht]
      unfold nameL
      simp only [h16, decide_true, show ¬ (t.length < 16) by omega, decide_false, Bool.false_and]
      exact hj
    · simp only [h16, decide_false]
      refine Ev.step (fun k => rfl) ?_
      simp only [number_Name.j0, if_neg (show ¬ (false = true) by decide)]
      have h1 : 0 < (L x).length := by rw [L_len]; omega
      have := num_name_step x hs h1 (num_name_loop x hs (x.size - 1) 1 (by omega) (by omega))
      simp only [ht] at this ⊢
      unfold nameL
      simpa [show t.length < 16 by omega] using this
end Go.Proofs.YtejhagejjogbaaaDoor.Num
end
section
namespace Go.Proofs.YtejhagejjogbaaaDoor.Num
open Go.RowKit Go.Proofs.YtejhagejjogbaaaDoor.Given Go.Proofs.YtejhagejjogbaaaDoor.Pn Go.Proofs.YtejhagejjogbaaaDoorW.PrintWords Go.Proofs.YtejhagejjogbaaaDoorW.PrintLast
theorem rep_def {old new : List UInt8} (hne : old ≠ new) (s : List UInt8) : Lib.replaceAll s old new = Lib.replaceK old new (Lib.count s old) s := by
  unfold Lib.replaceAll Lib.replace Lib.replaceNum
  rw [if_neg (by simpa using hne), if_pos (Or.inl (by decide))]
theorem rep_nil {old new : List UInt8} (ho : old ≠ []) (hne : old ≠ new) : Lib.replaceAll [] old new = [] := by
  rw [rep_def hne, Lib.count_miss (by cases old with | nil => exact absurd rfl ho | cons a t => rfl)]
  rfl
theorem rep_hit {old new s : List UInt8} (ho : old ≠ []) (hne : old ≠ new) (hp : old.isPrefixOf s = true) : Lib.replaceAll s old new = new ++ Lib.replaceAll (s.drop old.length) old new := by
  have hi : Lib.index s old = (0 : Nat) := by
    cases s with
    | nil => cases old with
      | nil => exact absurd rfl ho
      | cons a t => simp at hp
    | cons c t => unfold Lib.index; rw [if_pos hp]; rfl
  rw [rep_def hne, rep_def hne, Lib.count_hit ho hi, Nat.add_comm 1, Lib.replaceK_hit _ _ _ _ 0 hi]
  simp
theorem rep_miss {old new : List UInt8} {c : UInt8} {t : List UInt8} (ho : old ≠ []) (hne : old ≠ new) (hp : old.isPrefixOf (c :: t) = false) : Lib.replaceAll (c :: t) old new = c :: Lib.replaceAll t old new := by
  have hge := Lib.index_ge t old
  rw [rep_def hne, rep_def hne]
  by_cases hm : Lib.index t old = -1
  · have hi : Lib.index (c :: t) old = -1 := by
      unfold Lib.index
      rw [if_neg (by simp [hp]), if_pos (by simpa using hm)]
    rw [Lib.count_miss hi, Lib.count_miss hm]
    rfl
  · obtain ⟨i, hi⟩ : ∃ i : Nat, Lib.index t old = i := ⟨(Lib.index t old).toNat, by omega⟩
    have hi' : Lib.index (c :: t) old = ((i + 1 : Nat) : Int) := by
      unfold Lib.index
      rw [if_neg (by simp [hp]), if_neg (by simpa using hm), hi]; rfl
    have e : i + 1 + old.length = (i + old.length) + 1 := by omega
    rw [Lib.count_hit ho hi', Lib.count_hit ho hi, Nat.add_comm 1, Nat.add_comm 1, Lib.replaceK_hit _ _ _ _ _ hi', Lib.replaceK_hit _ _ _ _ _ hi, e]
    simp
theorem pre1 (c : UInt8) (t : List UInt8) (h : c ≠ 39) : ([39] : List UInt8).isPrefixOf (c :: t) = false := by
  have : ((39 : UInt8) == c) = false := by simpa using fun e => h e.symm
  rw [List.isPrefixOf, this]; rfl
theorem pre2 (c d : UInt8) (t : List UInt8) (h : ¬ (c = 39 ∧ d = 39)) : ([39, 39] : List UInt8).isPrefixOf (c :: d :: t) = false := by
  rw [List.isPrefixOf, List.isPrefixOf]
  cases h1 : ((39 : UInt8) == c) with
  | false => rfl
  | true =>
    cases h2 : ((39 : UInt8) == d) with
    | false => rfl
    | true => exact absurd ⟨(beq_iff_eq.1 h1).symm, (beq_iff_eq.1 h2).symm⟩ h
def dbl : List UInt8 → List UInt8
  | [] => []
  | c :: t => if c = 39 then 39 :: 39 :: dbl t else c :: dbl t
def und : List UInt8 → List UInt8
  | [] => []
  | [c] => [c]
  | c :: d :: t => if c = 39 ∧ d = 39 then 39 :: und t else c :: und (d :: t)
theorem dbl_eq (l : List UInt8) : Lib.replaceAll l [39] [39, 39] = dbl l := by
  induction l with
  | nil => exact rep_nil (by decide) (by decide)
  | cons c t ih =>
    by_cases h : c = 39
    · subst h
      rw [rep_hit (by decide) (by decide) (by simp [List.isPrefixOf]), dbl, if_pos rfl]
      simp [ih]
    · rw [rep_miss (by decide) (by decide) (pre1 c t h), dbl, if_neg h, ih]
theorem und_eq : ∀ l : List UInt8, Lib.replaceAll l [39, 39] [39] = und l
  | [] => rep_nil (by decide) (by decide)
  | [c] => by
    rw [rep_miss (by decide) (by decide) (by simp [List.isPrefixOf]), rep_nil (by decide) (by decide), und]
  | c :: d :: t => by
    by_cases h : c = 39 ∧ d = 39
    · obtain ⟨rfl, rfl⟩ := h
      rw [rep_hit (by decide) (by decide) (by simp [List.isPrefixOf]), und, if_pos ⟨rfl, rfl⟩]
      simp [und_eq t]
    · rw [rep_miss (by decide) (by decide) (pre2 c d t h), und, if_neg h, und_eq (d :: t)]
theorem und_39 (d : UInt8) (t : List UInt8) (h : d ≠ 39) : und (39 :: d :: t) = 39 :: und (d :: t) := by
  rw [und, if_neg (fun e => h e.2)]
theorem und_ne {c : UInt8} (h : c ≠ 39) (t : List UInt8) : und (c :: t) = c :: und t := by
  cases t with
  | nil => rfl
  | cons d t => rw [und, if_neg (fun e => h e.1)]
theorem und_dbl : ∀ l : List UInt8, und (dbl l) = l
  | [] => rfl
  | c :: t => by
    rw [dbl]
    by_cases h : c = 39
    · subst h
      rw [if_pos rfl, und, if_pos ⟨rfl, rfl⟩, und_dbl t]
    · rw [if_neg h, und_ne h, und_dbl t]
theorem dbl_bad (l : List UInt8) : (dbl l).any badB = l.any badB := by
  induction l with
  | nil => rfl
  | cons c t ih =>
    rw [dbl]
    by_cases h : c = 39
    · subst h
      rw [if_pos rfl]
      simp [ih, badB]
    · rw [if_neg h]
      simp [ih]
theorem dbl_len (l : List UInt8) : (dbl l).length ≤ 2 * l.length := by
  induction l with
  | nil => exact Nat.le_refl _
  | cons c t ih =>
    rw [dbl]
    split <;> simp <;> omega
def ru : List UInt8 → Option (List UInt8)
  | [] => some []
  | [c] => if badB c then none else if c = 39 then none else some [c]
  | c :: d :: t => if badB c then none else if c = 39 then (if d = 39 then (ru t).map (39 :: ·) else none) else (ru (d :: t)).map (c :: ·)
theorem ru_cons {c : UInt8} (hb : badB c = false) (h : c ≠ 39) (t : List UInt8) : ru (c :: t) = (ru t).map (c :: ·) := by
  cases t with
  | nil => simp [ru, hb, h]
  | cons d t => rw [ru]; simp [hb, h]
theorem ru_bad {c : UInt8} (hb : badB c = true) (t : List UInt8) : ru (c :: t) = none := by
  cases t with
  | nil => simp [ru, hb]
  | cons d t => rw [ru]; simp [hb]
theorem bad39 : badB 39 = false := by decide
theorem ru_eq : ∀ l : List UInt8, ru l = if l.any badB = false ∧ dbl (und l) = l then some (und l) else none
  | [] => rfl
  | [c] => by
    by_cases hb : badB c = true
    · simp [ru, hb]
    · have hb : badB c = false := by simpa using hb
      by_cases h : c = 39
      · subst h; simp [ru, und, dbl]
      · simp [ru, und, dbl, hb, h]
  | c :: d :: t => by
    have ih1 := ru_eq t
    have ih2 := ru_eq (d :: t)
    by_cases hb : badB c = true
    · rw [ru_bad hb, if_neg]; simp [hb]
    · have hb : badB c = false := by simpa using hb
      by_cases h : c = 39
      · subst h
        by_cases hd : d = 39
        · subst hd
          rw [ru]
          simp only [bad39, Bool.false_eq_true, if_false, if_true, ih1, und, and_self, dbl, List.any_cons, Bool.false_or, List.cons.injEq, true_and]
          split <;> rfl
        · rw [ru]
          simp only [bad39, Bool.false_eq_true, if_false, if_true, hd]
          rw [und_39 d t hd, dbl, if_pos rfl, if_neg]
          rintro ⟨_, e⟩
          simp only [List.cons.injEq, true_and] at e
          exact hd e.1.symm
      · rw [ru_cons hb h, ih2, und_ne h, dbl, if_neg h]
        simp only [List.any_cons (a := c), hb, Bool.false_or, List.cons.injEq, true_and]
        split <;> rfl
def unqL (l : List UInt8) : List UInt8 × Int :=
  if 2 ≤ l.length ∧ l.head? = some 39 ∧ l.getLast? = some 39 then (match ru (l.tail.dropLast) with | some o => (o, 0) | none => ([], 2)) else ([], 2)
theorem suffix1 (l : List UInt8) : Lib.hasSuffix l [39] = true ↔ l.getLast? = some 39 := by
  unfold Lib.hasSuffix
  rw [List.isSuffixOf_iff_suffix]
  constructor
  · rintro ⟨t, rfl⟩; simp
  · intro h
    obtain ⟨t, rfl⟩ := List.getLast?_eq_some_iff.1 h
    exact ⟨t, rfl⟩
theorem unqS_eq (l : List UInt8) : unqS l = unqL l := by
  unfold unqS unqL
  cases l with
  | nil => rfl
  | cons c t =>
    by_cases hc : c = 39
    · subst hc
      have e1 : Lib.hasPrefix (39 :: t) [39] = true := by simp [Lib.hasPrefix]
      have e2 : Lib.trimPrefix (39 :: t) [39] = t := by simp [Lib.trimPrefix, e1]
      simp only [e1, e2, List.head?_cons, List.tail_cons, true_and, List.length_cons]
      by_cases hs : t.getLast? = some 39
      · obtain ⟨m, rfl⟩ := List.getLast?_eq_some_iff.1 hs
        have e3 := (suffix1 (m ++ [39])).2 hs
        have e4 : Lib.trimSuffix (m ++ [39]) [39] = m := by simp [Lib.trimSuffix, e3]
        have e5 : (39 :: (m ++ [39])).getLast? = some (39 : UInt8) := by
          rw [← List.cons_append, List.getLast?_concat]
        have e6 : 2 ≤ (m ++ [39]).length + 1 := by simp
        simp only [e3, e4, e5, e6, und_eq, dbl_eq, List.dropLast_concat, true_and, and_self, if_true, ru_eq m]
        split <;> rfl
      · have e3 : Lib.hasSuffix t [39] = false := by
          cases hh : Lib.hasSuffix t [39] with
          | false => rfl
          | true => exact absurd ((suffix1 t).1 hh) hs
        rw [if_neg (by simp [e3]), if_neg]
        rintro ⟨h2, h3⟩
        cases t with
        | nil => simp at h2
        | cons d t => rw [List.getLast?_cons_cons] at h3; exact hs h3
    · have e1 : Lib.hasPrefix (c :: t) [39] = false := pre1 c t hc
      rw [if_neg (by simp [e1]), if_neg (by simp [hc])]
theorem unq_quote (l : List UInt8) : unqS (39 :: (dbl l ++ [39])) = if l.any badB = false then (l, 0) else ([], 2) := by
  rw [unqS_eq]
  unfold unqL
  have e5 : (39 :: (dbl l ++ [39])).getLast? = some (39 : UInt8) := by
    rw [← List.cons_append, List.getLast?_concat]
  rw [if_pos ⟨by simp, by simp, e5⟩]
  simp only [List.tail_cons, List.dropLast_concat, ru_eq, und_dbl, dbl_bad, and_true]
  split
  · rename_i o h; split at h <;> simp_all
  · rename_i h; split at h <;> simp_all
end Go.Proofs.YtejhagejjogbaaaDoor.Num
end
section
namespace Go.Proofs.YtejhagejjogbaaaDoor.Num
open Go.RowKit Go.Proofs.YtejhagejjogbaaaDoor.Given Go.Proofs.YtejhagejjogbaaaDoor.Pn Go.Proofs.YtejhagejjogbaaaDoorW.PrintWords Go.Proofs.YtejhagejjogbaaaDoorW.PrintLast
set_option linter.unusedSimpArgs false
theorem Llist (l : List UInt8) : L ⟨l.toArray⟩ = l := by rw [L_mk, List.toList_toArray]
end Go.Proofs.YtejhagejjogbaaaDoor.Num
end
section
namespace Go.Proofs.YtejhagejjogbaaaDoor.Tk
open Go.RowKit Go.Proofs.YtejhagejjogbaaaDoor.Given Go.Proofs.YtejhagejjogbaaaDoor.Pn Go.Proofs.YtejhagejjogbaaaDoor.Pa Go.Proofs.YtejhagejjogbaaaDoor.Pb Go.Proofs.YtejhagejjogbaaaDoor.Num Go.Proofs.YtejhagejjogbaaaDoor.TokSpan Go.Proofs.YtejhagejjogbaaaDoorW.PrintWords Go.Proofs.YtejhagejjogbaaaDoorW.PrintLast
set_option linter.unusedSimpArgs false
set_option linter.unusedVariables false
def qlen : List UInt8 → Option Nat
  | [] => none
  | [c] => if c = 39 then some 1 else none
  | c :: d :: t => if c = 39 then (if d = 39 then (qlen t).map (· + 2) else some 1) else (qlen (d :: t)).map (· + 1)
theorem qlen_ne {c : UInt8} (h : c ≠ 39) (t : List UInt8) : qlen (c :: t) = (qlen t).map (· + 1) := by
  cases t with
  | nil => simp [qlen, h]
  | cons d t => rw [qlen, if_neg h]
theorem qlen_le : ∀ l : List UInt8, ∀ m, qlen l = some m → 1 ≤ m ∧ m ≤ l.length
  | [], m, h => by simp [qlen] at h
  | [c], m, h => by
    simp only [qlen] at h
    split at h
    · obtain rfl := Option.some.inj h; simp
    · cases h
  | c :: d :: t, m, h => by
    rw [qlen] at h
    split at h
    · split at h
      · obtain ⟨a, ha, rfl⟩ := Option.map_eq_some_iff.1 h
        have := qlen_le t a ha
        simp; omega
      · obtain rfl := Option.some.inj h; simp
    · obtain ⟨a, ha, rfl⟩ := Option.map_eq_some_iff.1 h
      have := qlen_le (d :: t) a ha
      simp at this ⊢; omega
def markL : List UInt8 := [44, 40, 41, 91, 93, 43, 45, 42, 47, 58, 36]
def markB (c : UInt8) : Bool := markL.contains c
def firstL (l : List UInt8) : Int × ByteArray × Int × Int × Int :=
  match l with
  | [] => (0, ⟨#[]⟩, 0, 0, 2)
  | c :: t =>
    if begB c = true then
      if 16 < ((c :: t).takeWhile p1).length then (0, ⟨#[]⟩, 0, 0, 11)
      else (1, ⟨(((c :: t).take ((c :: t).takeWhile p1).length).map up1).toArray⟩, 0, (((c :: t).takeWhile p1).length : Nat), 0)
    else if digB c = true then
      (2, ⟨#[]⟩, (parseL (((c :: t).take ((c :: t).takeWhile p2).length).map up1)).1, (((c :: t).takeWhile p2).length : Nat), (parseL (((c :: t).take ((c :: t).takeWhile p2).length).map up1)).2)
    else if c = 39 then
      match qlen t with
      | none => (0, ⟨#[]⟩, 0, 0, 2)
      | some m => (3, ⟨(unqL ((c :: t).take (m + 1))).1.toArray⟩, 0, ((m + 1 : Nat) : Int), (unqL ((c :: t).take (m + 1))).2)
    else if markB c = true then (4, ⟨#[c]⟩, 0, 1, 0)
    else (0, ⟨#[]⟩, 0, 0, 2)
theorem tw_le (p : UInt8 → Bool) (l : List UInt8) : (l.takeWhile p).length ≤ l.length := (List.takeWhile_prefix p).length_le
theorem nat8 (c : UInt8) : ((c.toNat : Int)).toNat.toUInt8 = c := by simp
end Go.Proofs.YtejhagejjogbaaaDoor.Tk
end
section
namespace Go.Proofs.YtejhagejjogbaaaDoor.Tk
open Go.RowKit Go.Proofs.YtejhagejjogbaaaDoor.Given Go.Proofs.YtejhagejjogbaaaDoor.Pn Go.Proofs.YtejhagejjogbaaaDoor.Pa Go.Proofs.YtejhagejjogbaaaDoor.Pb Go.Proofs.YtejhagejjogbaaaDoor.Num Go.Proofs.YtejhagejjogbaaaDoor.TokSpan Go.Proofs.YtejhagejjogbaaaDoorW.PrintWords Go.Proofs.YtejhagejjogbaaaDoorW.PrintLast
set_option linter.unusedSimpArgs false
set_option linter.unusedVariables false
theorem beg_p1 (c : UInt8) (h : begB c = true) : p1 c = true := by simp [p1, h]
theorem dig_p2 (c : UInt8) (h : digB c = true) : p2 c = true := by simp [p2, h]
end Go.Proofs.YtejhagejjogbaaaDoor.Tk
end
section
namespace Go.Proofs.YtejhagejjogbaaaDoor.Tk
open Go.RowKit Go.Proofs.YtejhagejjogbaaaDoor.Given Go.Proofs.YtejhagejjogbaaaDoor.Pn Go.Proofs.YtejhagejjogbaaaDoor.Pa Go.Proofs.YtejhagejjogbaaaDoor.Pb Go.Proofs.YtejhagejjogbaaaDoor.Pc Go.Proofs.YtejhagejjogbaaaDoor.Num Go.Proofs.YtejhagejjogbaaaDoor.TokSpan Go.Proofs.YtejhagejjogbaaaDoorW.PrintWords Go.Proofs.YtejhagejjogbaaaDoorW.PrintLast
set_option linter.unusedSimpArgs false
set_option linter.unusedVariables false
def tk (f : Int × ByteArray × Int × Int × Int) : S41 := ⟨f.1, f.2.1, f.2.2.1⟩
def toks : Nat → List UInt8 → List S41 × Int
  | 0, _ => ([], 0)
  | _ + 1, [] => ([], 0)
  | n + 1, c :: t =>
    if c = 32 ∨ c = 9 then toks n t else if c = 59 then ([], 0)
    else if (firstL (c :: t)).2.2.2.2 = 0 then
      (if (toks n ((c :: t).drop (firstL (c :: t)).2.2.2.1.toNat)).2 = 0 then (tk (firstL (c :: t)) :: (toks n ((c :: t).drop (firstL (c :: t)).2.2.2.1.toNat)).1, 0) else ([], (toks n ((c :: t).drop (firstL (c :: t)).2.2.2.1.toNat)).2))
    else ([], (firstL (c :: t)).2.2.2.2)
theorem same_l0 (l : List S46) (hs : l.length ≤ 100000) (d : Nat) : ∀ (i : Nat), i + d = l.length → Ev (fun k => pidginref04_Same.l0 k l l (i : Int)) true := by
  induction d with
  | zero =>
    intro i hi
    refine Ev.step (fun k => rfl) ?_
    simp only [pidginref04_Same.l0, if_neg (show ¬ (i : Int) < (l.length : Int) by omega)]
    exact Ev.now _
  | succ d ih =>
    intro i hi
    refine Ev.step (fun k => rfl) ?_
    simp only [pidginref04_Same.l0, if_pos (show (i : Int) < (l.length : Int) by omega), if_pos (show (0 : Int) ≤ (i : Int) by omega), beq_self_eq_true, Bool.not_true, Bool.or_false, Bool.false_eq_true, if_false, inc_w (show i ≤ 140737488351300 by omega)]
    exact ih (i + 1) (by omega)
theorem same_ev (l : List S46) (hs : l.length ≤ 100000) : Ev (fun k => pidginref04_Same.f k l l) true := by
  unfold pidginref04_Same.f
  simp only [if_true]
  exact same_l0 l hs l.length 0 (by omega)
end Go.Proofs.YtejhagejjogbaaaDoor.Tk
end
section
namespace Go.Proofs.YtejhagejjogbaaaDoor.Tk
open Go.RowKit Go.Proofs.YtejhagejjogbaaaDoor.Given Go.Proofs.YtejhagejjogbaaaDoor.Pn Go.Proofs.YtejhagejjogbaaaDoor.Pa Go.Proofs.YtejhagejjogbaaaDoor.Pb Go.Proofs.YtejhagejjogbaaaDoor.Pc Go.Proofs.YtejhagejjogbaaaDoor.Num Go.Proofs.YtejhagejjogbaaaDoor.TokSpan Go.Proofs.YtejhagejjogbaaaDoorW.PrintWords Go.Proofs.YtejhagejjogbaaaDoorW.PrintLast
set_option linter.unusedSimpArgs false
set_option linter.unusedVariables false
inductive TkP : S41 → Prop
  | name (l : List UInt8) (h : nameL l = true) (hu : l.map up1 = l) : TkP ⟨1, ⟨l.toArray⟩, 0⟩
  | num (n : Nat) (h : n ≤ 65535) : TkP ⟨2, ⟨#[]⟩, n⟩
  | text (l : List UInt8) (h : l.any badB = false) (hl : l.length ≤ 200) : TkP ⟨3, ⟨l.toArray⟩, 0⟩
  | mark (c : UInt8) (h : markB c = true) : TkP ⟨4, ⟨#[c]⟩, 0⟩
end Go.Proofs.YtejhagejjogbaaaDoor.Tk
end
section
namespace Go.Proofs.YtejhagejjogbaaaDoor.Tk
open Go.RowKit Go.Proofs.YtejhagejjogbaaaDoor.Given Go.Proofs.YtejhagejjogbaaaDoor.Pn Go.Proofs.YtejhagejjogbaaaDoor.Pa Go.Proofs.YtejhagejjogbaaaDoor.Pb Go.Proofs.YtejhagejjogbaaaDoor.Pc Go.Proofs.YtejhagejjogbaaaDoor.Num Go.Proofs.YtejhagejjogbaaaDoor.TokSpan Go.Proofs.YtejhagejjogbaaaDoorW.PrintWords Go.Proofs.YtejhagejjogbaaaDoorW.PrintLast
set_option linter.unusedSimpArgs false
set_option linter.unusedVariables false
theorem tw_sep {p : UInt8 → Bool} {s : UInt8} (hp : p s = false) (r : List UInt8) : ∀ l : List UInt8, (l ++ s :: r).takeWhile p = l.takeWhile p
  | [] => by simp [List.takeWhile_cons, hp]
  | c :: t => by
    rw [List.cons_append, List.takeWhile_cons, List.takeWhile_cons, tw_sep hp r t]
theorem qlen_sep {s : UInt8} (hs : s ≠ 39) (r : List UInt8) : ∀ (t : List UInt8) (m : Nat), qlen t = some m → qlen (t ++ s :: r) = some m
  | [], m, h => by simp [qlen] at h
  | [c], m, h => by
    rw [qlen] at h
    split at h
    · rename_i hc
      obtain rfl := Option.some.inj h
      rw [List.cons_append, List.nil_append, qlen, if_pos hc, if_neg hs]
    · cases h
  | c :: d :: t, m, h => by
    rw [qlen] at h
    rw [List.cons_append, List.cons_append, qlen]
    split at h
    · rename_i hc
      rw [if_pos hc]
      split at h
      · rename_i hd
        obtain ⟨a, ha, rfl⟩ := Option.map_eq_some_iff.1 h
        rw [if_pos hd, qlen_sep hs r t a ha]; rfl
      · rename_i hd
        rw [if_neg hd]; exact h
    · rename_i hc
      obtain ⟨a, ha, rfl⟩ := Option.map_eq_some_iff.1 h
      rw [if_neg hc, ← List.cons_append, qlen_sep hs r (d :: t) a ha]; rfl
theorem first_sep {s : UInt8} (h1 : p1 s = false) (h2 : p2 s = false) (h3 : s ≠ 39) (r : List UInt8) (c : UInt8) (t : List UInt8) (h : (firstL (c :: t)).2.2.2.2 = 0) : firstL ((c :: t) ++ s :: r) = firstL (c :: t) := by
  have e1 := tw_sep h1 r (c :: t)
  have e2 := tw_sep h2 r (c :: t)
  have l1 := tw_le p1 (c :: t)
  have l2 := tw_le p2 (c :: t)
  rw [List.cons_append] at e1 e2
  rw [List.cons_append]
  unfold firstL at h ⊢
  simp only at h ⊢
  have tk (n : Nat) (hn : n ≤ (c :: t).length) : (c :: (t ++ s :: r)).take n = (c :: t).take n := by
    rw [← List.cons_append, List.take_append_of_le_length hn]
  rw [e1, e2, tk _ l1, tk _ l2]
  split at h
  · rename_i hb
    rw [if_pos hb, if_pos hb]
  · rename_i hb
    rw [if_neg hb, if_neg hb]
    split at h
    · rename_i hd
      rw [if_pos hd, if_pos hd]
    · rename_i hd
      rw [if_neg hd, if_neg hd]
      split at h
      · rename_i h9
        rw [if_pos h9, if_pos h9]
        cases hq : qlen t with
        | none => rw [hq] at h; cases h
        | some m =>
          have := qlen_le t m hq
          rw [qlen_sep h3 r t m hq]
          simp only
          rw [tk (m + 1) (by simp; omega)]
      · rename_i h9
        rw [if_neg h9, if_neg h9]
theorem sep32 : p1 32 = false ∧ p2 32 = false ∧ (32 : UInt8) ≠ 39 := by decide
theorem toks_gap {n : Nat} {c : UInt8} {t : List UInt8} (h : c = 32 ∨ c = 9) : toks (n + 1) (c :: t) = toks n t := by
  show (if c = 32 ∨ c = 9 then toks n t else _) = _
  rw [if_pos h]
theorem toks_else {n : Nat} {c : UInt8} {t : List UInt8} (h1 : ¬ (c = 32 ∨ c = 9)) (h2 : c ≠ 59) : toks (n + 1) (c :: t) =
    if (firstL (c :: t)).2.2.2.2 = 0 then
      (if (toks n ((c :: t).drop (firstL (c :: t)).2.2.2.1.toNat)).2 = 0 then (tk (firstL (c :: t)) :: (toks n ((c :: t).drop (firstL (c :: t)).2.2.2.1.toNat)).1, 0) else ([], (toks n ((c :: t).drop (firstL (c :: t)).2.2.2.1.toNat)).2))
    else ([], (firstL (c :: t)).2.2.2.2) := by
  show (if c = 32 ∨ c = 9 then toks n t else if c = 59 then ([], 0) else _) = _
  rw [if_neg h1, if_neg h2]
end Go.Proofs.YtejhagejjogbaaaDoor.Tk
end
section
namespace Go.Proofs.YtejhagejjogbaaaDoor.Tk
open Go.RowKit Go.Proofs.YtejhagejjogbaaaDoor.Given Go.Proofs.YtejhagejjogbaaaDoor.Pn Go.Proofs.YtejhagejjogbaaaDoor.Pa Go.Proofs.YtejhagejjogbaaaDoor.Pb Go.Proofs.YtejhagejjogbaaaDoor.Pc Go.Proofs.YtejhagejjogbaaaDoor.Pd Go.Proofs.YtejhagejjogbaaaDoor.Num Go.Proofs.YtejhagejjogbaaaDoor.TokSpan Go.Proofs.YtejhagejjogbaaaDoor.TokJoin Go.Proofs.YtejhagejjogbaaaDoorW.PrintWords Go.Proofs.YtejhagejjogbaaaDoorW.PrintLast
set_option linter.unusedSimpArgs false
set_option linter.unusedVariables false
def showT (t : S41) : List UInt8 := if t.f0 = 2 then showL t.f2.toNat else if t.f0 = 3 then 39 :: (dbl (L t.f1) ++ [39]) else L t.f1
theorem tw_all {p : UInt8 → Bool} {l : List UInt8} (h : l.all p = true) : l.takeWhile p = l := by
  have h1 := span_end h
  have h2 := List.takeWhile_prefix (l := l) p
  exact h2.eq_of_length h1
theorem let_beg_all : ∀ c : Fin 256, letterB (UInt8.ofNat c.val) = begB (UInt8.ofNat c.val) := by decide +kernel
theorem let_beg (c : UInt8) : letterB c = begB c := by
  have := let_beg_all ⟨c.toNat, c.toNat_lt⟩
  simpa using this
theorem tail_p1_all : ∀ c : Fin 256, tailB (UInt8.ofNat c.val) = p1 (UInt8.ofNat c.val) := by decide +kernel
theorem tail_p1 (c : UInt8) : tailB c = p1 c := by
  have := tail_p1_all ⟨c.toNat, c.toNat_lt⟩
  simpa using this
theorem beg_not_all : ∀ c : Fin 256, begB (UInt8.ofNat c.val) = true → UInt8.ofNat c.val ≠ 32 ∧ UInt8.ofNat c.val ≠ 9 ∧ UInt8.ofNat c.val ≠ 59 := by decide +kernel
theorem beg_not (c : UInt8) (h : begB c = true) : c ≠ 32 ∧ c ≠ 9 ∧ c ≠ 59 := by
  have := beg_not_all ⟨c.toNat, c.toNat_lt⟩
  simp only [UInt8.ofNat_toNat] at this
  exact this h
theorem dig_not_all : ∀ c : Fin 256, digB (UInt8.ofNat c.val) = true → UInt8.ofNat c.val ≠ 32 ∧ UInt8.ofNat c.val ≠ 9 ∧ UInt8.ofNat c.val ≠ 59 ∧ begB (UInt8.ofNat c.val) = false := by decide +kernel
theorem dig_not (c : UInt8) (h : digB c = true) : c ≠ 32 ∧ c ≠ 9 ∧ c ≠ 59 ∧ begB c = false := by
  have := dig_not_all ⟨c.toNat, c.toNat_lt⟩
  simp only [UInt8.ofNat_toNat] at this
  exact this h
theorem mark_not_all : ∀ c : Fin 256, markB (UInt8.ofNat c.val) = true → UInt8.ofNat c.val ≠ 32 ∧ UInt8.ofNat c.val ≠ 9 ∧ UInt8.ofNat c.val ≠ 59 ∧ begB (UInt8.ofNat c.val) = false ∧ digB (UInt8.ofNat c.val) = false ∧ UInt8.ofNat c.val ≠ 39 := by decide +kernel
theorem mark_not (c : UInt8) (h : markB c = true) : c ≠ 32 ∧ c ≠ 9 ∧ c ≠ 59 ∧ begB c = false ∧ digB c = false ∧ c ≠ 39 := by
  have := mark_not_all ⟨c.toNat, c.toNat_lt⟩
  simp only [UInt8.ofNat_toNat] at this
  exact this h
theorem hc_p2 : ∀ d : Fin 16, p2 (hc d.val) = true := by decide +kernel
theorem hc_dig : ∀ d : Fin 16, ¬ 57 < (hc d.val).toNat → digB (hc d.val) = true := by decide +kernel
theorem hexd_p2 (n : Nat) : (hexd n).all p2 = true := by
  induction n using Nat.strongRecOn with
  | _ n ih =>
    cases n with
    | zero => simp [hexd]
    | succ m =>
      rw [hexd_pos (by omega), List.all_cons, ih _ (by omega), hc_p2 ⟨(m + 1) % 16, by omega⟩]
      rfl
theorem small_dig : ∀ d : Fin 10, digB (UInt8.ofNat (48 + d.val)) = true := by decide +kernel
theorem zeroed_all {l : List UInt8} (h : l.all p2 = true) : (zeroed l).all p2 = true := by
  unfold zeroed
  split
  · exact h
  · split
    · simp only [List.all_cons] at h ⊢
      rw [h]; rfl
    · exact h
theorem show_p2 (n : Nat) : ∃ c t, showL n = c :: t ∧ digB c = true ∧ (showL n).all p2 = true := by
  unfold showL
  split
  · rename_i h
    refine ⟨_, _, rfl, small_dig ⟨n, h⟩, ?_⟩
    rw [List.all_cons, dig_p2 _ (small_dig ⟨n, h⟩)]; rfl
  · rename_i h
    have ha : ((hexd n).reverse ++ [72]).all p2 = true := by
      rw [List.all_append, List.all_reverse, hexd_p2]; decide
    obtain ⟨t, e, ht⟩ := hexd_top n (by omega) 0
    have hz := zeroed_all ha
    rw [e] at hz ⊢
    simp only [List.cons_append] at hz ⊢
    unfold zeroed at hz ⊢
    simp only at hz ⊢
    split
    · rename_i h57
      rw [if_pos h57] at hz
      exact ⟨48, _, rfl, by decide, hz⟩
    · rename_i h57
      rw [if_neg h57] at hz
      exact ⟨_, _, rfl, hc_dig ⟨top n 0, ht⟩ h57, hz⟩
theorem qlen_dbl : ∀ l : List UInt8, qlen (dbl l ++ [39]) = some ((dbl l).length + 1)
  | [] => rfl
  | c :: t => by
    rw [dbl]
    by_cases h : c = 39
    · rw [if_pos h]
      have := qlen_dbl t
      rw [List.cons_append, List.cons_append, qlen, if_pos rfl, if_pos rfl, this]
      simp
    · rw [if_neg h, List.cons_append, qlen_ne h, qlen_dbl t]
      simp
theorem first_show {t : S41} (h : TkP t) : ∃ c s, showT t = c :: s ∧ c ≠ 32 ∧ c ≠ 9 ∧ c ≠ 59 ∧ firstL (c :: s) = (t.f0, t.f1, t.f2, (((c :: s).length : Nat) : Int), 0) ∧ (c :: s).length ≤ 500 := by
  cases h with
  | name l h hu =>
    cases l with
    | nil => simp [nameL] at h
    | cons c s =>
      simp only [nameL, Bool.and_eq_true, decide_eq_true_eq] at h
      obtain ⟨⟨h1, h2⟩, h3⟩ := h
      have hb : begB c = true := by rw [← let_beg]; exact h2
      have ha : (c :: s).all p1 = true := by
        rw [List.all_cons, beg_p1 c hb, Bool.true_and, List.all_eq_true]
        intro a hm
        rw [← tail_p1]
        exact List.all_eq_true.1 h3 a hm
      obtain ⟨n1, n2, n3⟩ := beg_not c hb
      refine ⟨c, s, by unfold showT; simp only [Llist]; rfl, n1, n2, n3, ?_, by simp; omega⟩
      have e := tw_all ha
      unfold firstL
      simp only [hb, if_true, e, List.take_length, hu]
      rw [if_neg (by simp; omega)]
  | num n hn =>
    obtain ⟨c, s, e, h1, h2⟩ := show_p2 n
    obtain ⟨n1, n2, n3, n4⟩ := dig_not c h1
    have hl := (show_len n hn).2
    refine ⟨c, s, by unfold showT; simp only [if_true, Int.toNat_natCast]; exact e, n1, n2, n3, ?_, by rw [← e]; omega⟩
    have e2 := tw_all h2
    unfold firstL
    simp only [n4, Bool.false_eq_true, if_false, h1, if_true, ← e, e2, List.take_length, show_up, parse_show n hn]
  | text l h hl =>
    have hd := dbl_len l
    refine ⟨39, dbl l ++ [39], by unfold showT; simp only [Llist]; rfl, by decide, by decide, by decide, ?_, by simp; omega⟩
    have e := unq_quote l
    rw [if_pos h, unqS_eq] at e
    unfold firstL
    have e2 : (39 :: (dbl l ++ [39])).take ((dbl l).length + 1 + 1) = 39 :: (dbl l ++ [39]) := List.take_of_length_le (by simp)
    simp only [show begB 39 = false by decide, show digB 39 = false by decide, Bool.false_eq_true, if_false, if_true, qlen_dbl, e2, e]
    simp
  | mark c h =>
    obtain ⟨n1, n2, n3, n4, n5, n6⟩ := mark_not c h
    refine ⟨c, [], by unfold showT; rfl, n1, n2, n3, ?_, by simp⟩
    unfold firstL
    simp only [n4, n5, n6, h, Bool.false_eq_true, if_false, if_true]
    rfl
def joinT (ts : List S41) : List UInt8 := Lib.join (ts.map showT) [32]
theorem joinT_cons (t y : S41) (r : List S41) : joinT (t :: y :: r) = showT t ++ 32 :: joinT (y :: r) := by
  unfold joinT
  rw [List.map_cons, Lib.join_cons, List.map_cons, Lib.join_cons]
  simp [Lib.joinTail]
theorem joinT_one (t : S41) : joinT [t] = showT t := by
  unfold joinT
  rw [List.map_cons, List.map_nil, Lib.join_one]
theorem show_toks : ∀ (ts : List S41) (N : Nat), (∀ t ∈ ts, TkP t) → (joinT ts).length ≤ N → toks N (joinT ts) = (ts, 0)
  | [], N, _, _ => by cases N <;> rfl
  | [t], N, hg, hN => by
    obtain ⟨c, s, e, n1, n2, n3, hf, _⟩ := first_show (hg t (by simp))
    rw [joinT_one, e] at hN ⊢
    cases N with
    | zero => simp at hN
    | succ N =>
      rw [toks_else (by rintro (h | h) <;> contradiction) n3, hf]
      simp only [if_true, Int.toNat_natCast, List.drop_length]
      have : toks N [] = ([], 0) := by cases N <;> rfl
      rw [this]
      rfl
  | t :: y :: r, N, hg, hN => by
    obtain ⟨c, s, e, n1, n2, n3, hf, _⟩ := first_show (hg t (by simp))
    rw [joinT_cons, e] at hN ⊢
    have e1 := first_sep sep32.1 sep32.2.1 sep32.2.2 (joinT (y :: r)) c s (by rw [hf])
    cases N with
    | zero => simp at hN
    | succ N =>
      rw [List.cons_append] at e1 hN ⊢
      rw [toks_else (by rintro (h | h) <;> contradiction) n3, e1, hf]
      simp only [if_true, Int.toNat_natCast]
      have e2 : (c :: (s ++ 32 :: joinT (y :: r))).drop (c :: s).length = 32 :: joinT (y :: r) := by
        rw [← List.cons_append, List.drop_left]
      rw [e2]
      have hlen : (joinT (y :: r)).length + 1 ≤ N := by simp at hN; omega
      obtain ⟨M, rfl⟩ : ∃ M, N = M + 1 := ⟨N - 1, by omega⟩
      rw [toks_gap (Or.inl rfl), show_toks (y :: r) M (fun t ht => hg t (List.mem_cons_of_mem _ ht)) (by omega)]
      rfl
end Go.Proofs.YtejhagejjogbaaaDoor.Tk
end
section
namespace Go.Proofs.YtejhagejjogbaaaDoor.Par
open Go.RowKit Go.Proofs.YtejhagejjogbaaaDoor.Given Go.Proofs.YtejhagejjogbaaaDoor.Pn Go.Proofs.YtejhagejjogbaaaDoor.Pa Go.Proofs.YtejhagejjogbaaaDoor.Pb Go.Proofs.YtejhagejjogbaaaDoor.Qa Go.Proofs.YtejhagejjogbaaaDoor.Num Go.Proofs.YtejhagejjogbaaaDoor.AnyNot Go.Proofs.YtejhagejjogbaaaDoorW.PrintWords Go.Proofs.YtejhagejjogbaaaDoorW.PrintLast
set_option linter.unusedSimpArgs false
set_option linter.unusedVariables false
structure PS where
  l : List S41
  k : Int
  o : Int
def e0 : S50 := ⟨⟨#[]⟩, 0, ⟨#[]⟩, []⟩
def failP (s : PS) (k : Int) : S50 × PS := (e0, ⟨s.l, if s.k = 0 then k else s.k, s.o⟩)
def atT (t : S41) (kind : Int) (texts : List (List UInt8)) : Option ByteArray := if t.f0 = kind ∧ texts.contains t.f1.data.toList = true then some t.f1 else none
def atP (l : List S41) (kind : Int) (texts : List (List UInt8)) : Option ByteArray :=
  match l with
  | [] => none
  | t :: _ => atT t kind texts
def opP (l : List S41) (r : Int) : Option ByteArray :=
  if r = 1 then atP l 1 [[79, 82], [88, 79, 82]] else if r = 2 then atP l 1 [[65, 78, 68]] else if r = 4 then atP l 4 [[43], [45]]
  else match atP l 4 [[42], [47]] with
    | some s => some s
    | none => atP l 1 [[77, 79, 68], [83, 72, 76], [83, 72, 82]]
def valP (s : ByteArray) : Int × Int := if s.size = 0 ∨ 2 < s.size then (0, 5) else ((valn s.data.toList : Int), 0)
mutual
def withinP : Nat → Int → PS → Option (S50 × PS)
  | 0, _, _ => none
  | n + 1, r, s =>
    if wrap64 (s.o + 1) > 48 then some (failP ⟨s.l, s.k, wrap64 (s.o + 1)⟩ 11)
    else match binP n r ⟨s.l, s.k, wrap64 (s.o + 1)⟩ with
      | none => none
      | some (e, t) => some (e, ⟨t.l, t.k, wrap64 (t.o - 1)⟩)
def atomP : Nat → PS → Option (S50 × PS)
  | 0, _ => none
  | n + 1, s => match s.l with
    | [] => some (failP s 2)
    | t :: l =>
      if t.f0 = 1 then (if wordL t.f1.data.toList = true then some (failP ⟨l, s.k, s.o⟩ 2) else some (⟨⟨#[110]⟩, 0, t.f1, []⟩, ⟨l, s.k, s.o⟩))
      else if t.f0 = 2 then some (⟨⟨#[35]⟩, t.f2, ⟨#[]⟩, []⟩, ⟨l, s.k, s.o⟩)
      else if t.f0 = 3 then (if (valP t.f1).2 = 0 then some (⟨⟨#[35]⟩, (valP t.f1).1, ⟨#[]⟩, []⟩, ⟨l, s.k, s.o⟩) else some (failP ⟨l, s.k, s.o⟩ (valP t.f1).2))
      else if t.f0 = 4 then
        (if t.f1.data.toList = [36] then some (⟨⟨#[36]⟩, 0, ⟨#[]⟩, []⟩, ⟨l, s.k, s.o⟩)
        else if t.f1.data.toList = [40] then
          match withinP n 1 ⟨l, s.k, s.o⟩ with
          | none => none
          | some (e, u) => if (atP u.l 4 [[41]]).isSome = true then some (e, ⟨u.l.drop 1, u.k, u.o⟩) else some (failP u 2)
        else some (failP ⟨l, s.k, s.o⟩ 2))
      else some (failP ⟨l, s.k, s.o⟩ 2)
def unaryP : Nat → Int → PS → Option (S50 × PS)
  | 0, _, _ => none
  | n + 1, r, s =>
    if r = 6 then
      (if (atP s.l 4 [[45]]).isSome = true then
        match withinP n r ⟨s.l.drop 1, s.k, s.o⟩ with
        | none => none
        | some (e, t) => some (⟨⟨#[78, 69, 71]⟩, 0, ⟨#[]⟩, [e]⟩, t)
      else atomP n s)
    else if (atP s.l 1 [[78, 79, 84]]).isSome = true then
      match withinP n r ⟨s.l.drop 1, s.k, s.o⟩ with
      | none => none
      | some (e, t) => some (⟨⟨#[78, 79, 84]⟩, 0, ⟨#[]⟩, [e]⟩, t)
    else binP n (wrap64 (r + 1)) s
def binP : Nat → Int → PS → Option (S50 × PS)
  | 0, _, _ => none
  | n + 1, r, s =>
    if r = 3 ∨ r = 6 then unaryP n r s
    else match binP n (wrap64 (r + 1)) s with
      | none => none
      | some (e, t) => loopP n r e t
def loopP : Nat → Int → S50 → PS → Option (S50 × PS)
  | 0, _, _, _ => none
  | n + 1, r, e, s =>
    if s.k = 0 then
      match opP s.l r with
      | none => some (e, s)
      | some op => match binP n (wrap64 (r + 1)) ⟨s.l.drop 1, s.k, s.o⟩ with
        | none => none
        | some (f, t) => loopP n r ⟨op, 0, ⟨#[]⟩, [e, f]⟩ t
    else some (e, s)
end
structure Up (n : Nat) : Prop where
  w : ∀ r s x, withinP n r s = some x → withinP (n + 1) r s = some x
  a : ∀ s x, atomP n s = some x → atomP (n + 1) s = some x
  u : ∀ r s x, unaryP n r s = some x → unaryP (n + 1) r s = some x
  b : ∀ r s x, binP n r s = some x → binP (n + 1) r s = some x
  l : ∀ r e s x, loopP n r e s = some x → loopP (n + 1) r e s = some x
theorem up (n : Nat) : Up n := by
  induction n with
  | zero =>
    refine ⟨?_, ?_, ?_, ?_, ?_⟩ <;> intros <;> rename_i h
    · rw [withinP] at h; cases h
    · rw [atomP] at h; cases h
    · rw [unaryP] at h; cases h
    · rw [binP] at h; cases h
    · rw [loopP] at h; cases h
  | succ n ih =>
    refine ⟨?_, ?_, ?_, ?_, ?_⟩
    · intro r s x h
      rw [withinP] at h ⊢
      split at h
      · rename_i h1; rw [if_pos h1]; exact h
      · rename_i h1
        rw [if_neg h1]
        cases hb : binP n r ⟨s.l, s.k, wrap64 (s.o + 1)⟩ with
        | none => rw [hb] at h; cases h
        | some y => rw [hb] at h; rw [ih.b _ _ _ hb]; exact h
    · intro s x h
      rw [atomP] at h ⊢
      cases hl : s.l with
      | nil => rw [hl] at h; exact h
      | cons t l =>
        rw [hl] at h
        simp only at h ⊢
        split at h
        · rename_i h1; rw [if_pos h1]; exact h
        · rename_i h1
          rw [if_neg h1]
          split at h
          · rename_i h2; rw [if_pos h2]; exact h
          · rename_i h2
            rw [if_neg h2]
            split at h
            · rename_i h3; rw [if_pos h3]; exact h
            · rename_i h3
              rw [if_neg h3]
              split at h
              · rename_i h4
                rw [if_pos h4]
                split at h
                · rename_i h5; rw [if_pos h5]; exact h
                · rename_i h5
                  rw [if_neg h5]
                  split at h
                  · rename_i h6
                    rw [if_pos h6]
                    cases hb : withinP n 1 ⟨l, s.k, s.o⟩ with
                    | none => rw [hb] at h; cases h
                    | some y => rw [hb] at h; rw [ih.w _ _ _ hb]; exact h
                  · rename_i h6; rw [if_neg h6]; exact h
              · rename_i h4; rw [if_neg h4]; exact h
    · intro r s x h
      rw [unaryP] at h ⊢
      split at h
      · rename_i h1
        rw [if_pos h1]
        split at h
        · rename_i h2
          rw [if_pos h2]
          cases hb : withinP n r ⟨s.l.drop 1, s.k, s.o⟩ with
          | none => rw [hb] at h; cases h
          | some y => rw [hb] at h; rw [ih.w _ _ _ hb]; exact h
        · rename_i h2; rw [if_neg h2]; exact ih.a _ _ h
      · rename_i h1
        rw [if_neg h1]
        split at h
        · rename_i h2
          rw [if_pos h2]
          cases hb : withinP n r ⟨s.l.drop 1, s.k, s.o⟩ with
          | none => rw [hb] at h; cases h
          | some y => rw [hb] at h; rw [ih.w _ _ _ hb]; exact h
        · rename_i h2; rw [if_neg h2]; exact ih.b _ _ _ h
    · intro r s x h
      rw [binP] at h ⊢
      split at h
      · rename_i h1; rw [if_pos h1]; exact ih.u _ _ _ h
      · rename_i h1
        rw [if_neg h1]
        cases hb : binP n (wrap64 (r + 1)) s with
        | none => rw [hb] at h; cases h
        | some y => rw [hb] at h; rw [ih.b _ _ _ hb]; exact ih.l _ _ _ _ h
    · intro r e s x h
      rw [loopP] at h ⊢
      split at h
      · rename_i h1
        rw [if_pos h1]
        cases ho : opP s.l r with
        | none => rw [ho] at h; exact h
        | some op =>
          rw [ho] at h
          simp only at h ⊢
          cases hb : binP n (wrap64 (r + 1)) ⟨s.l.drop 1, s.k, s.o⟩ with
          | none => rw [hb] at h; cases h
          | some y => rw [hb] at h; rw [ih.b _ _ _ hb]; exact ih.l _ _ _ _ h
      · rename_i h1; rw [if_neg h1]; exact h
theorem ups {n m : Nat} (h : n ≤ m) {P : Nat → Prop} (hs : ∀ k, P k → P (k + 1)) (hp : P n) : P m := by
  induction h with
  | refl => exact hp
  | step _ ih => exact hs _ ih
def Wi (r : Int) (s : PS) (x : S50 × PS) : Prop := ∃ n, withinP n r s = some x
def At (s : PS) (x : S50 × PS) : Prop := ∃ n, atomP n s = some x
def Un (r : Int) (s : PS) (x : S50 × PS) : Prop := ∃ n, unaryP n r s = some x
def Bi (r : Int) (s : PS) (x : S50 × PS) : Prop := ∃ n, binP n r s = some x
def Lo (r : Int) (e : S50) (s : PS) (x : S50 × PS) : Prop := ∃ n, loopP n r e s = some x
theorem wi {r : Int} {s : PS} {e : S50} {t : PS} (h : ¬ wrap64 (s.o + 1) > 48) (hb : Bi r ⟨s.l, s.k, wrap64 (s.o + 1)⟩ (e, t)) : Wi r s (e, ⟨t.l, t.k, wrap64 (t.o - 1)⟩) := by
  obtain ⟨n, hn⟩ := hb
  refine ⟨n + 1, ?_⟩
  rw [withinP, if_neg h, hn]
theorem un_atom {s : PS} {x : S50 × PS} (h : atP s.l 4 [[45]] = none) (ha : At s x) : Un 6 s x := by
  obtain ⟨n, hn⟩ := ha
  refine ⟨n + 1, ?_⟩
  rw [unaryP, if_pos rfl, h, if_neg (by simp), hn]
theorem un_neg {s t : PS} {e : S50} {b : ByteArray} (h : atP s.l 4 [[45]] = some b) (ha : Wi 6 ⟨s.l.drop 1, s.k, s.o⟩ (e, t)) : Un 6 s (⟨⟨#[78, 69, 71]⟩, 0, ⟨#[]⟩, [e]⟩, t) := by
  obtain ⟨n, hn⟩ := ha
  refine ⟨n + 1, ?_⟩
  rw [unaryP, if_pos rfl, h, if_pos (by simp), hn]
theorem un_not {s t : PS} {e : S50} {b : ByteArray} (h : atP s.l 1 [[78, 79, 84]] = some b) (ha : Wi 3 ⟨s.l.drop 1, s.k, s.o⟩ (e, t)) : Un 3 s (⟨⟨#[78, 79, 84]⟩, 0, ⟨#[]⟩, [e]⟩, t) := by
  obtain ⟨n, hn⟩ := ha
  refine ⟨n + 1, ?_⟩
  rw [unaryP, if_neg (by decide), h, if_pos (by simp), hn]
theorem un_bin {s : PS} {x : S50 × PS} (h : atP s.l 1 [[78, 79, 84]] = none) (ha : Bi 4 s x) : Un 3 s x := by
  obtain ⟨n, hn⟩ := ha
  refine ⟨n + 1, ?_⟩
  rw [unaryP, if_neg (by decide), h, if_neg (by simp), show wrap64 ((3 : Int) + 1) = 4 by decide +kernel, hn]
theorem bi_un {r : Int} {s : PS} {x : S50 × PS} (h : r = 3 ∨ r = 6) (ha : Un r s x) : Bi r s x := by
  obtain ⟨n, hn⟩ := ha
  refine ⟨n + 1, ?_⟩
  rw [binP, if_pos h, hn]
theorem bi_lo {r q : Int} {s t : PS} {e : S50} {x : S50 × PS} (h : ¬ (r = 3 ∨ r = 6)) (hq : wrap64 (r + 1) = q) (ha : Bi q s (e, t)) (hl : Lo r e t x) : Bi r s x := by
  obtain ⟨n, hn⟩ := ha
  obtain ⟨m, hm⟩ := hl
  refine ⟨max n m + 1, ?_⟩
  rw [binP, if_neg h, hq, ups (P := fun k => binP k q s = some (e, t)) (Nat.le_max_left n m) (fun k => (up k).b _ _ _) hn]
  exact ups (P := fun k => loopP k r e t = some x) (Nat.le_max_right n m) (fun k => (up k).l _ _ _ _) hm
theorem lo_end {r : Int} {s : PS} {e : S50} (h : opP s.l r = none) : Lo r e s (e, s) := by
  refine ⟨1, ?_⟩
  rw [loopP, h]
  split <;> rfl
theorem lo_step {r q : Int} {s t : PS} {e f : S50} {op : ByteArray} {x : S50 × PS} (hk : s.k = 0) (h : opP s.l r = some op) (hq : wrap64 (r + 1) = q) (ha : Bi q ⟨s.l.drop 1, s.k, s.o⟩ (f, t)) (hl : Lo r ⟨op, 0, ⟨#[]⟩, [e, f]⟩ t x) : Lo r e s x := by
  obtain ⟨n, hn⟩ := ha
  obtain ⟨m, hm⟩ := hl
  refine ⟨max n m + 1, ?_⟩
  rw [loopP, if_pos hk, h]
  simp only
  rw [hq, ups (P := fun k => binP k q _ = some (f, t)) (Nat.le_max_left n m) (fun k => (up k).b _ _ _) hn]
  exact ups (P := fun k => loopP k r _ t = some x) (Nat.le_max_right n m) (fun k => (up k).l _ _ _ _) hm
theorem at_par {s t : PS} {l : List S41} {e : S50} {b : ByteArray} (hl : s.l = ⟨4, ⟨#[40]⟩, 0⟩ :: l) (ha : Wi 1 ⟨l, s.k, s.o⟩ (e, t)) (ht : atP t.l 4 [[41]] = some b) : At s (e, ⟨t.l.drop 1, t.k, t.o⟩) := by
  obtain ⟨n, hn⟩ := ha
  refine ⟨n + 1, ?_⟩
  rw [atomP, hl]
  simp only
  rw [if_neg (by decide), if_neg (by decide), if_neg (by decide), if_pos trivial, if_neg (by decide), if_pos trivial, hn]
  simp only
  rw [ht, if_pos (by simp)]
def binops : List (List UInt8 × Int) := [([79, 82], 1), ([88, 79, 82], 1), ([65, 78, 68], 2), ([43], 4), ([45], 4), ([42], 5), ([47], 5), ([77, 79, 68], 5), ([83, 72, 76], 5), ([83, 72, 82], 5)]
inductive RC (n : Nat) : S50 → Int → Prop
  | num (m : Int) : RC n ⟨⟨#[35]⟩, m, ⟨#[]⟩, []⟩ 7
  | name (nm : ByteArray) (h : namedL nm.data.toList = true) : RC n ⟨⟨#[110]⟩, 0, nm, []⟩ 7
  | here : RC n ⟨⟨#[36]⟩, 0, ⟨#[]⟩, []⟩ 7
  | neg (a : S50) (h : rightN n a = true) : RC n ⟨⟨#[78, 69, 71]⟩, 0, ⟨#[]⟩, [a]⟩ 6
  | not (a : S50) (h : rightN n a = true) : RC n ⟨⟨#[78, 79, 84]⟩, 0, ⟨#[]⟩, [a]⟩ 3
  | bin (op : List UInt8) (rk : Int) (a b : S50) (hop : (op, rk) ∈ binops) (ha : rightN n a = true) (hb : rightN n b = true) : RC n ⟨⟨op.toArray⟩, 0, ⟨#[]⟩, [a, b]⟩ rk
theorem ba_of {b : ByteArray} {l : List UInt8} (h : b.data.toList = l) : b = ⟨l.toArray⟩ := by
  obtain ⟨⟨d⟩⟩ := b
  subst h
  rfl
theorem len0 {α : Type} {l : List α} (h : (l.length : Int) = 0) : l = [] := List.length_eq_zero_iff.1 (by omega)
theorem len1 {α : Type} {l : List α} (h : (l.length : Int) = 1) : ∃ a, l = [a] := List.length_eq_one_iff.1 (by omega)
theorem len2 {α : Type} {l : List α} (h : (l.length : Int) = 2) : ∃ a b, l = [a, b] := by
  match l, h with
  | [a, b], _ => exact ⟨a, b, rfl⟩
theorem rc_of {n : Nat} {e : S50} (h : rightN (n + 1) e = true) : ∃ rk, RC n e rk := by
  obtain ⟨f0, f1, f2, f3⟩ := e
  rw [rightN] at h
  simp only [condR, Bool.and_eq_true, decide_eq_true_eq, Bool.or_eq_true, beq_iff_eq] at h
  obtain ⟨⟨⟨⟨h1, h2⟩, h3⟩, h4⟩, h5⟩ := h
  have fin (op : List UInt8) (rk : Int) (hop : (op, rk) ∈ binops) (ho : f0.data.toList = op) (hb : bindsL op = (rk, 2)) (hx : op ≠ [110] ∧ op ≠ [35]) : ∃ rk, RC n ⟨f0, f1, f2, f3⟩ rk := by
    rw [ho] at h1 h2 h3 h4
    rw [hb] at h2
    rw [if_neg hx.1] at h4
    obtain rfl : f1 = 0 := h3.resolve_right hx.2
    obtain ⟨a, b, rfl⟩ := len2 h2
    simp only [List.all_cons, List.all_nil, Bool.and_true, Bool.and_eq_true] at h5
    obtain rfl := ba_of ho
    obtain rfl := ba_of (of_decide_eq_true (by simpa using h4) : f2.data.toList = [])
    exact ⟨rk, .bin op rk a b hop h5.1 h5.2⟩
  by_cases g0 : f0.data.toList = [35]
  · rw [g0] at h2 h4
    rw [if_neg (by decide)] at h4
    obtain rfl := len0 h2
    obtain rfl := ba_of g0
    obtain rfl := ba_of (of_decide_eq_true (by simpa using h4) : f2.data.toList = [])
    exact ⟨7, .num f1⟩
  by_cases g1 : f0.data.toList = [110]
  · rw [g1] at h2 h3 h4
    rw [if_pos rfl] at h4
    obtain rfl := len0 h2
    obtain rfl := ba_of g1
    obtain rfl : f1 = 0 := h3.resolve_right (by decide)
    exact ⟨7, .name f2 h4⟩
  by_cases g2 : f0.data.toList = [36]
  · rw [g2] at h2 h3 h4
    rw [if_neg (by decide)] at h4
    obtain rfl := len0 h2
    obtain rfl := ba_of g2
    obtain rfl : f1 = 0 := h3.resolve_right (by decide)
    obtain rfl := ba_of (of_decide_eq_true (by simpa using h4) : f2.data.toList = [])
    exact ⟨7, .here⟩
  by_cases g3 : f0.data.toList = [78, 69, 71]
  · rw [g3] at h2 h3 h4
    rw [if_neg (by decide)] at h4
    obtain ⟨a, rfl⟩ := len1 h2
    obtain rfl := ba_of g3
    obtain rfl : f1 = 0 := h3.resolve_right (by decide)
    obtain rfl := ba_of (of_decide_eq_true (by simpa using h4) : f2.data.toList = [])
    simp only [List.all_cons, List.all_nil, Bool.and_true] at h5
    exact ⟨6, .neg a h5⟩
  by_cases g4 : f0.data.toList = [78, 79, 84]
  · rw [g4] at h2 h3 h4
    rw [if_neg (by decide)] at h4
    obtain ⟨a, rfl⟩ := len1 h2
    obtain rfl := ba_of g4
    obtain rfl : f1 = 0 := h3.resolve_right (by decide)
    obtain rfl := ba_of (of_decide_eq_true (by simpa using h4) : f2.data.toList = [])
    simp only [List.all_cons, List.all_nil, Bool.and_true] at h5
    exact ⟨3, .not a h5⟩
  by_cases g5 : f0.data.toList = [79, 82]
  · exact fin _ 1 (by decide) g5 (by decide) (by decide)
  by_cases g6 : f0.data.toList = [88, 79, 82]
  · exact fin _ 1 (by decide) g6 (by decide) (by decide)
  by_cases g7 : f0.data.toList = [65, 78, 68]
  · exact fin _ 2 (by decide) g7 (by decide) (by decide)
  by_cases g8 : f0.data.toList = [43]
  · exact fin _ 4 (by decide) g8 (by decide) (by decide)
  by_cases g9 : f0.data.toList = [45]
  · exact fin _ 4 (by decide) g9 (by decide) (by decide)
  by_cases g10 : f0.data.toList = [42]
  · exact fin _ 5 (by decide) g10 (by decide) (by decide)
  by_cases g11 : f0.data.toList = [47]
  · exact fin _ 5 (by decide) g11 (by decide) (by decide)
  by_cases g12 : f0.data.toList = [77, 79, 68]
  · exact fin _ 5 (by decide) g12 (by decide) (by decide)
  by_cases g13 : f0.data.toList = [83, 72, 76]
  · exact fin _ 5 (by decide) g13 (by decide) (by decide)
  by_cases g14 : f0.data.toList = [83, 72, 82]
  · exact fin _ 5 (by decide) g14 (by decide) (by decide)
  exact absurd (by simp [bindsL, g0, g1, g2, g3, g4, g5, g6, g7, g8, g9, g10, g11, g12, g13, g14]) h1
def sub (e : S50) (i : Nat) : S50 := e.f3.getD i e0
def opTok (b : ByteArray) : S41 := ⟨if wordL b.data.toList = true then 1 else 4, b, 0⟩
def bodyT (f : S50 → Int → List S41) (e : S50) : List S41 :=
  if e.f0.data.toList = [35] then [⟨2, ⟨#[]⟩, e.f1⟩]
  else if e.f0.data.toList = [110] then [⟨1, e.f2, 0⟩]
  else if (bindsL e.f0.data.toList).2 = 0 then [⟨4, e.f0, 0⟩]
  else if (bindsL e.f0.data.toList).2 = 1 then (if e.f0.data.toList = [78, 69, 71] then ⟨4, ⟨#[45]⟩, 0⟩ else ⟨1, e.f0, 0⟩) :: f (sub e 0) (bindsL e.f0.data.toList).1
  else f (sub e 0) (bindsL e.f0.data.toList).1 ++ opTok e.f0 :: f (sub e 1) ((bindsL e.f0.data.toList).1 + 1)
def etN : Nat → S50 → Int → List S41
  | 0, _, _ => []
  | n + 1, e, want => if (bindsL e.f0.data.toList).1 < want then ⟨4, ⟨#[40]⟩, 0⟩ :: (bodyT (etN n) e ++ [⟨4, ⟨#[41]⟩, 0⟩]) else bodyT (etN n) e
theorem bins : ∀ p ∈ binops, bindsL p.1 = (p.2, 2) ∧ p.1 ≠ [35] ∧ p.1 ≠ [110] ∧ p.1 ≠ [78, 69, 71] ∧ (p.2 = 1 ∨ p.2 = 2 ∨ p.2 = 4 ∨ p.2 = 5) := by decide
theorem rc_rk {n : Nat} {e : S50} {rk : Int} (h : RC n e rk) : (bindsL e.f0.data.toList).1 = rk := by
  cases h with
  | num m => rfl
  | name nm h => rfl
  | here => rfl
  | neg a h => rfl
  | not a h => rfl
  | bin op rk a b hop ha hb => show (bindsL op).1 = _; rw [(bins _ hop).1]
theorem body_bin (f : S50 → Int → List S41) {op : List UInt8} {rk : Int} {a b : S50} (hop : (op, rk) ∈ binops) : bodyT f ⟨⟨op.toArray⟩, 0, ⟨#[]⟩, [a, b]⟩ = f a rk ++ opTok ⟨op.toArray⟩ :: f b (rk + 1) := by
  obtain ⟨h1, h2, h3, h4, h5⟩ := bins _ hop
  unfold bodyT
  show (if op = [35] then _ else if op = [110] then _ else if (bindsL op).2 = 0 then _ else if (bindsL op).2 = 1 then _ else f (sub _ 0) (bindsL op).1 ++ _ :: f (sub _ 1) ((bindsL op).1 + 1)) = _
  have h1' : bindsL op = (rk, 2) := h1
  rw [if_neg h2, if_neg h3, h1']
  rfl
def nOp (w : Int) (R : List S41) : Prop := ∀ r : Int, (r = 1 ∨ r = 2 ∨ r = 4 ∨ r = 5) → w ≤ r → opP R r = none
theorem nOp.mono {w v : Int} {R : List S41} (h : nOp w R) (hv : w ≤ v) : nOp v R := fun r hr hw => h r hr (by omega)
theorem nOp_par (w : Int) (R : List S41) : nOp w (⟨4, ⟨#[41]⟩, 0⟩ :: R) := by
  rintro r (rfl | rfl | rfl | rfl) _ <;> rfl
theorem nOp_nil (w : Int) : nOp w [] := by
  rintro r (rfl | rfl | rfl | rfl) _ <;> rfl
theorem op_at : ∀ p ∈ binops, ∀ r ∈ [(1 : Int), 2, 4, 5], ∀ R : List S41, opP (opTok ⟨p.1.toArray⟩ :: R) r = if r = p.2 then some ⟨p.1.toArray⟩ else none := by
  intro p hp r hr R
  simp only [binops, List.mem_cons, List.not_mem_nil, or_false] at hp hr
  rcases hp with rfl | rfl | rfl | rfl | rfl | rfl | rfl | rfl | rfl | rfl <;> rcases hr with rfl | rfl | rfl | rfl <;> rfl
theorem nOp_op {op : List UInt8} {rk : Int} (hop : (op, rk) ∈ binops) (R : List S41) : nOp (rk + 1) (opTok ⟨op.toArray⟩ :: R) := by
  intro r hr hw
  rw [op_at _ hop r (by rcases hr with rfl | rfl | rfl | rfl <;> decide), if_neg (by show ¬ r = rk; omega)]
def A (T : List S41) (e : S50) (w : Int) (o : Int) : Prop :=
  if w = 3 ∨ w = 6 then ∀ R, nOp w R → Bi w ⟨T ++ R, 0, o⟩ (e, ⟨R, 0, o⟩)
  else ∀ R x, nOp (w + 1) R → Lo w e ⟨R, 0, o⟩ x → Bi w ⟨T ++ R, 0, o⟩ x
theorem A.val {T : List S41} {e : S50} {w o : Int} (h : A T e w o) (hw : w = 1 ∨ w = 2 ∨ w = 3 ∨ w = 4 ∨ w = 5 ∨ w = 6) {R : List S41} (hR : nOp w R) : Bi w ⟨T ++ R, 0, o⟩ (e, ⟨R, 0, o⟩) := by
  unfold A at h
  split at h
  · exact h R hR
  · rename_i h1
    exact h R _ (hR.mono (by omega)) (lo_end (hR w (by omega) (Int.le_refl _)))
theorem A.down {T : List S41} {e : S50} {w o : Int} (hw : w = 1 ∨ w = 2 ∨ w = 3 ∨ w = 4 ∨ w = 5) (hh : w = 3 → ∀ R, atP (T ++ R) 1 [[78, 79, 84]] = none) (h : A T e (w + 1) o) : A T e w o := by
  by_cases h3 : w = 3
  · subst h3
    unfold A
    rw [if_pos (Or.inl rfl)]
    intro R hR
    exact bi_un (Or.inl rfl) (un_bin (hh rfl R) (h.val (w := 4) (by decide) (hR.mono (by decide))))
  · unfold A
    rw [if_neg (by omega)]
    intro R x hR hl
    have hq : wrap64 (w + 1) = w + 1 := w64 (by omega) (by omega)
    exact bi_lo (by omega) hq (h.val (by omega) hR) hl
theorem A.downs {T : List S41} {e : S50} {v o : Int} (hv : 1 ≤ v ∧ v ≤ 6) (hh : 3 < v → ∀ R, atP (T ++ R) 1 [[78, 79, 84]] = none) (h : A T e v o) : ∀ (d : Nat) (w : Int), w + d = v → 1 ≤ w → A T e w o
  | 0, w, hd, hw => by
    obtain rfl : w = v := by omega
    exact h
  | d + 1, w, hd, hw => A.down (by omega) (fun h3 => hh (by omega)) (A.downs hv hh h d (w + 1) (by omega) (by omega))
theorem A.to {T : List S41} {e : S50} {v w o : Int} (hv : 1 ≤ v ∧ v ≤ 6) (hh : 3 < v → ∀ R, atP (T ++ R) 1 [[78, 79, 84]] = none) (h : A T e v o) (hw : 1 ≤ w ∧ w ≤ v) : A T e w o :=
  A.downs hv hh h (v - w).toNat w (by omega) hw.1
theorem named_word {l : List UInt8} (h : namedL l = true) : wordL l = false := by
  unfold namedL at h
  simp only [Bool.and_eq_true, Bool.not_eq_true'] at h
  exact h.2
theorem head (n : Nat) : ∀ (e : S50) (w : Int), rightN n e = true → (3 < w ∨ 3 < (bindsL e.f0.data.toList).1) → ∀ R, atP (etN n e w ++ R) 1 [[78, 79, 84]] = none := by
  induction n with
  | zero => intro e w h; simp [rightN] at h
  | succ n ih =>
    intro e w h hw R
    obtain ⟨rk, hc⟩ := rc_of h
    have hr := rc_rk hc
    rw [etN]
    by_cases hlt : (bindsL e.f0.data.toList).1 < w
    · rw [if_pos hlt]; rfl
    · rw [if_neg hlt]
      have hr3 : 3 < rk := by omega
      cases hc with
      | num m => rfl
      | name nm hn =>
        have hw := named_word hn
        show atT ⟨1, nm, 0⟩ 1 [[78, 79, 84]] = none
        unfold atT
        rw [if_neg]
        rintro ⟨_, h2⟩
        have h3 : nm.data.toList = [78, 79, 84] := by simpa using h2
        rw [h3] at hw
        cases hw
      | here => rfl
      | neg a ha => rfl
      | not a ha => exact absurd hr3 (by decide)
      | bin op rk a b hop ha hb =>
        rw [body_bin _ hop, List.append_assoc]
        exact ih a rk ha (Or.inl hr3) _
theorem A_atom {t : S41} {e : S50} {o : Int} (h4 : atT t 4 [[45]] = none) (h : ∀ R, At ⟨t :: R, 0, o⟩ (e, ⟨R, 0, o⟩)) : A [t] e 6 o := by
  unfold A
  rw [if_pos (Or.inr rfl)]
  intro R hR
  exact bi_un (Or.inr rfl) (un_atom h4 (h R))
theorem wi_o {r o : Int} {l R : List S41} {e : S50} (h0 : 0 ≤ o) (h1 : o + 1 ≤ 48) (hb : Bi r ⟨l, 0, o + 1⟩ (e, ⟨R, 0, o + 1⟩)) : Wi r ⟨l, 0, o⟩ (e, ⟨R, 0, o⟩) := by
  have e1 : wrap64 (o + 1) = o + 1 := w64 (by omega) (by omega)
  have e2 : wrap64 (o + 1 - 1) = o := (w64 (by omega) (by omega)).trans (by omega)
  have := wi (s := ⟨l, 0, o⟩) (r := r) (e := e) (t := ⟨R, 0, o + 1⟩) (by show ¬ wrap64 (o + 1) > 48; rw [e1]; omega) (by show Bi r ⟨l, 0, wrap64 (o + 1)⟩ _; rw [e1]; exact hb)
  rw [e2] at this
  exact this
theorem one_le {n : Nat} {a : S50} (h : rightN n a = true) : 1 ≤ n := by
  cases n with
  | zero => simp [rightN] at h
  | succ n => omega
theorem main (n : Nat) : ∀ (e : S50), rightN n e = true → ∀ (w o : Int), 1 ≤ w → w ≤ 6 → 0 ≤ o → o + 2 * n ≤ (if w ≤ (bindsL e.f0.data.toList).1 then 50 else 49) → A (etN n e w) e w o := by
  induction n with
  | zero => intro e h; simp [rightN] at h
  | succ n ih =>
    intro e h w o hw1 hw6 ho hbd
    obtain ⟨rk, hc⟩ := rc_of h
    have hr := rc_rk hc
    have hb0 : (if w ≤ (bindsL e.f0.data.toList).1 then (50 : Int) else 49) ≤ 50 := by split <;> omega
    have ihv (a : S50) (ha : rightN n a = true) (v q : Int) (hv1 : 1 ≤ v) (hv6 : v ≤ 6) (hq : 0 ≤ q) (hb : q + 2 * n ≤ 49) : A (etN n a v) a v q :=
      ih a ha v q hv1 hv6 hq (by split <;> omega)
    -- without parentheses
    have plain (v : Int) (q : Int) (hv1 : 1 ≤ v) (hv6 : v ≤ 6) (hvr : v ≤ rk) (hq : 0 ≤ q) (hb : q + 2 * ((n + 1 : Nat) : Int) ≤ 50) : A (bodyT (etN n) e) e v q := by
      have hd (hrk : 3 < rk) : ∀ R, atP (bodyT (etN n) e ++ R) 1 [[78, 79, 84]] = none := fun R => by
        have := head (n + 1) e 1 h (Or.inr (by omega)) R
        rw [etN, if_neg (by omega)] at this
        exact this
      cases hc with
      | num m =>
        refine A.to (v := 6) (by omega) (fun _ => hd (by omega)) (A_atom rfl fun R => ⟨1, ?_⟩) ⟨hv1, hv6⟩
        rw [atomP]; rfl
      | name nm hn =>
        refine A.to (v := 6) (by omega) (fun _ => hd (by omega)) (A_atom (e := ⟨⟨#[110]⟩, 0, nm, []⟩) (t := ⟨1, nm, 0⟩) rfl fun R => ⟨1, ?_⟩) ⟨hv1, hv6⟩
        rw [atomP]
        simp only
        rw [if_pos trivial, if_neg (by rw [named_word hn]; decide)]
      | here =>
        refine A.to (v := 6) (by omega) (fun _ => hd (by omega)) (A_atom rfl fun R => ⟨1, ?_⟩) ⟨hv1, hv6⟩
        rw [atomP]; rfl
      | neg a ha =>
        have hn0 : 1 ≤ n := one_le ha
        refine A.to (v := 6) (by omega) (fun _ => hd (by omega)) ?_ ⟨hv1, hv6⟩
        unfold A
        rw [if_pos (Or.inr rfl)]
        intro R hR
        refine bi_un (Or.inr rfl) (un_neg (s := ⟨_, 0, q⟩) (b := ⟨#[45]⟩) rfl (wi_o (o := q) hq (by omega) ?_))
        exact (ihv a ha 6 (q + 1) (by decide) (by decide) (by omega) (by omega)).val (by decide) hR
      | not a ha =>
        have hn0 : 1 ≤ n := one_le ha
        refine A.to (v := 3) (by omega) (fun h3 => absurd h3 (by decide)) ?_ ⟨hv1, hvr⟩
        unfold A
        rw [if_pos (Or.inl rfl)]
        intro R hR
        refine bi_un (Or.inl rfl) (un_not (s := ⟨_, 0, q⟩) (b := ⟨#[78, 79, 84]⟩) rfl (wi_o (o := q) hq (by omega) ?_))
        exact (ihv a ha 3 (q + 1) (by decide) (by decide) (by omega) (by omega)).val (by decide) hR
      | bin op rk a b hop ha hb' =>
        obtain ⟨g1, g2, g3, g4, g5⟩ := bins _ hop
        have g5' : rk = 1 ∨ rk = 2 ∨ rk = 4 ∨ rk = 5 := g5
        refine A.to (v := rk) (by omega) (fun h3 => hd h3) ?_ ⟨hv1, hvr⟩
        rw [body_bin _ hop]
        unfold A
        rw [if_neg (by omega)]
        intro R x hR hl
        have ia := ihv a ha rk q (by omega) (by omega) hq (by omega)
        unfold A at ia
        rw [if_neg (by omega)] at ia
        rw [List.append_assoc]
        refine ia _ x (nOp_op hop _) ?_
        have hq' : wrap64 (rk + 1) = rk + 1 := w64 (by omega) (by omega)
        refine lo_step (s := ⟨_, 0, q⟩) rfl (?_ : opP (opTok ⟨op.toArray⟩ :: _) rk = some ⟨op.toArray⟩) hq' ?_ hl
        · rw [op_at _ hop rk (by rcases g5' with rfl | rfl | rfl | rfl <;> decide), if_pos rfl]
        · exact (ihv b hb' (rk + 1) q (by omega) (by omega) hq (by omega)).val (by omega) hR
    rw [etN]
    by_cases hlt : (bindsL e.f0.data.toList).1 < w
    · rw [if_pos hlt]
      rw [if_neg (by omega)] at hbd
      have hrk1 : 1 ≤ rk := by
        cases hc with
        | bin op rk a b hop ha hb' => have := (bins _ hop).2.2.2.2; simp only at this; omega
        | _ => decide
      refine A.to (v := 6) (by omega) (fun _ R => rfl) ?_ ⟨hw1, hw6⟩
      unfold A
      rw [if_pos (Or.inr rfl)]
      intro R hR
      refine bi_un (Or.inr rfl) (un_atom rfl ?_)
      have hp := (plain 1 (o + 1) (by decide) (by decide) hrk1 (by omega) (by omega)).val (by decide) (nOp_par 1 R)
      have := at_par (s := ⟨⟨4, ⟨#[40]⟩, 0⟩ :: (bodyT (etN n) e ++ ⟨4, ⟨#[41]⟩, 0⟩ :: R), 0, o⟩) (t := ⟨⟨4, ⟨#[41]⟩, 0⟩ :: R, 0, o⟩) (b := ⟨#[41]⟩) rfl (wi_o (o := o) ho (by omega) hp) rfl
      rw [List.cons_append, List.append_assoc]
      exact this
    · rw [if_neg hlt]
      exact plain w o hw1 hw6 (by omega) ho (by omega)
theorem main_all (e : S50) (h : rightN 24 e = true) : Bi 1 ⟨etN 24 e 1, 0, 0⟩ (e, ⟨[], 0, 0⟩) := by
  have := (main 24 e h 1 0 (by decide) (by decide) (by decide) (by split <;> decide)).val (by decide) (nOp_nil 1)
  rw [List.append_nil] at this
  exact this
theorem Bi.det {r : Int} {s : PS} {x y : S50 × PS} (h1 : Bi r s x) (h2 : Bi r s y) : x = y := by
  obtain ⟨n, hn⟩ := h1
  obtain ⟨m, hm⟩ := h2
  have a := ups (P := fun k => binP k r s = some x) (Nat.le_max_left n m) (fun k => (up k).b _ _ _) hn
  have b := ups (P := fun k => binP k r s = some y) (Nat.le_max_right n m) (fun k => (up k).b _ _ _) hm
  exact Option.some.inj (a.symm.trans b)
end Go.Proofs.YtejhagejjogbaaaDoor.Par
end
section
namespace Go.Proofs.YtejhagejjogbaaaDoor.Qb
open Go.RowKit Go.Proofs.YtejhagejjogbaaaDoorW.PrintWords Go.Proofs.YtejhagejjogbaaaDoorW.PrintLast Go.Proofs.YtejhagejjogbaaaDoorW.PrintMore Go.Proofs.YtejhagejjogbaaaDoor.Given Go.Proofs.YtejhagejjogbaaaDoor.TokSpan Go.Proofs.YtejhagejjogbaaaDoor.TokJoin Go.Proofs.YtejhagejjogbaaaDoor.TokRep Go.Proofs.YtejhagejjogbaaaDoor.AnyNot Go.Proofs.YtejhagejjogbaaaDoor.Pn Go.Proofs.YtejhagejjogbaaaDoor.Pa Go.Proofs.YtejhagejjogbaaaDoor.Pb Go.Proofs.YtejhagejjogbaaaDoor.Pc Go.Proofs.YtejhagejjogbaaaDoor.Pd Go.Proofs.YtejhagejjogbaaaDoor.Pe Go.Proofs.YtejhagejjogbaaaDoor.Qa
attribute [local go_sem] max2_int min2_int max_two min_two max_three min_three max_four min_four   -- for this text's walks alone
set_option linter.unusedVariables false
set_option linter.unusedSimpArgs false
def errW : Option Int → Value
 | none => .nilIface
 | some c => .iface 0 (.int .i64 c)
theorem errW_none : errW none = .nilIface := rfl
theorem errW_some (c : Int) : errW (some c) = .iface 0 (.int .i64 c) := rfl
end Go.Proofs.YtejhagejjogbaaaDoor.Qb
end
