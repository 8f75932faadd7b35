import Derived.Test.YtejhagejjogbaaaDoorKbM6
import Derived.Test.YtejhagejjogbaaaDoorKbM7
import Derived.Test.YtejhagejjogbaaaDoorKbM2
import Derived.Test.YtejhagejjogbaaaDoorKbM3
import Derived.Test.YtejhagejjogbaaaDoorKbM4
import Derived.Test.YtejhagejjogbaaaDoorKbM5
import Derived.Test.YtejhagejjogbaaaDoorProg
import Derived.Below
import Derived.Deep.Draws
import Derived.Deep.AppendLies
import Derived.Maps.AppendAt
import Derived.OwnWalk
import Derived.Laws.BytesArg
import Derived.Laws.MakeOwn
import Derived.Laws.OwnMore
import Derived.Deep.OwnRows
import Derived.Tactics
import Derived.Lib.ConvBytes
import Derived.Laws.Slices
import Derived.WalkKit
import Derived.KernelRfl
import Derived.RowKit3
import Derived.Deep.LoopGhost
import Derived.Deep.QuietTactic
import Derived.BigQuiet
import Derived.WideLaws
import Derived.Deep.DeepCutAuto
import Derived.Deep.CutBlock
import Derived.Deep.RegionHeld3
import Derived.Laws.Rows
import Derived.Lib.AppendStr
import Derived.ArgAppend
import Derived.Laws.IdiomCopy
import Derived.OrdersHeld
import Derived.Laws.BitsLemmas
import Derived.RowKit
import Derived.Test.YtejhagejjogbaaaDoorKbM1
section
namespace Go.Proofs.YtejhagejjogbaaaDoor.Qa
open Go.RowKit Go.Proofs.YtejhagejjogbaaaDoorW.PrintWords Go.Proofs.YtejhagejjogbaaaDoorW.PrintLast Go.Proofs.YtejhagejjogbaaaDoorW.PrintMore Go.Proofs.YtejhagejjogbaaaDoor.Given Go.Proofs.YtejhagejjogbaaaDoor.TokSpan Go.Proofs.YtejhagejjogbaaaDoor.TokJoin Go.Proofs.YtejhagejjogbaaaDoor.TokRep Go.Proofs.YtejhagejjogbaaaDoor.Pn Go.Proofs.YtejhagejjogbaaaDoor.Pa Go.Proofs.YtejhagejjogbaaaDoor.Pb Go.Proofs.YtejhagejjogbaaaDoor.Pc Go.Proofs.YtejhagejjogbaaaDoor.Pd Go.Proofs.YtejhagejjogbaaaDoor.Pe
attribute [local go_sem] max2_int min2_int max_two min_two max_three min_three max_four min_four   -- for this text's walks alone
set_option linter.unusedVariables false
set_option linter.unusedSimpArgs false
def IsS136 (w0 W : World) (g : Nat) (f0 : List (S41)) (f1 : Int) (f2 : Int) : Prop := ∃ A0 c0, W.heap[g]? = some (.cells #[.slice A0 f0.length c0, .int .i64 f1, .int .i64 f2] 136 (0, 0)) ∧ w0.heap.size ≤ g ∧ Kd.C k41 w0 A0 f0.length f0
theorem IsS136.grown {w0 W : World} {g : Nat} {f0 : List (S41)} {f1 : Int} {f2 : Int} {W1 : World} {row : Option Nat} (h : IsS136 w0 W g f0 f1 f2) (hw : W.grownBy W1 row) (hne : some g ≠ row) : IsS136 w0 W1 g f0 f1 f2 := by
 obtain ⟨A0, c0, hb, hg, hr0⟩ := h
 exact ⟨A0, c0, blk_grown hb hw hne, hg, hr0⟩
theorem IsS136.fresh {w0 W : World} {g : Nat} {f0 : List (S41)} {f1 : Int} {f2 : Int} (h : IsS136 w0 W g f0 f1 f2) : ∀ k, W.heap.size ≤ k → k ≠ g := by
 obtain ⟨A0, c0, hb, hg, hr0⟩ := h
 exact Kd.freshB hb
theorem IsS136.kept {w0 W : World} {g : Nat} {f0 : List (S41)} {f1 : Int} {f2 : Int} {W1 : World} {S : Nat → Prop} (h : IsS136 w0 W g f0 f1 f2) (hk : Kept W W1 S) (hne : ¬ S g) : IsS136 w0 W1 g f0 f1 f2 := by
 obtain ⟨A0, c0, hb, hg, hr0⟩ := h
 exact ⟨A0, c0, blk_kept hb hk hne, hg, hr0⟩
theorem IsS136.below {w0 W : World} {g : Nat} {f0 : List (S41)} {f1 : Int} {f2 : Int} {W1 : World} (h : IsS136 w0 W g f0 f1 f2) (hw : Below W.heap.size W W1) : IsS136 w0 W1 g f0 f1 f2 := h.grown (grown_of_below hw none) (by simp)
theorem IsS136.alloc {w0 W : World} {g : Nat} {f0 : List (S41)} {f1 : Int} {f2 : Int} (h : IsS136 w0 W g f0 f1 f2) (o : Obj) : IsS136 w0 (W.alloc o) g f0 f1 f2 := h.below (below_alloc (Below.refl _ _) o)
theorem IsS136.drewN {w0 W : World} {g : Nat} {f0 : List (S41)} {f1 : Int} {f2 : Int} (h : IsS136 w0 W g f0 f1 f2) (m : Nat) : IsS136 w0 (W.drewN m) g f0 f1 f2 := h
theorem IsS136.drew {w0 W : World} {g : Nat} {f0 : List (S41)} {f1 : Int} {f2 : Int} (h : IsS136 w0 W g f0 f1 f2) : IsS136 w0 W.drew g f0 f1 f2 := h
theorem IsS136.at_ {w0 W : World} {g : Nat} {f0 : List (S41)} {f1 : Int} {f2 : Int} {w' : World} {m : Nat} (hq : W.drewN m = w') (h : IsS136 w0 W g f0 f1 f2) : IsS136 w0 w' g f0 f1 f2 := by subst hq; exact IsS136.drewN h m
theorem IsS136.apart {w0 W : World} {g : Nat} {f0 : List (S41)} {f1 : Int} {f2 : Int} {α : Type} {d : Kd α} {e : Nat} {base : Nat} {ok : Nat → Prop} {v : Value} {xs : List α} (h : IsS136 w0 W g f0 f1 f2) (ho : d.R e W base ok v xs) (ht : ∀ q, q ∈ e :: d.E → q ≠ 136) : d.R e W base (fun k => ok k ∧ k ≠ g) v xs := by
 obtain ⟨A0, c0, hb, hg, hr0⟩ := h
 exact Kd.R_types ho hb ht
theorem IsS136.own_ne {w0 W : World} {g : Nat} {f0 : List (S41)} {f1 : Int} {f2 : Int} {α : Type} {d : Kd α} {e : Nat} {base : Nat} {ok : Nat → Prop} {v : Value} {xs : List α} (h : IsS136 w0 W g f0 f1 f2) (ho : d.R e W base ok v xs) (ht : e ≠ 136) : some g ≠ v.ownBlock := by
 obtain ⟨A0, c0, hb, hg, hr0⟩ := h
 exact Kd.R_ne ho hb ht
theorem IsS136.lt {w0 W : World} {g : Nat} {f0 : List (S41)} {f1 : Int} {f2 : Int} (h : IsS136 w0 W g f0 f1 f2) : g < W.heap.size := by
 obtain ⟨A0, c0, hb, hg, hr0⟩ := h
 exact blk_lt hb
theorem IsS136.ge {w0 W : World} {g : Nat} {f0 : List (S41)} {f1 : Int} {f2 : Int} (h : IsS136 w0 W g f0 f1 f2) : w0.heap.size ≤ g := by
 obtain ⟨A0, c0, hb, hg, hr0⟩ := h
 exact hg
theorem IsS136.far {w0 W : World} {g : Nat} {f0 : List (S41)} {f1 : Int} {f2 : Int} {p : Addr} (h : IsS136 w0 W g f0 f1 f2) (hne : g ≠ p.block) (u : Value) : IsS136 w0 (W.setCell p u) g f0 f1 f2 := by
 obtain ⟨A0, c0, hb, hg, hr0⟩ := h
 exact ⟨A0, c0, blk_far hb hne u, hg, hr0⟩
theorem cellS136_0 {W : World} {g : Nat} {A0 : Option Addr} {c0 : Nat} {f0 : List (S41)} {f1 : Int} {f2 : Int} (h : W.heap[g]? = some (.cells #[.slice A0 f0.length c0, .int .i64 f1, .int .i64 f2] 136 (0, 0))) : W.cell? ⟨g, 0, none⟩ = some (.slice A0 f0.length c0) := (blk_cell h 0).trans rfl
theorem IsS136.new (w0 W : World) (A0 : Option Addr) (c0 : Nat) (f0 : List (S41)) (f1 : Int) (f2 : Int) (hB : Below w0.heap.size w0 W) (hr0 : Kd.C k41 w0 A0 f0.length f0) : IsS136 w0 (W.alloc (.cells #[.slice A0 f0.length c0, .int .i64 f1, .int .i64 f2] 136)) W.heap.size f0 f1 f2 := ⟨A0, c0, by simpa using heap_alloc_new W _, hB.size, hr0⟩
mutual
def expr_deep.l0 : Nat → Int → List (S50) → Int → Int → Option (Int)
 | 0, _, _, _, _ => none
 | k + 1, x2, x6, x7, x8 => if x8 < x7 then (if 0 ≤ x8 then (if x8 < (x6.length : Int) then ((expr_deep.f k ((rd_T50 x6 x8).f0) ((rd_T50 x6 x8).f1) ((rd_T50 x6 x8).f2) ((rd_T50 x6 x8).f3)).bind fun t191 => (expr_deep.l0 k (mx x2 t191) x6 x7 (wrap64 (x8 + 1)))) else (none)) else (none)) else (some (wrap64 (x2 + 1)))
def expr_deep.f : Nat → ByteArray → Int → ByteArray → List (S50) → Option (Int)
 | 0, _, _, _, _ => none
 | k + 1, a0_0, a0_1, a0_2, l0_3 => expr_deep.l0 k 0 l0_3 (l0_3.length : Int) 0
end
theorem expr_deep.mono_l : ∀ k, (∀ y0 y1 y2 y3, LeO (expr_deep.f k y0 y1 y2 y3) (expr_deep.f (k + 1) y0 y1 y2 y3)) ∧ (∀ y0 y1 y2 y3, LeO (expr_deep.l0 k y0 y1 y2 y3) (expr_deep.l0 (k + 1) y0 y1 y2 y3))
 | 0 => ⟨fun _ _ _ _ r h => by simp [expr_deep.f] at h, fun _ _ _ _ r h => by simp [expr_deep.l0] at h⟩
 | k + 1 => by
  obtain ⟨ih0, ih1⟩ := expr_deep.mono_l k
  refine ⟨?_, ?_⟩
  ·intro y0 y1 y2 y3
   unfold expr_deep.f
   repeat' first
   | (with_reducible exact ih0 _ _ _ _)
   | (with_reducible exact ih1 _ _ _ _)
   | (with_reducible exact LeO.refl _)
   | (with_reducible exact LeO.none _)
   | (with_reducible refine LeO.ite ?_ ?_)
   | (with_reducible refine LeO.bind ?_ (fun _ => ?_))
   | exact ih0 _ _ _ _
   | exact ih1 _ _ _ _
   | exact LeO.none _
   | refine LeO.ite ?_ ?_
   | refine LeO.bind ?_ (fun _ => ?_)
  ·intro y0 y1 y2 y3
   unfold expr_deep.l0
   repeat' first
   | (with_reducible exact ih0 _ _ _ _)
   | (with_reducible exact ih1 _ _ _ _)
   | (with_reducible exact LeO.refl _)
   | (with_reducible exact LeO.none _)
   | (with_reducible refine LeO.ite ?_ ?_)
   | (with_reducible refine LeO.bind ?_ (fun _ => ?_))
   | exact ih0 _ _ _ _
   | exact ih1 _ _ _ _
   | exact LeO.none _
   | refine LeO.ite ?_ ?_
   | refine LeO.bind ?_ (fun _ => ?_)
theorem expr_deep.mono : ∀ a0 a1 a2 a3 k, LeO (expr_deep.f k a0 a1 a2 a3) (expr_deep.f (k + 1) a0 a1 a2 a3) := by
 intro a0 a1 a2 a3 k
 obtain ⟨ih0, ih1⟩ := expr_deep.mono_l k
 exact ih0 a0 a1 a2 a3
set_option maxHeartbeats 8000000 in
set_option maxRecDepth 100000 in
theorem expr_deep.calls (k : Nat) : ∀ (a0_0 : ByteArray) (a0_1 : Int) (a0_2 : ByteArray) (A0_3 : Option Addr) (c0_3 : Nat) (l0_3 : List (S50)) (r : Int) (w : World) (hr0_3 : Kd.C k50 w A0_3 l0_3.length l0_3) (hc0_3 : l0_3.length ≤ c0_3) (h : expr_deep.f k a0_0 a0_1 a0_2 l0_3 = some r),
  Calls Tryd.prog 126 #[.agg #[.string a0_0, .int .u16 a0_1, .string a0_2, .slice A0_3 l0_3.length c0_3]] w fun e w' => e = .returned (.int .i64 r) ∧ Below w.heap.size w w' := by
 induction k using Nat.strongRecOn with
 | _ k ih =>
 intro a0_0 a0_1 a0_2 A0_3 c0_3 l0_3 r w hr0_3 hc0_3 h
 cases k with
 | zero => exact absurd h (by simp [expr_deep.f])
 | succ k =>
 simp only [expr_deep.f] at h
 have hu50 := Tryd.underlying50
 have HR0_3 := Aside0.mk hr0_3
 have HC0_3 := Aside0.mk hc0_3
 clear hr0_3 hc0_3
 have HB := Aside0.mk (Below.refl w.heap.size w)
 have H : (expr_deep.l0 k 0 l0_3 (l0_3.length : Int) 0) = some r := h
 clear h
 have H' := Aside0.mk H
 clear H
 go_enter Tryd.func126, Tryd.ntmps126
 go_wp2_with (first | ((with_reducible refine gate_dst (N := 1) rfl ?_); refine box_event ?hg (N := 1) ?hd (cs := #[.string a0_0, .int .u16 a0_1, .string a0_2, .slice A0_3 l0_3.length c0_3]) (t := 50) ?hr ?_; (case hd => rfl); (case hg => rfl); (case hr => first | (go_simp; done) | (go_simp; rfl)); intro gb188 hg w2 hbox hb; have n0_ := Aside0.mk (below_step (by repeat (first | (with_reducible first | exact HB.out | apply below_alloc | apply pw_below_drewN | apply below_drew1) | exact HB.out)) hb); have n1_ := Aside0.mk (hbox); have n2_ := Aside0.mk ((by rw [hg]; exact (below_size (by repeat (first | (with_reducible first | exact HB.out | apply below_alloc | apply pw_below_drewN | apply below_drew1) | exact HB.out))) : w.heap.size ≤ gb188)); have n3_ := Aside0.mk ((by rw [hg]; exact (below_size (by repeat (first | (with_reducible first | exact HB.out | apply below_alloc | apply pw_below_drewN | apply below_drew1) | exact HB.out))) : w.heap.size ≤ gb188)); clear HB; have HB := n0_; have BK188 := n1_; have GW188 := n2_; have GE188 := n3_; clear n0_ n1_ n2_ n3_; clear hb hbox hg; have hcz3_0 : w2.cell? ⟨gb188, 0, none⟩ = some (.string a0_0) := (blk_cell BK188.out 0).trans rfl; have hcz3_1 : w2.cell? ⟨gb188, 1, none⟩ = some (.int .u16 a0_1) := (blk_cell BK188.out 1).trans rfl; have hcz3_2 : w2.cell? ⟨gb188, 2, none⟩ = some (.string a0_2) := (blk_cell BK188.out 2).trans rfl; have hcz3_3 : w2.cell? ⟨gb188, 3, none⟩ = some (.slice A0_3 l0_3.length c0_3) := (blk_cell BK188.out 3).trans rfl; have hfz3_0 := blk_frozen BK188.out 0; have hfz3_1 := blk_frozen BK188.out 1; have hfz3_2 := blk_frozen BK188.out 2; have hfz3_3 := blk_frozen BK188.out 3))
 first | go_loopg [2, 8] k (fun kq v2 v8 w' => ∃ (x2_1 : Int) (x8_1 : Int), v2 = .int .i64 x2_1 ∧ v8 = .int .i64 x8_1 ∧ Aside0 (expr_deep.l0 kq x2_1 l0_3 (l0_3.length : Int) x8_1 = some r) ∧ Aside0 (kq ≤ k) ∧ Aside0 (w'.heap[gb188]? = some (.cells #[.string a0_0, .int .u16 a0_1, .string a0_2, (.slice A0_3 l0_3.length c0_3)] 50 (0, 0))) ∧ Aside0 (Below w.heap.size w w')) | (go_simp; go_loopg [2, 8] k (fun kq v2 v8 w' => ∃ (x2_1 : Int) (x8_1 : Int), v2 = .int .i64 x2_1 ∧ v8 = .int .i64 x8_1 ∧ Aside0 (expr_deep.l0 kq x2_1 l0_3 (l0_3.length : Int) x8_1 = some r) ∧ Aside0 (kq ≤ k) ∧ Aside0 (w'.heap[gb188]? = some (.cells #[.string a0_0, .int .u16 a0_1, .string a0_2, (.slice A0_3 l0_3.length c0_3)] 50 (0, 0))) ∧ Aside0 (Below w.heap.size w w')))
 case atStart => exact ⟨(0), (0), (by first | rfl | (simp; done) | (simp [*]; done)), (by first | rfl | (simp; done) | (simp [*]; done)), H', ⟨Nat.le_refl _⟩, ⟨by (with_reducible repeat (first | refine blk_drewN ?_ _ | refine blk_drew ?_ | refine blk_alloc ?_ _)); exact BK188.out⟩, ⟨by repeat (first | (with_reducible first | exact HB.out | apply below_alloc | apply pw_below_drewN | apply below_drew1 | refine below_set ?_ GE188.out) | exact HB.out)⟩⟩
 case round =>
  clear H'
  try clear c1
  try clear p2
  try clear hcz3_0
  try clear hcz3_1
  try clear hcz3_2
  try clear hcz3_3
  try clear hfz3_0
  try clear hfz3_1
  try clear hfz3_2
  try clear hfz3_3
  obtain ⟨x2_1, x8_1, rfl, rfl, HA, HK1, BK188, HB⟩ := hrel
  cases gk with
  | zero => exact absurd HA.out (by simp [expr_deep.l0])
  | succ k1 =>
   have H := HA.out
   clear HA
   simp only [expr_deep.l0] at H
   by_cases c4 : x8_1 < (l0_3.length : Int)
   ·rw [if_pos c4] at H
    have c4b0 : decide (x8_1 < (l0_3.length : Int)) = true := decide_eq_true c4
    clear c4
    by_cases c5 : 0 ≤ x8_1
    ·rw [if_pos c5] at H
     have c5b0 : decide (0 ≤ x8_1) = true := decide_eq_true c5
     clear c5
     by_cases c6 : x8_1 < (l0_3.length : Int)
     ·rw [if_pos c6] at H
      have c6b0 : decide (x8_1 < (l0_3.length : Int)) = true := decide_eq_true c6
      clear c6
      replace H := Option.bind_eq_some_iff.mp H
      obtain ⟨t191, A70, H⟩ := H
      replace H : (expr_deep.l0 k1 (mx x2_1 t191) l0_3 (l0_3.length : Int) (wrap64 (x8_1 + 1))) = some r := H
      have A7 := Aside0.mk A70
      clear A70
      obtain ⟨ji8, hji8⟩ : ∃ j_ : Int, (mx x2_1 t191) = j_ := ⟨_, rfl⟩
      replace H : (expr_deep.l0 k1 ji8 l0_3 (l0_3.length : Int) (wrap64 (x8_1 + 1))) = some r := by first | (rw [hji8] at H; exact H) | (simp only [hji8] at H ⊢; exact H)
      (try rw [hji8] at A7)
      have hji8_ : (if x2_1 < t191 then t191 else x2_1) = ji8 := hji8
      have H' := Aside0.mk H
      clear H
      have p189 : 0 ≤ (x8_1 : Int) := of_decide_eq_true (by first | (with_reducible assumption) | assumption)
      have q189 : x8_1 < (l0_3.length : Int) := of_decide_eq_true (by first | (with_reducible assumption) | assumption)
      obtain ⟨ad189, A189_3, c189_3, e189, hx189_0, hx189_1, hx189_2, hx189_3, hl189_3, hi189_3⟩ := at_T50 HR0_3.out x8_1 p189 q189
      cases e189
      replace hx189_0 := (HB.out.cell (World.block_lt_of_cell? w _ hx189_0)).trans hx189_0
      replace hx189_1 := (HB.out.cell (World.block_lt_of_cell? w _ hx189_1)).trans hx189_1
      replace hx189_2 := (HB.out.cell (World.block_lt_of_cell? w _ hx189_2)).trans hx189_2
      replace hx189_3 := (HB.out.cell (World.block_lt_of_cell? w _ hx189_3)).trans hx189_3
      have HR189_3 := Aside0.mk hi189_3
      have HC189_3 := Aside0.mk hl189_3
      clear hi189_3 hl189_3
      replace p189 := eq_true p189
      replace q189 := eq_true q189
      go_wp2_with (first | ((with_reducible refine gate_dst (N := 4) rfl ?_); refine box_event ?hg (N := 4) ?hd (cs := #[.string (⟨#[]⟩ : ByteArray), .int .u16 0, .string (⟨#[]⟩ : ByteArray), .slice none 0 0]) (t := 50) ?hr ?_; (case hd => rfl); (case hg => rfl); (case hr => first | (go_simp; done) | (go_simp; rfl)); intro gb190 hg w9 hbox hb; have n0_ := Aside0.mk (blk_below (g := gb188) (o := .cells #[.string a0_0, .int .u16 a0_1, .string a0_2, .slice (some ad189) l0_3.length c0_3] 50 (0, 0)) (by (with_reducible repeat (first | refine blk_drewN ?_ _ | refine blk_drew ?_ | refine blk_alloc ?_ _)); exact BK188.out) hb); have n1_ := Aside0.mk (below_step (by repeat (first | (with_reducible first | exact HB.out | apply below_alloc | apply pw_below_drewN | apply below_drew1 | refine below_set ?_ GE188.out) | exact HB.out)) hb); have n2_ := Aside0.mk (hbox); have n3_ := Aside0.mk ((by rw [hg]; exact (below_size (by repeat (first | (with_reducible first | exact HB.out | apply below_alloc | apply pw_below_drewN | apply below_drew1 | refine below_set ?_ GE188.out) | exact HB.out))) : w.heap.size ≤ gb190)); have n4_ := Aside0.mk ((by rw [hg]; exact (below_size (by repeat (first | (with_reducible first | exact HB.out | apply below_alloc | apply pw_below_drewN | apply below_drew1 | refine below_set ?_ GE188.out) | exact HB.out))) : w.heap.size ≤ gb190)); have n5_ := Aside0.mk ((by rw [hg]; exact Nat.ne_of_lt (blk_lt (g := gb188) (o := .cells #[.string a0_0, .int .u16 a0_1, .string a0_2, .slice (some ad189) l0_3.length c0_3] 50 (0, 0)) (by (with_reducible repeat (first | refine blk_drewN ?_ _ | refine blk_drew ?_ | refine blk_alloc ?_ _)); exact BK188.out)) : gb188 ≠ gb190)); have n6_ := Aside0.mk ((by rw [hg]; exact Nat.ne_of_gt (blk_lt (g := gb188) (o := .cells #[.string a0_0, .int .u16 a0_1, .string a0_2, .slice (some ad189) l0_3.length c0_3] 50 (0, 0)) (by (with_reducible repeat (first | refine blk_drewN ?_ _ | refine blk_drew ?_ | refine blk_alloc ?_ _)); exact BK188.out)) : gb190 ≠ gb188)); clear BK188; clear HB; have BK188 := n0_; have HB := n1_; have BK190 := n2_; have GW190 := n3_; have GE190 := n4_; have NB188_190 := n5_; have NB190_188 := n6_; clear n0_ n1_ n2_ n3_ n4_ n5_ n6_; clear hb hbox hg; have hnb10 := NB190_188.out; have hnc10 := NB188_190.out; have hcz11_0 : w9.cell? ⟨gb190, 0, none⟩ = some (.string (⟨#[]⟩ : ByteArray)) := (blk_cell BK190.out 0).trans rfl; have hcz11_1 : w9.cell? ⟨gb190, 1, none⟩ = some (.int .u16 0) := (blk_cell BK190.out 1).trans rfl; have hcz11_2 : w9.cell? ⟨gb190, 2, none⟩ = some (.string (⟨#[]⟩ : ByteArray)) := (blk_cell BK190.out 2).trans rfl; have hcz11_3 : w9.cell? ⟨gb190, 3, none⟩ = some (.slice none 0 0) := (blk_cell BK190.out 3).trans rfl; have hfz11_0 := blk_frozen BK190.out 0; have hfz11_1 := blk_frozen BK190.out 1; have hfz11_2 := blk_frozen BK190.out 2; have hfz11_3 := blk_frozen BK190.out 3) | ((with_reducible refine gate_callee (f := 126) rfl ?_); refine goesL_ (some 14) rfl rfl Tryd.func126 (by kernel_rfl) rfl #[.agg #[.string ((rd_T50 l0_3 x8_1).f0), .int .u16 ((rd_T50 l0_3 x8_1).f1), .string ((rd_T50 l0_3 x8_1).f2), .slice A189_3 ((rd_T50 l0_3 x8_1).f3).length c189_3]] rfl (by (try simp only [List.map_toArray, List.map_cons, List.map_nil]); first | done | rfl | (simp only [List.length_drop, List.length_take]; rfl)) ?_; (with_reducible refine (ih k1 (by have := HK1.out; omega) ((rd_T50 l0_3 x8_1).f0) ((rd_T50 l0_3 x8_1).f1) ((rd_T50 l0_3 x8_1).f2) _ _ ((rd_T50 l0_3 x8_1).f3) t191 _ ?side1 ?side2 A7.out).mono ?_); (case side1 => exact Kd.C_below HR189_3.out (by repeat (first | (with_reducible first | exact HB.out | apply below_alloc | apply pw_below_drewN | apply below_drew1 | refine below_set ?_ GE188.out | refine below_set ?_ GE190.out) | exact HB.out))); (case side2 => exact HC189_3.out); rintro e w12 ⟨rfl, hb⟩; refine ⟨_, rfl, ?_⟩; have n0_ := Aside0.mk (blk_below (g := gb188) (o := .cells #[.string a0_0, .int .u16 a0_1, .string a0_2, .slice (some ad189) l0_3.length c0_3] 50 (0, 0)) (by (with_reducible repeat (first | refine blk_drewN ?_ _ | refine blk_drew ?_ | refine blk_alloc ?_ _)); refine blk_far ?_ NB188_190.out _; (with_reducible repeat (first | refine blk_drewN ?_ _ | refine blk_drew ?_ | refine blk_alloc ?_ _)); refine blk_far ?_ NB188_190.out _; (with_reducible repeat (first | refine blk_drewN ?_ _ | refine blk_drew ?_ | refine blk_alloc ?_ _)); refine blk_far ?_ NB188_190.out _; (with_reducible repeat (first | refine blk_drewN ?_ _ | refine blk_drew ?_ | refine blk_alloc ?_ _)); refine blk_far ?_ NB188_190.out _; (with_reducible repeat (first | refine blk_drewN ?_ _ | refine blk_drew ?_ | refine blk_alloc ?_ _)); exact BK188.out) hb); have n1_ := Aside0.mk (blk_below (g := gb190) (o := .cells #[.string ((rd_T50 l0_3 x8_1).f0), .int .u16 ((rd_T50 l0_3 x8_1).f1), .string ((rd_T50 l0_3 x8_1).f2), .slice A189_3 ((rd_T50 l0_3 x8_1).f3).length c189_3] 50 (0, 0)) (by (with_reducible repeat (first | refine blk_drewN ?_ _ | refine blk_drew ?_ | refine blk_alloc ?_ _)); refine blk_put (cs := #[.string ((rd_T50 l0_3 x8_1).f0), .int .u16 ((rd_T50 l0_3 x8_1).f1), .string ((rd_T50 l0_3 x8_1).f2), .slice none 0 0]) ?_ 3 _ rfl; (with_reducible repeat (first | refine blk_drewN ?_ _ | refine blk_drew ?_ | refine blk_alloc ?_ _)); refine blk_put (cs := #[.string ((rd_T50 l0_3 x8_1).f0), .int .u16 ((rd_T50 l0_3 x8_1).f1), .string (⟨#[]⟩ : ByteArray), .slice none 0 0]) ?_ 2 _ rfl; (with_reducible repeat (first | refine blk_drewN ?_ _ | refine blk_drew ?_ | refine blk_alloc ?_ _)); refine blk_put (cs := #[.string ((rd_T50 l0_3 x8_1).f0), .int .u16 0, .string (⟨#[]⟩ : ByteArray), .slice none 0 0]) ?_ 1 _ rfl; (with_reducible repeat (first | refine blk_drewN ?_ _ | refine blk_drew ?_ | refine blk_alloc ?_ _)); refine blk_put (cs := #[.string (⟨#[]⟩ : ByteArray), .int .u16 0, .string (⟨#[]⟩ : ByteArray), .slice none 0 0]) ?_ 0 _ rfl; (with_reducible repeat (first | refine blk_drewN ?_ _ | refine blk_drew ?_ | refine blk_alloc ?_ _)); exact BK190.out) hb); have n2_ := Aside0.mk (below_step (by repeat (first | (with_reducible first | exact HB.out | apply below_alloc | apply pw_below_drewN | apply below_drew1 | refine below_set ?_ GE188.out | refine below_set ?_ GE190.out) | exact HB.out)) hb); clear BK188; clear BK190; clear HB; have BK188 := n0_; have BK190 := n1_; have HB := n2_; clear n0_ n1_ n2_; (try clear hb)))
      go_roundg k1
      case measure => have := HK1.out; omega
      case rel => exact ⟨(ji8), (wrap64 (x8_1 + 1)), (by first | rfl | (simp; done) | (simp only [← hji8] <;> (first | rfl | (simp; done) | (simp [*]; done))) | (simp [*]; done)), (by first | rfl | (simp; done) | (simp [*]; done)), H', ⟨by have := HK1.out; omega⟩, ⟨by (with_reducible repeat (first | refine blk_drewN ?_ _ | refine blk_drew ?_ | refine blk_alloc ?_ _)); exact BK188.out⟩, ⟨by repeat (first | (with_reducible first | exact HB.out | apply below_alloc | apply pw_below_drewN | apply below_drew1 | refine below_set ?_ GE188.out | refine below_set ?_ GE190.out) | exact HB.out)⟩⟩
     ·rw [if_neg c6] at H
      exact absurd H (by simp)
    ·rw [if_neg c5] at H
     exact absurd H (by simp)
   ·rw [if_neg c4] at H
    have c4b0 : decide (x8_1 < (l0_3.length : Int)) = false := decide_eq_false c4
    clear c4
    obtain rfl := Option.some.inj H
    go_wp2
    go_ret
    exact ⟨by first | rfl | (simp [errW_none, errW_some] <;> rfl) | (simp [*, errW_none, errW_some] <;> rfl), by repeat (first | (with_reducible first | exact HB.out | apply below_alloc | apply pw_below_drewN | apply below_drew1 | refine below_set ?_ GE188.out) | exact HB.out)⟩
end Go.Proofs.YtejhagejjogbaaaDoor.Qa
end
section
namespace Go.Proofs.YtejhagejjogbaaaDoor.AnyNot
open Go.RowKit Go.Proofs.YtejhagejjogbaaaDoorW.PrintWords Go.Proofs.YtejhagejjogbaaaDoorW.PrintLast Go.Proofs.YtejhagejjogbaaaDoorW.PrintMore Go.Proofs.YtejhagejjogbaaaDoor.Given Go.Proofs.YtejhagejjogbaaaDoor.Pn Go.Proofs.YtejhagejjogbaaaDoor.Pa Go.Proofs.YtejhagejjogbaaaDoor.Qa
set_option linter.unusedVariables false
set_option linter.unusedSimpArgs false
def bindsL (l : List UInt8) : Int × Int :=
  if l = [35] ∨ l = [110] ∨ l = [36] then (7, 0) else if l = [78, 69, 71] then (6, 1)
  else if l = [42] ∨ l = [47] ∨ l = [77, 79, 68] ∨ l = [83, 72, 76] ∨ l = [83, 72, 82] then (5, 2)
  else if l = [43] ∨ l = [45] then (4, 2) else if l = [78, 79, 84] then (3, 1) else if l = [65, 78, 68] then (2, 2)
  else if l = [79, 82] ∨ l = [88, 79, 82] then (1, 2) else (0, 0)
def wordL (l : List UInt8) : Bool := [[79, 82], [88, 79, 82], [65, 78, 68], [78, 79, 84], [77, 79, 68], [83, 72, 76], [83, 72, 82]].contains l
def letB' (c : UInt8) : Bool := (97 ≤ c && c ≤ 122) || (65 ≤ c && c ≤ 90) || c == 63 || c == 64 || c == 95
def nameQ (l : List UInt8) : Bool := match l with
  | [] => false
  | c :: t => decide (t.length < 16) && letB' c && t.all fun c => letB' c || (48 ≤ c && c ≤ 57)
def namedL (l : List UInt8) : Bool := nameQ l && (l.map up1 == l) && !wordL l
def condR (e : S50) : Bool :=
  let o := e.f0.data.toList
  decide ((bindsL o).1 ≠ 0) && decide ((e.f3.length : Int) = (bindsL o).2) && (decide (e.f1 = 0) || o == [35]) && (if o = [110] then namedL e.f2.data.toList else e.f2.data.toList == [])
def rightN : Nat → S50 → Bool
  | 0, _ => false
  | n + 1, e => condR e && e.f3.all (rightN n)
def okB : Nat → S50 → Bool
  | 0, e => decide (e.f2.size ≤ 1000)
  | n + 1, e => decide (e.f2.size ≤ 1000) && e.f3.all (okB n)
def RightAt (n : Nat) : Prop := ∀ (e : S50) (A : Option Addr) (c : Nat) (w : World), Kd.C k50 w A e.f3.length e.f3 → e.f3.length ≤ c → okB n e = true →
  Calls Tryd.prog 121 #[.agg #[.string e.f0, .int .u16 e.f1, .string e.f2, .slice A e.f3.length c], .int .i64 (n : Int)] w fun e' w' => e' = .returned (.bool (rightN n e)) ∧ Below w.heap.size w w'
def GR (m : Int) (w : World) : Prop := ∀ n : Nat, (n : Int) < m → RightAt n
theorem GR.below {m : Int} {w w' : World} (h : GR m w) (hb : Below w.heap.size w w') : GR m w' := h
set_option maxHeartbeats 8000000 in
set_option maxRecDepth 100000 in
theorem clo_calls (n : Nat) (hn : n ≤ 1000) (IH : RightAt n) (e : S50) (A : Option Addr) (c : Nat) (w : World) (gb : Nat) (hr : Kd.C k50 w A e.f3.length e.f3) (hc : e.f3.length ≤ c) (hok : okB n e = true)
    (hB : w.heap[gb]? = some (.cells #[.int .i64 ((n + 1 : Nat) : Int)] 3 (0, 0))) :
    Calls Tryd.prog 146 #[.agg #[.string e.f0, .int .u16 e.f1, .string e.f2, .slice A e.f3.length c], .pointer (some ⟨gb, 0, none⟩)] w fun e' w' => e' = .returned (.bool (!rightN n e)) ∧ Below w.heap.size w w' := by
  have hu50 := Tryd.underlying50
  have hb0 : gb < w.heap.size := by
    rcases Nat.lt_or_ge gb w.heap.size with h | h
    · exact h
    · rw [Array.getElem?_eq_none h] at hB; cases hB
  have hsub : wrap64 (((n + 1 : Nat) : Int) - 1) = (n : Int) := by unfold wrap64; omega
  have HB0 := Aside0.mk hB
  have HR := Aside0.mk hr
  have HK := Aside0.mk hok
  clear hr hok hB
  go_enter Tryd.func146, Tryd.ntmps146
  go_wp2_with (first | (with_reducible refine gate_dst (N := 2) rfl ?_); refine box_event ?hg (N := 2) ?hd (cs := #[.string e.f0, .int .u16 e.f1, .string e.f2, .slice A e.f3.length c]) (t := 50) ?hr ?_; (case hd => rfl); (case hg => rfl); (case hr => first | (go_simp; done) | (go_simp; rfl)); intro gx hg w1 hbox hb; have HB1 := Aside0.mk hb; have BX := Aside0.mk hbox; have hz0 : w1.cell? ⟨gb, 0, none⟩ = some (.int .i64 ((n + 1 : Nat) : Int)) := (blk_cell (blk_below HB0.out hb) 0).trans rfl; clear hb hbox hg; have hy0 : w1.cell? ⟨gx, 0, none⟩ = some (.string e.f0) := (blk_cell BX.out 0).trans rfl; have hy1 : w1.cell? ⟨gx, 1, none⟩ = some (.int .u16 e.f1) := (blk_cell BX.out 1).trans rfl; have hy2 : w1.cell? ⟨gx, 2, none⟩ = some (.string e.f2) := (blk_cell BX.out 2).trans rfl; have hy3 : w1.cell? ⟨gx, 3, none⟩ = some (.slice A e.f3.length c) := (blk_cell BX.out 3).trans rfl)
  refine (calls_of_args ?_ (IH e A c w1 (Kd.C_below HR.out HB1.out) hc HK.out)).mono ?_
  · first | rfl | (congr 3; omega) | (simp; omega)
  rintro e' w2 ⟨rfl, hb2⟩
  go_wp2
  go_ret
  exact ⟨rfl, below_step HB1.out hb2⟩
theorem blk_stay {w w1 : World} {g : Nat} {o : Obj} (hB : w.heap[g]? = some o) (hb : Below w.heap.size w w1) : w1.heap[g]? = some o := blk_below hB hb
theorem all_at {α : Type} {p : α → Bool} {l : List α} (h : l.all p = true) (k : Nat) (hk : k < l.length) : p l[k] = true := List.all_eq_true.1 h _ (List.getElem_mem hk)
set_option maxHeartbeats 8000000 in
set_option maxRecDepth 100000 in
theorem index_calls (n : Nat) (hn : n ≤ 1000) (IH : RightAt n) (A : Option Addr) (c : Nat) (l : List S50) (w : World) (gb : Nat) (hr : Kd.C k50 w A l.length l) (hc : l.length ≤ c) (hok : l.all (okB n) = true)
    (hB : w.heap[gb]? = some (.cells #[.int .i64 ((n + 1 : Nat) : Int)] 3 (0, 0))) :
    Calls Tryd.prog 170 #[.slice A l.length c, .func (.func 146) #[] #[.pointer (some ⟨gb, 0, none⟩)]] w fun e' w' => (∃ v : Int, e' = .returned (.int .i64 v) ∧ (decide (v ≥ 0) = l.any fun e => !rightN n e)) ∧ Below w.heap.size w w' := by
  have hu50 := Tryd.underlying50
  have hsz : l.length ≤ 9223372036854775807 := hr.2.1
  have HB0 := Aside0.mk hB
  have HR := Aside0.mk hr
  have HK := Aside0.mk hok
  have IH' := Aside0.mk IH
  clear hr hok hB IH
  go_enter Tryd.func170, Tryd.ntmps170
  go_wp2
  go_loopw [8] (fun v wr => ∃ k : Nat, k ≤ l.length ∧ v = .int .i64 k ∧ Aside0 (Below w.heap.size w wr) ∧ Aside0 ((l.take k).any (fun e => !rightN n e) = false)) (fun v _ => l.length - (intOf v).toNat)
  case atStart => exact ⟨0, Nat.zero_le _, rfl, ⟨Below.refl _ _⟩, ⟨rfl⟩⟩
  case round =>
    obtain ⟨k, hk, rfl, HB, HF⟩ := hrel
    by_cases hlt : k < l.length
    · have hR1 := Kd.C_below HR.out HB.out
      obtain ⟨ad, A3, c3, rfl, h0, h1, h2, h3, hl3, hC3⟩ := at_T50 hR1 (k : Int) (by omega) (by omega)
      have hg : rd_T50 l (k : Int) = l[k] := by simp [rd_T50, List.getD_eq_getElem?_getD, List.getElem?_eq_getElem hlt]
      have HT := Aside0.mk (show (l.take (k + 1)).any (fun e => !rightN n e) = ((l.take k).any (fun e => !rightN n e) || !rightN n (rd_T50 l (k : Int))) by
        rw [List.take_succ_eq_append_getElem hlt, List.any_append, hg]; simp)
      have HA := Aside0.mk (show (!rightN n (rd_T50 l (k : Int))) = true → l.any (fun e => !rightN n e) = true from fun h => by
        rw [List.any_eq_true]; exact ⟨l[k], List.getElem_mem hlt, by rw [← hg]; exact h⟩)
      have hko : okB n (rd_T50 l (k : Int)) = true := by rw [hg]; exact all_at HK.out k hlt
      rw [Int.toNat_natCast] at h0 h1 h2 h3
      have HC := Aside0.mk (clo_calls n hn IH'.out (rd_T50 l (k : Int)) A3 c3 wr gb hC3 hl3 hko (blk_stay HB0.out HB.out))
      clear hko hg hC3 hl3 hR1
      generalize rd_T50 l (k : Int) = e at h0 h1 h2 h3 HT HA HC
      cases hx : rightN n e with
      | false =>
        have HX := Aside0.mk (HA.out (by rw [hx]; rfl))
        rw [hx] at HC
        go_wp2_with (go_at_call 146; refine HC.out.mono ?_; rintro e' w2 ⟨rfl, hb2⟩; have HB2 := Aside0.mk (below_step HB.out hb2); clear hb2)
        go_ret
        refine ⟨⟨k, rfl, ?_⟩, HB2.out⟩
        rw [HX.out]; simp
      | true =>
        have HX := Aside0.mk (HT.out.trans (by rw [hx, HF.out]))
        rw [hx] at HC
        go_wp2_with (go_at_call 146; refine HC.out.mono ?_; rintro e' w2 ⟨rfl, hb2⟩; have HB2 := Aside0.mk (below_step HB.out hb2); clear hb2)
        refine ⟨⟨k + 1, by omega, by go_num, HB2, HX⟩, by simp [intOf]; omega⟩
    · obtain rfl : k = l.length := by omega
      have HX := Aside0.mk (show (l.any fun e => !rightN n e) = false by have := HF.out; rwa [List.take_length] at this)
      go_wp2
      go_ret
      exact ⟨⟨-1, rfl, by rw [HX.out]; rfl⟩, HB.out⟩
set_option maxHeartbeats 8000000 in
set_option maxRecDepth 100000 in
theorem contains_calls (n : Nat) (hn : n ≤ 1000) (IH : RightAt n) (A : Option Addr) (c : Nat) (l : List S50) (w : World) (gb : Nat) (hr : Kd.C k50 w A l.length l) (hc : l.length ≤ c) (hok : l.all (okB n) = true)
    (hB : w.heap[gb]? = some (.cells #[.int .i64 ((n + 1 : Nat) : Int)] 3 (0, 0))) :
    Calls Tryd.prog 145 #[.slice A l.length c, .func (.func 146) #[] #[.pointer (some ⟨gb, 0, none⟩)]] w fun e' w' => e' = .returned (.bool (l.any fun e => !rightN n e)) ∧ Below w.heap.size w w' := by
  have HC := Aside0.mk (index_calls n hn IH A c l w gb hr hc hok hB)
  clear hr hok hB IH
  go_enter Tryd.func145, Tryd.ntmps145
  go_wp2_with (go_at_call 170; refine HC.out.mono ?_; rintro e' w2 ⟨⟨v, rfl, hv⟩, hb2⟩; have HV := Aside0.mk hv; have HB2 := Aside0.mk hb2; clear hb2 hv)
  go_ret
  exact ⟨by rw [← HV.out]; rfl, HB2.out⟩
def expr_anyNot.f (l : List S50) (most : Int) : Option Bool := if 1 ≤ most ∧ most ≤ 1000 ∧ l.all (okB (most - 1).toNat) = true then some (l.any fun e => !rightN (most - 1).toNat e) else none
theorem expr_anyNot.calls (A : Option Addr) (c : Nat) (l : List S50) (a1 : Int) (r : Bool) (w : World) {gb : Nat} (hG : Aside0 (GR a1 w)) (hr : Kd.C k50 w A l.length l) (hc : l.length ≤ c)
    (hB : w.heap[gb]? = some (.cells #[.int .i64 a1] 3 (0, 0))) (h : expr_anyNot.f l a1 = some r) :
    Calls Tryd.prog 145 #[.slice A l.length c, .func (.func 146) #[] #[.pointer (some ⟨gb, 0, none⟩)]] w fun e' w' => e' = .returned (.bool r) ∧ Below w.heap.size w w' := by
  unfold expr_anyNot.f at h
  by_cases hs : 1 ≤ a1 ∧ a1 ≤ 1000 ∧ l.all (okB (a1 - 1).toNat) = true
  · rw [if_pos hs] at h
    obtain rfl := Option.some.inj h
    obtain ⟨n, rfl⟩ : ∃ n : Nat, a1 = ((n + 1 : Nat) : Int) := ⟨(a1 - 1).toNat, by omega⟩
    have e : (((n + 1 : Nat) : Int) - 1).toNat = n := by omega
    rw [e] at hs ⊢
    exact contains_calls n (by omega) (hG.out n (by omega)) A c l w gb hr hc hs.2.2 hB
  · rw [if_neg hs] at h; cases h
end Go.Proofs.YtejhagejjogbaaaDoor.AnyNot
end
section
namespace Go.Proofs.YtejhagejjogbaaaDoor.Num
open Go.RowKit Go.Proofs.YtejhagejjogbaaaDoor.Given Go.Proofs.YtejhagejjogbaaaDoor.Pn Go.Proofs.YtejhagejjogbaaaDoorW.PrintWords Go.Proofs.YtejhagejjogbaaaDoorW.PrintLast
def L (s : ByteArray) : List UInt8 := s.data.toList
theorem L_len (s : ByteArray) : (L s).length = s.size := data_length s
theorem bt_L (s : ByteArray) (i : Nat) (h : i < (L s).length) : bt s (i : Int) = ((L s)[i].toNat : Int) := by
  have h' : i < s.size := by rw [← L_len]; exact h
  unfold bt
  rw [Int.toNat_natCast, dif_pos h']
  rfl
theorem w64 {n : Int} (h0 : -9223372036854775808 ≤ n) (h1 : n ≤ 9223372036854775807) : wrap64 n = n := by
  unfold wrap64; omega
theorem drop_cons {l : List UInt8} {i : Nat} (h : i < l.length) : l.drop i = l[i] :: l.drop (i + 1) := List.drop_eq_getElem_cons h
theorem inc_w {i : Nat} (hi : i ≤ 140737488351300) : wrap64 ((i : Int) + 1) = ((i + 1 : Nat) : Int) := by rw [w64 (by omega) (by omega)]; omega
theorem L_up (s : ByteArray) : L (upB s) = (L s).map up1 := by simp [L, upB]
theorem num_upper (x : ByteArray) (hs : x.size ≤ 140737488351300) : number_Upper.f x = some (upB x) := by
  unfold number_Upper.f
  rw [if_pos (by omega)]
theorem empty_iff (x : ByteArray) : x.toList = ([] : List UInt8) ↔ x.size = 0 := by
  rw [Lib.toList_data, ← L_len, List.length_eq_zero_iff]; rfl
theorem L_pos {x : ByteArray} (h : 0 < x.size) : ∃ c l, L x = c :: l ∧ bt x 0 = (c.toNat : Int) := by
  have hl : 0 < (L x).length := by rw [L_len]; exact h
  obtain ⟨c, l, e⟩ := List.exists_cons_of_length_pos hl
  refine ⟨c, l, e, ?_⟩
  have := bt_L x 0 hl
  simp only [e] at this
  exact this
end Go.Proofs.YtejhagejjogbaaaDoor.Num
end
section
namespace Go.Proofs.YtejhagejjogbaaaDoor.Num
open Go.RowKit Go.Proofs.YtejhagejjogbaaaDoor.Given Go.Proofs.YtejhagejjogbaaaDoor.Pn Go.Proofs.YtejhagejjogbaaaDoorW.PrintWords Go.Proofs.YtejhagejjogbaaaDoorW.PrintLast
def hc (d : Nat) : UInt8 := if d < 10 then UInt8.ofNat (48 + d) else UInt8.ofNat (55 + d)
end Go.Proofs.YtejhagejjogbaaaDoor.Num
end
section
namespace Go.Proofs.YtejhagejjogbaaaDoor.Num
open Go.RowKit Go.Proofs.YtejhagejjogbaaaDoor.Given Go.Proofs.YtejhagejjogbaaaDoor.Pn Go.Proofs.YtejhagejjogbaaaDoorW.PrintWords Go.Proofs.YtejhagejjogbaaaDoorW.PrintLast
set_option linter.unusedSimpArgs false
def letterB (c : UInt8) : Bool := (97 ≤ c && c ≤ 122) || (65 ≤ c && c ≤ 90) || c == 63 || c == 64 || c == 95
def digitB (c : UInt8) : Bool := 48 ≤ c && c ≤ 57
def tailB (c : UInt8) : Bool := letterB c || digitB c
def nameL (l : List UInt8) : Bool := match l with
  | [] => false
  | c :: t => decide (t.length < 16) && letterB c && t.all tailB
theorem digit_all : ∀ c : Fin 256, (decide (¬ ((c.val : Nat) : Int) < 48) && decide (¬ ((c.val : Nat) : Int) > 57)) = digitB (UInt8.ofNat c.val) := by decide +kernel
theorem digit_at (c : UInt8) : (decide (¬ (c.toNat : Int) < 48) && decide (¬ (c.toNat : Int) > 57)) = digitB c := by
  have := digit_all ⟨c.toNat, c.toNat_lt⟩
  simpa using this
theorem begins_all : ∀ c : Fin 256, ∃ b, number_begins.f ((c.val : Nat) : Int) = some b ∧ letterB (UInt8.ofNat c.val) = ((b && decide (((c.val : Nat) : Int) < 128)) || ((c.val : Nat) : Int) == 63 || ((c.val : Nat) : Int) == 64 || ((c.val : Nat) : Int) == 95) := by
  decide +kernel
theorem begins_at (c : UInt8) : ∃ b, number_begins.f (c.toNat : Int) = some b ∧ letterB c = ((b && decide ((c.toNat : Int) < 128)) || (c.toNat : Int) == 63 || (c.toNat : Int) == 64 || (c.toNat : Int) == 95) := by
  have := begins_all ⟨c.toNat, c.toNat_lt⟩
  simpa using this
theorem digit_at' (c : UInt8) : (decide (48 ≤ (c.toNat : Int)) && decide ((c.toNat : Int) ≤ 57)) = digitB c := by
  rw [← digit_at c]
  congr 1 <;> (apply decide_eq_decide.2; omega)
theorem num_name_step (x : ByteArray) (hs : x.size ≤ 140737488351300) {i : Nat} (hl : i < (L x).length) {r : Bool} (key : Ev (fun k => number_Name.l0 k x (x.size : Int) ((i + 1 : Nat) : Int)) r) :
    Ev (fun k => number_Name.l0 k x (x.size : Int) (i : Int)) ((letterB (L x)[i] || (decide (0 < i) && digitB (L x)[i])) && r) := by
  have hi : i < x.size := by rw [← L_len]; exact hl
  have hbt := bt_L x i hl
  generalize (L x)[i] = c at hbt ⊢
  have j3 : ∀ b : Bool, Ev (fun k => number_Name.j3 k x (i : Int) (c.toNat : Int) (x.size : Int) (i : Int) b) ((b || (decide (0 < i) && digitB c)) && r) := by
    intro b
    refine Ev.step (fun k => rfl) ?_
    simp only [number_Name.j3, inc_w (show i ≤ 140737488351300 by omega)]
    have hd := digit_at' c
    cases b with
    | true => simp only [if_true, Bool.true_or, Bool.true_and]; exact key
    | false =>
      simp only [if_neg (show ¬ (false = true) by decide), Bool.false_or]
      by_cases h0 : 0 < i
      · simp only [if_pos (show (i : Int) > 0 by omega), h0, decide_true, Bool.true_and, ← hd]
        by_cases h1 : 48 ≤ (c.toNat : Int)
        · by_cases h2 : (c.toNat : Int) ≤ 57
          · simp only [if_pos h1, if_pos h2, h1, h2, decide_true, Bool.and_self, Bool.true_and]; exact key
          · simp only [if_pos h1, if_neg h2, h1, h2, decide_false, Bool.and_false, Bool.false_and]; exact Ev.now _
        · simp only [if_neg h1, h1, decide_false, Bool.false_and]; exact Ev.now _
      · simp only [if_neg (show ¬ (i : Int) > 0 by omega), h0, decide_false, Bool.false_and]; exact Ev.now _
  have j2 : ∀ b : Bool, Ev (fun k => number_Name.j2 k x (i : Int) (c.toNat : Int) (x.size : Int) (i : Int) b) (((b || (c.toNat : Int) == 63 || (c.toNat : Int) == 64 || (c.toNat : Int) == 95) || (decide (0 < i) && digitB c)) && r) := by
    intro b
    refine Ev.step (fun k => rfl) ?_
    simp only [number_Name.j2]
    cases b with
    | true => simp only [if_true, Bool.true_or]; simpa using j3 true
    | false =>
      simp only [if_neg (show ¬ (false = true) by decide), Bool.false_or]
      by_cases h1 : (c.toNat : Int) = 63
      · have e : ((c.toNat : Int) == 63) = true := by simpa using h1
        simp only [if_pos h1, e, Bool.true_or]; simpa using j3 true
      · have e : ((c.toNat : Int) == 63) = false := by simpa using h1
        simp only [if_neg h1, e, Bool.false_or]
        by_cases h2 : (c.toNat : Int) = 64
        · have e : ((c.toNat : Int) == 64) = true := by simpa using h2
          simp only [if_pos h2, e, Bool.true_or]; simpa using j3 true
        · have e : ((c.toNat : Int) == 64) = false := by simpa using h2
          simp only [if_neg h2, e, Bool.false_or]; exact j3 _
  refine Ev.step (fun k => rfl) ?_
  simp only [number_Name.l0]
  obtain ⟨b, hb, hl⟩ := begins_at c
  simp only [if_pos (show (i : Int) < (x.size : Int) by omega), if_pos (show (0 : Int) ≤ (i : Int) by omega), hbt, hb, Option.bind_some, hl]
  cases b with
  | true => simpa only [↓reduceIte, Bool.true_and] using j2 (decide ((c.toNat : Int) < 128))
  | false => simpa only [↓reduceIte, Bool.false_and, reduceCtorEq] using j2 false
theorem num_name_loop (x : ByteArray) (hs : x.size ≤ 140737488351300) (d : Nat) : ∀ i : Nat, i + d = x.size → 0 < i →
    Ev (fun k => number_Name.l0 k x (x.size : Int) (i : Int)) (((L x).drop i).all tailB) := by
  induction d with
  | zero =>
    intro i hi h0
    refine Ev.step (fun k => rfl) ?_
    simp only [number_Name.l0]
    rw [List.drop_eq_nil_of_le (by rw [L_len]; omega)]
    simp only [if_neg (show ¬ (i : Int) < (x.size : Int) by omega), List.all_nil]
    exact Ev.now _
  | succ d ih =>
    intro i hi h0
    have hl : i < (L x).length := by rw [L_len]; omega
    have := num_name_step x hs hl (ih (i + 1) (by omega) (by omega))
    rw [drop_cons hl, List.all_cons]
    unfold tailB at this ⊢
    simpa [h0] using this
theorem num_name (x : ByteArray) (hs : x.size ≤ 140737488351300) : Ev (fun k => number_Name.f k x) (nameL (L x)) := by
  have hj : Ev (fun k => number_Name.j0 k x true) false := by
    refine Ev.step (fun k => rfl) ?_
    simp only [number_Name.j0, if_true]
    exact Ev.now _
  unfold number_Name.f
  have hl := L_len x
  by_cases h0 : x.size = 0
  · simp only [if_pos ((empty_iff x).2 h0)]
    have : L x = [] := by rw [← List.length_eq_zero_iff, L_len]; exact h0
    rw [this]
    exact hj
  · obtain ⟨c, t, ht, hb⟩ := L_pos (show 0 < x.size by omega)
    rw [ht, List.length_cons] at hl
    simp only [if_neg (fun h => h0 ((empty_iff x).1 h))]
    by_cases h16 : (x.size : Int) > 16
    · rw [ht]
      unfold nameL
      simp only [h16, decide_true, show ¬ (t.length < 16) by omega, decide_false, Bool.false_and]
      exact hj
    · simp only [h16, decide_false]
      refine Ev.step (fun k => rfl) ?_
      simp only [number_Name.j0, if_neg (show ¬ (false = true) by decide)]
      have h1 : 0 < (L x).length := by rw [L_len]; omega
      have := num_name_step x hs h1 (num_name_loop x hs (x.size - 1) 1 (by omega) (by omega))
      simp only [ht] at this ⊢
      unfold nameL
      simpa [show t.length < 16 by omega] using this
end Go.Proofs.YtejhagejjogbaaaDoor.Num
end
section
namespace Go.Proofs.YtejhagejjogbaaaDoor.Tk
open Go.RowKit Go.Proofs.YtejhagejjogbaaaDoor.Given Go.Proofs.YtejhagejjogbaaaDoor.Pn Go.Proofs.YtejhagejjogbaaaDoor.Pa Go.Proofs.YtejhagejjogbaaaDoor.Pb Go.Proofs.YtejhagejjogbaaaDoor.Num Go.Proofs.YtejhagejjogbaaaDoor.TokSpan Go.Proofs.YtejhagejjogbaaaDoorW.PrintWords Go.Proofs.YtejhagejjogbaaaDoorW.PrintLast
set_option linter.unusedSimpArgs false
set_option linter.unusedVariables false
end Go.Proofs.YtejhagejjogbaaaDoor.Tk
end
section
namespace Go.Proofs.YtejhagejjogbaaaDoor.Par
open Go.RowKit Go.Proofs.YtejhagejjogbaaaDoor.Given Go.Proofs.YtejhagejjogbaaaDoor.Pn Go.Proofs.YtejhagejjogbaaaDoor.Pa Go.Proofs.YtejhagejjogbaaaDoor.Pb Go.Proofs.YtejhagejjogbaaaDoor.Qa Go.Proofs.YtejhagejjogbaaaDoor.Num Go.Proofs.YtejhagejjogbaaaDoor.AnyNot Go.Proofs.YtejhagejjogbaaaDoorW.PrintWords Go.Proofs.YtejhagejjogbaaaDoorW.PrintLast
set_option linter.unusedSimpArgs false
set_option linter.unusedVariables false
structure PS where
  l : List S41
  k : Int
  o : Int
def e0 : S50 := ⟨⟨#[]⟩, 0, ⟨#[]⟩, []⟩
def failP (s : PS) (k : Int) : S50 × PS := (e0, ⟨s.l, if s.k = 0 then k else s.k, s.o⟩)
def atT (t : S41) (kind : Int) (texts : List (List UInt8)) : Option ByteArray := if t.f0 = kind ∧ texts.contains t.f1.data.toList = true then some t.f1 else none
def atP (l : List S41) (kind : Int) (texts : List (List UInt8)) : Option ByteArray :=
  match l with
  | [] => none
  | t :: _ => atT t kind texts
def opP (l : List S41) (r : Int) : Option ByteArray :=
  if r = 1 then atP l 1 [[79, 82], [88, 79, 82]] else if r = 2 then atP l 1 [[65, 78, 68]] else if r = 4 then atP l 4 [[43], [45]]
  else match atP l 4 [[42], [47]] with
    | some s => some s
    | none => atP l 1 [[77, 79, 68], [83, 72, 76], [83, 72, 82]]
def valP (s : ByteArray) : Int × Int := if s.size = 0 ∨ 2 < s.size then (0, 5) else ((valn s.data.toList : Int), 0)
mutual
def withinP : Nat → Int → PS → Option (S50 × PS)
  | 0, _, _ => none
  | n + 1, r, s =>
    if wrap64 (s.o + 1) > 48 then some (failP ⟨s.l, s.k, wrap64 (s.o + 1)⟩ 11)
    else match binP n r ⟨s.l, s.k, wrap64 (s.o + 1)⟩ with
      | none => none
      | some (e, t) => some (e, ⟨t.l, t.k, wrap64 (t.o - 1)⟩)
def atomP : Nat → PS → Option (S50 × PS)
  | 0, _ => none
  | n + 1, s => match s.l with
    | [] => some (failP s 2)
    | t :: l =>
      if t.f0 = 1 then (if wordL t.f1.data.toList = true then some (failP ⟨l, s.k, s.o⟩ 2) else some (⟨⟨#[110]⟩, 0, t.f1, []⟩, ⟨l, s.k, s.o⟩))
      else if t.f0 = 2 then some (⟨⟨#[35]⟩, t.f2, ⟨#[]⟩, []⟩, ⟨l, s.k, s.o⟩)
      else if t.f0 = 3 then (if (valP t.f1).2 = 0 then some (⟨⟨#[35]⟩, (valP t.f1).1, ⟨#[]⟩, []⟩, ⟨l, s.k, s.o⟩) else some (failP ⟨l, s.k, s.o⟩ (valP t.f1).2))
      else if t.f0 = 4 then
        (if t.f1.data.toList = [36] then some (⟨⟨#[36]⟩, 0, ⟨#[]⟩, []⟩, ⟨l, s.k, s.o⟩)
        else if t.f1.data.toList = [40] then
          match withinP n 1 ⟨l, s.k, s.o⟩ with
          | none => none
          | some (e, u) => if (atP u.l 4 [[41]]).isSome = true then some (e, ⟨u.l.drop 1, u.k, u.o⟩) else some (failP u 2)
        else some (failP ⟨l, s.k, s.o⟩ 2))
      else some (failP ⟨l, s.k, s.o⟩ 2)
def unaryP : Nat → Int → PS → Option (S50 × PS)
  | 0, _, _ => none
  | n + 1, r, s =>
    if r = 6 then
      (if (atP s.l 4 [[45]]).isSome = true then
        match withinP n r ⟨s.l.drop 1, s.k, s.o⟩ with
        | none => none
        | some (e, t) => some (⟨⟨#[78, 69, 71]⟩, 0, ⟨#[]⟩, [e]⟩, t)
      else atomP n s)
    else if (atP s.l 1 [[78, 79, 84]]).isSome = true then
      match withinP n r ⟨s.l.drop 1, s.k, s.o⟩ with
      | none => none
      | some (e, t) => some (⟨⟨#[78, 79, 84]⟩, 0, ⟨#[]⟩, [e]⟩, t)
    else binP n (wrap64 (r + 1)) s
def binP : Nat → Int → PS → Option (S50 × PS)
  | 0, _, _ => none
  | n + 1, r, s =>
    if r = 3 ∨ r = 6 then unaryP n r s
    else match binP n (wrap64 (r + 1)) s with
      | none => none
      | some (e, t) => loopP n r e t
def loopP : Nat → Int → S50 → PS → Option (S50 × PS)
  | 0, _, _, _ => none
  | n + 1, r, e, s =>
    if s.k = 0 then
      match opP s.l r with
      | none => some (e, s)
      | some op => match binP n (wrap64 (r + 1)) ⟨s.l.drop 1, s.k, s.o⟩ with
        | none => none
        | some (f, t) => loopP n r ⟨op, 0, ⟨#[]⟩, [e, f]⟩ t
    else some (e, s)
end
structure Up (n : Nat) : Prop where
  w : ∀ r s x, withinP n r s = some x → withinP (n + 1) r s = some x
  a : ∀ s x, atomP n s = some x → atomP (n + 1) s = some x
  u : ∀ r s x, unaryP n r s = some x → unaryP (n + 1) r s = some x
  b : ∀ r s x, binP n r s = some x → binP (n + 1) r s = some x
  l : ∀ r e s x, loopP n r e s = some x → loopP (n + 1) r e s = some x
theorem up (n : Nat) : Up n := by
  induction n with
  | zero =>
    refine ⟨?_, ?_, ?_, ?_, ?_⟩ <;> intros <;> rename_i h
    · rw [withinP] at h; cases h
    · rw [atomP] at h; cases h
    · rw [unaryP] at h; cases h
    · rw [binP] at h; cases h
    · rw [loopP] at h; cases h
  | succ n ih =>
    refine ⟨?_, ?_, ?_, ?_, ?_⟩
    · intro r s x h
      rw [withinP] at h ⊢
      split at h
      · rename_i h1; rw [if_pos h1]; exact h
      · rename_i h1
        rw [if_neg h1]
        cases hb : binP n r ⟨s.l, s.k, wrap64 (s.o + 1)⟩ with
        | none => rw [hb] at h; cases h
        | some y => rw [hb] at h; rw [ih.b _ _ _ hb]; exact h
    · intro s x h
      rw [atomP] at h ⊢
      cases hl : s.l with
      | nil => rw [hl] at h; exact h
      | cons t l =>
        rw [hl] at h
        simp only at h ⊢
        split at h
        · rename_i h1; rw [if_pos h1]; exact h
        · rename_i h1
          rw [if_neg h1]
          split at h
          · rename_i h2; rw [if_pos h2]; exact h
          · rename_i h2
            rw [if_neg h2]
            split at h
            · rename_i h3; rw [if_pos h3]; exact h
            · rename_i h3
              rw [if_neg h3]
              split at h
              · rename_i h4
                rw [if_pos h4]
                split at h
                · rename_i h5; rw [if_pos h5]; exact h
                · rename_i h5
                  rw [if_neg h5]
                  split at h
                  · rename_i h6
                    rw [if_pos h6]
                    cases hb : withinP n 1 ⟨l, s.k, s.o⟩ with
                    | none => rw [hb] at h; cases h
                    | some y => rw [hb] at h; rw [ih.w _ _ _ hb]; exact h
                  · rename_i h6; rw [if_neg h6]; exact h
              · rename_i h4; rw [if_neg h4]; exact h
    · intro r s x h
      rw [unaryP] at h ⊢
      split at h
      · rename_i h1
        rw [if_pos h1]
        split at h
        · rename_i h2
          rw [if_pos h2]
          cases hb : withinP n r ⟨s.l.drop 1, s.k, s.o⟩ with
          | none => rw [hb] at h; cases h
          | some y => rw [hb] at h; rw [ih.w _ _ _ hb]; exact h
        · rename_i h2; rw [if_neg h2]; exact ih.a _ _ h
      · rename_i h1
        rw [if_neg h1]
        split at h
        · rename_i h2
          rw [if_pos h2]
          cases hb : withinP n r ⟨s.l.drop 1, s.k, s.o⟩ with
          | none => rw [hb] at h; cases h
          | some y => rw [hb] at h; rw [ih.w _ _ _ hb]; exact h
        · rename_i h2; rw [if_neg h2]; exact ih.b _ _ _ h
    · intro r s x h
      rw [binP] at h ⊢
      split at h
      · rename_i h1; rw [if_pos h1]; exact ih.u _ _ _ h
      · rename_i h1
        rw [if_neg h1]
        cases hb : binP n (wrap64 (r + 1)) s with
        | none => rw [hb] at h; cases h
        | some y => rw [hb] at h; rw [ih.b _ _ _ hb]; exact ih.l _ _ _ _ h
    · intro r e s x h
      rw [loopP] at h ⊢
      split at h
      · rename_i h1
        rw [if_pos h1]
        cases ho : opP s.l r with
        | none => rw [ho] at h; exact h
        | some op =>
          rw [ho] at h
          simp only at h ⊢
          cases hb : binP n (wrap64 (r + 1)) ⟨s.l.drop 1, s.k, s.o⟩ with
          | none => rw [hb] at h; cases h
          | some y => rw [hb] at h; rw [ih.b _ _ _ hb]; exact ih.l _ _ _ _ h
      · rename_i h1; rw [if_neg h1]; exact h
def Bi (r : Int) (s : PS) (x : S50 × PS) : Prop := ∃ n, binP n r s = some x
def Lo (r : Int) (e : S50) (s : PS) (x : S50 × PS) : Prop := ∃ n, loopP n r e s = some x
theorem lo_end {r : Int} {s : PS} {e : S50} (h : opP s.l r = none) : Lo r e s (e, s) := by
  refine ⟨1, ?_⟩
  rw [loopP, h]
  split <;> rfl
def nOp (w : Int) (R : List S41) : Prop := ∀ r : Int, (r = 1 ∨ r = 2 ∨ r = 4 ∨ r = 5) → w ≤ r → opP R r = none
theorem nOp.mono {w v : Int} {R : List S41} (h : nOp w R) (hv : w ≤ v) : nOp v R := fun r hr hw => h r hr (by omega)
def A (T : List S41) (e : S50) (w : Int) (o : Int) : Prop :=
  if w = 3 ∨ w = 6 then ∀ R, nOp w R → Bi w ⟨T ++ R, 0, o⟩ (e, ⟨R, 0, o⟩)
  else ∀ R x, nOp (w + 1) R → Lo w e ⟨R, 0, o⟩ x → Bi w ⟨T ++ R, 0, o⟩ x
theorem A.val {T : List S41} {e : S50} {w o : Int} (h : A T e w o) (hw : w = 1 ∨ w = 2 ∨ w = 3 ∨ w = 4 ∨ w = 5 ∨ w = 6) {R : List S41} (hR : nOp w R) : Bi w ⟨T ++ R, 0, o⟩ (e, ⟨R, 0, o⟩) := by
  unfold A at h
  split at h
  · exact h R hR
  · rename_i h1
    exact h R _ (hR.mono (by omega)) (lo_end (hR w (by omega) (Int.le_refl _)))
end Go.Proofs.YtejhagejjogbaaaDoor.Par
end
section
namespace Go.Proofs.YtejhagejjogbaaaDoor.Qb
open Go.RowKit Go.Proofs.YtejhagejjogbaaaDoorW.PrintWords Go.Proofs.YtejhagejjogbaaaDoorW.PrintLast Go.Proofs.YtejhagejjogbaaaDoorW.PrintMore Go.Proofs.YtejhagejjogbaaaDoor.Given Go.Proofs.YtejhagejjogbaaaDoor.TokSpan Go.Proofs.YtejhagejjogbaaaDoor.TokJoin Go.Proofs.YtejhagejjogbaaaDoor.TokRep Go.Proofs.YtejhagejjogbaaaDoor.AnyNot Go.Proofs.YtejhagejjogbaaaDoor.Pn Go.Proofs.YtejhagejjogbaaaDoor.Pa Go.Proofs.YtejhagejjogbaaaDoor.Pb Go.Proofs.YtejhagejjogbaaaDoor.Pc Go.Proofs.YtejhagejjogbaaaDoor.Pd Go.Proofs.YtejhagejjogbaaaDoor.Pe Go.Proofs.YtejhagejjogbaaaDoor.Qa
attribute [local go_sem] max2_int min2_int max_two min_two max_three min_three max_four min_four   -- for this text's walks alone
set_option linter.unusedVariables false
set_option linter.unusedSimpArgs false
def errW : Option Int → Value
 | none => .nilIface
 | some c => .iface 0 (.int .i64 c)
theorem errW_none : errW none = .nilIface := rfl
theorem errW_some (c : Int) : errW (some c) = .iface 0 (.int .i64 c) := rfl
end Go.Proofs.YtejhagejjogbaaaDoor.Qb
end
