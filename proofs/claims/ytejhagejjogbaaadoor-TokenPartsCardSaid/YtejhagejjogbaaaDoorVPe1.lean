import Derived.Test.YtejhagejjogbaaaDoorVPe0
namespace Go.Proofs.YtejhagejjogbaaaDoor.Pe
open Go.RowKit Go.Proofs.YtejhagejjogbaaaDoorW.PrintWords Go.Proofs.YtejhagejjogbaaaDoorW.PrintLast Go.Proofs.YtejhagejjogbaaaDoorW.PrintMore Go.Proofs.YtejhagejjogbaaaDoor.Given Go.Proofs.YtejhagejjogbaaaDoor.TokSpan Go.Proofs.YtejhagejjogbaaaDoor.TokJoin Go.Proofs.YtejhagejjogbaaaDoor.TokIs Go.Proofs.YtejhagejjogbaaaDoor.Pn Go.Proofs.YtejhagejjogbaaaDoor.Pa Go.Proofs.YtejhagejjogbaaaDoor.Pb Go.Proofs.YtejhagejjogbaaaDoor.Pc
attribute [local go_sem] max2_int min2_int max_two min_two max_three min_three max_four min_four   -- for this text's walks alone
set_option linter.unusedVariables false
set_option linter.unusedSimpArgs false
mutual
def token_Cut.l0 : Nat → ByteArray → List (List (S41)) → List (S41) → Int → List (S41) → Int → Int → Option ((List (List (S41))))
  | 0, _, _, _, _, _, _, _ => none
  | k + 1, x1, x4, x5, x6, x13, x14, x15 => if x15 < x14 then (if 0 ≤ x15 then (if x15 < (x13.length : Int) then ((token_is.f ((rd_T41 x13 x15).f0) ((rd_T41 x13 x15).f1) ((rd_T41 x13 x15).f2) (([(⟨#[41]⟩ : ByteArray), (⟨#[93]⟩ : ByteArray)] : List ByteArray))).bind fun t109 => (if t109 = true then (token_Cut.j1 k x1 x4 x5 (mx (wrap64 (x6 - 1)) 0) x13 x14 x15 ((rd_T41 x13 x15).f0) ((rd_T41 x13 x15).f1) ((rd_T41 x13 x15).f2)) else (token_Cut.j1 k x1 x4 x5 x6 x13 x14 x15 ((rd_T41 x13 x15).f0) ((rd_T41 x13 x15).f1) ((rd_T41 x13 x15).f2)))) else (none)) else (none)) else (if x4.length < 5864062014805 then (some (x4 ++ [x5])) else (none))
def token_Cut.j1 : Nat → ByteArray → List (List (S41)) → List (S41) → Int → List (S41) → Int → Int → Int → ByteArray → Int → Option ((List (List (S41))))
  | 0, _, _, _, _, _, _, _, _, _, _ => none
  | k + 1, x1, x4, x5, x6, x13, x14, x15, x106000, x106001, x106002 => (token_is.f x106000 x106001 x106002 (([x1] : List ByteArray))).bind fun t113 => (if t113 = true then (token_Cut.j2 k x1 x4 x5 x6 x13 x14 x15 (x6 == 0) x106000 x106001 x106002) else (token_Cut.j2 k x1 x4 x5 x6 x13 x14 x15 false x106000 x106001 x106002))
def token_Cut.j2 : Nat → ByteArray → List (List (S41)) → List (S41) → Int → List (S41) → Int → Int → Bool → Int → ByteArray → Int → Option ((List (List (S41))))
  | 0, _, _, _, _, _, _, _, _, _, _, _ => none
  | k + 1, x1, x4, x5, x6, x13, x14, x15, x33, x106000, x106001, x106002 => if x33 = true then (if x4.length < 5864062014805 then ((some (x4 ++ [x5] : List (List (S41)))).bind fun y114 => ((token_is.f x106000 x106001 x106002 (([(⟨#[40]⟩ : ByteArray), (⟨#[91]⟩ : ByteArray)] : List ByteArray))).bind fun t120 => (if t120 = true then (token_Cut.l0 k x1 y114 ([] : List (S41)) (wrap64 (x6 + 1)) x13 x14 (wrap64 (x15 + 1))) else (token_Cut.l0 k x1 y114 ([] : List (S41)) x6 x13 x14 (wrap64 (x15 + 1)))))) else (none)) else (if x5.length < 4398046511104 then ((some (x5 ++ [(⟨x106000, x106001, x106002⟩ : S41)] : List (S41))).bind fun y121 => ((token_is.f x106000 x106001 x106002 (([(⟨#[40]⟩ : ByteArray), (⟨#[91]⟩ : ByteArray)] : List ByteArray))).bind fun t127 => (if t127 = true then (token_Cut.l0 k x1 x4 y121 (wrap64 (x6 + 1)) x13 x14 (wrap64 (x15 + 1))) else (token_Cut.l0 k x1 x4 y121 x6 x13 x14 (wrap64 (x15 + 1)))))) else (none))
end
def token_Cut.f (k : Nat) (l0 : List (S41)) (a1 : ByteArray) : Option ((List (List (S41)))) := if (l0.length : Int) = 0 then (some ([] : List (List (S41)))) else (token_Cut.l0 k a1 ([] : List (List (S41))) ([] : List (S41)) 0 l0 (l0.length : Int) 0)
set_option maxHeartbeats 8000000 in
set_option maxRecDepth 100000 in
theorem token_Cut.calls (k : Nat) (A0 : Option Addr) (c0 : Nat) (l0 : List (S41)) (a1 : ByteArray) (r : List (List (S41))) (w : World) (hr0 : Kd.C k41 w A0 l0.length l0) (hc0 : l0.length ≤ c0) (h : token_Cut.f k l0 a1 = some r) :
    Calls Tryd.prog 35 #[.slice A0 l0.length c0, .string a1] w fun e w' => ∃ v0_ : Value, e = .returned (v0_) ∧ Kd.S (Kd.slice 41 k41) 31 w' w.heap.size (fun _ => True) v0_ r ∧ Below w.heap.size w w' := by
  have hu41 := Tryd.underlying41
  have HR0 := Aside0.mk hr0
  have HC0 := Aside0.mk hc0
  clear hr0 hc0
  have HB := Aside0.mk (Below.refl w.heap.size w)
  have H : (if (l0.length : Int) = 0 then (some ([] : List (List (S41)))) else (token_Cut.l0 k a1 ([] : List (List (S41))) ([] : List (S41)) 0 l0 (l0.length : Int) 0)) = some r := h
  clear h
  by_cases c3 : (l0.length : Int) = 0
  · rw [if_pos c3] at H
    have c3b0 : ((l0.length : Int) == 0) = true := beq_iff_eq.mpr c3
    have c3b1 : ((l0.length : Int) != 0) = false := bne_eq_false_iff_eq.mpr c3
    clear c3
    obtain rfl := Option.some.inj H
    go_enter Tryd.func35, Tryd.ntmps35
    go_wp2
    go_ret
    exact ⟨_, by first | rfl | (simp [errW_none, errW_some] <;> rfl) | (simp [*, errW_none, errW_some] <;> rfl), by first | exact Kd.S_nil _ _ _ _ _ | exact Kd.N_nil _ _ _ _ _ | exact Kd.V_nil _ _ _ _ _ | exact Kd.Q_nil _ _ _ _ _ | exact Kd.R_nil _ _ _ _ _, by repeat (first | (with_reducible first | exact HB.out | apply below_alloc | apply pw_below_drewN | apply below_drew1) | exact HB.out)⟩
  · rw [if_neg c3] at H
    have c3b0 : ((l0.length : Int) == 0) = false := beq_eq_false_iff_ne.mpr c3
    have c3b1 : ((l0.length : Int) != 0) = true := bne_iff_ne.mpr c3
    have c3b2 : ¬ (l0 = []) := fun h_ => c3 (by rw [h_]; rfl)
    have H' := Aside0.mk H
    clear H
    go_enter Tryd.func35, Tryd.ntmps35
    go_wp2
    first | go_loopg [4, 5, 6, 15] k (fun kq v4 v5 v6 v15 w' => ∃ (x4_1 : List (List (S41))) (x5_1 : List (S41)) (x6_1 : Int) (x15_1 : Int), v6 = .int .i64 x6_1 ∧ v15 = .int .i64 x15_1 ∧ Aside0 (token_Cut.l0 kq a1 x4_1 x5_1 x6_1 l0 (l0.length : Int) x15_1 = some r) ∧ Aside0 (kq ≤ k) ∧ Aside0 (Kd.S (Kd.slice 41 k41) 31 w' w.heap.size (fun k_ => some k_ ≠ (v5 : Value).ownBlock) v4 x4_1) ∧ Aside0 (Kd.R k41 41 w' w.heap.size (fun _ => True) v5 x5_1) ∧ Aside0 (Below w.heap.size w w')) | (go_simp; go_loopg [4, 5, 6, 15] k (fun kq v4 v5 v6 v15 w' => ∃ (x4_1 : List (List (S41))) (x5_1 : List (S41)) (x6_1 : Int) (x15_1 : Int), v6 = .int .i64 x6_1 ∧ v15 = .int .i64 x15_1 ∧ Aside0 (token_Cut.l0 kq a1 x4_1 x5_1 x6_1 l0 (l0.length : Int) x15_1 = some r) ∧ Aside0 (kq ≤ k) ∧ Aside0 (Kd.S (Kd.slice 41 k41) 31 w' w.heap.size (fun k_ => some k_ ≠ (v5 : Value).ownBlock) v4 x4_1) ∧ Aside0 (Kd.R k41 41 w' w.heap.size (fun _ => True) v5 x5_1) ∧ Aside0 (Below w.heap.size w w')))
    case atStart => exact ⟨(([] : List (List (S41)))), (([] : List (S41))), (0), (0), (by first | rfl | (simp; done) | (simp [*]; done)), (by first | rfl | (simp; done) | (simp [*]; done)), H', ⟨Nat.le_refl _⟩, ⟨by first | exact Kd.S_nil _ _ _ _ _ | exact Kd.N_nil _ _ _ _ _ | exact Kd.V_nil _ _ _ _ _ | exact Kd.Q_nil _ _ _ _ _ | exact Kd.R_nil _ _ _ _ _⟩, ⟨by first | exact Kd.R_nil _ _ _ _ _ | exact Kd.N_nil _ _ _ _ _ | exact Kd.V_nil _ _ _ _ _ | exact Kd.Q_nil _ _ _ _ _ | exact Kd.S_nil _ _ _ _ _⟩, ⟨by repeat (first | (with_reducible first | exact HB.out | apply below_alloc | apply pw_below_drewN | apply below_drew1) | exact HB.out)⟩⟩
    case round =>
      clear H'
      try clear p2
      try clear c3
      try clear c3b0
      try clear c3b1
      try clear c3b2
      obtain ⟨x4_1, x5_1, x6_1, x15_1, rfl, rfl, HA, HK1, HO_4, HO_5, HB⟩ := hrel
      cases gk with
      | zero => exact absurd HA.out (by simp [token_Cut.l0])
      | succ k1 =>
        have H := HA.out
        clear HA
        simp only [token_Cut.l0] at H
        by_cases c4 : x15_1 < (l0.length : Int)
        · rw [if_pos c4] at H
          have c4b0 : decide (x15_1 < (l0.length : Int)) = true := decide_eq_true c4
          clear c4
          by_cases c5 : 0 ≤ x15_1
          · rw [if_pos c5] at H
            have c5b0 : decide (0 ≤ x15_1) = true := decide_eq_true c5
            clear c5
            by_cases c6 : x15_1 < (l0.length : Int)
            · rw [if_pos c6] at H
              have c6b0 : decide (x15_1 < (l0.length : Int)) = true := decide_eq_true c6
              clear c6
              obtain ⟨y106, hy106⟩ : ∃ y_ : List ByteArray, y_ = (([(⟨#[41]⟩ : ByteArray), (⟨#[93]⟩ : ByteArray)] : List ByteArray)) := ⟨_, rfl⟩
              replace H : ((token_is.f ((rd_T41 l0 x15_1).f0) ((rd_T41 l0 x15_1).f1) ((rd_T41 l0 x15_1).f2) y106).bind fun t109 => (if t109 = true then (token_Cut.j1 k1 a1 x4_1 x5_1 (mx (wrap64 (x6_1 - 1)) 0) l0 (l0.length : Int) x15_1 ((rd_T41 l0 x15_1).f0) ((rd_T41 l0 x15_1).f1) ((rd_T41 l0 x15_1).f2)) else (token_Cut.j1 k1 a1 x4_1 x5_1 x6_1 l0 (l0.length : Int) x15_1 ((rd_T41 l0 x15_1).f0) ((rd_T41 l0 x15_1).f1) ((rd_T41 l0 x15_1).f2)))) = some r := by first | (rw [hy106]; with_reducible exact H) | (have H2_ := (Option.bind_some _ _).symm.trans H; rw [hy106]; with_reducible exact H2_) | (have H2_ := (Option.bind_some _ _).symm.trans H; with_reducible exact H2_) | with_reducible exact H | (rw [hy106]; exact H) | exact H
              have Ny106 := Aside0.mk hy106
              clear hy106
              replace H := Option.bind_eq_some_iff.mp H
              obtain ⟨t109, A70, H⟩ := H
              replace H : (if t109 = true then (token_Cut.j1 k1 a1 x4_1 x5_1 (mx (wrap64 (x6_1 - 1)) 0) l0 (l0.length : Int) x15_1 ((rd_T41 l0 x15_1).f0) ((rd_T41 l0 x15_1).f1) ((rd_T41 l0 x15_1).f2)) else (token_Cut.j1 k1 a1 x4_1 x5_1 x6_1 l0 (l0.length : Int) x15_1 ((rd_T41 l0 x15_1).f0) ((rd_T41 l0 x15_1).f1) ((rd_T41 l0 x15_1).f2))) = some r := H
              have A7 := Aside0.mk A70
              clear A70
              have HC8 := Aside0.mk H
              clear H
              have p104 : 0 ≤ (x15_1 : Int) := of_decide_eq_true (by first | (with_reducible assumption) | assumption)
              have q104 : x15_1 < (l0.length : Int) := of_decide_eq_true (by first | (with_reducible assumption) | assumption)
              obtain ⟨ad104, e104, hx104_0, hx104_1, hx104_2⟩ := at_T41 HR0.out x15_1 p104 q104
              cases e104
              replace hx104_0 := (HB.out.cell (World.block_lt_of_cell? w _ hx104_0)).trans hx104_0
              replace hx104_1 := (HB.out.cell (World.block_lt_of_cell? w _ hx104_1)).trans hx104_1
              replace hx104_2 := (HB.out.cell (World.block_lt_of_cell? w _ hx104_2)).trans hx104_2
              replace p104 := eq_true p104
              replace q104 := eq_true q104
              go_upto_if 22 with (first | ((with_reducible refine gate_dst (N := 8) rfl ?_); refine box_event ?hg (N := 8) ?hd (cs := #[.int .i64 0, .string (⟨#[]⟩ : ByteArray), .int .u16 0]) (t := 41) ?hr ?_; (case hd => rfl); (case hg => rfl); (case hr => first | (go_simp; done) | (go_simp; rfl)); intro gb105 hg w9 hbox hb; have n0_ := Aside0.mk (Kd.S_below (Kd.S_elderB (by (with_reducible repeat (first | apply Kd.S_alloc | apply Kd.S_drewN | apply Kd.S_drew)); exact HO_4.out) gb105 (Nat.le_of_eq hg.symm)) hb); have n1_ := Aside0.mk (Kd.R_below (Kd.R_elderB (by (with_reducible repeat (first | apply Kd.R_alloc | apply Kd.R_drewN | apply Kd.R_drew)); exact HO_5.out) gb105 (Nat.le_of_eq hg.symm)) hb); have n2_ := Aside0.mk (below_step (by repeat (first | (with_reducible first | exact HB.out | apply below_alloc | apply pw_below_drewN | apply below_drew1) | exact HB.out)) hb); have n3_ := Aside0.mk (hbox); have n4_ := Aside0.mk ((by rw [hg]; exact (below_size (by repeat (first | (with_reducible first | exact HB.out | apply below_alloc | apply pw_below_drewN | apply below_drew1) | exact HB.out))) : w.heap.size ≤ gb105)); have n5_ := Aside0.mk ((by rw [hg]; exact (below_size (by repeat (first | (with_reducible first | exact HB.out | apply below_alloc | apply pw_below_drewN | apply below_drew1) | exact HB.out))) : w.heap.size ≤ gb105)); clear HO_4; clear HO_5; clear HB; have HO_4 := n0_; have HO_5 := n1_; have HB := n2_; have BK105 := n3_; have GW105 := n4_; have GE105 := n5_; clear n0_ n1_ n2_ n3_ n4_ n5_; clear hb hbox hg; have hcz10_0 : w9.cell? ⟨gb105, 0, none⟩ = some (.int .i64 0) := (blk_cell BK105.out 0).trans rfl; have hcz10_1 : w9.cell? ⟨gb105, 1, none⟩ = some (.string (⟨#[]⟩ : ByteArray)) := (blk_cell BK105.out 1).trans rfl; have hcz10_2 : w9.cell? ⟨gb105, 2, none⟩ = some (.int .u16 0) := (blk_cell BK105.out 2).trans rfl; have hfz10_0 := blk_frozen BK105.out 0; have hfz10_1 := blk_frozen BK105.out 1; have hfz10_2 := blk_frozen BK105.out 2) | ((with_reducible refine gate_dst (N := 21) rfl ?_); refine Kd.R_lit Kd.string _ 9 ?hg (N := 21) ?hd (xs := ([(⟨#[41]⟩ : ByteArray), (⟨#[93]⟩ : ByteArray)] : List ByteArray)) (inner := [.string (⟨#[41]⟩ : ByteArray), .string (⟨#[93]⟩ : ByteArray)]) (ok := fun _ => True) (okp := fun _ => True) ?hr ?hp (fun _ hk => hk) trivial (Below.refl _ _) (Nat.le_refl _) (by simp) ?_; (case hd => rfl); (case hg => rfl); (case hr => first | (go_simp; done) | (go_simp; rfl)); (case hp => exact (Reps.one (show Kd.M Kd.string _ _ _ (⟨#[41]⟩ : ByteArray) [.string (⟨#[41]⟩ : ByteArray)] from rfl) (Reps.one (show Kd.M Kd.string _ _ _ (⟨#[93]⟩ : ByteArray) [.string (⟨#[93]⟩ : ByteArray)] from rfl) (Reps.none _ _)))); intro v107 w11 ho12 hb hg_ hnew_; clear hg_ hnew_; (first | rw [← Ny106.out] at ho12 | (simp only [Int.reduceToNat] at ho12; rw [← Ny106.out] at ho12)); have n0_ := Aside0.mk (Kd.S_below (by (with_reducible repeat (first | apply Kd.S_alloc | apply Kd.S_drewN | apply Kd.S_drew)); exact (Kd.S_mono (Kd.S_far (p := ⟨gb105, 2, none⟩) (Kd.S_far (p := ⟨gb105, 1, none⟩) (Kd.S_far (p := ⟨gb105, 0, none⟩) (Kd.S_mono HO_4.out (fun k_ hk => (⟨hk, hk.2⟩ : _ ∧ k_ ≠ gb105))) (fun _ hk => hk.2) (.int .i64 ((rd_T41 l0 x15_1).f0))) (fun _ hk => hk.2) (.string ((rd_T41 l0 x15_1).f1))) (fun _ hk => hk.2) (.int .u16 ((rd_T41 l0 x15_1).f2))) (fun _ h_ => h_.1))) hb); have n1_ := Aside0.mk (Kd.R_below (by (with_reducible repeat (first | apply Kd.R_alloc | apply Kd.R_drewN | apply Kd.R_drew)); exact (Kd.R_mono (Kd.R_far (p := ⟨gb105, 2, none⟩) (Kd.R_far (p := ⟨gb105, 1, none⟩) (Kd.R_far (p := ⟨gb105, 0, none⟩) (Kd.R_mono HO_5.out (fun k_ hk => (⟨hk, hk.2⟩ : _ ∧ k_ ≠ gb105))) (fun _ hk => hk.2) (.int .i64 ((rd_T41 l0 x15_1).f0))) (fun _ hk => hk.2) (.string ((rd_T41 l0 x15_1).f1))) (fun _ hk => hk.2) (.int .u16 ((rd_T41 l0 x15_1).f2))) (fun _ h_ => h_.1))) hb); have n2_ := Aside0.mk (Kd.R_lower ho12 (below_size (by repeat (first | (with_reducible first | exact HB.out | apply below_alloc | apply pw_below_drewN | apply below_drew1 | refine below_set ?_ GE105.out) | exact HB.out)))); have n3_ := Aside0.mk (blk_below (g := gb105) (o := .cells #[.int .i64 ((rd_T41 l0 x15_1).f0), .string ((rd_T41 l0 x15_1).f1), .int .u16 ((rd_T41 l0 x15_1).f2)] 41 (0, 0)) (by (with_reducible repeat (first | refine blk_drewN ?_ _ | refine blk_drew ?_ | refine blk_alloc ?_ _)); refine blk_put (cs := #[.int .i64 ((rd_T41 l0 x15_1).f0), .string ((rd_T41 l0 x15_1).f1), .int .u16 0]) ?_ 2 _ rfl; (with_reducible repeat (first | refine blk_drewN ?_ _ | refine blk_drew ?_ | refine blk_alloc ?_ _)); refine blk_put (cs := #[.int .i64 ((rd_T41 l0 x15_1).f0), .string (⟨#[]⟩ : ByteArray), .int .u16 0]) ?_ 1 _ rfl; (with_reducible repeat (first | refine blk_drewN ?_ _ | refine blk_drew ?_ | refine blk_alloc ?_ _)); refine blk_put (cs := #[.int .i64 0, .string (⟨#[]⟩ : ByteArray), .int .u16 0]) ?_ 0 _ rfl; (with_reducible repeat (first | refine blk_drewN ?_ _ | refine blk_drew ?_ | refine blk_alloc ?_ _)); exact BK105.out) hb); have n4_ := Aside0.mk (below_step (by repeat (first | (with_reducible first | exact HB.out | apply below_alloc | apply pw_below_drewN | apply below_drew1 | refine below_set ?_ GE105.out) | exact HB.out)) hb); clear HO_4; clear HO_5; clear BK105; clear HB; have HO_4 := n0_; have HO_5 := n1_; have HO108 := n2_; have BK105 := n3_; have HB := n4_; clear n0_ n1_ n2_ n3_ n4_; clear hb ho12; obtain ⟨Ao13, co13, eo13⟩ := Kd.R_slice HO108.out; subst eo13) | (go_at_call 71; (with_reducible refine (token_is.calls ((rd_T41 l0 x15_1).f0) ((rd_T41 l0 x15_1).f1) ((rd_T41 l0 x15_1).f2) _ _ y106 t109 _ ?side1 ?side2 ?sideB A7.out).mono ?_); (case sideB => (with_reducible repeat (first | refine blk_drewN ?_ _ | refine blk_drew ?_ | refine blk_alloc ?_ _)); exact BK105.out); (case side1 => repeat (first | exact (Kd.R_reads' HO108.out).2.2 | (with_reducible refine Kd.C_alloc ?_ _) | (with_reducible refine Kd.C_drewN ?_ _) | (with_reducible refine Kd.C_drew ?_))); (case side2 => exact (Kd.R_reads' HO108.out).2.1); rintro e w14 ⟨rfl, hb⟩; have n0_ := Aside0.mk (Kd.S_below (by (with_reducible repeat (first | apply Kd.S_alloc | apply Kd.S_drewN | apply Kd.S_drew)); exact HO_4.out) hb); have n1_ := Aside0.mk (Kd.R_below (by (with_reducible repeat (first | apply Kd.R_alloc | apply Kd.R_drewN | apply Kd.R_drew)); exact HO_5.out) hb); have n2_ := Aside0.mk (Kd.R_below (by (with_reducible repeat (first | apply Kd.R_alloc | apply Kd.R_drewN | apply Kd.R_drew)); exact HO108.out) hb); have n3_ := Aside0.mk (blk_below (g := gb105) (o := .cells #[.int .i64 ((rd_T41 l0 x15_1).f0), .string ((rd_T41 l0 x15_1).f1), .int .u16 ((rd_T41 l0 x15_1).f2)] 41 (0, 0)) (by (with_reducible repeat (first | refine blk_drewN ?_ _ | refine blk_drew ?_ | refine blk_alloc ?_ _)); exact BK105.out) hb); have n4_ := Aside0.mk (below_step (by repeat (first | (with_reducible first | exact HB.out | apply below_alloc | apply pw_below_drewN | apply below_drew1 | refine below_set ?_ GE105.out) | exact HB.out)) hb); clear HO_4; clear HO_5; clear HO108; clear BK105; clear HB; have HO_4 := n0_; have HO_5 := n1_; have HO108 := n2_; have BK105 := n3_; have HB := n4_; clear n0_ n1_ n2_ n3_ n4_; (try clear hb); (try clear hb2); (try clear hk); (try clear hi)))
              (try simp only [Act.put, List.setIfInBounds_toArray, List.set_cons_zero, List.set_cons_succ])
              go_cut [6] (fun v6 wc => ∃ (kq : Nat) (x6_7 : Int), v6 = .int .i64 x6_7 ∧ Aside0 (token_Cut.j1 kq a1 x4_1 x5_1 x6_7 l0 (l0.length : Int) x15_1 ((rd_T41 l0 x15_1).f0) ((rd_T41 l0 x15_1).f1) ((rd_T41 l0 x15_1).f2) = some r) ∧ Aside0 (kq ≤ k1) ∧ Aside0 (Kd.S (Kd.slice 41 k41) 31 wc w.heap.size (fun k_ => some k_ ≠ (u5 : Value).ownBlock ∧ k_ ≠ gb105) u4 x4_1) ∧ Aside0 (Kd.R k41 41 wc w.heap.size (fun k_ => k_ ≠ gb105) u5 x5_1) ∧ Aside0 (wc.heap[gb105]? = some (.cells #[.int .i64 ((rd_T41 l0 x15_1).f0), .string ((rd_T41 l0 x15_1).f1), .int .u16 ((rd_T41 l0 x15_1).f2)] 41 (0, 0))) ∧ Aside0 (Below w.heap.size w wc))
              case first =>
                have H := HC8.out
                clear HC8
                by_cases c15 : t109 = true
                · subst c15
                  have H1 : (token_Cut.j1 k1 a1 x4_1 x5_1 (mx (wrap64 (x6_1 - 1)) 0) l0 (l0.length : Int) x15_1 ((rd_T41 l0 x15_1).f0) ((rd_T41 l0 x15_1).f1) ((rd_T41 l0 x15_1).f2)) = some r := by rw [if_pos rfl] at H; exact H
                  clear H
                  have H := H1
                  clear H1
                  obtain ⟨ji16, hji16⟩ : ∃ j_ : Int, (mx (wrap64 (x6_1 - 1)) 0) = j_ := ⟨_, rfl⟩
                  replace H : (token_Cut.j1 k1 a1 x4_1 x5_1 ji16 l0 (l0.length : Int) x15_1 ((rd_T41 l0 x15_1).f0) ((rd_T41 l0 x15_1).f1) ((rd_T41 l0 x15_1).f2)) = some r := by first | (rw [hji16] at H; exact H) | (simp only [hji16] at H ⊢; exact H)
                  have hji16_ : (if (wrap64 (x6_1 - 1)) < 0 then 0 else (wrap64 (x6_1 - 1))) = ji16 := hji16
                  have H' := Aside0.mk H
                  clear H
                  go_wp2
                  go_meet
                  case rel => exact ⟨_, (ji16), (by first | rfl | (simp; done) | (simp only [← hji16] <;> (first | rfl | (simp; done) | (simp [*]; done))) | (simp [*]; done)), H', ⟨by have := HK1.out; first | omega | exact Nat.le_refl _⟩, ⟨by (with_reducible repeat (first | apply Kd.S_alloc | apply Kd.S_drewN | apply Kd.S_drew)); exact HO_4.out⟩, ⟨by (with_reducible repeat (first | apply Kd.R_alloc | apply Kd.R_drewN | apply Kd.R_drew)); exact Kd.R_mono HO_5.out (fun _ hk => hk.2)⟩, ⟨by (with_reducible repeat (first | refine blk_drewN ?_ _ | refine blk_drew ?_ | refine blk_alloc ?_ _)); exact BK105.out⟩, ⟨by repeat (first | (with_reducible first | exact HB.out | apply below_alloc | apply pw_below_drewN | apply below_drew1 | refine below_set ?_ GE105.out) | exact HB.out)⟩⟩
                · replace c15 := Bool.eq_false_iff.mpr c15
                  subst c15
                  have H1 : (token_Cut.j1 k1 a1 x4_1 x5_1 x6_1 l0 (l0.length : Int) x15_1 ((rd_T41 l0 x15_1).f0) ((rd_T41 l0 x15_1).f1) ((rd_T41 l0 x15_1).f2)) = some r := by rw [if_neg (show ¬ (false = true) by decide)] at H; exact H
                  clear H
                  have H := H1
                  clear H1
                  have H' := Aside0.mk H
                  clear H
                  go_wp2
                  go_meet
                  case rel => exact ⟨_, (x6_1), (by first | rfl | (simp; done) | (simp [*]; done)), H', ⟨by have := HK1.out; first | omega | exact Nat.le_refl _⟩, ⟨by (with_reducible repeat (first | apply Kd.S_alloc | apply Kd.S_drewN | apply Kd.S_drew)); exact HO_4.out⟩, ⟨by (with_reducible repeat (first | apply Kd.R_alloc | apply Kd.R_drewN | apply Kd.R_drew)); exact Kd.R_mono HO_5.out (fun _ hk => hk.2)⟩, ⟨by (with_reducible repeat (first | refine blk_drewN ?_ _ | refine blk_drew ?_ | refine blk_alloc ?_ _)); exact BK105.out⟩, ⟨by repeat (first | (with_reducible first | exact HB.out | apply below_alloc | apply pw_below_drewN | apply below_drew1 | refine below_set ?_ GE105.out) | exact HB.out)⟩⟩
              case rest =>
                clear HC8
                try clear c1
                try clear p1
                try clear q1
                try clear hx1
                try clear c2
                try clear p2
                try clear c3
                try clear c3b0
                try clear c3b1
                try clear c3b2
                try clear c4
                try clear c4b0
                try clear c5
                try clear c5b0
                try clear c6
                try clear c6b0
                try clear p6
                try clear p10
                try clear q10
                try clear hx10
                try clear c15
                try clear hcz10_0
                try clear hcz10_1
                try clear hcz10_2
                try clear hfz10_0
                try clear hfz10_1
                try clear hfz10_2
                try clear hx104_0
                try clear hx104_1
                try clear hx104_2
                try clear p104
                try clear p2
                try clear q104
                obtain ⟨kq, x6_7, rfl, HA, HJ7, HO_4, HO_5, BK105, HB⟩ := hcut
                cases kq with
                | zero => exact absurd HA.out (by simp [token_Cut.j1])
                | succ kj7 =>
                  have H := HA.out
                  clear HA
                  simp only [token_Cut.j1] at H
                  have HC17 := Aside0.mk H
                  clear H
                  go_upto_region 11 with (fail)
                  go_cut [33] (fun v33 wc => ∃ (kq : Nat) (x33_16 : Bool), v33 = .bool x33_16 ∧ Aside0 (token_Cut.j2 kq a1 x4_1 x5_1 x6_7 l0 (l0.length : Int) x15_1 x33_16 ((rd_T41 l0 x15_1).f0) ((rd_T41 l0 x15_1).f1) ((rd_T41 l0 x15_1).f2) = some r) ∧ Aside0 (kq ≤ kj7) ∧ Aside0 (Kd.S (Kd.slice 41 k41) 31 wc w.heap.size (fun k_ => some k_ ≠ (u5 : Value).ownBlock ∧ k_ ≠ gb105) u4 x4_1) ∧ Aside0 (Kd.R k41 41 wc w.heap.size (fun k_ => k_ ≠ gb105) u5 x5_1) ∧ Aside0 (wc.heap[gb105]? = some (.cells #[.int .i64 ((rd_T41 l0 x15_1).f0), .string ((rd_T41 l0 x15_1).f1), .int .u16 ((rd_T41 l0 x15_1).f2)] 41 (0, 0))) ∧ Aside0 (Below w.heap.size w wc))
                  case first =>
                    have H := HC17.out
                    clear HC17
                    obtain ⟨y110, hy110⟩ : ∃ y_ : List ByteArray, y_ = (([a1] : List ByteArray)) := ⟨_, rfl⟩
                    replace H : ((token_is.f ((rd_T41 l0 x15_1).f0) ((rd_T41 l0 x15_1).f1) ((rd_T41 l0 x15_1).f2) y110).bind fun t113 => (if t113 = true then (token_Cut.j2 kj7 a1 x4_1 x5_1 x6_7 l0 (l0.length : Int) x15_1 (x6_7 == 0) ((rd_T41 l0 x15_1).f0) ((rd_T41 l0 x15_1).f1) ((rd_T41 l0 x15_1).f2)) else (token_Cut.j2 kj7 a1 x4_1 x5_1 x6_7 l0 (l0.length : Int) x15_1 false ((rd_T41 l0 x15_1).f0) ((rd_T41 l0 x15_1).f1) ((rd_T41 l0 x15_1).f2)))) = some r := by first | (rw [hy110]; with_reducible exact H) | (have H2_ := (Option.bind_some _ _).symm.trans H; rw [hy110]; with_reducible exact H2_) | (have H2_ := (Option.bind_some _ _).symm.trans H; with_reducible exact H2_) | with_reducible exact H | (rw [hy110]; exact H) | exact H
                    have Ny110 := Aside0.mk hy110
                    clear hy110
                    replace H := Option.bind_eq_some_iff.mp H
                    obtain ⟨t113, A180, H⟩ := H
                    replace H : (if t113 = true then (token_Cut.j2 kj7 a1 x4_1 x5_1 x6_7 l0 (l0.length : Int) x15_1 (x6_7 == 0) ((rd_T41 l0 x15_1).f0) ((rd_T41 l0 x15_1).f1) ((rd_T41 l0 x15_1).f2)) else (token_Cut.j2 kj7 a1 x4_1 x5_1 x6_7 l0 (l0.length : Int) x15_1 false ((rd_T41 l0 x15_1).f0) ((rd_T41 l0 x15_1).f1) ((rd_T41 l0 x15_1).f2))) = some r := H
                    have A18 := Aside0.mk A180
                    clear A180
                    by_cases c19 : t113 = true
                    · subst c19
                      have H1 : (token_Cut.j2 kj7 a1 x4_1 x5_1 x6_7 l0 (l0.length : Int) x15_1 (x6_7 == 0) ((rd_T41 l0 x15_1).f0) ((rd_T41 l0 x15_1).f1) ((rd_T41 l0 x15_1).f2)) = some r := by rw [if_pos rfl] at H; exact H
                      clear H
                      have H := H1
                      clear H1
                      have H' := Aside0.mk H
                      clear H
                      have hcz20_0 : wc.cell? ⟨gb105, 0, none⟩ = some (.int .i64 ((rd_T41 l0 x15_1).f0)) := (blk_cell BK105.out 0).trans rfl
                      have hcz20_1 : wc.cell? ⟨gb105, 1, none⟩ = some (.string ((rd_T41 l0 x15_1).f1)) := (blk_cell BK105.out 1).trans rfl
                      have hcz20_2 : wc.cell? ⟨gb105, 2, none⟩ = some (.int .u16 ((rd_T41 l0 x15_1).f2)) := (blk_cell BK105.out 2).trans rfl
                      have hfz20_0 := blk_frozen BK105.out 0
                      have hfz20_1 := blk_frozen BK105.out 1
                      have hfz20_2 := blk_frozen BK105.out 2
                      go_wp2_with (first | ((with_reducible refine gate_dst (N := 28) rfl ?_); refine Kd.R_lit Kd.string _ 9 ?hg (N := 28) ?hd (xs := ([a1] : List ByteArray)) (inner := [.string a1]) (ok := fun _ => True) (okp := fun _ => True) ?hr ?hp (fun _ hk => hk) trivial (Below.refl _ _) (Nat.le_refl _) (by simp) ?_; (case hd => rfl); (case hg => rfl); (case hr => first | (go_simp; done) | (go_simp; rfl)); (case hp => exact (Reps.one (show Kd.M Kd.string _ _ _ a1 [.string a1] from rfl) (Reps.none _ _))); intro v111 w21 ho22 hb hg_ hnew_; clear hg_ hnew_; (first | rw [← Ny110.out] at ho22 | (simp only [Int.reduceToNat] at ho22; rw [← Ny110.out] at ho22)); have n0_ := Aside0.mk (Kd.S_below (by (with_reducible repeat (first | apply Kd.S_alloc | apply Kd.S_drewN | apply Kd.S_drew)); exact HO_4.out) hb); have n1_ := Aside0.mk (Kd.R_below (by (with_reducible repeat (first | apply Kd.R_alloc | apply Kd.R_drewN | apply Kd.R_drew)); exact HO_5.out) hb); have n2_ := Aside0.mk (Kd.R_lower ho22 (below_size (by repeat (first | (with_reducible first | exact HB.out | apply below_alloc | apply pw_below_drewN | apply below_drew1 | refine below_set ?_ GE105.out) | exact HB.out)))); have n3_ := Aside0.mk (blk_below (g := gb105) (o := .cells #[.int .i64 ((rd_T41 l0 x15_1).f0), .string ((rd_T41 l0 x15_1).f1), .int .u16 ((rd_T41 l0 x15_1).f2)] 41 (0, 0)) (by (with_reducible repeat (first | refine blk_drewN ?_ _ | refine blk_drew ?_ | refine blk_alloc ?_ _)); exact BK105.out) hb); have n4_ := Aside0.mk (below_step (by repeat (first | (with_reducible first | exact HB.out | apply below_alloc | apply pw_below_drewN | apply below_drew1 | refine below_set ?_ GE105.out) | exact HB.out)) hb); clear HO_4; clear HO_5; clear BK105; clear HB; have HO_4 := n0_; have HO_5 := n1_; have HO112 := n2_; have BK105 := n3_; have HB := n4_; clear n0_ n1_ n2_ n3_ n4_; clear hb ho22; obtain ⟨Ao23, co23, eo23⟩ := Kd.R_slice HO112.out; subst eo23) | (go_at_call 71; (with_reducible refine (token_is.calls ((rd_T41 l0 x15_1).f0) ((rd_T41 l0 x15_1).f1) ((rd_T41 l0 x15_1).f2) _ _ y110 true _ ?side1 ?side2 ?sideB A18.out).mono ?_); (case sideB => (with_reducible repeat (first | refine blk_drewN ?_ _ | refine blk_drew ?_ | refine blk_alloc ?_ _)); exact BK105.out); (case side1 => repeat (first | exact (Kd.R_reads' HO112.out).2.2 | (with_reducible refine Kd.C_alloc ?_ _) | (with_reducible refine Kd.C_drewN ?_ _) | (with_reducible refine Kd.C_drew ?_))); (case side2 => exact (Kd.R_reads' HO112.out).2.1); rintro e w24 ⟨rfl, hb⟩; have n0_ := Aside0.mk (Kd.S_below (by (with_reducible repeat (first | apply Kd.S_alloc | apply Kd.S_drewN | apply Kd.S_drew)); exact HO_4.out) hb); have n1_ := Aside0.mk (Kd.R_below (by (with_reducible repeat (first | apply Kd.R_alloc | apply Kd.R_drewN | apply Kd.R_drew)); exact HO_5.out) hb); have n2_ := Aside0.mk (Kd.R_below (by (with_reducible repeat (first | apply Kd.R_alloc | apply Kd.R_drewN | apply Kd.R_drew)); exact HO112.out) hb); have n3_ := Aside0.mk (blk_below (g := gb105) (o := .cells #[.int .i64 ((rd_T41 l0 x15_1).f0), .string ((rd_T41 l0 x15_1).f1), .int .u16 ((rd_T41 l0 x15_1).f2)] 41 (0, 0)) (by (with_reducible repeat (first | refine blk_drewN ?_ _ | refine blk_drew ?_ | refine blk_alloc ?_ _)); exact BK105.out) hb); have n4_ := Aside0.mk (below_step (by repeat (first | (with_reducible first | exact HB.out | apply below_alloc | apply pw_below_drewN | apply below_drew1 | refine below_set ?_ GE105.out) | exact HB.out)) hb); clear HO_4; clear HO_5; clear HO112; clear BK105; clear HB; have HO_4 := n0_; have HO_5 := n1_; have HO112 := n2_; have BK105 := n3_; have HB := n4_; clear n0_ n1_ n2_ n3_ n4_; (try clear hb); (try clear hb2); (try clear hk); (try clear hi)))
                      go_meet
                      case rel => exact ⟨_, ((x6_7 == 0)), (by first | rfl | (simp; done) | (simp [*]; done)), H', ⟨by have := HK1.out; have := HJ7.out; first | omega | exact Nat.le_refl _⟩, ⟨by (with_reducible repeat (first | apply Kd.S_alloc | apply Kd.S_drewN | apply Kd.S_drew)); exact HO_4.out⟩, ⟨by (with_reducible repeat (first | apply Kd.R_alloc | apply Kd.R_drewN | apply Kd.R_drew)); exact HO_5.out⟩, ⟨by (with_reducible repeat (first | refine blk_drewN ?_ _ | refine blk_drew ?_ | refine blk_alloc ?_ _)); exact BK105.out⟩, ⟨by repeat (first | (with_reducible first | exact HB.out | apply below_alloc | apply pw_below_drewN | apply below_drew1 | refine below_set ?_ GE105.out) | exact HB.out)⟩⟩
                    · replace c19 := Bool.eq_false_iff.mpr c19
                      subst c19
                      have H1 : (token_Cut.j2 kj7 a1 x4_1 x5_1 x6_7 l0 (l0.length : Int) x15_1 false ((rd_T41 l0 x15_1).f0) ((rd_T41 l0 x15_1).f1) ((rd_T41 l0 x15_1).f2)) = some r := by rw [if_neg (show ¬ (false = true) by decide)] at H; exact H
                      clear H
                      have H := H1
                      clear H1
                      have H' := Aside0.mk H
                      clear H
                      have hcz25_0 : wc.cell? ⟨gb105, 0, none⟩ = some (.int .i64 ((rd_T41 l0 x15_1).f0)) := (blk_cell BK105.out 0).trans rfl
                      have hcz25_1 : wc.cell? ⟨gb105, 1, none⟩ = some (.string ((rd_T41 l0 x15_1).f1)) := (blk_cell BK105.out 1).trans rfl
                      have hcz25_2 : wc.cell? ⟨gb105, 2, none⟩ = some (.int .u16 ((rd_T41 l0 x15_1).f2)) := (blk_cell BK105.out 2).trans rfl
                      have hfz25_0 := blk_frozen BK105.out 0
                      have hfz25_1 := blk_frozen BK105.out 1
                      have hfz25_2 := blk_frozen BK105.out 2
                      go_wp2_with (first | ((with_reducible refine gate_dst (N := 28) rfl ?_); refine Kd.R_lit Kd.string _ 9 ?hg (N := 28) ?hd (xs := ([a1] : List ByteArray)) (inner := [.string a1]) (ok := fun _ => True) (okp := fun _ => True) ?hr ?hp (fun _ hk => hk) trivial (Below.refl _ _) (Nat.le_refl _) (by simp) ?_; (case hd => rfl); (case hg => rfl); (case hr => first | (go_simp; done) | (go_simp; rfl)); (case hp => exact (Reps.one (show Kd.M Kd.string _ _ _ a1 [.string a1] from rfl) (Reps.none _ _))); intro v111 w26 ho27 hb hg_ hnew_; clear hg_ hnew_; (first | rw [← Ny110.out] at ho27 | (simp only [Int.reduceToNat] at ho27; rw [← Ny110.out] at ho27)); have n0_ := Aside0.mk (Kd.S_below (by (with_reducible repeat (first | apply Kd.S_alloc | apply Kd.S_drewN | apply Kd.S_drew)); exact HO_4.out) hb); have n1_ := Aside0.mk (Kd.R_below (by (with_reducible repeat (first | apply Kd.R_alloc | apply Kd.R_drewN | apply Kd.R_drew)); exact HO_5.out) hb); have n2_ := Aside0.mk (Kd.R_lower ho27 (below_size (by repeat (first | (with_reducible first | exact HB.out | apply below_alloc | apply pw_below_drewN | apply below_drew1 | refine below_set ?_ GE105.out) | exact HB.out)))); have n3_ := Aside0.mk (blk_below (g := gb105) (o := .cells #[.int .i64 ((rd_T41 l0 x15_1).f0), .string ((rd_T41 l0 x15_1).f1), .int .u16 ((rd_T41 l0 x15_1).f2)] 41 (0, 0)) (by (with_reducible repeat (first | refine blk_drewN ?_ _ | refine blk_drew ?_ | refine blk_alloc ?_ _)); exact BK105.out) hb); have n4_ := Aside0.mk (below_step (by repeat (first | (with_reducible first | exact HB.out | apply below_alloc | apply pw_below_drewN | apply below_drew1 | refine below_set ?_ GE105.out) | exact HB.out)) hb); clear HO_4; clear HO_5; clear BK105; clear HB; have HO_4 := n0_; have HO_5 := n1_; have HO112 := n2_; have BK105 := n3_; have HB := n4_; clear n0_ n1_ n2_ n3_ n4_; clear hb ho27; obtain ⟨Ao28, co28, eo28⟩ := Kd.R_slice HO112.out; subst eo28) | (go_at_call 71; (with_reducible refine (token_is.calls ((rd_T41 l0 x15_1).f0) ((rd_T41 l0 x15_1).f1) ((rd_T41 l0 x15_1).f2) _ _ y110 false _ ?side1 ?side2 ?sideB A18.out).mono ?_); (case sideB => (with_reducible repeat (first | refine blk_drewN ?_ _ | refine blk_drew ?_ | refine blk_alloc ?_ _)); exact BK105.out); (case side1 => repeat (first | exact (Kd.R_reads' HO112.out).2.2 | (with_reducible refine Kd.C_alloc ?_ _) | (with_reducible refine Kd.C_drewN ?_ _) | (with_reducible refine Kd.C_drew ?_))); (case side2 => exact (Kd.R_reads' HO112.out).2.1); rintro e w29 ⟨rfl, hb⟩; have n0_ := Aside0.mk (Kd.S_below (by (with_reducible repeat (first | apply Kd.S_alloc | apply Kd.S_drewN | apply Kd.S_drew)); exact HO_4.out) hb); have n1_ := Aside0.mk (Kd.R_below (by (with_reducible repeat (first | apply Kd.R_alloc | apply Kd.R_drewN | apply Kd.R_drew)); exact HO_5.out) hb); have n2_ := Aside0.mk (Kd.R_below (by (with_reducible repeat (first | apply Kd.R_alloc | apply Kd.R_drewN | apply Kd.R_drew)); exact HO112.out) hb); have n3_ := Aside0.mk (blk_below (g := gb105) (o := .cells #[.int .i64 ((rd_T41 l0 x15_1).f0), .string ((rd_T41 l0 x15_1).f1), .int .u16 ((rd_T41 l0 x15_1).f2)] 41 (0, 0)) (by (with_reducible repeat (first | refine blk_drewN ?_ _ | refine blk_drew ?_ | refine blk_alloc ?_ _)); exact BK105.out) hb); have n4_ := Aside0.mk (below_step (by repeat (first | (with_reducible first | exact HB.out | apply below_alloc | apply pw_below_drewN | apply below_drew1 | refine below_set ?_ GE105.out) | exact HB.out)) hb); clear HO_4; clear HO_5; clear HO112; clear BK105; clear HB; have HO_4 := n0_; have HO_5 := n1_; have HO112 := n2_; have BK105 := n3_; have HB := n4_; clear n0_ n1_ n2_ n3_ n4_; (try clear hb); (try clear hb2); (try clear hk); (try clear hi)))
                      go_meet
                      case rel => exact ⟨_, (false), (by first | rfl | (simp; done) | (simp [*]; done)), H', ⟨by have := HK1.out; have := HJ7.out; first | omega | exact Nat.le_refl _⟩, ⟨by (with_reducible repeat (first | apply Kd.S_alloc | apply Kd.S_drewN | apply Kd.S_drew)); exact HO_4.out⟩, ⟨by (with_reducible repeat (first | apply Kd.R_alloc | apply Kd.R_drewN | apply Kd.R_drew)); exact HO_5.out⟩, ⟨by (with_reducible repeat (first | refine blk_drewN ?_ _ | refine blk_drew ?_ | refine blk_alloc ?_ _)); exact BK105.out⟩, ⟨by repeat (first | (with_reducible first | exact HB.out | apply below_alloc | apply pw_below_drewN | apply below_drew1 | refine below_set ?_ GE105.out) | exact HB.out)⟩⟩
                  case rest =>
                    clear HC17
                    try clear c1
                    try clear p1
                    try clear q1
                    try clear hx1
                    try clear c2
                    try clear p2
                    try clear c3
                    try clear c3b0
                    try clear c3b1
                    try clear c3b2
                    try clear c4
                    try clear c4b0
                    try clear c5
                    try clear c5b0
                    try clear c6
                    try clear c6b0
                    try clear p6
                    try clear p10
                    try clear q10
                    try clear hx10
                    try clear c15
                    try clear c19
                    try clear c23
                    try clear hcz10_0
                    try clear hcz10_1
                    try clear hcz10_2
                    try clear hcz20_0
                    try clear hcz20_1
                    try clear hcz20_2
                    try clear hcz25_0
                    try clear hcz25_1
                    try clear hcz25_2
                    try clear hfz10_0
                    try clear hfz10_1
                    try clear hfz10_2
                    try clear hfz20_0
                    try clear hfz20_1
                    try clear hfz20_2
                    try clear hfz25_0
                    try clear hfz25_1
                    try clear hfz25_2
                    try clear hx104_0
                    try clear hx104_1
                    try clear hx104_2
                    try clear p1
                    try clear p10
                    try clear p104
                    try clear p2
                    try clear p6
                    try clear q1
                    try clear q10
                    try clear q104
                    obtain ⟨kq, x33_16, rfl, HA, HJ16, HO_4, HO_5, BK105, HB⟩ := hcut
                    cases kq with
                    | zero => exact absurd HA.out (by simp [token_Cut.j2])
                    | succ kj16 =>
                      have H := HA.out
                      clear HA
                      simp only [token_Cut.j2] at H
                      by_cases c30 : x33_16 = true
                      · subst c30
                        have H1 : (if x4_1.length < 5864062014805 then ((some (x4_1 ++ [x5_1] : List (List (S41)))).bind fun y114 => ((token_is.f ((rd_T41 l0 x15_1).f0) ((rd_T41 l0 x15_1).f1) ((rd_T41 l0 x15_1).f2) (([(⟨#[40]⟩ : ByteArray), (⟨#[91]⟩ : ByteArray)] : List ByteArray))).bind fun t120 => (if t120 = true then (token_Cut.l0 kj16 a1 y114 ([] : List (S41)) (wrap64 (x6_7 + 1)) l0 (l0.length : Int) (wrap64 (x15_1 + 1))) else (token_Cut.l0 kj16 a1 y114 ([] : List (S41)) x6_7 l0 (l0.length : Int) (wrap64 (x15_1 + 1)))))) else (none)) = some r := by rw [if_pos rfl] at H; exact H
                        clear H
                        have H := H1
                        clear H1
                        by_cases c31 : x4_1.length < 5864062014805
                        · rw [if_pos c31] at H
                          have LMc31 := Aside0.mk c31
                          clear c31
                          obtain ⟨y114, hy114⟩ : ∃ y_ : List (List (S41)), y_ = (x4_1 ++ [x5_1]) := ⟨_, rfl⟩
                          replace H : ((token_is.f ((rd_T41 l0 x15_1).f0) ((rd_T41 l0 x15_1).f1) ((rd_T41 l0 x15_1).f2) (([(⟨#[40]⟩ : ByteArray), (⟨#[91]⟩ : ByteArray)] : List ByteArray))).bind fun t120 => (if t120 = true then (token_Cut.l0 kj16 a1 y114 ([] : List (S41)) (wrap64 (x6_7 + 1)) l0 (l0.length : Int) (wrap64 (x15_1 + 1))) else (token_Cut.l0 kj16 a1 y114 ([] : List (S41)) x6_7 l0 (l0.length : Int) (wrap64 (x15_1 + 1))))) = some r := by first | (rw [hy114]; with_reducible exact H) | (have H2_ := (Option.bind_some _ _).symm.trans H; rw [hy114]; with_reducible exact H2_) | (have H2_ := (Option.bind_some _ _).symm.trans H; with_reducible exact H2_) | with_reducible exact H | (rw [hy114]; exact H) | exact H
                          have Ny114 := Aside0.mk hy114
                          clear hy114
                          obtain ⟨y117, hy117⟩ : ∃ y_ : List ByteArray, y_ = (([(⟨#[40]⟩ : ByteArray), (⟨#[91]⟩ : ByteArray)] : List ByteArray)) := ⟨_, rfl⟩
                          replace H : ((token_is.f ((rd_T41 l0 x15_1).f0) ((rd_T41 l0 x15_1).f1) ((rd_T41 l0 x15_1).f2) y117).bind fun t120 => (if t120 = true then (token_Cut.l0 kj16 a1 y114 ([] : List (S41)) (wrap64 (x6_7 + 1)) l0 (l0.length : Int) (wrap64 (x15_1 + 1))) else (token_Cut.l0 kj16 a1 y114 ([] : List (S41)) x6_7 l0 (l0.length : Int) (wrap64 (x15_1 + 1))))) = some r := by first | (rw [hy117]; with_reducible exact H) | (have H2_ := (Option.bind_some _ _).symm.trans H; rw [hy117]; with_reducible exact H2_) | (have H2_ := (Option.bind_some _ _).symm.trans H; with_reducible exact H2_) | with_reducible exact H | (rw [hy117]; exact H) | exact H
                          have Ny117 := Aside0.mk hy117
                          clear hy117
                          replace H := Option.bind_eq_some_iff.mp H
                          obtain ⟨t120, A320, H⟩ := H
                          replace H : (if t120 = true then (token_Cut.l0 kj16 a1 y114 ([] : List (S41)) (wrap64 (x6_7 + 1)) l0 (l0.length : Int) (wrap64 (x15_1 + 1))) else (token_Cut.l0 kj16 a1 y114 ([] : List (S41)) x6_7 l0 (l0.length : Int) (wrap64 (x15_1 + 1)))) = some r := H
                          have A32 := Aside0.mk A320
                          clear A320
                          by_cases c33 : t120 = true
                          · subst c33
                            have H1 : (token_Cut.l0 kj16 a1 y114 ([] : List (S41)) (wrap64 (x6_7 + 1)) l0 (l0.length : Int) (wrap64 (x15_1 + 1))) = some r := by rw [if_pos rfl] at H; exact H
                            clear H
                            have H := H1
                            clear H1
                            have H' := Aside0.mk H
                            clear H
                            obtain ⟨Ao35, co35, eo35⟩ := Kd.R_slice HO_5.out
                            subst eo35
                            go_wp2_with (first | ((with_reducible refine gate_builtin (b := .append) (xs := #[.tmp 34, .tmp 36]) rfl ?_); at_builtin; refine Kd.S_append (Kd.slice 41 k41) (w0 := w) w.heap.size rfl (.tmp 34) (.tmp 36) 43 31 (.slice none 0 0) 24 rfl Tryd.underlying43 info31 rfl (by decide) (by omega) u4 x4_1 x5_1 [.slice Ao35 x5_1.length co35] (fun k_ => k_ ≠ gb105) (fun k_ => some k_ = (.slice Ao35 x5_1.length co35 : Value).ownBlock) rfl rfl ?aP (fun k_ hk_ => ((Kd.R_mono (ok' := fun k_ => ((fun k_ => k_ ≠ gb105)) k_ ∧ some k_ ≠ (u4 : Value).ownBlock) (Kd.R_apart' (HO_5.out) (Kd.S_typed HO_4.out) (by decide)) (fun k_ hk => ⟨hk.1, hk.2⟩))).1 k_ hk_.symm) ?aF ?aO ?aB ?aS ?aL ?_; (case aP => exact Kd.M_row (Kd.R_mono (Kd.R_tight rfl (Kd.R_mono (ok' := fun k_ => ((fun k_ => k_ ≠ gb105)) k_ ∧ some k_ ≠ (u4 : Value).ownBlock) (Kd.R_apart' (HO_5.out) (Kd.S_typed HO_4.out) (by decide)) (fun k_ hk => ⟨hk.1, hk.2⟩))) (fun _ h_ => h_))); (case aB => exact (by repeat (first | (with_reducible first | exact HB.out | apply below_alloc | apply pw_below_drewN | apply below_drew1 | refine below_set ?_ GE105.out) | exact HB.out))); (case aF => exact (fun k_ hk => Kd.freshB (g := gb105) (o := .cells #[.int .i64 ((rd_T41 l0 x15_1).f0), .string ((rd_T41 l0 x15_1).f1), .int .u16 ((rd_T41 l0 x15_1).f2)] 41 (0, 0)) (by (with_reducible repeat (first | refine blk_drewN ?_ _ | refine blk_drew ?_ | refine blk_alloc ?_ _)); exact BK105.out) k_ hk)); (case aO => exact (by (with_reducible repeat (first | apply Kd.S_alloc | apply Kd.S_drewN | apply Kd.S_drew)); exact Kd.S_mono HO_4.out (fun k_ hk => ⟨hk.2, fun e_ => hk.1 e_⟩))); (case aS => exact (below_size (by repeat (first | (with_reducible first | exact HB.out | apply below_alloc | apply pw_below_drewN | apply below_drew1 | refine below_set ?_ GE105.out) | exact HB.out)))); (case aL => have := LMc31.out; omega); intro v115 w34 ho hb hg hat; rw [← Ny114.out] at ho; have n0_ := Aside0.mk (blk_grown (g := gb105) (o := .cells #[.int .i64 ((rd_T41 l0 x15_1).f0), .string ((rd_T41 l0 x15_1).f1), .int .u16 ((rd_T41 l0 x15_1).f2)] 41 (0, 0)) (by (with_reducible repeat (first | refine blk_drewN ?_ _ | refine blk_drew ?_ | refine blk_alloc ?_ _)); exact BK105.out) hg (Kd.S_ne HO_4.out BK105.out (by decide))); have n1_ := Aside0.mk (hb); have n2_ := Aside0.mk (ho); clear BK105; clear HB; clear HO_4; clear HO_5; have BK105 := n0_; have HB := n1_; have HO116 := n2_; clear n0_ n1_ n2_; clear ho hb hg hat; have hcz36_0 : w34.cell? ⟨gb105, 0, none⟩ = some (.int .i64 ((rd_T41 l0 x15_1).f0)) := (blk_cell BK105.out 0).trans rfl; have hcz36_1 : w34.cell? ⟨gb105, 1, none⟩ = some (.string ((rd_T41 l0 x15_1).f1)) := (blk_cell BK105.out 1).trans rfl; have hcz36_2 : w34.cell? ⟨gb105, 2, none⟩ = some (.int .u16 ((rd_T41 l0 x15_1).f2)) := (blk_cell BK105.out 2).trans rfl; have hfz36_0 := blk_frozen BK105.out 0; have hfz36_1 := blk_frozen BK105.out 1; have hfz36_2 := blk_frozen BK105.out 2) | ((with_reducible refine gate_dst (N := 43) rfl ?_); refine Kd.R_lit Kd.string _ 9 ?hg (N := 43) ?hd (xs := ([(⟨#[40]⟩ : ByteArray), (⟨#[91]⟩ : ByteArray)] : List ByteArray)) (inner := [.string (⟨#[40]⟩ : ByteArray), .string (⟨#[91]⟩ : ByteArray)]) (ok := fun _ => True) (okp := fun _ => True) ?hr ?hp (fun _ hk => hk) trivial (Below.refl _ _) (Nat.le_refl _) (by simp) ?_; (case hd => rfl); (case hg => rfl); (case hr => first | (go_simp; done) | (go_simp; rfl)); (case hp => exact (Reps.one (show Kd.M Kd.string _ _ _ (⟨#[40]⟩ : ByteArray) [.string (⟨#[40]⟩ : ByteArray)] from rfl) (Reps.one (show Kd.M Kd.string _ _ _ (⟨#[91]⟩ : ByteArray) [.string (⟨#[91]⟩ : ByteArray)] from rfl) (Reps.none _ _)))); intro v118 w37 ho38 hb hg_ hnew_; clear hg_ hnew_; (first | rw [← Ny117.out] at ho38 | (simp only [Int.reduceToNat] at ho38; rw [← Ny117.out] at ho38)); have n0_ := Aside0.mk (Kd.S_below (by (with_reducible repeat (first | apply Kd.S_alloc | apply Kd.S_drewN | apply Kd.S_drew)); exact HO116.out) hb); have n1_ := Aside0.mk (Kd.R_lower ho38 (below_size (by repeat (first | (with_reducible first | exact HB.out | apply below_alloc | apply pw_below_drewN | apply below_drew1 | refine below_set ?_ GE105.out) | exact HB.out)))); have n2_ := Aside0.mk (blk_below (g := gb105) (o := .cells #[.int .i64 ((rd_T41 l0 x15_1).f0), .string ((rd_T41 l0 x15_1).f1), .int .u16 ((rd_T41 l0 x15_1).f2)] 41 (0, 0)) (by (with_reducible repeat (first | refine blk_drewN ?_ _ | refine blk_drew ?_ | refine blk_alloc ?_ _)); exact BK105.out) hb); have n3_ := Aside0.mk (below_step (by repeat (first | (with_reducible first | exact HB.out | apply below_alloc | apply pw_below_drewN | apply below_drew1 | refine below_set ?_ GE105.out) | exact HB.out)) hb); clear HO116; clear BK105; clear HB; have HO116 := n0_; have HO119 := n1_; have BK105 := n2_; have HB := n3_; clear n0_ n1_ n2_ n3_; clear hb ho38; obtain ⟨Ao39, co39, eo39⟩ := Kd.R_slice HO119.out; subst eo39) | (go_at_call 71; (with_reducible refine (token_is.calls ((rd_T41 l0 x15_1).f0) ((rd_T41 l0 x15_1).f1) ((rd_T41 l0 x15_1).f2) _ _ y117 true _ ?side1 ?side2 ?sideB A32.out).mono ?_); (case sideB => (with_reducible repeat (first | refine blk_drewN ?_ _ | refine blk_drew ?_ | refine blk_alloc ?_ _)); exact BK105.out); (case side1 => repeat (first | exact (Kd.R_reads' HO119.out).2.2 | (with_reducible refine Kd.C_alloc ?_ _) | (with_reducible refine Kd.C_drewN ?_ _) | (with_reducible refine Kd.C_drew ?_))); (case side2 => exact (Kd.R_reads' HO119.out).2.1); rintro e w40 ⟨rfl, hb⟩; have n0_ := Aside0.mk (Kd.S_below (by (with_reducible repeat (first | apply Kd.S_alloc | apply Kd.S_drewN | apply Kd.S_drew)); exact HO116.out) hb); have n1_ := Aside0.mk (Kd.R_below (by (with_reducible repeat (first | apply Kd.R_alloc | apply Kd.R_drewN | apply Kd.R_drew)); exact HO119.out) hb); have n2_ := Aside0.mk (blk_below (g := gb105) (o := .cells #[.int .i64 ((rd_T41 l0 x15_1).f0), .string ((rd_T41 l0 x15_1).f1), .int .u16 ((rd_T41 l0 x15_1).f2)] 41 (0, 0)) (by (with_reducible repeat (first | refine blk_drewN ?_ _ | refine blk_drew ?_ | refine blk_alloc ?_ _)); exact BK105.out) hb); have n3_ := Aside0.mk (below_step (by repeat (first | (with_reducible first | exact HB.out | apply below_alloc | apply pw_below_drewN | apply below_drew1 | refine below_set ?_ GE105.out) | exact HB.out)) hb); clear HO116; clear HO119; clear BK105; clear HB; have HO116 := n0_; have HO119 := n1_; have BK105 := n2_; have HB := n3_; clear n0_ n1_ n2_ n3_; (try clear hb); (try clear hb2); (try clear hk); (try clear hi)))
                            go_roundg kj16
                            case measure => have := HK1.out; have := HJ7.out; have := HJ16.out; omega
                            case rel => exact ⟨(y114), (([] : List (S41))), (wrap64 (x6_7 + 1)), (wrap64 (x15_1 + 1)), (by first | rfl | (simp; done) | (simp [*]; done)), (by first | rfl | (simp; done) | (simp [*]; done)), H', ⟨by have := HK1.out; have := HJ7.out; have := HJ16.out; omega⟩, ⟨by (with_reducible repeat (first | apply Kd.S_alloc | apply Kd.S_drewN | apply Kd.S_drew)); exact Kd.S_mono HO116.out (fun _ hk => (by simp [Value.ownBlock]))⟩, ⟨by first | exact Kd.R_nil _ _ _ _ _ | exact Kd.N_nil _ _ _ _ _ | exact Kd.V_nil _ _ _ _ _ | exact Kd.Q_nil _ _ _ _ _ | exact Kd.S_nil _ _ _ _ _⟩, ⟨by repeat (first | (with_reducible first | exact HB.out | apply below_alloc | apply pw_below_drewN | apply below_drew1 | refine below_set ?_ GE105.out) | exact HB.out)⟩⟩
                          · replace c33 := Bool.eq_false_iff.mpr c33
                            subst c33
                            have H1 : (token_Cut.l0 kj16 a1 y114 ([] : List (S41)) x6_7 l0 (l0.length : Int) (wrap64 (x15_1 + 1))) = some r := by rw [if_neg (show ¬ (false = true) by decide)] at H; exact H
                            clear H
                            have H := H1
                            clear H1
                            have H' := Aside0.mk H
                            clear H
                            obtain ⟨Ao42, co42, eo42⟩ := Kd.R_slice HO_5.out
                            subst eo42
                            go_wp2_with (first | ((with_reducible refine gate_builtin (b := .append) (xs := #[.tmp 34, .tmp 36]) rfl ?_); at_builtin; refine Kd.S_append (Kd.slice 41 k41) (w0 := w) w.heap.size rfl (.tmp 34) (.tmp 36) 43 31 (.slice none 0 0) 24 rfl Tryd.underlying43 info31 rfl (by decide) (by omega) u4 x4_1 x5_1 [.slice Ao42 x5_1.length co42] (fun k_ => k_ ≠ gb105) (fun k_ => some k_ = (.slice Ao42 x5_1.length co42 : Value).ownBlock) rfl rfl ?aP (fun k_ hk_ => ((Kd.R_mono (ok' := fun k_ => ((fun k_ => k_ ≠ gb105)) k_ ∧ some k_ ≠ (u4 : Value).ownBlock) (Kd.R_apart' (HO_5.out) (Kd.S_typed HO_4.out) (by decide)) (fun k_ hk => ⟨hk.1, hk.2⟩))).1 k_ hk_.symm) ?aF ?aO ?aB ?aS ?aL ?_; (case aP => exact Kd.M_row (Kd.R_mono (Kd.R_tight rfl (Kd.R_mono (ok' := fun k_ => ((fun k_ => k_ ≠ gb105)) k_ ∧ some k_ ≠ (u4 : Value).ownBlock) (Kd.R_apart' (HO_5.out) (Kd.S_typed HO_4.out) (by decide)) (fun k_ hk => ⟨hk.1, hk.2⟩))) (fun _ h_ => h_))); (case aB => exact (by repeat (first | (with_reducible first | exact HB.out | apply below_alloc | apply pw_below_drewN | apply below_drew1 | refine below_set ?_ GE105.out) | exact HB.out))); (case aF => exact (fun k_ hk => Kd.freshB (g := gb105) (o := .cells #[.int .i64 ((rd_T41 l0 x15_1).f0), .string ((rd_T41 l0 x15_1).f1), .int .u16 ((rd_T41 l0 x15_1).f2)] 41 (0, 0)) (by (with_reducible repeat (first | refine blk_drewN ?_ _ | refine blk_drew ?_ | refine blk_alloc ?_ _)); exact BK105.out) k_ hk)); (case aO => exact (by (with_reducible repeat (first | apply Kd.S_alloc | apply Kd.S_drewN | apply Kd.S_drew)); exact Kd.S_mono HO_4.out (fun k_ hk => ⟨hk.2, fun e_ => hk.1 e_⟩))); (case aS => exact (below_size (by repeat (first | (with_reducible first | exact HB.out | apply below_alloc | apply pw_below_drewN | apply below_drew1 | refine below_set ?_ GE105.out) | exact HB.out)))); (case aL => have := LMc31.out; omega); intro v115 w41 ho hb hg hat; rw [← Ny114.out] at ho; have n0_ := Aside0.mk (blk_grown (g := gb105) (o := .cells #[.int .i64 ((rd_T41 l0 x15_1).f0), .string ((rd_T41 l0 x15_1).f1), .int .u16 ((rd_T41 l0 x15_1).f2)] 41 (0, 0)) (by (with_reducible repeat (first | refine blk_drewN ?_ _ | refine blk_drew ?_ | refine blk_alloc ?_ _)); exact BK105.out) hg (Kd.S_ne HO_4.out BK105.out (by decide))); have n1_ := Aside0.mk (hb); have n2_ := Aside0.mk (ho); clear BK105; clear HB; clear HO_4; clear HO_5; have BK105 := n0_; have HB := n1_; have HO116 := n2_; clear n0_ n1_ n2_; clear ho hb hg hat; have hcz43_0 : w41.cell? ⟨gb105, 0, none⟩ = some (.int .i64 ((rd_T41 l0 x15_1).f0)) := (blk_cell BK105.out 0).trans rfl; have hcz43_1 : w41.cell? ⟨gb105, 1, none⟩ = some (.string ((rd_T41 l0 x15_1).f1)) := (blk_cell BK105.out 1).trans rfl; have hcz43_2 : w41.cell? ⟨gb105, 2, none⟩ = some (.int .u16 ((rd_T41 l0 x15_1).f2)) := (blk_cell BK105.out 2).trans rfl; have hfz43_0 := blk_frozen BK105.out 0; have hfz43_1 := blk_frozen BK105.out 1; have hfz43_2 := blk_frozen BK105.out 2) | ((with_reducible refine gate_dst (N := 43) rfl ?_); refine Kd.R_lit Kd.string _ 9 ?hg (N := 43) ?hd (xs := ([(⟨#[40]⟩ : ByteArray), (⟨#[91]⟩ : ByteArray)] : List ByteArray)) (inner := [.string (⟨#[40]⟩ : ByteArray), .string (⟨#[91]⟩ : ByteArray)]) (ok := fun _ => True) (okp := fun _ => True) ?hr ?hp (fun _ hk => hk) trivial (Below.refl _ _) (Nat.le_refl _) (by simp) ?_; (case hd => rfl); (case hg => rfl); (case hr => first | (go_simp; done) | (go_simp; rfl)); (case hp => exact (Reps.one (show Kd.M Kd.string _ _ _ (⟨#[40]⟩ : ByteArray) [.string (⟨#[40]⟩ : ByteArray)] from rfl) (Reps.one (show Kd.M Kd.string _ _ _ (⟨#[91]⟩ : ByteArray) [.string (⟨#[91]⟩ : ByteArray)] from rfl) (Reps.none _ _)))); intro v118 w44 ho45 hb hg_ hnew_; clear hg_ hnew_; (first | rw [← Ny117.out] at ho45 | (simp only [Int.reduceToNat] at ho45; rw [← Ny117.out] at ho45)); have n0_ := Aside0.mk (Kd.S_below (by (with_reducible repeat (first | apply Kd.S_alloc | apply Kd.S_drewN | apply Kd.S_drew)); exact HO116.out) hb); have n1_ := Aside0.mk (Kd.R_lower ho45 (below_size (by repeat (first | (with_reducible first | exact HB.out | apply below_alloc | apply pw_below_drewN | apply below_drew1 | refine below_set ?_ GE105.out) | exact HB.out)))); have n2_ := Aside0.mk (blk_below (g := gb105) (o := .cells #[.int .i64 ((rd_T41 l0 x15_1).f0), .string ((rd_T41 l0 x15_1).f1), .int .u16 ((rd_T41 l0 x15_1).f2)] 41 (0, 0)) (by (with_reducible repeat (first | refine blk_drewN ?_ _ | refine blk_drew ?_ | refine blk_alloc ?_ _)); exact BK105.out) hb); have n3_ := Aside0.mk (below_step (by repeat (first | (with_reducible first | exact HB.out | apply below_alloc | apply pw_below_drewN | apply below_drew1 | refine below_set ?_ GE105.out) | exact HB.out)) hb); clear HO116; clear BK105; clear HB; have HO116 := n0_; have HO119 := n1_; have BK105 := n2_; have HB := n3_; clear n0_ n1_ n2_ n3_; clear hb ho45; obtain ⟨Ao46, co46, eo46⟩ := Kd.R_slice HO119.out; subst eo46) | (go_at_call 71; (with_reducible refine (token_is.calls ((rd_T41 l0 x15_1).f0) ((rd_T41 l0 x15_1).f1) ((rd_T41 l0 x15_1).f2) _ _ y117 false _ ?side1 ?side2 ?sideB A32.out).mono ?_); (case sideB => (with_reducible repeat (first | refine blk_drewN ?_ _ | refine blk_drew ?_ | refine blk_alloc ?_ _)); exact BK105.out); (case side1 => repeat (first | exact (Kd.R_reads' HO119.out).2.2 | (with_reducible refine Kd.C_alloc ?_ _) | (with_reducible refine Kd.C_drewN ?_ _) | (with_reducible refine Kd.C_drew ?_))); (case side2 => exact (Kd.R_reads' HO119.out).2.1); rintro e w47 ⟨rfl, hb⟩; have n0_ := Aside0.mk (Kd.S_below (by (with_reducible repeat (first | apply Kd.S_alloc | apply Kd.S_drewN | apply Kd.S_drew)); exact HO116.out) hb); have n1_ := Aside0.mk (Kd.R_below (by (with_reducible repeat (first | apply Kd.R_alloc | apply Kd.R_drewN | apply Kd.R_drew)); exact HO119.out) hb); have n2_ := Aside0.mk (blk_below (g := gb105) (o := .cells #[.int .i64 ((rd_T41 l0 x15_1).f0), .string ((rd_T41 l0 x15_1).f1), .int .u16 ((rd_T41 l0 x15_1).f2)] 41 (0, 0)) (by (with_reducible repeat (first | refine blk_drewN ?_ _ | refine blk_drew ?_ | refine blk_alloc ?_ _)); exact BK105.out) hb); have n3_ := Aside0.mk (below_step (by repeat (first | (with_reducible first | exact HB.out | apply below_alloc | apply pw_below_drewN | apply below_drew1 | refine below_set ?_ GE105.out) | exact HB.out)) hb); clear HO116; clear HO119; clear BK105; clear HB; have HO116 := n0_; have HO119 := n1_; have BK105 := n2_; have HB := n3_; clear n0_ n1_ n2_ n3_; (try clear hb); (try clear hb2); (try clear hk); (try clear hi)))
                            go_roundg kj16
                            case measure => have := HK1.out; have := HJ7.out; have := HJ16.out; omega
                            case rel => exact ⟨(y114), (([] : List (S41))), (x6_7), (wrap64 (x15_1 + 1)), (by first | rfl | (simp; done) | (simp [*]; done)), (by first | rfl | (simp; done) | (simp [*]; done)), H', ⟨by have := HK1.out; have := HJ7.out; have := HJ16.out; omega⟩, ⟨by (with_reducible repeat (first | apply Kd.S_alloc | apply Kd.S_drewN | apply Kd.S_drew)); exact Kd.S_mono HO116.out (fun _ hk => (by simp [Value.ownBlock]))⟩, ⟨by first | exact Kd.R_nil _ _ _ _ _ | exact Kd.N_nil _ _ _ _ _ | exact Kd.V_nil _ _ _ _ _ | exact Kd.Q_nil _ _ _ _ _ | exact Kd.S_nil _ _ _ _ _⟩, ⟨by repeat (first | (with_reducible first | exact HB.out | apply below_alloc | apply pw_below_drewN | apply below_drew1 | refine below_set ?_ GE105.out) | exact HB.out)⟩⟩
                        · rw [if_neg c31] at H
                          exact absurd H (by simp)
                      · replace c30 := Bool.eq_false_iff.mpr c30
                        subst c30
                        have H1 : (if x5_1.length < 4398046511104 then ((some (x5_1 ++ [(⟨((rd_T41 l0 x15_1).f0), ((rd_T41 l0 x15_1).f1), ((rd_T41 l0 x15_1).f2)⟩ : S41)] : List (S41))).bind fun y121 => ((token_is.f ((rd_T41 l0 x15_1).f0) ((rd_T41 l0 x15_1).f1) ((rd_T41 l0 x15_1).f2) (([(⟨#[40]⟩ : ByteArray), (⟨#[91]⟩ : ByteArray)] : List ByteArray))).bind fun t127 => (if t127 = true then (token_Cut.l0 kj16 a1 x4_1 y121 (wrap64 (x6_7 + 1)) l0 (l0.length : Int) (wrap64 (x15_1 + 1))) else (token_Cut.l0 kj16 a1 x4_1 y121 x6_7 l0 (l0.length : Int) (wrap64 (x15_1 + 1)))))) else (none)) = some r := by rw [if_neg (show ¬ (false = true) by decide)] at H; exact H
                        clear H
                        have H := H1
                        clear H1
                        by_cases c48 : x5_1.length < 4398046511104
                        · rw [if_pos c48] at H
                          have LMc48 := Aside0.mk c48
                          clear c48
                          obtain ⟨y121, hy121⟩ : ∃ y_ : List (S41), y_ = (x5_1 ++ [(⟨((rd_T41 l0 x15_1).f0), ((rd_T41 l0 x15_1).f1), ((rd_T41 l0 x15_1).f2)⟩ : S41)]) := ⟨_, rfl⟩
                          replace H : ((token_is.f ((rd_T41 l0 x15_1).f0) ((rd_T41 l0 x15_1).f1) ((rd_T41 l0 x15_1).f2) (([(⟨#[40]⟩ : ByteArray), (⟨#[91]⟩ : ByteArray)] : List ByteArray))).bind fun t127 => (if t127 = true then (token_Cut.l0 kj16 a1 x4_1 y121 (wrap64 (x6_7 + 1)) l0 (l0.length : Int) (wrap64 (x15_1 + 1))) else (token_Cut.l0 kj16 a1 x4_1 y121 x6_7 l0 (l0.length : Int) (wrap64 (x15_1 + 1))))) = some r := by first | (rw [hy121]; with_reducible exact H) | (have H2_ := (Option.bind_some _ _).symm.trans H; rw [hy121]; with_reducible exact H2_) | (have H2_ := (Option.bind_some _ _).symm.trans H; with_reducible exact H2_) | with_reducible exact H | (rw [hy121]; exact H) | exact H
                          have Ny121 := Aside0.mk hy121
                          clear hy121
                          obtain ⟨y124, hy124⟩ : ∃ y_ : List ByteArray, y_ = (([(⟨#[40]⟩ : ByteArray), (⟨#[91]⟩ : ByteArray)] : List ByteArray)) := ⟨_, rfl⟩
                          replace H : ((token_is.f ((rd_T41 l0 x15_1).f0) ((rd_T41 l0 x15_1).f1) ((rd_T41 l0 x15_1).f2) y124).bind fun t127 => (if t127 = true then (token_Cut.l0 kj16 a1 x4_1 y121 (wrap64 (x6_7 + 1)) l0 (l0.length : Int) (wrap64 (x15_1 + 1))) else (token_Cut.l0 kj16 a1 x4_1 y121 x6_7 l0 (l0.length : Int) (wrap64 (x15_1 + 1))))) = some r := by first | (rw [hy124]; with_reducible exact H) | (have H2_ := (Option.bind_some _ _).symm.trans H; rw [hy124]; with_reducible exact H2_) | (have H2_ := (Option.bind_some _ _).symm.trans H; with_reducible exact H2_) | with_reducible exact H | (rw [hy124]; exact H) | exact H
                          have Ny124 := Aside0.mk hy124
                          clear hy124
                          replace H := Option.bind_eq_some_iff.mp H
                          obtain ⟨t127, A490, H⟩ := H
                          replace H : (if t127 = true then (token_Cut.l0 kj16 a1 x4_1 y121 (wrap64 (x6_7 + 1)) l0 (l0.length : Int) (wrap64 (x15_1 + 1))) else (token_Cut.l0 kj16 a1 x4_1 y121 x6_7 l0 (l0.length : Int) (wrap64 (x15_1 + 1)))) = some r := H
                          have A49 := Aside0.mk A490
                          clear A490
                          by_cases c50 : t127 = true
                          · subst c50
                            have H1 : (token_Cut.l0 kj16 a1 x4_1 y121 (wrap64 (x6_7 + 1)) l0 (l0.length : Int) (wrap64 (x15_1 + 1))) = some r := by rw [if_pos rfl] at H; exact H
                            clear H
                            have H := H1
                            clear H1
                            have H' := Aside0.mk H
                            clear H
                            have hcz51_0 : wc.cell? ⟨gb105, 0, none⟩ = some (.int .i64 ((rd_T41 l0 x15_1).f0)) := (blk_cell BK105.out 0).trans rfl
                            have hcz51_1 : wc.cell? ⟨gb105, 1, none⟩ = some (.string ((rd_T41 l0 x15_1).f1)) := (blk_cell BK105.out 1).trans rfl
                            have hcz51_2 : wc.cell? ⟨gb105, 2, none⟩ = some (.int .u16 ((rd_T41 l0 x15_1).f2)) := (blk_cell BK105.out 2).trans rfl
                            have hfz51_0 := blk_frozen BK105.out 0
                            have hfz51_1 := blk_frozen BK105.out 1
                            have hfz51_2 := blk_frozen BK105.out 2
                            go_wp2_with (first | ((with_reducible refine gate_builtin (b := .append) (xs := #[.tmp 38, .tmp 40]) rfl ?_); at_builtin; refine Kd.R_append k41 (w0 := w) w.heap.size rfl (.tmp 38) (.tmp 40) 31 41 (.agg #[(.int .i64 0), (.string ⟨#[]⟩), (.int .u16 0)]) 32 rfl Tryd.underlying31 info41 rfl (by decide) (by omega) u5 x5_1 (⟨((rd_T41 l0 x15_1).f0), ((rd_T41 l0 x15_1).f1), ((rd_T41 l0 x15_1).f2)⟩ : S41) [.int .i64 ((rd_T41 l0 x15_1).f0), .string ((rd_T41 l0 x15_1).f1), .int .u16 ((rd_T41 l0 x15_1).f2)] (fun k_ => k_ ≠ gb105) (fun _ => False) rfl rfl ?aP (fun _ hk => hk.elim) ?aF ?aO ?aB ?aS ?aL ?_; (case aP => exact k41_mkM _ _ _ (⟨((rd_T41 l0 x15_1).f0), ((rd_T41 l0 x15_1).f1), ((rd_T41 l0 x15_1).f2)⟩ : S41)); (case aB => exact (by repeat (first | (with_reducible first | exact HB.out | apply below_alloc | apply pw_below_drewN | apply below_drew1 | refine below_set ?_ GE105.out) | exact HB.out))); (case aF => exact (fun k_ hk => Kd.freshB (g := gb105) (o := .cells #[.int .i64 ((rd_T41 l0 x15_1).f0), .string ((rd_T41 l0 x15_1).f1), .int .u16 ((rd_T41 l0 x15_1).f2)] 41 (0, 0)) (by (with_reducible repeat (first | refine blk_drewN ?_ _ | refine blk_drew ?_ | refine blk_alloc ?_ _)); exact BK105.out) k_ hk)); (case aO => exact (by (with_reducible repeat (first | apply Kd.R_alloc | apply Kd.R_drewN | apply Kd.R_drew)); exact HO_5.out)); (case aS => exact (below_size (by repeat (first | (with_reducible first | exact HB.out | apply below_alloc | apply pw_below_drewN | apply below_drew1 | refine below_set ?_ GE105.out) | exact HB.out)))); (case aL => have := LMc48.out; omega); intro v122 w52 ho hb hg hat; rw [← Ny121.out] at ho; have n0_ := Aside0.mk (Kd.S_after (ok := (fun k_ => k_ ≠ gb105)) (by (with_reducible repeat (first | apply Kd.S_alloc | apply Kd.S_drewN | apply Kd.S_drew)); exact Kd.S_mono HO_4.out (fun _ hk => ⟨hk.2, hk.1⟩)) hg hat); have n1_ := Aside0.mk (blk_grown (g := gb105) (o := .cells #[.int .i64 ((rd_T41 l0 x15_1).f0), .string ((rd_T41 l0 x15_1).f1), .int .u16 ((rd_T41 l0 x15_1).f2)] 41 (0, 0)) (by (with_reducible repeat (first | refine blk_drewN ?_ _ | refine blk_drew ?_ | refine blk_alloc ?_ _)); exact BK105.out) hg (Kd.R_away HO_5.out (fun _ hk => hk))); have n2_ := Aside0.mk (hb); have n3_ := Aside0.mk (ho); clear HO_4; clear BK105; clear HB; clear HO_5; have HO_4 := n0_; have BK105 := n1_; have HB := n2_; have HO123 := n3_; clear n0_ n1_ n2_ n3_; clear ho hb hg hat; have hcz53_0 : w52.cell? ⟨gb105, 0, none⟩ = some (.int .i64 ((rd_T41 l0 x15_1).f0)) := (blk_cell BK105.out 0).trans rfl; have hcz53_1 : w52.cell? ⟨gb105, 1, none⟩ = some (.string ((rd_T41 l0 x15_1).f1)) := (blk_cell BK105.out 1).trans rfl; have hcz53_2 : w52.cell? ⟨gb105, 2, none⟩ = some (.int .u16 ((rd_T41 l0 x15_1).f2)) := (blk_cell BK105.out 2).trans rfl; have hfz53_0 := blk_frozen BK105.out 0; have hfz53_1 := blk_frozen BK105.out 1; have hfz53_2 := blk_frozen BK105.out 2) | ((with_reducible refine gate_dst (N := 43) rfl ?_); refine Kd.R_lit Kd.string _ 9 ?hg (N := 43) ?hd (xs := ([(⟨#[40]⟩ : ByteArray), (⟨#[91]⟩ : ByteArray)] : List ByteArray)) (inner := [.string (⟨#[40]⟩ : ByteArray), .string (⟨#[91]⟩ : ByteArray)]) (ok := fun _ => True) (okp := fun _ => True) ?hr ?hp (fun _ hk => hk) trivial (Below.refl _ _) (Nat.le_refl _) (by simp) ?_; (case hd => rfl); (case hg => rfl); (case hr => first | (go_simp; done) | (go_simp; rfl)); (case hp => exact (Reps.one (show Kd.M Kd.string _ _ _ (⟨#[40]⟩ : ByteArray) [.string (⟨#[40]⟩ : ByteArray)] from rfl) (Reps.one (show Kd.M Kd.string _ _ _ (⟨#[91]⟩ : ByteArray) [.string (⟨#[91]⟩ : ByteArray)] from rfl) (Reps.none _ _)))); intro v125 w54 ho55 hb hg_ hnew_; clear hg_ hnew_; (first | rw [← Ny124.out] at ho55 | (simp only [Int.reduceToNat] at ho55; rw [← Ny124.out] at ho55)); have n0_ := Aside0.mk (Kd.S_below (by (with_reducible repeat (first | apply Kd.S_alloc | apply Kd.S_drewN | apply Kd.S_drew)); exact HO_4.out) hb); have n1_ := Aside0.mk (Kd.R_below (by (with_reducible repeat (first | apply Kd.R_alloc | apply Kd.R_drewN | apply Kd.R_drew)); exact HO123.out) hb); have n2_ := Aside0.mk (Kd.R_lower ho55 (below_size (by repeat (first | (with_reducible first | exact HB.out | apply below_alloc | apply pw_below_drewN | apply below_drew1 | refine below_set ?_ GE105.out) | exact HB.out)))); have n3_ := Aside0.mk (blk_below (g := gb105) (o := .cells #[.int .i64 ((rd_T41 l0 x15_1).f0), .string ((rd_T41 l0 x15_1).f1), .int .u16 ((rd_T41 l0 x15_1).f2)] 41 (0, 0)) (by (with_reducible repeat (first | refine blk_drewN ?_ _ | refine blk_drew ?_ | refine blk_alloc ?_ _)); exact BK105.out) hb); have n4_ := Aside0.mk (below_step (by repeat (first | (with_reducible first | exact HB.out | apply below_alloc | apply pw_below_drewN | apply below_drew1 | refine below_set ?_ GE105.out) | exact HB.out)) hb); clear HO_4; clear HO123; clear BK105; clear HB; have HO_4 := n0_; have HO123 := n1_; have HO126 := n2_; have BK105 := n3_; have HB := n4_; clear n0_ n1_ n2_ n3_ n4_; clear hb ho55; obtain ⟨Ao56, co56, eo56⟩ := Kd.R_slice HO126.out; subst eo56) | (go_at_call 71; (with_reducible refine (token_is.calls ((rd_T41 l0 x15_1).f0) ((rd_T41 l0 x15_1).f1) ((rd_T41 l0 x15_1).f2) _ _ y124 true _ ?side1 ?side2 ?sideB A49.out).mono ?_); (case sideB => (with_reducible repeat (first | refine blk_drewN ?_ _ | refine blk_drew ?_ | refine blk_alloc ?_ _)); exact BK105.out); (case side1 => repeat (first | exact (Kd.R_reads' HO126.out).2.2 | (with_reducible refine Kd.C_alloc ?_ _) | (with_reducible refine Kd.C_drewN ?_ _) | (with_reducible refine Kd.C_drew ?_))); (case side2 => exact (Kd.R_reads' HO126.out).2.1); rintro e w57 ⟨rfl, hb⟩; have n0_ := Aside0.mk (Kd.S_below (by (with_reducible repeat (first | apply Kd.S_alloc | apply Kd.S_drewN | apply Kd.S_drew)); exact HO_4.out) hb); have n1_ := Aside0.mk (Kd.R_below (by (with_reducible repeat (first | apply Kd.R_alloc | apply Kd.R_drewN | apply Kd.R_drew)); exact HO123.out) hb); have n2_ := Aside0.mk (Kd.R_below (by (with_reducible repeat (first | apply Kd.R_alloc | apply Kd.R_drewN | apply Kd.R_drew)); exact HO126.out) hb); have n3_ := Aside0.mk (blk_below (g := gb105) (o := .cells #[.int .i64 ((rd_T41 l0 x15_1).f0), .string ((rd_T41 l0 x15_1).f1), .int .u16 ((rd_T41 l0 x15_1).f2)] 41 (0, 0)) (by (with_reducible repeat (first | refine blk_drewN ?_ _ | refine blk_drew ?_ | refine blk_alloc ?_ _)); exact BK105.out) hb); have n4_ := Aside0.mk (below_step (by repeat (first | (with_reducible first | exact HB.out | apply below_alloc | apply pw_below_drewN | apply below_drew1 | refine below_set ?_ GE105.out) | exact HB.out)) hb); clear HO_4; clear HO123; clear HO126; clear BK105; clear HB; have HO_4 := n0_; have HO123 := n1_; have HO126 := n2_; have BK105 := n3_; have HB := n4_; clear n0_ n1_ n2_ n3_ n4_; (try clear hb); (try clear hb2); (try clear hk); (try clear hi)))
                            go_roundg kj16
                            case measure => have := HK1.out; have := HJ7.out; have := HJ16.out; omega
                            case rel => exact ⟨(x4_1), (y121), (wrap64 (x6_7 + 1)), (wrap64 (x15_1 + 1)), (by first | rfl | (simp; done) | (simp [*]; done)), (by first | rfl | (simp; done) | (simp [*]; done)), H', ⟨by have := HK1.out; have := HJ7.out; have := HJ16.out; omega⟩, ⟨by (with_reducible repeat (first | apply Kd.S_alloc | apply Kd.S_drewN | apply Kd.S_drew)); exact Kd.S_mono HO_4.out (fun _ hk => hk.2)⟩, ⟨by (with_reducible repeat (first | apply Kd.R_alloc | apply Kd.R_drewN | apply Kd.R_drew)); exact Kd.R_mono HO123.out (fun _ hk => trivial)⟩, ⟨by repeat (first | (with_reducible first | exact HB.out | apply below_alloc | apply pw_below_drewN | apply below_drew1 | refine below_set ?_ GE105.out) | exact HB.out)⟩⟩
                          · replace c50 := Bool.eq_false_iff.mpr c50
                            subst c50
                            have H1 : (token_Cut.l0 kj16 a1 x4_1 y121 x6_7 l0 (l0.length : Int) (wrap64 (x15_1 + 1))) = some r := by rw [if_neg (show ¬ (false = true) by decide)] at H; exact H
                            clear H
                            have H := H1
                            clear H1
                            have H' := Aside0.mk H
                            clear H
                            have hcz58_0 : wc.cell? ⟨gb105, 0, none⟩ = some (.int .i64 ((rd_T41 l0 x15_1).f0)) := (blk_cell BK105.out 0).trans rfl
                            have hcz58_1 : wc.cell? ⟨gb105, 1, none⟩ = some (.string ((rd_T41 l0 x15_1).f1)) := (blk_cell BK105.out 1).trans rfl
                            have hcz58_2 : wc.cell? ⟨gb105, 2, none⟩ = some (.int .u16 ((rd_T41 l0 x15_1).f2)) := (blk_cell BK105.out 2).trans rfl
                            have hfz58_0 := blk_frozen BK105.out 0
                            have hfz58_1 := blk_frozen BK105.out 1
                            have hfz58_2 := blk_frozen BK105.out 2
                            go_wp2_with (first | ((with_reducible refine gate_builtin (b := .append) (xs := #[.tmp 38, .tmp 40]) rfl ?_); at_builtin; refine Kd.R_append k41 (w0 := w) w.heap.size rfl (.tmp 38) (.tmp 40) 31 41 (.agg #[(.int .i64 0), (.string ⟨#[]⟩), (.int .u16 0)]) 32 rfl Tryd.underlying31 info41 rfl (by decide) (by omega) u5 x5_1 (⟨((rd_T41 l0 x15_1).f0), ((rd_T41 l0 x15_1).f1), ((rd_T41 l0 x15_1).f2)⟩ : S41) [.int .i64 ((rd_T41 l0 x15_1).f0), .string ((rd_T41 l0 x15_1).f1), .int .u16 ((rd_T41 l0 x15_1).f2)] (fun k_ => k_ ≠ gb105) (fun _ => False) rfl rfl ?aP (fun _ hk => hk.elim) ?aF ?aO ?aB ?aS ?aL ?_; (case aP => exact k41_mkM _ _ _ (⟨((rd_T41 l0 x15_1).f0), ((rd_T41 l0 x15_1).f1), ((rd_T41 l0 x15_1).f2)⟩ : S41)); (case aB => exact (by repeat (first | (with_reducible first | exact HB.out | apply below_alloc | apply pw_below_drewN | apply below_drew1 | refine below_set ?_ GE105.out) | exact HB.out))); (case aF => exact (fun k_ hk => Kd.freshB (g := gb105) (o := .cells #[.int .i64 ((rd_T41 l0 x15_1).f0), .string ((rd_T41 l0 x15_1).f1), .int .u16 ((rd_T41 l0 x15_1).f2)] 41 (0, 0)) (by (with_reducible repeat (first | refine blk_drewN ?_ _ | refine blk_drew ?_ | refine blk_alloc ?_ _)); exact BK105.out) k_ hk)); (case aO => exact (by (with_reducible repeat (first | apply Kd.R_alloc | apply Kd.R_drewN | apply Kd.R_drew)); exact HO_5.out)); (case aS => exact (below_size (by repeat (first | (with_reducible first | exact HB.out | apply below_alloc | apply pw_below_drewN | apply below_drew1 | refine below_set ?_ GE105.out) | exact HB.out)))); (case aL => have := LMc48.out; omega); intro v122 w59 ho hb hg hat; rw [← Ny121.out] at ho; have n0_ := Aside0.mk (Kd.S_after (ok := (fun k_ => k_ ≠ gb105)) (by (with_reducible repeat (first | apply Kd.S_alloc | apply Kd.S_drewN | apply Kd.S_drew)); exact Kd.S_mono HO_4.out (fun _ hk => ⟨hk.2, hk.1⟩)) hg hat); have n1_ := Aside0.mk (blk_grown (g := gb105) (o := .cells #[.int .i64 ((rd_T41 l0 x15_1).f0), .string ((rd_T41 l0 x15_1).f1), .int .u16 ((rd_T41 l0 x15_1).f2)] 41 (0, 0)) (by (with_reducible repeat (first | refine blk_drewN ?_ _ | refine blk_drew ?_ | refine blk_alloc ?_ _)); exact BK105.out) hg (Kd.R_away HO_5.out (fun _ hk => hk))); have n2_ := Aside0.mk (hb); have n3_ := Aside0.mk (ho); clear HO_4; clear BK105; clear HB; clear HO_5; have HO_4 := n0_; have BK105 := n1_; have HB := n2_; have HO123 := n3_; clear n0_ n1_ n2_ n3_; clear ho hb hg hat; have hcz60_0 : w59.cell? ⟨gb105, 0, none⟩ = some (.int .i64 ((rd_T41 l0 x15_1).f0)) := (blk_cell BK105.out 0).trans rfl; have hcz60_1 : w59.cell? ⟨gb105, 1, none⟩ = some (.string ((rd_T41 l0 x15_1).f1)) := (blk_cell BK105.out 1).trans rfl; have hcz60_2 : w59.cell? ⟨gb105, 2, none⟩ = some (.int .u16 ((rd_T41 l0 x15_1).f2)) := (blk_cell BK105.out 2).trans rfl; have hfz60_0 := blk_frozen BK105.out 0; have hfz60_1 := blk_frozen BK105.out 1; have hfz60_2 := blk_frozen BK105.out 2) | ((with_reducible refine gate_dst (N := 43) rfl ?_); refine Kd.R_lit Kd.string _ 9 ?hg (N := 43) ?hd (xs := ([(⟨#[40]⟩ : ByteArray), (⟨#[91]⟩ : ByteArray)] : List ByteArray)) (inner := [.string (⟨#[40]⟩ : ByteArray), .string (⟨#[91]⟩ : ByteArray)]) (ok := fun _ => True) (okp := fun _ => True) ?hr ?hp (fun _ hk => hk) trivial (Below.refl _ _) (Nat.le_refl _) (by simp) ?_; (case hd => rfl); (case hg => rfl); (case hr => first | (go_simp; done) | (go_simp; rfl)); (case hp => exact (Reps.one (show Kd.M Kd.string _ _ _ (⟨#[40]⟩ : ByteArray) [.string (⟨#[40]⟩ : ByteArray)] from rfl) (Reps.one (show Kd.M Kd.string _ _ _ (⟨#[91]⟩ : ByteArray) [.string (⟨#[91]⟩ : ByteArray)] from rfl) (Reps.none _ _)))); intro v125 w61 ho62 hb hg_ hnew_; clear hg_ hnew_; (first | rw [← Ny124.out] at ho62 | (simp only [Int.reduceToNat] at ho62; rw [← Ny124.out] at ho62)); have n0_ := Aside0.mk (Kd.S_below (by (with_reducible repeat (first | apply Kd.S_alloc | apply Kd.S_drewN | apply Kd.S_drew)); exact HO_4.out) hb); have n1_ := Aside0.mk (Kd.R_below (by (with_reducible repeat (first | apply Kd.R_alloc | apply Kd.R_drewN | apply Kd.R_drew)); exact HO123.out) hb); have n2_ := Aside0.mk (Kd.R_lower ho62 (below_size (by repeat (first | (with_reducible first | exact HB.out | apply below_alloc | apply pw_below_drewN | apply below_drew1 | refine below_set ?_ GE105.out) | exact HB.out)))); have n3_ := Aside0.mk (blk_below (g := gb105) (o := .cells #[.int .i64 ((rd_T41 l0 x15_1).f0), .string ((rd_T41 l0 x15_1).f1), .int .u16 ((rd_T41 l0 x15_1).f2)] 41 (0, 0)) (by (with_reducible repeat (first | refine blk_drewN ?_ _ | refine blk_drew ?_ | refine blk_alloc ?_ _)); exact BK105.out) hb); have n4_ := Aside0.mk (below_step (by repeat (first | (with_reducible first | exact HB.out | apply below_alloc | apply pw_below_drewN | apply below_drew1 | refine below_set ?_ GE105.out) | exact HB.out)) hb); clear HO_4; clear HO123; clear BK105; clear HB; have HO_4 := n0_; have HO123 := n1_; have HO126 := n2_; have BK105 := n3_; have HB := n4_; clear n0_ n1_ n2_ n3_ n4_; clear hb ho62; obtain ⟨Ao63, co63, eo63⟩ := Kd.R_slice HO126.out; subst eo63) | (go_at_call 71; (with_reducible refine (token_is.calls ((rd_T41 l0 x15_1).f0) ((rd_T41 l0 x15_1).f1) ((rd_T41 l0 x15_1).f2) _ _ y124 false _ ?side1 ?side2 ?sideB A49.out).mono ?_); (case sideB => (with_reducible repeat (first | refine blk_drewN ?_ _ | refine blk_drew ?_ | refine blk_alloc ?_ _)); exact BK105.out); (case side1 => repeat (first | exact (Kd.R_reads' HO126.out).2.2 | (with_reducible refine Kd.C_alloc ?_ _) | (with_reducible refine Kd.C_drewN ?_ _) | (with_reducible refine Kd.C_drew ?_))); (case side2 => exact (Kd.R_reads' HO126.out).2.1); rintro e w64 ⟨rfl, hb⟩; have n0_ := Aside0.mk (Kd.S_below (by (with_reducible repeat (first | apply Kd.S_alloc | apply Kd.S_drewN | apply Kd.S_drew)); exact HO_4.out) hb); have n1_ := Aside0.mk (Kd.R_below (by (with_reducible repeat (first | apply Kd.R_alloc | apply Kd.R_drewN | apply Kd.R_drew)); exact HO123.out) hb); have n2_ := Aside0.mk (Kd.R_below (by (with_reducible repeat (first | apply Kd.R_alloc | apply Kd.R_drewN | apply Kd.R_drew)); exact HO126.out) hb); have n3_ := Aside0.mk (blk_below (g := gb105) (o := .cells #[.int .i64 ((rd_T41 l0 x15_1).f0), .string ((rd_T41 l0 x15_1).f1), .int .u16 ((rd_T41 l0 x15_1).f2)] 41 (0, 0)) (by (with_reducible repeat (first | refine blk_drewN ?_ _ | refine blk_drew ?_ | refine blk_alloc ?_ _)); exact BK105.out) hb); have n4_ := Aside0.mk (below_step (by repeat (first | (with_reducible first | exact HB.out | apply below_alloc | apply pw_below_drewN | apply below_drew1 | refine below_set ?_ GE105.out) | exact HB.out)) hb); clear HO_4; clear HO123; clear HO126; clear BK105; clear HB; have HO_4 := n0_; have HO123 := n1_; have HO126 := n2_; have BK105 := n3_; have HB := n4_; clear n0_ n1_ n2_ n3_ n4_; (try clear hb); (try clear hb2); (try clear hk); (try clear hi)))
                            go_roundg kj16
                            case measure => have := HK1.out; have := HJ7.out; have := HJ16.out; omega
                            case rel => exact ⟨(x4_1), (y121), (x6_7), (wrap64 (x15_1 + 1)), (by first | rfl | (simp; done) | (simp [*]; done)), (by first | rfl | (simp; done) | (simp [*]; done)), H', ⟨by have := HK1.out; have := HJ7.out; have := HJ16.out; omega⟩, ⟨by (with_reducible repeat (first | apply Kd.S_alloc | apply Kd.S_drewN | apply Kd.S_drew)); exact Kd.S_mono HO_4.out (fun _ hk => hk.2)⟩, ⟨by (with_reducible repeat (first | apply Kd.R_alloc | apply Kd.R_drewN | apply Kd.R_drew)); exact Kd.R_mono HO123.out (fun _ hk => trivial)⟩, ⟨by repeat (first | (with_reducible first | exact HB.out | apply below_alloc | apply pw_below_drewN | apply below_drew1 | refine below_set ?_ GE105.out) | exact HB.out)⟩⟩
                        · rw [if_neg c48] at H
                          exact absurd H (by simp)
            · rw [if_neg c6] at H
              exact absurd H (by simp)
          · rw [if_neg c5] at H
            exact absurd H (by simp)
        · rw [if_neg c4] at H
          have c4b0 : decide (x15_1 < (l0.length : Int)) = false := decide_eq_false c4
          clear c4
          by_cases c65 : x4_1.length < 5864062014805
          · rw [if_pos c65] at H
            have LMc65 := Aside0.mk c65
            clear c65
            obtain ⟨y101, hy101⟩ : ∃ y_ : List (List (S41)), y_ = (x4_1 ++ [x5_1]) := ⟨_, rfl⟩
            replace H : (some y101) = some r := by first | (rw [hy101]; with_reducible exact H) | (have H2_ := (Option.bind_some _ _).symm.trans H; rw [hy101]; with_reducible exact H2_) | (have H2_ := (Option.bind_some _ _).symm.trans H; with_reducible exact H2_) | with_reducible exact H | (rw [hy101]; exact H) | exact H
            have Ny101 := Aside0.mk hy101
            clear hy101
            obtain rfl := Option.some.inj H
            obtain ⟨Ao67, co67, eo67⟩ := Kd.R_slice HO_5.out
            subst eo67
            go_wp2_with (first | ((with_reducible refine gate_builtin (b := .append) (xs := #[.tmp 48, .tmp 50]) rfl ?_); at_builtin; refine Kd.S_append (Kd.slice 41 k41) (w0 := w) w.heap.size rfl (.tmp 48) (.tmp 50) 43 31 (.slice none 0 0) 24 rfl Tryd.underlying43 info31 rfl (by decide) (by omega) u4 x4_1 x5_1 [.slice Ao67 x5_1.length co67] (fun _ => True) (fun k_ => some k_ = (.slice Ao67 x5_1.length co67 : Value).ownBlock) rfl rfl ?aP (fun k_ hk_ => ((Kd.R_mono (ok' := fun k_ => ((fun _ => True)) k_ ∧ some k_ ≠ (u4 : Value).ownBlock) (Kd.R_apart' (HO_5.out) (Kd.S_typed HO_4.out) (by decide)) (fun k_ hk => ⟨trivial, hk.2⟩))).1 k_ hk_.symm) ?aF ?aO ?aB ?aS ?aL ?_; (case aP => exact Kd.M_row (Kd.R_mono (Kd.R_tight rfl (Kd.R_mono (ok' := fun k_ => ((fun _ => True)) k_ ∧ some k_ ≠ (u4 : Value).ownBlock) (Kd.R_apart' (HO_5.out) (Kd.S_typed HO_4.out) (by decide)) (fun k_ hk => ⟨trivial, hk.2⟩))) (fun _ h_ => h_))); (case aB => exact (by repeat (first | (with_reducible first | exact HB.out | apply below_alloc | apply pw_below_drewN | apply below_drew1) | exact HB.out))); (case aF => exact (fun _ _ => trivial)); (case aO => exact (by (with_reducible repeat (first | apply Kd.S_alloc | apply Kd.S_drewN | apply Kd.S_drew)); exact Kd.S_mono HO_4.out (fun k_ hk => ⟨trivial, fun e_ => hk e_⟩))); (case aS => exact (below_size (by repeat (first | (with_reducible first | exact HB.out | apply below_alloc | apply pw_below_drewN | apply below_drew1) | exact HB.out)))); (case aL => have := LMc65.out; omega); intro v102 w66 ho hb hg hat; rw [← Ny101.out] at ho; have n0_ := Aside0.mk (hb); have n1_ := Aside0.mk (ho); clear HB; clear HO_4; clear HO_5; have HB := n0_; have HO103 := n1_; clear n0_ n1_; clear ho hb hg hat))
            go_ret
            exact ⟨_, by first | rfl | (simp [errW_none, errW_some] <;> rfl) | (simp [*, errW_none, errW_some] <;> rfl), by (with_reducible repeat (first | apply Kd.S_alloc | apply Kd.S_drewN | apply Kd.S_drew)); exact HO103.out, by repeat (first | (with_reducible first | exact HB.out | apply below_alloc | apply pw_below_drewN | apply below_drew1) | exact HB.out)⟩
          · rw [if_neg c65] at H
            exact absurd H (by simp)
end Go.Proofs.YtejhagejjogbaaaDoor.Pe
