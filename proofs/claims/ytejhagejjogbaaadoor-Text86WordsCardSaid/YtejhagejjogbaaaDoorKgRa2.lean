import Derived.Test.YtejhagejjogbaaaDoorKgRa0
import Derived.Test.YtejhagejjogbaaaDoorKgRa1
namespace Go.Proofs.YtejhagejjogbaaaDoor.Ra
open Go.RowKit Go.Proofs.YtejhagejjogbaaaDoorW.PrintWords Go.Proofs.YtejhagejjogbaaaDoorW.PrintLast Go.Proofs.YtejhagejjogbaaaDoorW.PrintMore Go.Proofs.YtejhagejjogbaaaDoor.Given Go.Proofs.YtejhagejjogbaaaDoor.And7
attribute [local go_sem] max2_int min2_int max_two min_two max_three min_three max_four min_four   -- for this text's walks alone
set_option linter.unusedVariables false
set_option linter.unusedSimpArgs false
mutual
def isa86_places.j0 : Nat → Int → Int → Bool → Option (List Int × Int)
  | 0, _, _, _ => none
  | k + 1, x0, x1, x5 => if x5 = true then ((isa86_num.f x0).bind fun t106 => ((isa86_mem.f t106 7).bind fun t107 => ((isa86_of.f 0 (([138, t107] : List Int))).bind fun bt111 => (some (bt111.1, bt111.2))))) else (if x0 = 17 then ((isa86_wide.f k x1).bind fun t115 => (isa86_places.j1 k x0 x1 (t115 == 8))) else (isa86_places.j1 k x0 x1 false))
def isa86_places.j1 : Nat → Int → Int → Bool → Option (List Int × Int)
  | 0, _, _, _ => none
  | k + 1, x0, x1, x18 => if x18 = true then ((isa86_num.f x1).bind fun t116 => ((isa86_mem.f t116 7).bind fun t117 => ((isa86_of.f 0 (([136, t117] : List Int))).bind fun bt121 => (some (bt121.1, bt121.2))))) else (if x0 = 1 then (isa86_places.j2 k x0 x1 (x1 == 18)) else (isa86_places.j2 k x0 x1 false))
def isa86_places.j2 : Nat → Int → Int → Bool → Option (List Int × Int)
  | 0, _, _, _ => none
  | k + 1, x0, x1, x31 => if x31 = true then ((isa86_of.f 0 (([138, 4] : List Int))).bind fun bt128 => (some (bt128.1, bt128.2))) else (if x0 = 18 then (isa86_places.j3 k x0 x1 (x1 == 1)) else (isa86_places.j3 k x0 x1 false))
def isa86_places.j3 : Nat → Int → Int → Bool → Option (List Int × Int)
  | 0, _, _, _ => none
  | k + 1, x0, x1, x40 => if x40 = true then ((isa86_of.f 0 (([136, 4] : List Int))).bind fun bt135 => (some (bt135.1, bt135.2))) else (if x0 = 1 then (isa86_places.j4 k x0 x1 (x1 == 19)) else (isa86_places.j4 k x0 x1 false))
def isa86_places.j4 : Nat → Int → Int → Bool → Option (List Int × Int)
  | 0, _, _, _ => none
  | k + 1, x0, x1, x49 => if x49 = true then ((isa86_of.f 2 (([160] : List Int))).bind fun bt142 => (some (bt142.1, bt142.2))) else (if x0 = 19 then (isa86_places.j5 k x0 x1 (x1 == 1)) else (isa86_places.j5 k x0 x1 false))
def isa86_places.j5 : Nat → Int → Int → Bool → Option (List Int × Int)
  | 0, _, _, _ => none
  | k + 1, x0, x1, x58 => if x58 = true then ((isa86_of.f 2 (([162] : List Int))).bind fun bt149 => (some (bt149.1, bt149.2))) else ((isa86_wide.f k x0).bind fun t153 => (if t153 = 16 then (if x0 = 9 then (isa86_places.j6 k x0 x1 false) else (isa86_places.j6 k x0 x1 (x1 == 19))) else (isa86_places.j6 k x0 x1 false)))
def isa86_places.j6 : Nat → Int → Int → Bool → Option (List Int × Int)
  | 0, _, _, _ => none
  | k + 1, x0, x1, x67 => if x67 = true then ((isa86_num.f x0).bind fun t154 => ((isa86_mem.f t154 6).bind fun t155 => ((isa86_of.f 2 (([139, t155] : List Int))).bind fun bt159 => (some (bt159.1, bt159.2))))) else (if x0 = 19 then ((isa86_wide.f k x1).bind fun t163 => (if t163 = 16 then (isa86_places.j7 k x0 x1 (x1 != 9)) else (isa86_places.j7 k x0 x1 false))) else (isa86_places.j7 k x0 x1 false))
def isa86_places.j7 : Nat → Int → Int → Bool → Option (List Int × Int)
  | 0, _, _, _ => none
  | k + 1, x0, x1, x84 => if x84 = true then ((isa86_num.f x1).bind fun t164 => ((isa86_mem.f t164 6).bind fun t165 => ((isa86_of.f 2 (([137, t165] : List Int))).bind fun bt169 => (some (bt169.1, bt169.2))))) else ((isa86_wide.f k x0).bind fun t173 => (if t173 = 8 then (isa86_places.j8 k x0 x1 (x1 == 20)) else (isa86_places.j8 k x0 x1 false)))
def isa86_places.j8 : Nat → Int → Int → Bool → Option (List Int × Int)
  | 0, _, _, _ => none
  | k + 1, x0, x1, x101 => if x101 = true then ((isa86_num.f x0).bind fun t174 => ((isa86_of.f 1 (([Go.bits .or .u8 176 t174] : List Int))).bind fun bt178 => (some (bt178.1, bt178.2)))) else ((isa86_wide.f k x0).bind fun t182 => (if t182 = 16 then (isa86_places.j9 k x0 x1 (x1 == 20)) else (isa86_places.j9 k x0 x1 false)))
def isa86_places.j9 : Nat → Int → Int → Bool → Option (List Int × Int)
  | 0, _, _, _ => none
  | k + 1, x0, x1, x114 => if x114 = true then ((isa86_num.f x0).bind fun t183 => ((isa86_of.f 2 (([Go.bits .or .u8 184 t183] : List Int))).bind fun bt187 => (some (bt187.1, bt187.2)))) else (if x0 = 17 then (if x1 = 20 then ((isa86_of.f 1 (([198, 7] : List Int))).bind fun bt194 => (some (bt194.1, bt194.2))) else (some (([] : List Int), 0))) else (some (([] : List Int), 0)))
end
def isa86_places.f (k : Nat) (a0 : Int) (a1 : Int) : Option (List Int × Int) := (isa86_wide.f k a0).bind fun t105 => (if t105 = 8 then (isa86_places.j0 k a0 a1 (a1 == 17)) else (isa86_places.j0 k a0 a1 false))
set_option maxHeartbeats 8000000 in
set_option maxRecDepth 100000 in
theorem isa86_places.calls (k : Nat) (a0 : Int) (a1 : Int) (r1 : List Int) (r2 : Int) (w : World) (h : isa86_places.f k a0 a1 = some (r1, r2)) :
    Calls Tryd.prog 177 #[.int .i64 a0, .int .i64 a1] w fun e w' => ∃ v0_ : Value, e = .returned (.agg #[v0_, .int .i64 r2]) ∧ Kd.R (Kd.int .u8) 5 w' w.heap.size (fun _ => True) v0_ r1 ∧ Below w.heap.size w w' := by
  have hu139 := Tryd.underlying139
  have HB := Aside0.mk (Below.refl w.heap.size w)
  have H : ((isa86_wide.f k a0).bind fun t105 => (if t105 = 8 then (isa86_places.j0 k a0 a1 (a1 == 17)) else (isa86_places.j0 k a0 a1 false))) = some (r1, r2) := h
  clear h
  have HC3 := Aside0.mk H
  clear H
  go_enter Tryd.func177, Tryd.ntmps177
  go_upto_region 1 with (first | ((with_reducible refine gate_dst (N := 4) rfl ?_); refine box_event ?hg (N := 4) ?hd (cs := #[.slice none 0 0, .int .i64 0]) (t := 139) ?hr ?_; (case hd => rfl); (case hg => rfl); (case hr => first | (go_simp; done) | (go_simp; rfl)); intro gb104 hg w4 hbox hb; have n0_ := Aside0.mk (below_step (by repeat (first | (with_reducible first | exact HB.out | apply below_alloc | apply pw_below_drewN | apply below_drew1) | exact HB.out)) hb); have n1_ := Aside0.mk (hbox); have n2_ := Aside0.mk ((by rw [hg]; exact (below_size (by repeat (first | (with_reducible first | exact HB.out | apply below_alloc | apply pw_below_drewN | apply below_drew1) | exact HB.out))) : w.heap.size ≤ gb104)); have n3_ := Aside0.mk ((by rw [hg]; exact (below_size (by repeat (first | (with_reducible first | exact HB.out | apply below_alloc | apply pw_below_drewN | apply below_drew1) | exact HB.out))) : w.heap.size ≤ gb104)); clear HB; have HB := n0_; have BK104 := n1_; have GW104 := n2_; have GE104 := n3_; clear n0_ n1_ n2_ n3_; clear hb hbox hg))
  (try simp only [Act.put, List.setIfInBounds_toArray, List.set_cons_zero, List.set_cons_succ])
  go_cut [5] (fun v5 wc => ∃ (kq : Nat) (x5_2 : Bool), v5 = .bool x5_2 ∧ Aside0 (isa86_places.j0 kq a0 a1 x5_2 = some (r1, r2)) ∧ Aside0 (kq ≤ k) ∧ Aside0 (wc.heap[gb104]? = some (.cells #[(.slice none 0 0), .int .i64 0] 139 (0, 0))) ∧ Aside0 (Below w.heap.size w wc))
  case first =>
    have H := HC3.out
    clear HC3
    replace H := Option.bind_eq_some_iff.mp H
    obtain ⟨t105, A50, H⟩ := H
    replace H : (if t105 = 8 then (isa86_places.j0 k a0 a1 (a1 == 17)) else (isa86_places.j0 k a0 a1 false)) = some (r1, r2) := H
    have A5 := Aside0.mk A50
    clear A50
    by_cases c6 : t105 = 8
    · rw [if_pos c6] at H
      have c6b0 : (t105 == 8) = true := beq_iff_eq.mpr c6
      have c6b1 : (t105 != 8) = false := bne_eq_false_iff_eq.mpr c6
      clear c6
      (first | rw [c6b0] | (simp only [i64_w, i32_w]; rw [c6b0]) | skip)
      have H' := Aside0.mk H
      clear H
      go_wp2_with (first | ((with_reducible refine gate_callee (f := 174) rfl ?_); refine goesL_ (some 7) rfl rfl Tryd.func174 (by kernel_rfl) rfl #[.int .i64 a0] rfl (by (try simp only [List.map_toArray, List.map_cons, List.map_nil]); first | done | rfl | (simp only [List.length_drop, List.length_take]; rfl)) ?_; (with_reducible refine (isa86_wide.calls k a0 t105 _ A5.out).mono ?_); rintro e w' ⟨rfl, ⟨nd, rfl⟩⟩; refine ⟨_, rfl, ?_⟩))
      go_meet
      case rel => exact ⟨_, ((a1 == 17)), (by first | rfl | (simp; done) | (simp [*]; done)), H', ⟨by first | omega | exact Nat.le_refl _⟩, ⟨by (with_reducible repeat (first | refine blk_drewN ?_ _ | refine blk_drew ?_ | refine blk_alloc ?_ _)); exact BK104.out⟩, ⟨by repeat (first | (with_reducible first | exact HB.out | apply below_alloc | apply pw_below_drewN | apply below_drew1 | refine below_set ?_ GE104.out) | exact HB.out)⟩⟩
    · rw [if_neg c6] at H
      have c6b0 : (t105 == 8) = false := beq_eq_false_iff_ne.mpr c6
      have c6b1 : (t105 != 8) = true := bne_iff_ne.mpr c6
      (first | rw [c6b0] | (simp only [i64_w, i32_w]; rw [c6b0]) | skip)
      have H' := Aside0.mk H
      clear H
      go_wp2_with (first | ((with_reducible refine gate_callee (f := 174) rfl ?_); refine goesL_ (some 7) rfl rfl Tryd.func174 (by kernel_rfl) rfl #[.int .i64 a0] rfl (by (try simp only [List.map_toArray, List.map_cons, List.map_nil]); first | done | rfl | (simp only [List.length_drop, List.length_take]; rfl)) ?_; (with_reducible refine (isa86_wide.calls k a0 t105 _ A5.out).mono ?_); rintro e w' ⟨rfl, ⟨nd, rfl⟩⟩; refine ⟨_, rfl, ?_⟩))
      go_meet
      case rel => exact ⟨_, (false), (by first | rfl | (simp; done) | (simp [*]; done)), H', ⟨by first | omega | exact Nat.le_refl _⟩, ⟨by (with_reducible repeat (first | refine blk_drewN ?_ _ | refine blk_drew ?_ | refine blk_alloc ?_ _)); exact BK104.out⟩, ⟨by repeat (first | (with_reducible first | exact HB.out | apply below_alloc | apply pw_below_drewN | apply below_drew1 | refine below_set ?_ GE104.out) | exact HB.out)⟩⟩
  case rest =>
    clear HC3
    try clear c1
    try clear p2
    try clear c6
    try clear c6b0
    try clear c6b1
    obtain ⟨kq, x5_2, rfl, HA, HJ2, BK104, HB⟩ := hcut
    cases kq with
    | zero => exact absurd HA.out (by simp [isa86_places.j0])
    | succ kj2 =>
      have H := HA.out
      clear HA
      simp only [isa86_places.j0] at H
      by_cases c7 : x5_2 = true
      · subst c7
        have H1 : ((isa86_num.f a0).bind fun t106 => ((isa86_mem.f t106 7).bind fun t107 => ((isa86_of.f 0 (([138, t107] : List Int))).bind fun bt111 => (some (bt111.1, bt111.2))))) = some (r1, r2) := by rw [if_pos rfl] at H; exact H
        clear H
        have H := H1
        clear H1
        replace H := Option.bind_eq_some_iff.mp H
        obtain ⟨t106, A80, H⟩ := H
        replace H : ((isa86_mem.f t106 7).bind fun t107 => ((isa86_of.f 0 (([138, t107] : List Int))).bind fun bt111 => (some (bt111.1, bt111.2)))) = some (r1, r2) := H
        have A8 := Aside0.mk A80
        clear A80
        replace H := Option.bind_eq_some_iff.mp H
        obtain ⟨t107, A90, H⟩ := H
        replace H : ((isa86_of.f 0 (([138, t107] : List Int))).bind fun bt111 => (some (bt111.1, bt111.2))) = some (r1, r2) := H
        have A9 := Aside0.mk A90
        clear A90
        obtain ⟨y108, hy108⟩ : ∃ y_ : List Int, y_ = (([138, t107] : List Int)) := ⟨_, rfl⟩
        replace H : ((isa86_of.f 0 y108).bind fun bt111 => (some (bt111.1, bt111.2))) = some (r1, r2) := by first | (rw [hy108]; with_reducible exact H) | (have H2_ := (Option.bind_some _ _).symm.trans H; rw [hy108]; with_reducible exact H2_) | (have H2_ := (Option.bind_some _ _).symm.trans H; with_reducible exact H2_) | with_reducible exact H | (rw [hy108]; exact H) | exact H
        have Ny108 := Aside0.mk hy108
        clear hy108
        replace H := Option.bind_eq_some_iff.mp H
        obtain ⟨⟨t111, t114⟩, A100, H⟩ := H
        replace H : (some (t111, t114)) = some (r1, r2) := H
        have A10 := Aside0.mk A100
        clear A100
        simp only [Option.some.injEq, Prod.mk.injEq] at H
        obtain ⟨rfl, rfl⟩ := H
        go_wp2_with (first | ((with_reducible refine gate_callee (f := 176) rfl ?_); refine goesL_ (some 14) rfl rfl Tryd.func176 (by kernel_rfl) rfl #[.int .i64 a0] rfl (by (try simp only [List.map_toArray, List.map_cons, List.map_nil]); first | done | rfl | (simp only [List.length_drop, List.length_take]; rfl)) ?_; (with_reducible refine (isa86_num.calls a0 t106 _ A8.out).mono ?_); rintro e w' ⟨rfl, ⟨nd, rfl⟩⟩; refine ⟨_, rfl, ?_⟩; (try (rw [drewN_self wc]; generalize hq_ : World.drewN wc _ = wc; have n0_ : Aside0 (wc.heap[gb104]? = some (.cells #[.slice none 0 0, .int .i64 0] 139 (0, 0))) := ⟨by rw [← hq_]; exact (by (with_reducible repeat (first | refine blk_drewN ?_ _ | refine blk_drew ?_ | refine blk_alloc ?_ _)); exact BK104.out)⟩; have n1_ : Aside0 (Below w.heap.size w wc) := ⟨by rw [← hq_]; exact (by repeat (first | (with_reducible first | exact HB.out | apply below_alloc | apply pw_below_drewN | apply below_drew1 | refine below_set ?_ GE104.out) | exact HB.out))⟩; clear BK104 HB hq_; have BK104 := n0_; have HB := n1_; clear n0_ n1_))) | ((with_reducible refine gate_callee (f := 178) rfl ?_); refine goesL_ (some 15) rfl rfl Tryd.func178 (by kernel_rfl) rfl #[.int .u8 t106, .int .u8 7] rfl (by (try simp only [List.map_toArray, List.map_cons, List.map_nil]); first | done | rfl | (simp only [List.length_drop, List.length_take]; rfl)) ?_; (with_reducible refine (isa86_mem.calls t106 7 t107 _ A9.out).mono ?_); rintro e w' ⟨rfl, ⟨nd, rfl⟩⟩; refine ⟨_, rfl, ?_⟩; (try (rw [drewN_self wc]; generalize hq_ : World.drewN wc _ = wc; have n0_ : Aside0 (wc.heap[gb104]? = some (.cells #[.slice none 0 0, .int .i64 0] 139 (0, 0))) := ⟨by rw [← hq_]; exact (by (with_reducible repeat (first | refine blk_drewN ?_ _ | refine blk_drew ?_ | refine blk_alloc ?_ _)); exact BK104.out)⟩; have n1_ : Aside0 (Below w.heap.size w wc) := ⟨by rw [← hq_]; exact (by repeat (first | (with_reducible first | exact HB.out | apply below_alloc | apply pw_below_drewN | apply below_drew1 | refine below_set ?_ GE104.out) | exact HB.out))⟩; clear BK104 HB hq_; have BK104 := n0_; have HB := n1_; clear n0_ n1_))) | ((with_reducible refine gate_dst (N := 16) rfl ?_); refine Kd.R_lit (Kd.int .u8) _ 5 ?hg (N := 16) ?hd (xs := ([138, t107] : List Int)) (inner := [.int .u8 138, .int .u8 t107]) (ok := fun _ => True) (okp := fun _ => True) ?hr ?hp (fun _ hk => hk) trivial (Below.refl _ _) (Nat.le_refl _) (by simp) ?_; (case hd => rfl); (case hg => rfl); (case hr => first | (go_simp; done) | (go_simp; rfl)); (case hp => exact (Reps.one (show Kd.M (Kd.int .u8) _ _ _ 138 [.int .u8 138] from rfl) (Reps.one (show Kd.M (Kd.int .u8) _ _ _ t107 [.int .u8 t107] from rfl) (Reps.none _ _)))); intro v109 w11 ho12 hb hg_ hnew_; clear hg_ hnew_; (first | rw [← Ny108.out] at ho12 | (simp only [Int.reduceToNat] at ho12; rw [← Ny108.out] at ho12)); have n0_ := Aside0.mk (Kd.R_lower ho12 (below_size (by repeat (first | (with_reducible first | exact HB.out | apply below_alloc | apply pw_below_drewN | apply below_drew1 | refine below_set ?_ GE104.out) | exact HB.out)))); have n1_ := Aside0.mk (blk_below (g := gb104) (o := .cells #[.slice none 0 0, .int .i64 0] 139 (0, 0)) (by (with_reducible repeat (first | refine blk_drewN ?_ _ | refine blk_drew ?_ | refine blk_alloc ?_ _)); exact BK104.out) hb); have n2_ := Aside0.mk (below_step (by repeat (first | (with_reducible first | exact HB.out | apply below_alloc | apply pw_below_drewN | apply below_drew1 | refine below_set ?_ GE104.out) | exact HB.out)) hb); clear BK104; clear HB; have HO110 := n0_; have BK104 := n1_; have HB := n2_; clear n0_ n1_ n2_; clear hb ho12; obtain ⟨Ao13, co13, eo13⟩ := Kd.R_slice HO110.out; subst eo13) | ((with_reducible refine gate_callee (f := 157) rfl ?_); refine goesL_ (some 17) rfl rfl Tryd.func157 (by kernel_rfl) rfl #[.int .i64 0, .slice Ao13 y108.length co13] rfl (by (try simp only [List.map_toArray, List.map_cons, List.map_nil]); first | done | rfl | (simp only [List.length_drop, List.length_take]; rfl)) ?_; (with_reducible refine (isa86_of.calls 0 (fun k_ => some k_ = (.slice Ao13 y108.length co13 : Value).ownBlock) (.slice Ao13 y108.length co13) y108 t111 t114 w _ ?side1 ?side2 A10.out).mono ?_); (case side1 => repeat (first | (with_reducible first | exact HB.out | apply below_alloc | apply pw_below_drewN | apply below_drew1 | refine below_set ?_ GE104.out) | exact HB.out)); (case side2 => exact Kd.R_tight rfl HO110.out); rintro e w14 ⟨v112, rfl, ho0, hb, hkp⟩; refine ⟨_, rfl, ?_⟩; have n0_ := Aside0.mk (blk_kept (by (with_reducible repeat (first | refine blk_drewN ?_ _ | refine blk_drew ?_ | refine blk_alloc ?_ _)); exact BK104.out) hkp (fun hs_ => (fun e_ => (Kd.R_ne HO110.out BK104.out (by decide)) e_) hs_)); have n1_ := Aside0.mk (Kd.R_mono (ok' := fun k_ => True) ho0 (fun k_ hk_ => trivial)); have n2_ := Aside0.mk (hb); clear BK104; clear HB; clear HO110; have BK104 := n0_; have HO113 := n1_; have HB := n2_; clear n0_ n1_ n2_; (try clear hb); (try clear hkp); (try clear ho0); obtain ⟨Ao15, co15, eo15⟩ := Kd.R_slice HO113.out; subst eo15; have hcz16_0 : w14.cell? ⟨gb104, 0, none⟩ = some (.slice none 0 0) := (blk_cell BK104.out 0).trans rfl; have hcz16_1 : w14.cell? ⟨gb104, 1, none⟩ = some (.int .i64 0) := (blk_cell BK104.out 1).trans rfl; have hfz16_0 := blk_frozen BK104.out 0; have hfz16_1 := blk_frozen BK104.out 1))
        refine bodyPost_ret (results_cell_row rfl _ _ gb104 139 #[.slice Ao15 t111.length co15, .int .i64 t114] (0, 0) _ rfl (by (with_reducible repeat (first | refine blk_drewN ?_ _ | refine blk_drew ?_ | refine blk_alloc ?_ _)); refine blk_put (cs := #[.slice Ao15 t111.length co15, .int .i64 0]) ?_ 1 _ rfl; (with_reducible repeat (first | refine blk_drewN ?_ _ | refine blk_drew ?_ | refine blk_alloc ?_ _)); refine blk_put (cs := #[.slice none 0 0, .int .i64 0]) ?_ 0 _ rfl; (with_reducible repeat (first | refine blk_drewN ?_ _ | refine blk_drew ?_ | refine blk_alloc ?_ _)); exact BK104.out) Tryd.underlying139 rfl (by kernel_rfl)) rfl ?_
        exact ⟨_, by first | rfl | (simp [errW_none, errW_some] <;> rfl) | (simp [*, errW_none, errW_some] <;> rfl), by (with_reducible repeat (first | apply Kd.R_alloc | apply Kd.R_drewN | apply Kd.R_drew)); exact Kd.R_mono (Kd.R_far (p := ⟨gb104, 1, none⟩) (Kd.R_far (p := ⟨gb104, 0, none⟩) (Kd.R_types HO113.out BK104.out (by decide)) (fun _ hk => hk.2) (.slice Ao15 t111.length co15)) (fun _ hk => hk.2) (.int .i64 t114)) (fun _ hk => trivial), by repeat (first | (with_reducible first | exact HB.out | apply below_alloc | apply pw_below_drewN | apply below_drew1 | refine below_set ?_ GE104.out) | exact HB.out)⟩
      · replace c7 := Bool.eq_false_iff.mpr c7
        subst c7
        have H1 : (if a0 = 17 then ((isa86_wide.f kj2 a1).bind fun t115 => (isa86_places.j1 kj2 a0 a1 (t115 == 8))) else (isa86_places.j1 kj2 a0 a1 false)) = some (r1, r2) := by rw [if_neg (show ¬ (false = true) by decide)] at H; exact H
        clear H
        have H := H1
        clear H1
        have HC17 := Aside0.mk H
        clear H
        go_upto_region 3 with (fail)
        go_cut [18] (fun v18 wc => ∃ (kq : Nat) (x18_16 : Bool), v18 = .bool x18_16 ∧ Aside0 (isa86_places.j1 kq a0 a1 x18_16 = some (r1, r2)) ∧ Aside0 (kq ≤ kj2) ∧ Aside0 (wc.heap[gb104]? = some (.cells #[(.slice none 0 0), .int .i64 0] 139 (0, 0))) ∧ Aside0 (Below w.heap.size w wc))
        case first =>
          have H := HC17.out
          clear HC17
          by_cases c18 : a0 = 17
          · rw [if_pos c18] at H
            have c18b0 : (a0 == 17) = true := beq_iff_eq.mpr c18
            have c18b1 : (a0 != 17) = false := bne_eq_false_iff_eq.mpr c18
            clear c18
            (first | rw [c18b0] | (simp only [i64_w, i32_w]; rw [c18b0]) | skip)
            replace H := Option.bind_eq_some_iff.mp H
            obtain ⟨t115, A190, H⟩ := H
            replace H : (isa86_places.j1 kj2 a0 a1 (t115 == 8)) = some (r1, r2) := H
            have A19 := Aside0.mk A190
            clear A190
            have H' := Aside0.mk H
            clear H
            go_wp2_with (first | (go_at_call 174; (with_reducible refine (isa86_wide.calls kj2 a1 t115 _ A19.out).mono ?_); rintro e w' ⟨rfl, ⟨nd, rfl⟩⟩))
            go_meet
            case rel => exact ⟨_, ((t115 == 8)), (by first | rfl | (simp; done) | (simp [*]; done)), H', ⟨by have := HJ2.out; first | omega | exact Nat.le_refl _⟩, ⟨by (with_reducible repeat (first | refine blk_drewN ?_ _ | refine blk_drew ?_ | refine blk_alloc ?_ _)); exact BK104.out⟩, ⟨by repeat (first | (with_reducible first | exact HB.out | apply below_alloc | apply pw_below_drewN | apply below_drew1 | refine below_set ?_ GE104.out) | exact HB.out)⟩⟩
          · rw [if_neg c18] at H
            have c18b0 : (a0 == 17) = false := beq_eq_false_iff_ne.mpr c18
            have c18b1 : (a0 != 17) = true := bne_iff_ne.mpr c18
            (first | rw [c18b0] | (simp only [i64_w, i32_w]; rw [c18b0]) | skip)
            have H' := Aside0.mk H
            clear H
            go_wp2
            go_meet
            case rel => exact ⟨_, (false), (by first | rfl | (simp; done) | (simp [*]; done)), H', ⟨by have := HJ2.out; first | omega | exact Nat.le_refl _⟩, ⟨by (with_reducible repeat (first | refine blk_drewN ?_ _ | refine blk_drew ?_ | refine blk_alloc ?_ _)); exact BK104.out⟩, ⟨by repeat (first | (with_reducible first | exact HB.out | apply below_alloc | apply pw_below_drewN | apply below_drew1 | refine below_set ?_ GE104.out) | exact HB.out)⟩⟩
        case rest =>
          clear HC17
          try clear c1
          try clear p2
          try clear c6
          try clear c6b0
          try clear c6b1
          try clear c7
          try clear c15
          try clear c17
          try clear c18
          try clear c18b0
          try clear c18b1
          try clear hcz16_0
          try clear hcz16_1
          try clear hfz16_0
          try clear hfz16_1
          try clear p2
          obtain ⟨kq, x18_16, rfl, HA, HJ16, BK104, HB⟩ := hcut
          cases kq with
          | zero => exact absurd HA.out (by simp [isa86_places.j1])
          | succ kj16 =>
            have H := HA.out
            clear HA
            simp only [isa86_places.j1] at H
            by_cases c20 : x18_16 = true
            · subst c20
              have H1 : ((isa86_num.f a1).bind fun t116 => ((isa86_mem.f t116 7).bind fun t117 => ((isa86_of.f 0 (([136, t117] : List Int))).bind fun bt121 => (some (bt121.1, bt121.2))))) = some (r1, r2) := by rw [if_pos rfl] at H; exact H
              clear H
              have H := H1
              clear H1
              replace H := Option.bind_eq_some_iff.mp H
              obtain ⟨t116, A210, H⟩ := H
              replace H : ((isa86_mem.f t116 7).bind fun t117 => ((isa86_of.f 0 (([136, t117] : List Int))).bind fun bt121 => (some (bt121.1, bt121.2)))) = some (r1, r2) := H
              have A21 := Aside0.mk A210
              clear A210
              replace H := Option.bind_eq_some_iff.mp H
              obtain ⟨t117, A220, H⟩ := H
              replace H : ((isa86_of.f 0 (([136, t117] : List Int))).bind fun bt121 => (some (bt121.1, bt121.2))) = some (r1, r2) := H
              have A22 := Aside0.mk A220
              clear A220
              obtain ⟨y118, hy118⟩ : ∃ y_ : List Int, y_ = (([136, t117] : List Int)) := ⟨_, rfl⟩
              replace H : ((isa86_of.f 0 y118).bind fun bt121 => (some (bt121.1, bt121.2))) = some (r1, r2) := by first | (rw [hy118]; with_reducible exact H) | (have H2_ := (Option.bind_some _ _).symm.trans H; rw [hy118]; with_reducible exact H2_) | (have H2_ := (Option.bind_some _ _).symm.trans H; with_reducible exact H2_) | with_reducible exact H | (rw [hy118]; exact H) | exact H
              have Ny118 := Aside0.mk hy118
              clear hy118
              replace H := Option.bind_eq_some_iff.mp H
              obtain ⟨⟨t121, t124⟩, A230, H⟩ := H
              replace H : (some (t121, t124)) = some (r1, r2) := H
              have A23 := Aside0.mk A230
              clear A230
              simp only [Option.some.injEq, Prod.mk.injEq] at H
              obtain ⟨rfl, rfl⟩ := H
              go_wp2_with (first | ((with_reducible refine gate_callee (f := 176) rfl ?_); refine goesL_ (some 27) rfl rfl Tryd.func176 (by kernel_rfl) rfl #[.int .i64 a1] rfl (by (try simp only [List.map_toArray, List.map_cons, List.map_nil]); first | done | rfl | (simp only [List.length_drop, List.length_take]; rfl)) ?_; (with_reducible refine (isa86_num.calls a1 t116 _ A21.out).mono ?_); rintro e w' ⟨rfl, ⟨nd, rfl⟩⟩; refine ⟨_, rfl, ?_⟩; (try (rw [drewN_self wc]; generalize hq_ : World.drewN wc _ = wc; have n0_ : Aside0 (wc.heap[gb104]? = some (.cells #[.slice none 0 0, .int .i64 0] 139 (0, 0))) := ⟨by rw [← hq_]; exact (by (with_reducible repeat (first | refine blk_drewN ?_ _ | refine blk_drew ?_ | refine blk_alloc ?_ _)); exact BK104.out)⟩; have n1_ : Aside0 (Below w.heap.size w wc) := ⟨by rw [← hq_]; exact (by repeat (first | (with_reducible first | exact HB.out | apply below_alloc | apply pw_below_drewN | apply below_drew1 | refine below_set ?_ GE104.out) | exact HB.out))⟩; clear BK104 HB hq_; have BK104 := n0_; have HB := n1_; clear n0_ n1_))) | ((with_reducible refine gate_callee (f := 178) rfl ?_); refine goesL_ (some 28) rfl rfl Tryd.func178 (by kernel_rfl) rfl #[.int .u8 t116, .int .u8 7] rfl (by (try simp only [List.map_toArray, List.map_cons, List.map_nil]); first | done | rfl | (simp only [List.length_drop, List.length_take]; rfl)) ?_; (with_reducible refine (isa86_mem.calls t116 7 t117 _ A22.out).mono ?_); rintro e w' ⟨rfl, ⟨nd, rfl⟩⟩; refine ⟨_, rfl, ?_⟩; (try (rw [drewN_self wc]; generalize hq_ : World.drewN wc _ = wc; have n0_ : Aside0 (wc.heap[gb104]? = some (.cells #[.slice none 0 0, .int .i64 0] 139 (0, 0))) := ⟨by rw [← hq_]; exact (by (with_reducible repeat (first | refine blk_drewN ?_ _ | refine blk_drew ?_ | refine blk_alloc ?_ _)); exact BK104.out)⟩; have n1_ : Aside0 (Below w.heap.size w wc) := ⟨by rw [← hq_]; exact (by repeat (first | (with_reducible first | exact HB.out | apply below_alloc | apply pw_below_drewN | apply below_drew1 | refine below_set ?_ GE104.out) | exact HB.out))⟩; clear BK104 HB hq_; have BK104 := n0_; have HB := n1_; clear n0_ n1_))) | ((with_reducible refine gate_dst (N := 29) rfl ?_); refine Kd.R_lit (Kd.int .u8) _ 5 ?hg (N := 29) ?hd (xs := ([136, t117] : List Int)) (inner := [.int .u8 136, .int .u8 t117]) (ok := fun _ => True) (okp := fun _ => True) ?hr ?hp (fun _ hk => hk) trivial (Below.refl _ _) (Nat.le_refl _) (by simp) ?_; (case hd => rfl); (case hg => rfl); (case hr => first | (go_simp; done) | (go_simp; rfl)); (case hp => exact (Reps.one (show Kd.M (Kd.int .u8) _ _ _ 136 [.int .u8 136] from rfl) (Reps.one (show Kd.M (Kd.int .u8) _ _ _ t117 [.int .u8 t117] from rfl) (Reps.none _ _)))); intro v119 w24 ho25 hb hg_ hnew_; clear hg_ hnew_; (first | rw [← Ny118.out] at ho25 | (simp only [Int.reduceToNat] at ho25; rw [← Ny118.out] at ho25)); have n0_ := Aside0.mk (Kd.R_lower ho25 (below_size (by repeat (first | (with_reducible first | exact HB.out | apply below_alloc | apply pw_below_drewN | apply below_drew1 | refine below_set ?_ GE104.out) | exact HB.out)))); have n1_ := Aside0.mk (blk_below (g := gb104) (o := .cells #[.slice none 0 0, .int .i64 0] 139 (0, 0)) (by (with_reducible repeat (first | refine blk_drewN ?_ _ | refine blk_drew ?_ | refine blk_alloc ?_ _)); exact BK104.out) hb); have n2_ := Aside0.mk (below_step (by repeat (first | (with_reducible first | exact HB.out | apply below_alloc | apply pw_below_drewN | apply below_drew1 | refine below_set ?_ GE104.out) | exact HB.out)) hb); clear BK104; clear HB; have HO120 := n0_; have BK104 := n1_; have HB := n2_; clear n0_ n1_ n2_; clear hb ho25; obtain ⟨Ao26, co26, eo26⟩ := Kd.R_slice HO120.out; subst eo26) | ((with_reducible refine gate_callee (f := 157) rfl ?_); refine goesL_ (some 30) rfl rfl Tryd.func157 (by kernel_rfl) rfl #[.int .i64 0, .slice Ao26 y118.length co26] rfl (by (try simp only [List.map_toArray, List.map_cons, List.map_nil]); first | done | rfl | (simp only [List.length_drop, List.length_take]; rfl)) ?_; (with_reducible refine (isa86_of.calls 0 (fun k_ => some k_ = (.slice Ao26 y118.length co26 : Value).ownBlock) (.slice Ao26 y118.length co26) y118 t121 t124 w _ ?side1 ?side2 A23.out).mono ?_); (case side1 => repeat (first | (with_reducible first | exact HB.out | apply below_alloc | apply pw_below_drewN | apply below_drew1 | refine below_set ?_ GE104.out) | exact HB.out)); (case side2 => exact Kd.R_tight rfl HO120.out); rintro e w27 ⟨v122, rfl, ho0, hb, hkp⟩; refine ⟨_, rfl, ?_⟩; have n0_ := Aside0.mk (blk_kept (by (with_reducible repeat (first | refine blk_drewN ?_ _ | refine blk_drew ?_ | refine blk_alloc ?_ _)); exact BK104.out) hkp (fun hs_ => (fun e_ => (Kd.R_ne HO120.out BK104.out (by decide)) e_) hs_)); have n1_ := Aside0.mk (Kd.R_mono (ok' := fun k_ => True) ho0 (fun k_ hk_ => trivial)); have n2_ := Aside0.mk (hb); clear BK104; clear HB; clear HO120; have BK104 := n0_; have HO123 := n1_; have HB := n2_; clear n0_ n1_ n2_; (try clear hb); (try clear hkp); (try clear ho0); obtain ⟨Ao28, co28, eo28⟩ := Kd.R_slice HO123.out; subst eo28; have hcz29_0 : w27.cell? ⟨gb104, 0, none⟩ = some (.slice none 0 0) := (blk_cell BK104.out 0).trans rfl; have hcz29_1 : w27.cell? ⟨gb104, 1, none⟩ = some (.int .i64 0) := (blk_cell BK104.out 1).trans rfl; have hfz29_0 := blk_frozen BK104.out 0; have hfz29_1 := blk_frozen BK104.out 1))
              refine bodyPost_ret (results_cell_row rfl _ _ gb104 139 #[.slice Ao28 t121.length co28, .int .i64 t124] (0, 0) _ rfl (by (with_reducible repeat (first | refine blk_drewN ?_ _ | refine blk_drew ?_ | refine blk_alloc ?_ _)); refine blk_put (cs := #[.slice Ao28 t121.length co28, .int .i64 0]) ?_ 1 _ rfl; (with_reducible repeat (first | refine blk_drewN ?_ _ | refine blk_drew ?_ | refine blk_alloc ?_ _)); refine blk_put (cs := #[.slice none 0 0, .int .i64 0]) ?_ 0 _ rfl; (with_reducible repeat (first | refine blk_drewN ?_ _ | refine blk_drew ?_ | refine blk_alloc ?_ _)); exact BK104.out) Tryd.underlying139 rfl (by kernel_rfl)) rfl ?_
              exact ⟨_, by first | rfl | (simp [errW_none, errW_some] <;> rfl) | (simp [*, errW_none, errW_some] <;> rfl), by (with_reducible repeat (first | apply Kd.R_alloc | apply Kd.R_drewN | apply Kd.R_drew)); exact Kd.R_mono (Kd.R_far (p := ⟨gb104, 1, none⟩) (Kd.R_far (p := ⟨gb104, 0, none⟩) (Kd.R_types HO123.out BK104.out (by decide)) (fun _ hk => hk.2) (.slice Ao28 t121.length co28)) (fun _ hk => hk.2) (.int .i64 t124)) (fun _ hk => trivial), by repeat (first | (with_reducible first | exact HB.out | apply below_alloc | apply pw_below_drewN | apply below_drew1 | refine below_set ?_ GE104.out) | exact HB.out)⟩
            · replace c20 := Bool.eq_false_iff.mpr c20
              subst c20
              have H1 : (if a0 = 1 then (isa86_places.j2 kj16 a0 a1 (a1 == 18)) else (isa86_places.j2 kj16 a0 a1 false)) = some (r1, r2) := by rw [if_neg (show ¬ (false = true) by decide)] at H; exact H
              clear H
              have H := H1
              clear H1
              have HC30 := Aside0.mk H
              clear H
              go_upto_region 5 with (fail)
              go_cut [31] (fun v31 wc => ∃ (kq : Nat) (x31_29 : Bool), v31 = .bool x31_29 ∧ Aside0 (isa86_places.j2 kq a0 a1 x31_29 = some (r1, r2)) ∧ Aside0 (kq ≤ kj16) ∧ Aside0 (wc.heap[gb104]? = some (.cells #[(.slice none 0 0), .int .i64 0] 139 (0, 0))) ∧ Aside0 (Below w.heap.size w wc))
              case first =>
                have H := HC30.out
                clear HC30
                by_cases c31 : a0 = 1
                · rw [if_pos c31] at H
                  have c31b0 : (a0 == 1) = true := beq_iff_eq.mpr c31
                  have c31b1 : (a0 != 1) = false := bne_eq_false_iff_eq.mpr c31
                  clear c31
                  (first | rw [c31b0] | (simp only [i64_w, i32_w]; rw [c31b0]) | skip)
                  have H' := Aside0.mk H
                  clear H
                  go_wp2
                  go_meet
                  case rel => exact ⟨_, ((a1 == 18)), (by first | rfl | (simp; done) | (simp [*]; done)), H', ⟨by have := HJ2.out; have := HJ16.out; first | omega | exact Nat.le_refl _⟩, ⟨by (with_reducible repeat (first | refine blk_drewN ?_ _ | refine blk_drew ?_ | refine blk_alloc ?_ _)); exact BK104.out⟩, ⟨by repeat (first | (with_reducible first | exact HB.out | apply below_alloc | apply pw_below_drewN | apply below_drew1 | refine below_set ?_ GE104.out) | exact HB.out)⟩⟩
                · rw [if_neg c31] at H
                  have c31b0 : (a0 == 1) = false := beq_eq_false_iff_ne.mpr c31
                  have c31b1 : (a0 != 1) = true := bne_iff_ne.mpr c31
                  (first | rw [c31b0] | (simp only [i64_w, i32_w]; rw [c31b0]) | skip)
                  have H' := Aside0.mk H
                  clear H
                  go_wp2
                  go_meet
                  case rel => exact ⟨_, (false), (by first | rfl | (simp; done) | (simp [*]; done)), H', ⟨by have := HJ2.out; have := HJ16.out; first | omega | exact Nat.le_refl _⟩, ⟨by (with_reducible repeat (first | refine blk_drewN ?_ _ | refine blk_drew ?_ | refine blk_alloc ?_ _)); exact BK104.out⟩, ⟨by repeat (first | (with_reducible first | exact HB.out | apply below_alloc | apply pw_below_drewN | apply below_drew1 | refine below_set ?_ GE104.out) | exact HB.out)⟩⟩
              case rest =>
                clear HC30
                try clear c1
                try clear c2
                try clear p2
                try clear c3
                try clear c6
                try clear c6b0
                try clear c6b1
                try clear c7
                try clear c15
                try clear c17
                try clear c18
                try clear c18b0
                try clear c18b1
                try clear c20
                try clear c31
                try clear c31b0
                try clear c31b1
                try clear hcz16_0
                try clear hcz16_1
                try clear hcz29_0
                try clear hcz29_1
                try clear hfz16_0
                try clear hfz16_1
                try clear hfz29_0
                try clear hfz29_1
                try clear p2
                obtain ⟨kq, x31_29, rfl, HA, HJ29, BK104, HB⟩ := hcut
                cases kq with
                | zero => exact absurd HA.out (by simp [isa86_places.j2])
                | succ kj29 =>
                  have H := HA.out
                  clear HA
                  simp only [isa86_places.j2] at H
                  by_cases c32 : x31_29 = true
                  · subst c32
                    have H1 : ((isa86_of.f 0 (([138, 4] : List Int))).bind fun bt128 => (some (bt128.1, bt128.2))) = some (r1, r2) := by rw [if_pos rfl] at H; exact H
                    clear H
                    have H := H1
                    clear H1
                    obtain ⟨y125, hy125⟩ : ∃ y_ : List Int, y_ = (([138, 4] : List Int)) := ⟨_, rfl⟩
                    replace H : ((isa86_of.f 0 y125).bind fun bt128 => (some (bt128.1, bt128.2))) = some (r1, r2) := by first | (rw [hy125]; with_reducible exact H) | (have H2_ := (Option.bind_some _ _).symm.trans H; rw [hy125]; with_reducible exact H2_) | (have H2_ := (Option.bind_some _ _).symm.trans H; with_reducible exact H2_) | with_reducible exact H | (rw [hy125]; exact H) | exact H
                    have Ny125 := Aside0.mk hy125
                    clear hy125
                    replace H := Option.bind_eq_some_iff.mp H
                    obtain ⟨⟨t128, t131⟩, A330, H⟩ := H
                    replace H : (some (t128, t131)) = some (r1, r2) := H
                    have A33 := Aside0.mk A330
                    clear A330
                    simp only [Option.some.injEq, Prod.mk.injEq] at H
                    obtain ⟨rfl, rfl⟩ := H
                    go_wp2_with (first | ((with_reducible refine gate_dst (N := 38) rfl ?_); refine Kd.R_lit (Kd.int .u8) _ 5 ?hg (N := 38) ?hd (xs := ([138, 4] : List Int)) (inner := [.int .u8 138, .int .u8 4]) (ok := fun _ => True) (okp := fun _ => True) ?hr ?hp (fun _ hk => hk) trivial (Below.refl _ _) (Nat.le_refl _) (by simp) ?_; (case hd => rfl); (case hg => rfl); (case hr => first | (go_simp; done) | (go_simp; rfl)); (case hp => exact (Reps.one (show Kd.M (Kd.int .u8) _ _ _ 138 [.int .u8 138] from rfl) (Reps.one (show Kd.M (Kd.int .u8) _ _ _ 4 [.int .u8 4] from rfl) (Reps.none _ _)))); intro v126 w34 ho35 hb hg_ hnew_; clear hg_ hnew_; (first | rw [← Ny125.out] at ho35 | (simp only [Int.reduceToNat] at ho35; rw [← Ny125.out] at ho35)); have n0_ := Aside0.mk (Kd.R_lower ho35 (below_size (by repeat (first | (with_reducible first | exact HB.out | apply below_alloc | apply pw_below_drewN | apply below_drew1 | refine below_set ?_ GE104.out) | exact HB.out)))); have n1_ := Aside0.mk (blk_below (g := gb104) (o := .cells #[.slice none 0 0, .int .i64 0] 139 (0, 0)) (by (with_reducible repeat (first | refine blk_drewN ?_ _ | refine blk_drew ?_ | refine blk_alloc ?_ _)); exact BK104.out) hb); have n2_ := Aside0.mk (below_step (by repeat (first | (with_reducible first | exact HB.out | apply below_alloc | apply pw_below_drewN | apply below_drew1 | refine below_set ?_ GE104.out) | exact HB.out)) hb); clear BK104; clear HB; have HO127 := n0_; have BK104 := n1_; have HB := n2_; clear n0_ n1_ n2_; clear hb ho35; obtain ⟨Ao36, co36, eo36⟩ := Kd.R_slice HO127.out; subst eo36) | ((with_reducible refine gate_callee (f := 157) rfl ?_); refine goesL_ (some 39) rfl rfl Tryd.func157 (by kernel_rfl) rfl #[.int .i64 0, .slice Ao36 y125.length co36] rfl (by (try simp only [List.map_toArray, List.map_cons, List.map_nil]); first | done | rfl | (simp only [List.length_drop, List.length_take]; rfl)) ?_; (with_reducible refine (isa86_of.calls 0 (fun k_ => some k_ = (.slice Ao36 y125.length co36 : Value).ownBlock) (.slice Ao36 y125.length co36) y125 t128 t131 w _ ?side1 ?side2 A33.out).mono ?_); (case side1 => repeat (first | (with_reducible first | exact HB.out | apply below_alloc | apply pw_below_drewN | apply below_drew1 | refine below_set ?_ GE104.out) | exact HB.out)); (case side2 => exact Kd.R_tight rfl HO127.out); rintro e w37 ⟨v129, rfl, ho0, hb, hkp⟩; refine ⟨_, rfl, ?_⟩; have n0_ := Aside0.mk (blk_kept (by (with_reducible repeat (first | refine blk_drewN ?_ _ | refine blk_drew ?_ | refine blk_alloc ?_ _)); exact BK104.out) hkp (fun hs_ => (fun e_ => (Kd.R_ne HO127.out BK104.out (by decide)) e_) hs_)); have n1_ := Aside0.mk (Kd.R_mono (ok' := fun k_ => True) ho0 (fun k_ hk_ => trivial)); have n2_ := Aside0.mk (hb); clear BK104; clear HB; clear HO127; have BK104 := n0_; have HO130 := n1_; have HB := n2_; clear n0_ n1_ n2_; (try clear hb); (try clear hkp); (try clear ho0); obtain ⟨Ao38, co38, eo38⟩ := Kd.R_slice HO130.out; subst eo38; have hcz39_0 : w37.cell? ⟨gb104, 0, none⟩ = some (.slice none 0 0) := (blk_cell BK104.out 0).trans rfl; have hcz39_1 : w37.cell? ⟨gb104, 1, none⟩ = some (.int .i64 0) := (blk_cell BK104.out 1).trans rfl; have hfz39_0 := blk_frozen BK104.out 0; have hfz39_1 := blk_frozen BK104.out 1))
                    refine bodyPost_ret (results_cell_row rfl _ _ gb104 139 #[.slice Ao38 t128.length co38, .int .i64 t131] (0, 0) _ rfl (by (with_reducible repeat (first | refine blk_drewN ?_ _ | refine blk_drew ?_ | refine blk_alloc ?_ _)); refine blk_put (cs := #[.slice Ao38 t128.length co38, .int .i64 0]) ?_ 1 _ rfl; (with_reducible repeat (first | refine blk_drewN ?_ _ | refine blk_drew ?_ | refine blk_alloc ?_ _)); refine blk_put (cs := #[.slice none 0 0, .int .i64 0]) ?_ 0 _ rfl; (with_reducible repeat (first | refine blk_drewN ?_ _ | refine blk_drew ?_ | refine blk_alloc ?_ _)); exact BK104.out) Tryd.underlying139 rfl (by kernel_rfl)) rfl ?_
                    exact ⟨_, by first | rfl | (simp [errW_none, errW_some] <;> rfl) | (simp [*, errW_none, errW_some] <;> rfl), by (with_reducible repeat (first | apply Kd.R_alloc | apply Kd.R_drewN | apply Kd.R_drew)); exact Kd.R_mono (Kd.R_far (p := ⟨gb104, 1, none⟩) (Kd.R_far (p := ⟨gb104, 0, none⟩) (Kd.R_types HO130.out BK104.out (by decide)) (fun _ hk => hk.2) (.slice Ao38 t128.length co38)) (fun _ hk => hk.2) (.int .i64 t131)) (fun _ hk => trivial), by repeat (first | (with_reducible first | exact HB.out | apply below_alloc | apply pw_below_drewN | apply below_drew1 | refine below_set ?_ GE104.out) | exact HB.out)⟩
                  · replace c32 := Bool.eq_false_iff.mpr c32
                    subst c32
                    have H1 : (if a0 = 18 then (isa86_places.j3 kj29 a0 a1 (a1 == 1)) else (isa86_places.j3 kj29 a0 a1 false)) = some (r1, r2) := by rw [if_neg (show ¬ (false = true) by decide)] at H; exact H
                    clear H
                    have H := H1
                    clear H1
                    have HC40 := Aside0.mk H
                    clear H
                    go_upto_region 7 with (fail)
                    go_cut [40] (fun v40 wc => ∃ (kq : Nat) (x40_39 : Bool), v40 = .bool x40_39 ∧ Aside0 (isa86_places.j3 kq a0 a1 x40_39 = some (r1, r2)) ∧ Aside0 (kq ≤ kj29) ∧ Aside0 (wc.heap[gb104]? = some (.cells #[(.slice none 0 0), .int .i64 0] 139 (0, 0))) ∧ Aside0 (Below w.heap.size w wc))
                    case first =>
                      have H := HC40.out
                      clear HC40
                      by_cases c41 : a0 = 18
                      · rw [if_pos c41] at H
                        have c41b0 : (a0 == 18) = true := beq_iff_eq.mpr c41
                        have c41b1 : (a0 != 18) = false := bne_eq_false_iff_eq.mpr c41
                        clear c41
                        (first | rw [c41b0] | (simp only [i64_w, i32_w]; rw [c41b0]) | skip)
                        have H' := Aside0.mk H
                        clear H
                        go_wp2
                        go_meet
                        case rel => exact ⟨_, ((a1 == 1)), (by first | rfl | (simp; done) | (simp [*]; done)), H', ⟨by have := HJ2.out; have := HJ16.out; have := HJ29.out; first | omega | exact Nat.le_refl _⟩, ⟨by (with_reducible repeat (first | refine blk_drewN ?_ _ | refine blk_drew ?_ | refine blk_alloc ?_ _)); exact BK104.out⟩, ⟨by repeat (first | (with_reducible first | exact HB.out | apply below_alloc | apply pw_below_drewN | apply below_drew1 | refine below_set ?_ GE104.out) | exact HB.out)⟩⟩
                      · rw [if_neg c41] at H
                        have c41b0 : (a0 == 18) = false := beq_eq_false_iff_ne.mpr c41
                        have c41b1 : (a0 != 18) = true := bne_iff_ne.mpr c41
                        (first | rw [c41b0] | (simp only [i64_w, i32_w]; rw [c41b0]) | skip)
                        have H' := Aside0.mk H
                        clear H
                        go_wp2
                        go_meet
                        case rel => exact ⟨_, (false), (by first | rfl | (simp; done) | (simp [*]; done)), H', ⟨by have := HJ2.out; have := HJ16.out; have := HJ29.out; first | omega | exact Nat.le_refl _⟩, ⟨by (with_reducible repeat (first | refine blk_drewN ?_ _ | refine blk_drew ?_ | refine blk_alloc ?_ _)); exact BK104.out⟩, ⟨by repeat (first | (with_reducible first | exact HB.out | apply below_alloc | apply pw_below_drewN | apply below_drew1 | refine below_set ?_ GE104.out) | exact HB.out)⟩⟩
                    case rest =>
                      clear HC40
                      try clear c1
                      try clear c2
                      try clear p2
                      try clear c3
                      try clear c4
                      try clear c6
                      try clear c6b0
                      try clear c6b1
                      try clear c7
                      try clear c15
                      try clear c17
                      try clear c18
                      try clear c18b0
                      try clear c18b1
                      try clear c20
                      try clear c31
                      try clear c31b0
                      try clear c31b1
                      try clear c32
                      try clear c41
                      try clear c41b0
                      try clear c41b1
                      try clear hcz16_0
                      try clear hcz16_1
                      try clear hcz29_0
                      try clear hcz29_1
                      try clear hcz39_0
                      try clear hcz39_1
                      try clear hfz16_0
                      try clear hfz16_1
                      try clear hfz29_0
                      try clear hfz29_1
                      try clear hfz39_0
                      try clear hfz39_1
                      try clear p2
                      obtain ⟨kq, x40_39, rfl, HA, HJ39, BK104, HB⟩ := hcut
                      cases kq with
                      | zero => exact absurd HA.out (by simp [isa86_places.j3])
                      | succ kj39 =>
                        have H := HA.out
                        clear HA
                        simp only [isa86_places.j3] at H
                        by_cases c42 : x40_39 = true
                        · subst c42
                          have H1 : ((isa86_of.f 0 (([136, 4] : List Int))).bind fun bt135 => (some (bt135.1, bt135.2))) = some (r1, r2) := by rw [if_pos rfl] at H; exact H
                          clear H
                          have H := H1
                          clear H1
                          obtain ⟨y132, hy132⟩ : ∃ y_ : List Int, y_ = (([136, 4] : List Int)) := ⟨_, rfl⟩
                          replace H : ((isa86_of.f 0 y132).bind fun bt135 => (some (bt135.1, bt135.2))) = some (r1, r2) := by first | (rw [hy132]; with_reducible exact H) | (have H2_ := (Option.bind_some _ _).symm.trans H; rw [hy132]; with_reducible exact H2_) | (have H2_ := (Option.bind_some _ _).symm.trans H; with_reducible exact H2_) | with_reducible exact H | (rw [hy132]; exact H) | exact H
                          have Ny132 := Aside0.mk hy132
                          clear hy132
                          replace H := Option.bind_eq_some_iff.mp H
                          obtain ⟨⟨t135, t138⟩, A430, H⟩ := H
                          replace H : (some (t135, t138)) = some (r1, r2) := H
                          have A43 := Aside0.mk A430
                          clear A430
                          simp only [Option.some.injEq, Prod.mk.injEq] at H
                          obtain ⟨rfl, rfl⟩ := H
                          go_wp2_with (first | ((with_reducible refine gate_dst (N := 47) rfl ?_); refine Kd.R_lit (Kd.int .u8) _ 5 ?hg (N := 47) ?hd (xs := ([136, 4] : List Int)) (inner := [.int .u8 136, .int .u8 4]) (ok := fun _ => True) (okp := fun _ => True) ?hr ?hp (fun _ hk => hk) trivial (Below.refl _ _) (Nat.le_refl _) (by simp) ?_; (case hd => rfl); (case hg => rfl); (case hr => first | (go_simp; done) | (go_simp; rfl)); (case hp => exact (Reps.one (show Kd.M (Kd.int .u8) _ _ _ 136 [.int .u8 136] from rfl) (Reps.one (show Kd.M (Kd.int .u8) _ _ _ 4 [.int .u8 4] from rfl) (Reps.none _ _)))); intro v133 w44 ho45 hb hg_ hnew_; clear hg_ hnew_; (first | rw [← Ny132.out] at ho45 | (simp only [Int.reduceToNat] at ho45; rw [← Ny132.out] at ho45)); have n0_ := Aside0.mk (Kd.R_lower ho45 (below_size (by repeat (first | (with_reducible first | exact HB.out | apply below_alloc | apply pw_below_drewN | apply below_drew1 | refine below_set ?_ GE104.out) | exact HB.out)))); have n1_ := Aside0.mk (blk_below (g := gb104) (o := .cells #[.slice none 0 0, .int .i64 0] 139 (0, 0)) (by (with_reducible repeat (first | refine blk_drewN ?_ _ | refine blk_drew ?_ | refine blk_alloc ?_ _)); exact BK104.out) hb); have n2_ := Aside0.mk (below_step (by repeat (first | (with_reducible first | exact HB.out | apply below_alloc | apply pw_below_drewN | apply below_drew1 | refine below_set ?_ GE104.out) | exact HB.out)) hb); clear BK104; clear HB; have HO134 := n0_; have BK104 := n1_; have HB := n2_; clear n0_ n1_ n2_; clear hb ho45; obtain ⟨Ao46, co46, eo46⟩ := Kd.R_slice HO134.out; subst eo46) | ((with_reducible refine gate_callee (f := 157) rfl ?_); refine goesL_ (some 48) rfl rfl Tryd.func157 (by kernel_rfl) rfl #[.int .i64 0, .slice Ao46 y132.length co46] rfl (by (try simp only [List.map_toArray, List.map_cons, List.map_nil]); first | done | rfl | (simp only [List.length_drop, List.length_take]; rfl)) ?_; (with_reducible refine (isa86_of.calls 0 (fun k_ => some k_ = (.slice Ao46 y132.length co46 : Value).ownBlock) (.slice Ao46 y132.length co46) y132 t135 t138 w _ ?side1 ?side2 A43.out).mono ?_); (case side1 => repeat (first | (with_reducible first | exact HB.out | apply below_alloc | apply pw_below_drewN | apply below_drew1 | refine below_set ?_ GE104.out) | exact HB.out)); (case side2 => exact Kd.R_tight rfl HO134.out); rintro e w47 ⟨v136, rfl, ho0, hb, hkp⟩; refine ⟨_, rfl, ?_⟩; have n0_ := Aside0.mk (blk_kept (by (with_reducible repeat (first | refine blk_drewN ?_ _ | refine blk_drew ?_ | refine blk_alloc ?_ _)); exact BK104.out) hkp (fun hs_ => (fun e_ => (Kd.R_ne HO134.out BK104.out (by decide)) e_) hs_)); have n1_ := Aside0.mk (Kd.R_mono (ok' := fun k_ => True) ho0 (fun k_ hk_ => trivial)); have n2_ := Aside0.mk (hb); clear BK104; clear HB; clear HO134; have BK104 := n0_; have HO137 := n1_; have HB := n2_; clear n0_ n1_ n2_; (try clear hb); (try clear hkp); (try clear ho0); obtain ⟨Ao48, co48, eo48⟩ := Kd.R_slice HO137.out; subst eo48; have hcz49_0 : w47.cell? ⟨gb104, 0, none⟩ = some (.slice none 0 0) := (blk_cell BK104.out 0).trans rfl; have hcz49_1 : w47.cell? ⟨gb104, 1, none⟩ = some (.int .i64 0) := (blk_cell BK104.out 1).trans rfl; have hfz49_0 := blk_frozen BK104.out 0; have hfz49_1 := blk_frozen BK104.out 1))
                          refine bodyPost_ret (results_cell_row rfl _ _ gb104 139 #[.slice Ao48 t135.length co48, .int .i64 t138] (0, 0) _ rfl (by (with_reducible repeat (first | refine blk_drewN ?_ _ | refine blk_drew ?_ | refine blk_alloc ?_ _)); refine blk_put (cs := #[.slice Ao48 t135.length co48, .int .i64 0]) ?_ 1 _ rfl; (with_reducible repeat (first | refine blk_drewN ?_ _ | refine blk_drew ?_ | refine blk_alloc ?_ _)); refine blk_put (cs := #[.slice none 0 0, .int .i64 0]) ?_ 0 _ rfl; (with_reducible repeat (first | refine blk_drewN ?_ _ | refine blk_drew ?_ | refine blk_alloc ?_ _)); exact BK104.out) Tryd.underlying139 rfl (by kernel_rfl)) rfl ?_
                          exact ⟨_, by first | rfl | (simp [errW_none, errW_some] <;> rfl) | (simp [*, errW_none, errW_some] <;> rfl), by (with_reducible repeat (first | apply Kd.R_alloc | apply Kd.R_drewN | apply Kd.R_drew)); exact Kd.R_mono (Kd.R_far (p := ⟨gb104, 1, none⟩) (Kd.R_far (p := ⟨gb104, 0, none⟩) (Kd.R_types HO137.out BK104.out (by decide)) (fun _ hk => hk.2) (.slice Ao48 t135.length co48)) (fun _ hk => hk.2) (.int .i64 t138)) (fun _ hk => trivial), by repeat (first | (with_reducible first | exact HB.out | apply below_alloc | apply pw_below_drewN | apply below_drew1 | refine below_set ?_ GE104.out) | exact HB.out)⟩
                        · replace c42 := Bool.eq_false_iff.mpr c42
                          subst c42
                          have H1 : (if a0 = 1 then (isa86_places.j4 kj39 a0 a1 (a1 == 19)) else (isa86_places.j4 kj39 a0 a1 false)) = some (r1, r2) := by rw [if_neg (show ¬ (false = true) by decide)] at H; exact H
                          clear H
                          have H := H1
                          clear H1
                          have HC50 := Aside0.mk H
                          clear H
                          go_upto_region 9 with (fail)
                          go_cut [49] (fun v49 wc => ∃ (kq : Nat) (x49_49 : Bool), v49 = .bool x49_49 ∧ Aside0 (isa86_places.j4 kq a0 a1 x49_49 = some (r1, r2)) ∧ Aside0 (kq ≤ kj39) ∧ Aside0 (wc.heap[gb104]? = some (.cells #[(.slice none 0 0), .int .i64 0] 139 (0, 0))) ∧ Aside0 (Below w.heap.size w wc))
                          case first =>
                            have H := HC50.out
                            clear HC50
                            by_cases c51 : a0 = 1
                            · rw [if_pos c51] at H
                              have c51b0 : (a0 == 1) = true := beq_iff_eq.mpr c51
                              have c51b1 : (a0 != 1) = false := bne_eq_false_iff_eq.mpr c51
                              clear c51
                              (first | rw [c51b0] | (simp only [i64_w, i32_w]; rw [c51b0]) | skip)
                              have H' := Aside0.mk H
                              clear H
                              go_wp2
                              go_meet
                              case rel => exact ⟨_, ((a1 == 19)), (by first | rfl | (simp; done) | (simp [*]; done)), H', ⟨by have := HJ2.out; have := HJ16.out; have := HJ29.out; have := HJ39.out; first | omega | exact Nat.le_refl _⟩, ⟨by (with_reducible repeat (first | refine blk_drewN ?_ _ | refine blk_drew ?_ | refine blk_alloc ?_ _)); exact BK104.out⟩, ⟨by repeat (first | (with_reducible first | exact HB.out | apply below_alloc | apply pw_below_drewN | apply below_drew1 | refine below_set ?_ GE104.out) | exact HB.out)⟩⟩
                            · rw [if_neg c51] at H
                              have c51b0 : (a0 == 1) = false := beq_eq_false_iff_ne.mpr c51
                              have c51b1 : (a0 != 1) = true := bne_iff_ne.mpr c51
                              (first | rw [c51b0] | (simp only [i64_w, i32_w]; rw [c51b0]) | skip)
                              have H' := Aside0.mk H
                              clear H
                              go_wp2
                              go_meet
                              case rel => exact ⟨_, (false), (by first | rfl | (simp; done) | (simp [*]; done)), H', ⟨by have := HJ2.out; have := HJ16.out; have := HJ29.out; have := HJ39.out; first | omega | exact Nat.le_refl _⟩, ⟨by (with_reducible repeat (first | refine blk_drewN ?_ _ | refine blk_drew ?_ | refine blk_alloc ?_ _)); exact BK104.out⟩, ⟨by repeat (first | (with_reducible first | exact HB.out | apply below_alloc | apply pw_below_drewN | apply below_drew1 | refine below_set ?_ GE104.out) | exact HB.out)⟩⟩
                          case rest =>
                            clear HC50
                            try clear c1
                            try clear c2
                            try clear p2
                            try clear c3
                            try clear c4
                            try clear c5
                            try clear c6
                            try clear c6b0
                            try clear c6b1
                            try clear c7
                            try clear c15
                            try clear c17
                            try clear c18
                            try clear c18b0
                            try clear c18b1
                            try clear c20
                            try clear c31
                            try clear c31b0
                            try clear c31b1
                            try clear c32
                            try clear c41
                            try clear c41b0
                            try clear c41b1
                            try clear c42
                            try clear c51
                            try clear c51b0
                            try clear c51b1
                            try clear hcz16_0
                            try clear hcz16_1
                            try clear hcz29_0
                            try clear hcz29_1
                            try clear hcz39_0
                            try clear hcz39_1
                            try clear hcz49_0
                            try clear hcz49_1
                            try clear hfz16_0
                            try clear hfz16_1
                            try clear hfz29_0
                            try clear hfz29_1
                            try clear hfz39_0
                            try clear hfz39_1
                            try clear hfz49_0
                            try clear hfz49_1
                            try clear p2
                            obtain ⟨kq, x49_49, rfl, HA, HJ49, BK104, HB⟩ := hcut
                            cases kq with
                            | zero => exact absurd HA.out (by simp [isa86_places.j4])
                            | succ kj49 =>
                              have H := HA.out
                              clear HA
                              simp only [isa86_places.j4] at H
                              by_cases c52 : x49_49 = true
                              · subst c52
                                have H1 : ((isa86_of.f 2 (([160] : List Int))).bind fun bt142 => (some (bt142.1, bt142.2))) = some (r1, r2) := by rw [if_pos rfl] at H; exact H
                                clear H
                                have H := H1
                                clear H1
                                obtain ⟨y139, hy139⟩ : ∃ y_ : List Int, y_ = (([160] : List Int)) := ⟨_, rfl⟩
                                replace H : ((isa86_of.f 2 y139).bind fun bt142 => (some (bt142.1, bt142.2))) = some (r1, r2) := by first | (rw [hy139]; with_reducible exact H) | (have H2_ := (Option.bind_some _ _).symm.trans H; rw [hy139]; with_reducible exact H2_) | (have H2_ := (Option.bind_some _ _).symm.trans H; with_reducible exact H2_) | with_reducible exact H | (rw [hy139]; exact H) | exact H
                                have Ny139 := Aside0.mk hy139
                                clear hy139
                                replace H := Option.bind_eq_some_iff.mp H
                                obtain ⟨⟨t142, t145⟩, A530, H⟩ := H
                                replace H : (some (t142, t145)) = some (r1, r2) := H
                                have A53 := Aside0.mk A530
                                clear A530
                                simp only [Option.some.injEq, Prod.mk.injEq] at H
                                obtain ⟨rfl, rfl⟩ := H
                                go_wp2_with (first | ((with_reducible refine gate_dst (N := 56) rfl ?_); refine Kd.R_lit (Kd.int .u8) _ 5 ?hg (N := 56) ?hd (xs := ([160] : List Int)) (inner := [.int .u8 160]) (ok := fun _ => True) (okp := fun _ => True) ?hr ?hp (fun _ hk => hk) trivial (Below.refl _ _) (Nat.le_refl _) (by simp) ?_; (case hd => rfl); (case hg => rfl); (case hr => first | (go_simp; done) | (go_simp; rfl)); (case hp => exact (Reps.one (show Kd.M (Kd.int .u8) _ _ _ 160 [.int .u8 160] from rfl) (Reps.none _ _))); intro v140 w54 ho55 hb hg_ hnew_; clear hg_ hnew_; (first | rw [← Ny139.out] at ho55 | (simp only [Int.reduceToNat] at ho55; rw [← Ny139.out] at ho55)); have n0_ := Aside0.mk (Kd.R_lower ho55 (below_size (by repeat (first | (with_reducible first | exact HB.out | apply below_alloc | apply pw_below_drewN | apply below_drew1 | refine below_set ?_ GE104.out) | exact HB.out)))); have n1_ := Aside0.mk (blk_below (g := gb104) (o := .cells #[.slice none 0 0, .int .i64 0] 139 (0, 0)) (by (with_reducible repeat (first | refine blk_drewN ?_ _ | refine blk_drew ?_ | refine blk_alloc ?_ _)); exact BK104.out) hb); have n2_ := Aside0.mk (below_step (by repeat (first | (with_reducible first | exact HB.out | apply below_alloc | apply pw_below_drewN | apply below_drew1 | refine below_set ?_ GE104.out) | exact HB.out)) hb); clear BK104; clear HB; have HO141 := n0_; have BK104 := n1_; have HB := n2_; clear n0_ n1_ n2_; clear hb ho55; obtain ⟨Ao56, co56, eo56⟩ := Kd.R_slice HO141.out; subst eo56) | ((with_reducible refine gate_callee (f := 157) rfl ?_); refine goesL_ (some 57) rfl rfl Tryd.func157 (by kernel_rfl) rfl #[.int .i64 2, .slice Ao56 y139.length co56] rfl (by (try simp only [List.map_toArray, List.map_cons, List.map_nil]); first | done | rfl | (simp only [List.length_drop, List.length_take]; rfl)) ?_; (with_reducible refine (isa86_of.calls 2 (fun k_ => some k_ = (.slice Ao56 y139.length co56 : Value).ownBlock) (.slice Ao56 y139.length co56) y139 t142 t145 w _ ?side1 ?side2 A53.out).mono ?_); (case side1 => repeat (first | (with_reducible first | exact HB.out | apply below_alloc | apply pw_below_drewN | apply below_drew1 | refine below_set ?_ GE104.out) | exact HB.out)); (case side2 => exact Kd.R_tight rfl HO141.out); rintro e w57 ⟨v143, rfl, ho0, hb, hkp⟩; refine ⟨_, rfl, ?_⟩; have n0_ := Aside0.mk (blk_kept (by (with_reducible repeat (first | refine blk_drewN ?_ _ | refine blk_drew ?_ | refine blk_alloc ?_ _)); exact BK104.out) hkp (fun hs_ => (fun e_ => (Kd.R_ne HO141.out BK104.out (by decide)) e_) hs_)); have n1_ := Aside0.mk (Kd.R_mono (ok' := fun k_ => True) ho0 (fun k_ hk_ => trivial)); have n2_ := Aside0.mk (hb); clear BK104; clear HB; clear HO141; have BK104 := n0_; have HO144 := n1_; have HB := n2_; clear n0_ n1_ n2_; (try clear hb); (try clear hkp); (try clear ho0); obtain ⟨Ao58, co58, eo58⟩ := Kd.R_slice HO144.out; subst eo58; have hcz59_0 : w57.cell? ⟨gb104, 0, none⟩ = some (.slice none 0 0) := (blk_cell BK104.out 0).trans rfl; have hcz59_1 : w57.cell? ⟨gb104, 1, none⟩ = some (.int .i64 0) := (blk_cell BK104.out 1).trans rfl; have hfz59_0 := blk_frozen BK104.out 0; have hfz59_1 := blk_frozen BK104.out 1))
                                refine bodyPost_ret (results_cell_row rfl _ _ gb104 139 #[.slice Ao58 t142.length co58, .int .i64 t145] (0, 0) _ rfl (by (with_reducible repeat (first | refine blk_drewN ?_ _ | refine blk_drew ?_ | refine blk_alloc ?_ _)); refine blk_put (cs := #[.slice Ao58 t142.length co58, .int .i64 0]) ?_ 1 _ rfl; (with_reducible repeat (first | refine blk_drewN ?_ _ | refine blk_drew ?_ | refine blk_alloc ?_ _)); refine blk_put (cs := #[.slice none 0 0, .int .i64 0]) ?_ 0 _ rfl; (with_reducible repeat (first | refine blk_drewN ?_ _ | refine blk_drew ?_ | refine blk_alloc ?_ _)); exact BK104.out) Tryd.underlying139 rfl (by kernel_rfl)) rfl ?_
                                exact ⟨_, by first | rfl | (simp [errW_none, errW_some] <;> rfl) | (simp [*, errW_none, errW_some] <;> rfl), by (with_reducible repeat (first | apply Kd.R_alloc | apply Kd.R_drewN | apply Kd.R_drew)); exact Kd.R_mono (Kd.R_far (p := ⟨gb104, 1, none⟩) (Kd.R_far (p := ⟨gb104, 0, none⟩) (Kd.R_types HO144.out BK104.out (by decide)) (fun _ hk => hk.2) (.slice Ao58 t142.length co58)) (fun _ hk => hk.2) (.int .i64 t145)) (fun _ hk => trivial), by repeat (first | (with_reducible first | exact HB.out | apply below_alloc | apply pw_below_drewN | apply below_drew1 | refine below_set ?_ GE104.out) | exact HB.out)⟩
                              · replace c52 := Bool.eq_false_iff.mpr c52
                                subst c52
                                have H1 : (if a0 = 19 then (isa86_places.j5 kj49 a0 a1 (a1 == 1)) else (isa86_places.j5 kj49 a0 a1 false)) = some (r1, r2) := by rw [if_neg (show ¬ (false = true) by decide)] at H; exact H
                                clear H
                                have H := H1
                                clear H1
                                have HC60 := Aside0.mk H
                                clear H
                                go_upto_region 11 with (fail)
                                go_cut [58] (fun v58 wc => ∃ (kq : Nat) (x58_59 : Bool), v58 = .bool x58_59 ∧ Aside0 (isa86_places.j5 kq a0 a1 x58_59 = some (r1, r2)) ∧ Aside0 (kq ≤ kj49) ∧ Aside0 (wc.heap[gb104]? = some (.cells #[(.slice none 0 0), .int .i64 0] 139 (0, 0))) ∧ Aside0 (Below w.heap.size w wc))
                                case first =>
                                  have H := HC60.out
                                  clear HC60
                                  by_cases c61 : a0 = 19
                                  · rw [if_pos c61] at H
                                    have c61b0 : (a0 == 19) = true := beq_iff_eq.mpr c61
                                    have c61b1 : (a0 != 19) = false := bne_eq_false_iff_eq.mpr c61
                                    clear c61
                                    (first | rw [c61b0] | (simp only [i64_w, i32_w]; rw [c61b0]) | skip)
                                    have H' := Aside0.mk H
                                    clear H
                                    go_wp2
                                    go_meet
                                    case rel => exact ⟨_, ((a1 == 1)), (by first | rfl | (simp; done) | (simp [*]; done)), H', ⟨by have := HJ2.out; have := HJ16.out; have := HJ29.out; have := HJ39.out; have := HJ49.out; first | omega | exact Nat.le_refl _⟩, ⟨by (with_reducible repeat (first | refine blk_drewN ?_ _ | refine blk_drew ?_ | refine blk_alloc ?_ _)); exact BK104.out⟩, ⟨by repeat (first | (with_reducible first | exact HB.out | apply below_alloc | apply pw_below_drewN | apply below_drew1 | refine below_set ?_ GE104.out) | exact HB.out)⟩⟩
                                  · rw [if_neg c61] at H
                                    have c61b0 : (a0 == 19) = false := beq_eq_false_iff_ne.mpr c61
                                    have c61b1 : (a0 != 19) = true := bne_iff_ne.mpr c61
                                    (first | rw [c61b0] | (simp only [i64_w, i32_w]; rw [c61b0]) | skip)
                                    have H' := Aside0.mk H
                                    clear H
                                    go_wp2
                                    go_meet
                                    case rel => exact ⟨_, (false), (by first | rfl | (simp; done) | (simp [*]; done)), H', ⟨by have := HJ2.out; have := HJ16.out; have := HJ29.out; have := HJ39.out; have := HJ49.out; first | omega | exact Nat.le_refl _⟩, ⟨by (with_reducible repeat (first | refine blk_drewN ?_ _ | refine blk_drew ?_ | refine blk_alloc ?_ _)); exact BK104.out⟩, ⟨by repeat (first | (with_reducible first | exact HB.out | apply below_alloc | apply pw_below_drewN | apply below_drew1 | refine below_set ?_ GE104.out) | exact HB.out)⟩⟩
                                case rest =>
                                  clear HC60
                                  try clear c1
                                  try clear c2
                                  try clear p2
                                  try clear c3
                                  try clear c4
                                  try clear c5
                                  try clear c6
                                  try clear c6b0
                                  try clear c6b1
                                  try clear c7
                                  try clear c15
                                  try clear c17
                                  try clear c18
                                  try clear c18b0
                                  try clear c18b1
                                  try clear c20
                                  try clear c31
                                  try clear c31b0
                                  try clear c31b1
                                  try clear c32
                                  try clear c41
                                  try clear c41b0
                                  try clear c41b1
                                  try clear c42
                                  try clear c51
                                  try clear c51b0
                                  try clear c51b1
                                  try clear c52
                                  try clear c61
                                  try clear c61b0
                                  try clear c61b1
                                  try clear hcz16_0
                                  try clear hcz16_1
                                  try clear hcz29_0
                                  try clear hcz29_1
                                  try clear hcz39_0
                                  try clear hcz39_1
                                  try clear hcz49_0
                                  try clear hcz49_1
                                  try clear hcz59_0
                                  try clear hcz59_1
                                  try clear hfz16_0
                                  try clear hfz16_1
                                  try clear hfz29_0
                                  try clear hfz29_1
                                  try clear hfz39_0
                                  try clear hfz39_1
                                  try clear hfz49_0
                                  try clear hfz49_1
                                  try clear hfz59_0
                                  try clear hfz59_1
                                  try clear p2
                                  obtain ⟨kq, x58_59, rfl, HA, HJ59, BK104, HB⟩ := hcut
                                  cases kq with
                                  | zero => exact absurd HA.out (by simp [isa86_places.j5])
                                  | succ kj59 =>
                                    have H := HA.out
                                    clear HA
                                    simp only [isa86_places.j5] at H
                                    by_cases c62 : x58_59 = true
                                    · subst c62
                                      have H1 : ((isa86_of.f 2 (([162] : List Int))).bind fun bt149 => (some (bt149.1, bt149.2))) = some (r1, r2) := by rw [if_pos rfl] at H; exact H
                                      clear H
                                      have H := H1
                                      clear H1
                                      obtain ⟨y146, hy146⟩ : ∃ y_ : List Int, y_ = (([162] : List Int)) := ⟨_, rfl⟩
                                      replace H : ((isa86_of.f 2 y146).bind fun bt149 => (some (bt149.1, bt149.2))) = some (r1, r2) := by first | (rw [hy146]; with_reducible exact H) | (have H2_ := (Option.bind_some _ _).symm.trans H; rw [hy146]; with_reducible exact H2_) | (have H2_ := (Option.bind_some _ _).symm.trans H; with_reducible exact H2_) | with_reducible exact H | (rw [hy146]; exact H) | exact H
                                      have Ny146 := Aside0.mk hy146
                                      clear hy146
                                      replace H := Option.bind_eq_some_iff.mp H
                                      obtain ⟨⟨t149, t152⟩, A630, H⟩ := H
                                      replace H : (some (t149, t152)) = some (r1, r2) := H
                                      have A63 := Aside0.mk A630
                                      clear A630
                                      simp only [Option.some.injEq, Prod.mk.injEq] at H
                                      obtain ⟨rfl, rfl⟩ := H
                                      go_wp2_with (first | ((with_reducible refine gate_dst (N := 65) rfl ?_); refine Kd.R_lit (Kd.int .u8) _ 5 ?hg (N := 65) ?hd (xs := ([162] : List Int)) (inner := [.int .u8 162]) (ok := fun _ => True) (okp := fun _ => True) ?hr ?hp (fun _ hk => hk) trivial (Below.refl _ _) (Nat.le_refl _) (by simp) ?_; (case hd => rfl); (case hg => rfl); (case hr => first | (go_simp; done) | (go_simp; rfl)); (case hp => exact (Reps.one (show Kd.M (Kd.int .u8) _ _ _ 162 [.int .u8 162] from rfl) (Reps.none _ _))); intro v147 w64 ho65 hb hg_ hnew_; clear hg_ hnew_; (first | rw [← Ny146.out] at ho65 | (simp only [Int.reduceToNat] at ho65; rw [← Ny146.out] at ho65)); have n0_ := Aside0.mk (Kd.R_lower ho65 (below_size (by repeat (first | (with_reducible first | exact HB.out | apply below_alloc | apply pw_below_drewN | apply below_drew1 | refine below_set ?_ GE104.out) | exact HB.out)))); have n1_ := Aside0.mk (blk_below (g := gb104) (o := .cells #[.slice none 0 0, .int .i64 0] 139 (0, 0)) (by (with_reducible repeat (first | refine blk_drewN ?_ _ | refine blk_drew ?_ | refine blk_alloc ?_ _)); exact BK104.out) hb); have n2_ := Aside0.mk (below_step (by repeat (first | (with_reducible first | exact HB.out | apply below_alloc | apply pw_below_drewN | apply below_drew1 | refine below_set ?_ GE104.out) | exact HB.out)) hb); clear BK104; clear HB; have HO148 := n0_; have BK104 := n1_; have HB := n2_; clear n0_ n1_ n2_; clear hb ho65; obtain ⟨Ao66, co66, eo66⟩ := Kd.R_slice HO148.out; subst eo66) | ((with_reducible refine gate_callee (f := 157) rfl ?_); refine goesL_ (some 66) rfl rfl Tryd.func157 (by kernel_rfl) rfl #[.int .i64 2, .slice Ao66 y146.length co66] rfl (by (try simp only [List.map_toArray, List.map_cons, List.map_nil]); first | done | rfl | (simp only [List.length_drop, List.length_take]; rfl)) ?_; (with_reducible refine (isa86_of.calls 2 (fun k_ => some k_ = (.slice Ao66 y146.length co66 : Value).ownBlock) (.slice Ao66 y146.length co66) y146 t149 t152 w _ ?side1 ?side2 A63.out).mono ?_); (case side1 => repeat (first | (with_reducible first | exact HB.out | apply below_alloc | apply pw_below_drewN | apply below_drew1 | refine below_set ?_ GE104.out) | exact HB.out)); (case side2 => exact Kd.R_tight rfl HO148.out); rintro e w67 ⟨v150, rfl, ho0, hb, hkp⟩; refine ⟨_, rfl, ?_⟩; have n0_ := Aside0.mk (blk_kept (by (with_reducible repeat (first | refine blk_drewN ?_ _ | refine blk_drew ?_ | refine blk_alloc ?_ _)); exact BK104.out) hkp (fun hs_ => (fun e_ => (Kd.R_ne HO148.out BK104.out (by decide)) e_) hs_)); have n1_ := Aside0.mk (Kd.R_mono (ok' := fun k_ => True) ho0 (fun k_ hk_ => trivial)); have n2_ := Aside0.mk (hb); clear BK104; clear HB; clear HO148; have BK104 := n0_; have HO151 := n1_; have HB := n2_; clear n0_ n1_ n2_; (try clear hb); (try clear hkp); (try clear ho0); obtain ⟨Ao68, co68, eo68⟩ := Kd.R_slice HO151.out; subst eo68; have hcz69_0 : w67.cell? ⟨gb104, 0, none⟩ = some (.slice none 0 0) := (blk_cell BK104.out 0).trans rfl; have hcz69_1 : w67.cell? ⟨gb104, 1, none⟩ = some (.int .i64 0) := (blk_cell BK104.out 1).trans rfl; have hfz69_0 := blk_frozen BK104.out 0; have hfz69_1 := blk_frozen BK104.out 1))
                                      refine bodyPost_ret (results_cell_row rfl _ _ gb104 139 #[.slice Ao68 t149.length co68, .int .i64 t152] (0, 0) _ rfl (by (with_reducible repeat (first | refine blk_drewN ?_ _ | refine blk_drew ?_ | refine blk_alloc ?_ _)); refine blk_put (cs := #[.slice Ao68 t149.length co68, .int .i64 0]) ?_ 1 _ rfl; (with_reducible repeat (first | refine blk_drewN ?_ _ | refine blk_drew ?_ | refine blk_alloc ?_ _)); refine blk_put (cs := #[.slice none 0 0, .int .i64 0]) ?_ 0 _ rfl; (with_reducible repeat (first | refine blk_drewN ?_ _ | refine blk_drew ?_ | refine blk_alloc ?_ _)); exact BK104.out) Tryd.underlying139 rfl (by kernel_rfl)) rfl ?_
                                      exact ⟨_, by first | rfl | (simp [errW_none, errW_some] <;> rfl) | (simp [*, errW_none, errW_some] <;> rfl), by (with_reducible repeat (first | apply Kd.R_alloc | apply Kd.R_drewN | apply Kd.R_drew)); exact Kd.R_mono (Kd.R_far (p := ⟨gb104, 1, none⟩) (Kd.R_far (p := ⟨gb104, 0, none⟩) (Kd.R_types HO151.out BK104.out (by decide)) (fun _ hk => hk.2) (.slice Ao68 t149.length co68)) (fun _ hk => hk.2) (.int .i64 t152)) (fun _ hk => trivial), by repeat (first | (with_reducible first | exact HB.out | apply below_alloc | apply pw_below_drewN | apply below_drew1 | refine below_set ?_ GE104.out) | exact HB.out)⟩
                                    · replace c62 := Bool.eq_false_iff.mpr c62
                                      subst c62
                                      have H1 : ((isa86_wide.f kj59 a0).bind fun t153 => (if t153 = 16 then (if a0 = 9 then (isa86_places.j6 kj59 a0 a1 false) else (isa86_places.j6 kj59 a0 a1 (a1 == 19))) else (isa86_places.j6 kj59 a0 a1 false))) = some (r1, r2) := by rw [if_neg (show ¬ (false = true) by decide)] at H; exact H
                                      clear H
                                      have H := H1
                                      clear H1
                                      have HC70 := Aside0.mk H
                                      clear H
                                      go_upto_region 13 with (fail)
                                      go_cut [67] (fun v67 wc => ∃ (kq : Nat) (x67_69 : Bool), v67 = .bool x67_69 ∧ Aside0 (isa86_places.j6 kq a0 a1 x67_69 = some (r1, r2)) ∧ Aside0 (kq ≤ kj59) ∧ Aside0 (wc.heap[gb104]? = some (.cells #[(.slice none 0 0), .int .i64 0] 139 (0, 0))) ∧ Aside0 (Below w.heap.size w wc))
                                      case first =>
                                        have H := HC70.out
                                        clear HC70
                                        replace H := Option.bind_eq_some_iff.mp H
                                        obtain ⟨t153, A710, H⟩ := H
                                        replace H : (if t153 = 16 then (if a0 = 9 then (isa86_places.j6 kj59 a0 a1 false) else (isa86_places.j6 kj59 a0 a1 (a1 == 19))) else (isa86_places.j6 kj59 a0 a1 false)) = some (r1, r2) := H
                                        have A71 := Aside0.mk A710
                                        clear A710
                                        by_cases c72 : t153 = 16
                                        · rw [if_pos c72] at H
                                          have c72b0 : (t153 == 16) = true := beq_iff_eq.mpr c72
                                          have c72b1 : (t153 != 16) = false := bne_eq_false_iff_eq.mpr c72
                                          clear c72
                                          (first | rw [c72b0] | (simp only [i64_w, i32_w]; rw [c72b0]) | skip)
                                          by_cases c73 : a0 = 9
                                          · rw [if_pos c73] at H
                                            have c73b0 : (a0 == 9) = true := beq_iff_eq.mpr c73
                                            have c73b1 : (a0 != 9) = false := bne_eq_false_iff_eq.mpr c73
                                            clear c73
                                            have H' := Aside0.mk H
                                            clear H
                                            go_wp2_with (first | ((with_reducible refine gate_callee (f := 174) rfl ?_); refine goesL_ (some 69) rfl rfl Tryd.func174 (by kernel_rfl) rfl #[.int .i64 a0] rfl (by (try simp only [List.map_toArray, List.map_cons, List.map_nil]); first | done | rfl | (simp only [List.length_drop, List.length_take]; rfl)) ?_; (with_reducible refine (isa86_wide.calls kj59 a0 t153 _ A71.out).mono ?_); rintro e w' ⟨rfl, ⟨nd, rfl⟩⟩; refine ⟨_, rfl, ?_⟩))
                                            go_meet
                                            case rel => exact ⟨_, (false), (by first | rfl | (simp; done) | (simp [*]; done)), H', ⟨by have := HJ2.out; have := HJ16.out; have := HJ29.out; have := HJ39.out; have := HJ49.out; have := HJ59.out; first | omega | exact Nat.le_refl _⟩, ⟨by (with_reducible repeat (first | refine blk_drewN ?_ _ | refine blk_drew ?_ | refine blk_alloc ?_ _)); exact BK104.out⟩, ⟨by repeat (first | (with_reducible first | exact HB.out | apply below_alloc | apply pw_below_drewN | apply below_drew1 | refine below_set ?_ GE104.out) | exact HB.out)⟩⟩
                                          · rw [if_neg c73] at H
                                            have c73b0 : (a0 == 9) = false := beq_eq_false_iff_ne.mpr c73
                                            have c73b1 : (a0 != 9) = true := bne_iff_ne.mpr c73
                                            have H' := Aside0.mk H
                                            clear H
                                            go_wp2_with (first | ((with_reducible refine gate_callee (f := 174) rfl ?_); refine goesL_ (some 69) rfl rfl Tryd.func174 (by kernel_rfl) rfl #[.int .i64 a0] rfl (by (try simp only [List.map_toArray, List.map_cons, List.map_nil]); first | done | rfl | (simp only [List.length_drop, List.length_take]; rfl)) ?_; (with_reducible refine (isa86_wide.calls kj59 a0 t153 _ A71.out).mono ?_); rintro e w' ⟨rfl, ⟨nd, rfl⟩⟩; refine ⟨_, rfl, ?_⟩))
                                            go_meet
                                            case rel => exact ⟨_, ((a1 == 19)), (by first | rfl | (simp; done) | (simp [*]; done)), H', ⟨by have := HJ2.out; have := HJ16.out; have := HJ29.out; have := HJ39.out; have := HJ49.out; have := HJ59.out; first | omega | exact Nat.le_refl _⟩, ⟨by (with_reducible repeat (first | refine blk_drewN ?_ _ | refine blk_drew ?_ | refine blk_alloc ?_ _)); exact BK104.out⟩, ⟨by repeat (first | (with_reducible first | exact HB.out | apply below_alloc | apply pw_below_drewN | apply below_drew1 | refine below_set ?_ GE104.out) | exact HB.out)⟩⟩
                                        · rw [if_neg c72] at H
                                          have c72b0 : (t153 == 16) = false := beq_eq_false_iff_ne.mpr c72
                                          have c72b1 : (t153 != 16) = true := bne_iff_ne.mpr c72
                                          (first | rw [c72b0] | (simp only [i64_w, i32_w]; rw [c72b0]) | skip)
                                          have H' := Aside0.mk H
                                          clear H
                                          go_wp2_with (first | ((with_reducible refine gate_callee (f := 174) rfl ?_); refine goesL_ (some 69) rfl rfl Tryd.func174 (by kernel_rfl) rfl #[.int .i64 a0] rfl (by (try simp only [List.map_toArray, List.map_cons, List.map_nil]); first | done | rfl | (simp only [List.length_drop, List.length_take]; rfl)) ?_; (with_reducible refine (isa86_wide.calls kj59 a0 t153 _ A71.out).mono ?_); rintro e w' ⟨rfl, ⟨nd, rfl⟩⟩; refine ⟨_, rfl, ?_⟩))
                                          go_meet
                                          case rel => exact ⟨_, (false), (by first | rfl | (simp; done) | (simp [*]; done)), H', ⟨by have := HJ2.out; have := HJ16.out; have := HJ29.out; have := HJ39.out; have := HJ49.out; have := HJ59.out; first | omega | exact Nat.le_refl _⟩, ⟨by (with_reducible repeat (first | refine blk_drewN ?_ _ | refine blk_drew ?_ | refine blk_alloc ?_ _)); exact BK104.out⟩, ⟨by repeat (first | (with_reducible first | exact HB.out | apply below_alloc | apply pw_below_drewN | apply below_drew1 | refine below_set ?_ GE104.out) | exact HB.out)⟩⟩
                                      case rest =>
                                        clear HC70
                                        try clear c1
                                        try clear c2
                                        try clear p2
                                        try clear c3
                                        try clear c4
                                        try clear c5
                                        try clear c6
                                        try clear c6b0
                                        try clear c6b1
                                        try clear c7
                                        try clear c15
                                        try clear c17
                                        try clear c18
                                        try clear c18b0
                                        try clear c18b1
                                        try clear c20
                                        try clear c31
                                        try clear c31b0
                                        try clear c31b1
                                        try clear c32
                                        try clear c41
                                        try clear c41b0
                                        try clear c41b1
                                        try clear c42
                                        try clear c51
                                        try clear c51b0
                                        try clear c51b1
                                        try clear c52
                                        try clear c61
                                        try clear c61b0
                                        try clear c61b1
                                        try clear c62
                                        try clear c72
                                        try clear c72b0
                                        try clear c72b1
                                        try clear c73
                                        try clear c73b0
                                        try clear c73b1
                                        try clear hcz16_0
                                        try clear hcz16_1
                                        try clear hcz29_0
                                        try clear hcz29_1
                                        try clear hcz39_0
                                        try clear hcz39_1
                                        try clear hcz49_0
                                        try clear hcz49_1
                                        try clear hcz59_0
                                        try clear hcz59_1
                                        try clear hcz69_0
                                        try clear hcz69_1
                                        try clear hfz16_0
                                        try clear hfz16_1
                                        try clear hfz29_0
                                        try clear hfz29_1
                                        try clear hfz39_0
                                        try clear hfz39_1
                                        try clear hfz49_0
                                        try clear hfz49_1
                                        try clear hfz59_0
                                        try clear hfz59_1
                                        try clear hfz69_0
                                        try clear hfz69_1
                                        try clear p2
                                        obtain ⟨kq, x67_69, rfl, HA, HJ69, BK104, HB⟩ := hcut
                                        cases kq with
                                        | zero => exact absurd HA.out (by simp [isa86_places.j6])
                                        | succ kj69 =>
                                          have H := HA.out
                                          clear HA
                                          simp only [isa86_places.j6] at H
                                          by_cases c74 : x67_69 = true
                                          · subst c74
                                            have H1 : ((isa86_num.f a0).bind fun t154 => ((isa86_mem.f t154 6).bind fun t155 => ((isa86_of.f 2 (([139, t155] : List Int))).bind fun bt159 => (some (bt159.1, bt159.2))))) = some (r1, r2) := by rw [if_pos rfl] at H; exact H
                                            clear H
                                            have H := H1
                                            clear H1
                                            replace H := Option.bind_eq_some_iff.mp H
                                            obtain ⟨t154, A750, H⟩ := H
                                            replace H : ((isa86_mem.f t154 6).bind fun t155 => ((isa86_of.f 2 (([139, t155] : List Int))).bind fun bt159 => (some (bt159.1, bt159.2)))) = some (r1, r2) := H
                                            have A75 := Aside0.mk A750
                                            clear A750
                                            replace H := Option.bind_eq_some_iff.mp H
                                            obtain ⟨t155, A760, H⟩ := H
                                            replace H : ((isa86_of.f 2 (([139, t155] : List Int))).bind fun bt159 => (some (bt159.1, bt159.2))) = some (r1, r2) := H
                                            have A76 := Aside0.mk A760
                                            clear A760
                                            obtain ⟨y156, hy156⟩ : ∃ y_ : List Int, y_ = (([139, t155] : List Int)) := ⟨_, rfl⟩
                                            replace H : ((isa86_of.f 2 y156).bind fun bt159 => (some (bt159.1, bt159.2))) = some (r1, r2) := by first | (rw [hy156]; with_reducible exact H) | (have H2_ := (Option.bind_some _ _).symm.trans H; rw [hy156]; with_reducible exact H2_) | (have H2_ := (Option.bind_some _ _).symm.trans H; with_reducible exact H2_) | with_reducible exact H | (rw [hy156]; exact H) | exact H
                                            have Ny156 := Aside0.mk hy156
                                            clear hy156
                                            replace H := Option.bind_eq_some_iff.mp H
                                            obtain ⟨⟨t159, t162⟩, A770, H⟩ := H
                                            replace H : (some (t159, t162)) = some (r1, r2) := H
                                            have A77 := Aside0.mk A770
                                            clear A770
                                            simp only [Option.some.injEq, Prod.mk.injEq] at H
                                            obtain ⟨rfl, rfl⟩ := H
                                            go_wp2_with (first | ((with_reducible refine gate_callee (f := 176) rfl ?_); refine goesL_ (some 80) rfl rfl Tryd.func176 (by kernel_rfl) rfl #[.int .i64 a0] rfl (by (try simp only [List.map_toArray, List.map_cons, List.map_nil]); first | done | rfl | (simp only [List.length_drop, List.length_take]; rfl)) ?_; (with_reducible refine (isa86_num.calls a0 t154 _ A75.out).mono ?_); rintro e w' ⟨rfl, ⟨nd, rfl⟩⟩; refine ⟨_, rfl, ?_⟩; (try (rw [drewN_self wc]; generalize hq_ : World.drewN wc _ = wc; have n0_ : Aside0 (wc.heap[gb104]? = some (.cells #[.slice none 0 0, .int .i64 0] 139 (0, 0))) := ⟨by rw [← hq_]; exact (by (with_reducible repeat (first | refine blk_drewN ?_ _ | refine blk_drew ?_ | refine blk_alloc ?_ _)); exact BK104.out)⟩; have n1_ : Aside0 (Below w.heap.size w wc) := ⟨by rw [← hq_]; exact (by repeat (first | (with_reducible first | exact HB.out | apply below_alloc | apply pw_below_drewN | apply below_drew1 | refine below_set ?_ GE104.out) | exact HB.out))⟩; clear BK104 HB hq_; have BK104 := n0_; have HB := n1_; clear n0_ n1_))) | ((with_reducible refine gate_callee (f := 178) rfl ?_); refine goesL_ (some 81) rfl rfl Tryd.func178 (by kernel_rfl) rfl #[.int .u8 t154, .int .u8 6] rfl (by (try simp only [List.map_toArray, List.map_cons, List.map_nil]); first | done | rfl | (simp only [List.length_drop, List.length_take]; rfl)) ?_; (with_reducible refine (isa86_mem.calls t154 6 t155 _ A76.out).mono ?_); rintro e w' ⟨rfl, ⟨nd, rfl⟩⟩; refine ⟨_, rfl, ?_⟩; (try (rw [drewN_self wc]; generalize hq_ : World.drewN wc _ = wc; have n0_ : Aside0 (wc.heap[gb104]? = some (.cells #[.slice none 0 0, .int .i64 0] 139 (0, 0))) := ⟨by rw [← hq_]; exact (by (with_reducible repeat (first | refine blk_drewN ?_ _ | refine blk_drew ?_ | refine blk_alloc ?_ _)); exact BK104.out)⟩; have n1_ : Aside0 (Below w.heap.size w wc) := ⟨by rw [← hq_]; exact (by repeat (first | (with_reducible first | exact HB.out | apply below_alloc | apply pw_below_drewN | apply below_drew1 | refine below_set ?_ GE104.out) | exact HB.out))⟩; clear BK104 HB hq_; have BK104 := n0_; have HB := n1_; clear n0_ n1_))) | ((with_reducible refine gate_dst (N := 82) rfl ?_); refine Kd.R_lit (Kd.int .u8) _ 5 ?hg (N := 82) ?hd (xs := ([139, t155] : List Int)) (inner := [.int .u8 139, .int .u8 t155]) (ok := fun _ => True) (okp := fun _ => True) ?hr ?hp (fun _ hk => hk) trivial (Below.refl _ _) (Nat.le_refl _) (by simp) ?_; (case hd => rfl); (case hg => rfl); (case hr => first | (go_simp; done) | (go_simp; rfl)); (case hp => exact (Reps.one (show Kd.M (Kd.int .u8) _ _ _ 139 [.int .u8 139] from rfl) (Reps.one (show Kd.M (Kd.int .u8) _ _ _ t155 [.int .u8 t155] from rfl) (Reps.none _ _)))); intro v157 w78 ho79 hb hg_ hnew_; clear hg_ hnew_; (first | rw [← Ny156.out] at ho79 | (simp only [Int.reduceToNat] at ho79; rw [← Ny156.out] at ho79)); have n0_ := Aside0.mk (Kd.R_lower ho79 (below_size (by repeat (first | (with_reducible first | exact HB.out | apply below_alloc | apply pw_below_drewN | apply below_drew1 | refine below_set ?_ GE104.out) | exact HB.out)))); have n1_ := Aside0.mk (blk_below (g := gb104) (o := .cells #[.slice none 0 0, .int .i64 0] 139 (0, 0)) (by (with_reducible repeat (first | refine blk_drewN ?_ _ | refine blk_drew ?_ | refine blk_alloc ?_ _)); exact BK104.out) hb); have n2_ := Aside0.mk (below_step (by repeat (first | (with_reducible first | exact HB.out | apply below_alloc | apply pw_below_drewN | apply below_drew1 | refine below_set ?_ GE104.out) | exact HB.out)) hb); clear BK104; clear HB; have HO158 := n0_; have BK104 := n1_; have HB := n2_; clear n0_ n1_ n2_; clear hb ho79; obtain ⟨Ao80, co80, eo80⟩ := Kd.R_slice HO158.out; subst eo80) | ((with_reducible refine gate_callee (f := 157) rfl ?_); refine goesL_ (some 83) rfl rfl Tryd.func157 (by kernel_rfl) rfl #[.int .i64 2, .slice Ao80 y156.length co80] rfl (by (try simp only [List.map_toArray, List.map_cons, List.map_nil]); first | done | rfl | (simp only [List.length_drop, List.length_take]; rfl)) ?_; (with_reducible refine (isa86_of.calls 2 (fun k_ => some k_ = (.slice Ao80 y156.length co80 : Value).ownBlock) (.slice Ao80 y156.length co80) y156 t159 t162 w _ ?side1 ?side2 A77.out).mono ?_); (case side1 => repeat (first | (with_reducible first | exact HB.out | apply below_alloc | apply pw_below_drewN | apply below_drew1 | refine below_set ?_ GE104.out) | exact HB.out)); (case side2 => exact Kd.R_tight rfl HO158.out); rintro e w81 ⟨v160, rfl, ho0, hb, hkp⟩; refine ⟨_, rfl, ?_⟩; have n0_ := Aside0.mk (blk_kept (by (with_reducible repeat (first | refine blk_drewN ?_ _ | refine blk_drew ?_ | refine blk_alloc ?_ _)); exact BK104.out) hkp (fun hs_ => (fun e_ => (Kd.R_ne HO158.out BK104.out (by decide)) e_) hs_)); have n1_ := Aside0.mk (Kd.R_mono (ok' := fun k_ => True) ho0 (fun k_ hk_ => trivial)); have n2_ := Aside0.mk (hb); clear BK104; clear HB; clear HO158; have BK104 := n0_; have HO161 := n1_; have HB := n2_; clear n0_ n1_ n2_; (try clear hb); (try clear hkp); (try clear ho0); obtain ⟨Ao82, co82, eo82⟩ := Kd.R_slice HO161.out; subst eo82; have hcz83_0 : w81.cell? ⟨gb104, 0, none⟩ = some (.slice none 0 0) := (blk_cell BK104.out 0).trans rfl; have hcz83_1 : w81.cell? ⟨gb104, 1, none⟩ = some (.int .i64 0) := (blk_cell BK104.out 1).trans rfl; have hfz83_0 := blk_frozen BK104.out 0; have hfz83_1 := blk_frozen BK104.out 1))
                                            refine bodyPost_ret (results_cell_row rfl _ _ gb104 139 #[.slice Ao82 t159.length co82, .int .i64 t162] (0, 0) _ rfl (by (with_reducible repeat (first | refine blk_drewN ?_ _ | refine blk_drew ?_ | refine blk_alloc ?_ _)); refine blk_put (cs := #[.slice Ao82 t159.length co82, .int .i64 0]) ?_ 1 _ rfl; (with_reducible repeat (first | refine blk_drewN ?_ _ | refine blk_drew ?_ | refine blk_alloc ?_ _)); refine blk_put (cs := #[.slice none 0 0, .int .i64 0]) ?_ 0 _ rfl; (with_reducible repeat (first | refine blk_drewN ?_ _ | refine blk_drew ?_ | refine blk_alloc ?_ _)); exact BK104.out) Tryd.underlying139 rfl (by kernel_rfl)) rfl ?_
                                            exact ⟨_, by first | rfl | (simp [errW_none, errW_some] <;> rfl) | (simp [*, errW_none, errW_some] <;> rfl), by (with_reducible repeat (first | apply Kd.R_alloc | apply Kd.R_drewN | apply Kd.R_drew)); exact Kd.R_mono (Kd.R_far (p := ⟨gb104, 1, none⟩) (Kd.R_far (p := ⟨gb104, 0, none⟩) (Kd.R_types HO161.out BK104.out (by decide)) (fun _ hk => hk.2) (.slice Ao82 t159.length co82)) (fun _ hk => hk.2) (.int .i64 t162)) (fun _ hk => trivial), by repeat (first | (with_reducible first | exact HB.out | apply below_alloc | apply pw_below_drewN | apply below_drew1 | refine below_set ?_ GE104.out) | exact HB.out)⟩
                                          · replace c74 := Bool.eq_false_iff.mpr c74
                                            subst c74
                                            have H1 : (if a0 = 19 then ((isa86_wide.f kj69 a1).bind fun t163 => (if t163 = 16 then (isa86_places.j7 kj69 a0 a1 (a1 != 9)) else (isa86_places.j7 kj69 a0 a1 false))) else (isa86_places.j7 kj69 a0 a1 false)) = some (r1, r2) := by rw [if_neg (show ¬ (false = true) by decide)] at H; exact H
                                            clear H
                                            have H := H1
                                            clear H1
                                            have HC84 := Aside0.mk H
                                            clear H
                                            go_upto_region 15 with (fail)
                                            go_cut [84] (fun v84 wc => ∃ (kq : Nat) (x84_83 : Bool), v84 = .bool x84_83 ∧ Aside0 (isa86_places.j7 kq a0 a1 x84_83 = some (r1, r2)) ∧ Aside0 (kq ≤ kj69) ∧ Aside0 (wc.heap[gb104]? = some (.cells #[(.slice none 0 0), .int .i64 0] 139 (0, 0))) ∧ Aside0 (Below w.heap.size w wc))
                                            case first =>
                                              have H := HC84.out
                                              clear HC84
                                              by_cases c85 : a0 = 19
                                              · rw [if_pos c85] at H
                                                have c85b0 : (a0 == 19) = true := beq_iff_eq.mpr c85
                                                have c85b1 : (a0 != 19) = false := bne_eq_false_iff_eq.mpr c85
                                                clear c85
                                                (first | rw [c85b0] | (simp only [i64_w, i32_w]; rw [c85b0]) | skip)
                                                replace H := Option.bind_eq_some_iff.mp H
                                                obtain ⟨t163, A860, H⟩ := H
                                                replace H : (if t163 = 16 then (isa86_places.j7 kj69 a0 a1 (a1 != 9)) else (isa86_places.j7 kj69 a0 a1 false)) = some (r1, r2) := H
                                                have A86 := Aside0.mk A860
                                                clear A860
                                                by_cases c87 : t163 = 16
                                                · rw [if_pos c87] at H
                                                  have c87b0 : (t163 == 16) = true := beq_iff_eq.mpr c87
                                                  have c87b1 : (t163 != 16) = false := bne_eq_false_iff_eq.mpr c87
                                                  clear c87
                                                  have H' := Aside0.mk H
                                                  clear H
                                                  go_wp2_with (first | (go_at_call 174; (with_reducible refine (isa86_wide.calls kj69 a1 t163 _ A86.out).mono ?_); rintro e w' ⟨rfl, ⟨nd, rfl⟩⟩))
                                                  go_meet
                                                  case rel => exact ⟨_, ((a1 != 9)), (by first | rfl | (simp; done) | (simp [*]; done)), H', ⟨by have := HJ2.out; have := HJ16.out; have := HJ29.out; have := HJ39.out; have := HJ49.out; have := HJ59.out; have := HJ69.out; first | omega | exact Nat.le_refl _⟩, ⟨by (with_reducible repeat (first | refine blk_drewN ?_ _ | refine blk_drew ?_ | refine blk_alloc ?_ _)); exact BK104.out⟩, ⟨by repeat (first | (with_reducible first | exact HB.out | apply below_alloc | apply pw_below_drewN | apply below_drew1 | refine below_set ?_ GE104.out) | exact HB.out)⟩⟩
                                                · rw [if_neg c87] at H
                                                  have c87b0 : (t163 == 16) = false := beq_eq_false_iff_ne.mpr c87
                                                  have c87b1 : (t163 != 16) = true := bne_iff_ne.mpr c87
                                                  have H' := Aside0.mk H
                                                  clear H
                                                  go_wp2_with (first | (go_at_call 174; (with_reducible refine (isa86_wide.calls kj69 a1 t163 _ A86.out).mono ?_); rintro e w' ⟨rfl, ⟨nd, rfl⟩⟩))
                                                  go_meet
                                                  case rel => exact ⟨_, (false), (by first | rfl | (simp; done) | (simp [*]; done)), H', ⟨by have := HJ2.out; have := HJ16.out; have := HJ29.out; have := HJ39.out; have := HJ49.out; have := HJ59.out; have := HJ69.out; first | omega | exact Nat.le_refl _⟩, ⟨by (with_reducible repeat (first | refine blk_drewN ?_ _ | refine blk_drew ?_ | refine blk_alloc ?_ _)); exact BK104.out⟩, ⟨by repeat (first | (with_reducible first | exact HB.out | apply below_alloc | apply pw_below_drewN | apply below_drew1 | refine below_set ?_ GE104.out) | exact HB.out)⟩⟩
                                              · rw [if_neg c85] at H
                                                have c85b0 : (a0 == 19) = false := beq_eq_false_iff_ne.mpr c85
                                                have c85b1 : (a0 != 19) = true := bne_iff_ne.mpr c85
                                                (first | rw [c85b0] | (simp only [i64_w, i32_w]; rw [c85b0]) | skip)
                                                have H' := Aside0.mk H
                                                clear H
                                                go_wp2
                                                go_meet
                                                case rel => exact ⟨_, (false), (by first | rfl | (simp; done) | (simp [*]; done)), H', ⟨by have := HJ2.out; have := HJ16.out; have := HJ29.out; have := HJ39.out; have := HJ49.out; have := HJ59.out; have := HJ69.out; first | omega | exact Nat.le_refl _⟩, ⟨by (with_reducible repeat (first | refine blk_drewN ?_ _ | refine blk_drew ?_ | refine blk_alloc ?_ _)); exact BK104.out⟩, ⟨by repeat (first | (with_reducible first | exact HB.out | apply below_alloc | apply pw_below_drewN | apply below_drew1 | refine below_set ?_ GE104.out) | exact HB.out)⟩⟩
                                            case rest =>
                                              clear HC84
                                              try clear c1
                                              try clear c2
                                              try clear p2
                                              try clear c3
                                              try clear c4
                                              try clear c5
                                              try clear c6
                                              try clear c6b0
                                              try clear c6b1
                                              try clear c7
                                              try clear c8
                                              try clear c15
                                              try clear c17
                                              try clear c18
                                              try clear c18b0
                                              try clear c18b1
                                              try clear c20
                                              try clear c31
                                              try clear c31b0
                                              try clear c31b1
                                              try clear c32
                                              try clear c41
                                              try clear c41b0
                                              try clear c41b1
                                              try clear c42
                                              try clear c51
                                              try clear c51b0
                                              try clear c51b1
                                              try clear c52
                                              try clear c61
                                              try clear c61b0
                                              try clear c61b1
                                              try clear c62
                                              try clear c72
                                              try clear c72b0
                                              try clear c72b1
                                              try clear c73
                                              try clear c73b0
                                              try clear c73b1
                                              try clear c74
                                              try clear c85
                                              try clear c85b0
                                              try clear c85b1
                                              try clear c87
                                              try clear c87b0
                                              try clear c87b1
                                              try clear hcz16_0
                                              try clear hcz16_1
                                              try clear hcz29_0
                                              try clear hcz29_1
                                              try clear hcz39_0
                                              try clear hcz39_1
                                              try clear hcz49_0
                                              try clear hcz49_1
                                              try clear hcz59_0
                                              try clear hcz59_1
                                              try clear hcz69_0
                                              try clear hcz69_1
                                              try clear hcz83_0
                                              try clear hcz83_1
                                              try clear hfz16_0
                                              try clear hfz16_1
                                              try clear hfz29_0
                                              try clear hfz29_1
                                              try clear hfz39_0
                                              try clear hfz39_1
                                              try clear hfz49_0
                                              try clear hfz49_1
                                              try clear hfz59_0
                                              try clear hfz59_1
                                              try clear hfz69_0
                                              try clear hfz69_1
                                              try clear hfz83_0
                                              try clear hfz83_1
                                              try clear p2
                                              obtain ⟨kq, x84_83, rfl, HA, HJ83, BK104, HB⟩ := hcut
                                              cases kq with
                                              | zero => exact absurd HA.out (by simp [isa86_places.j7])
                                              | succ kj83 =>
                                                have H := HA.out
                                                clear HA
                                                simp only [isa86_places.j7] at H
                                                by_cases c88 : x84_83 = true
                                                · subst c88
                                                  have H1 : ((isa86_num.f a1).bind fun t164 => ((isa86_mem.f t164 6).bind fun t165 => ((isa86_of.f 2 (([137, t165] : List Int))).bind fun bt169 => (some (bt169.1, bt169.2))))) = some (r1, r2) := by rw [if_pos rfl] at H; exact H
                                                  clear H
                                                  have H := H1
                                                  clear H1
                                                  replace H := Option.bind_eq_some_iff.mp H
                                                  obtain ⟨t164, A890, H⟩ := H
                                                  replace H : ((isa86_mem.f t164 6).bind fun t165 => ((isa86_of.f 2 (([137, t165] : List Int))).bind fun bt169 => (some (bt169.1, bt169.2)))) = some (r1, r2) := H
                                                  have A89 := Aside0.mk A890
                                                  clear A890
                                                  replace H := Option.bind_eq_some_iff.mp H
                                                  obtain ⟨t165, A900, H⟩ := H
                                                  replace H : ((isa86_of.f 2 (([137, t165] : List Int))).bind fun bt169 => (some (bt169.1, bt169.2))) = some (r1, r2) := H
                                                  have A90 := Aside0.mk A900
                                                  clear A900
                                                  obtain ⟨y166, hy166⟩ : ∃ y_ : List Int, y_ = (([137, t165] : List Int)) := ⟨_, rfl⟩
                                                  replace H : ((isa86_of.f 2 y166).bind fun bt169 => (some (bt169.1, bt169.2))) = some (r1, r2) := by first | (rw [hy166]; with_reducible exact H) | (have H2_ := (Option.bind_some _ _).symm.trans H; rw [hy166]; with_reducible exact H2_) | (have H2_ := (Option.bind_some _ _).symm.trans H; with_reducible exact H2_) | with_reducible exact H | (rw [hy166]; exact H) | exact H
                                                  have Ny166 := Aside0.mk hy166
                                                  clear hy166
                                                  replace H := Option.bind_eq_some_iff.mp H
                                                  obtain ⟨⟨t169, t172⟩, A910, H⟩ := H
                                                  replace H : (some (t169, t172)) = some (r1, r2) := H
                                                  have A91 := Aside0.mk A910
                                                  clear A910
                                                  simp only [Option.some.injEq, Prod.mk.injEq] at H
                                                  obtain ⟨rfl, rfl⟩ := H
                                                  go_wp2_with (first | ((with_reducible refine gate_callee (f := 176) rfl ?_); refine goesL_ (some 97) rfl rfl Tryd.func176 (by kernel_rfl) rfl #[.int .i64 a1] rfl (by (try simp only [List.map_toArray, List.map_cons, List.map_nil]); first | done | rfl | (simp only [List.length_drop, List.length_take]; rfl)) ?_; (with_reducible refine (isa86_num.calls a1 t164 _ A89.out).mono ?_); rintro e w' ⟨rfl, ⟨nd, rfl⟩⟩; refine ⟨_, rfl, ?_⟩; (try (rw [drewN_self wc]; generalize hq_ : World.drewN wc _ = wc; have n0_ : Aside0 (wc.heap[gb104]? = some (.cells #[.slice none 0 0, .int .i64 0] 139 (0, 0))) := ⟨by rw [← hq_]; exact (by (with_reducible repeat (first | refine blk_drewN ?_ _ | refine blk_drew ?_ | refine blk_alloc ?_ _)); exact BK104.out)⟩; have n1_ : Aside0 (Below w.heap.size w wc) := ⟨by rw [← hq_]; exact (by repeat (first | (with_reducible first | exact HB.out | apply below_alloc | apply pw_below_drewN | apply below_drew1 | refine below_set ?_ GE104.out) | exact HB.out))⟩; clear BK104 HB hq_; have BK104 := n0_; have HB := n1_; clear n0_ n1_))) | ((with_reducible refine gate_callee (f := 178) rfl ?_); refine goesL_ (some 98) rfl rfl Tryd.func178 (by kernel_rfl) rfl #[.int .u8 t164, .int .u8 6] rfl (by (try simp only [List.map_toArray, List.map_cons, List.map_nil]); first | done | rfl | (simp only [List.length_drop, List.length_take]; rfl)) ?_; (with_reducible refine (isa86_mem.calls t164 6 t165 _ A90.out).mono ?_); rintro e w' ⟨rfl, ⟨nd, rfl⟩⟩; refine ⟨_, rfl, ?_⟩; (try (rw [drewN_self wc]; generalize hq_ : World.drewN wc _ = wc; have n0_ : Aside0 (wc.heap[gb104]? = some (.cells #[.slice none 0 0, .int .i64 0] 139 (0, 0))) := ⟨by rw [← hq_]; exact (by (with_reducible repeat (first | refine blk_drewN ?_ _ | refine blk_drew ?_ | refine blk_alloc ?_ _)); exact BK104.out)⟩; have n1_ : Aside0 (Below w.heap.size w wc) := ⟨by rw [← hq_]; exact (by repeat (first | (with_reducible first | exact HB.out | apply below_alloc | apply pw_below_drewN | apply below_drew1 | refine below_set ?_ GE104.out) | exact HB.out))⟩; clear BK104 HB hq_; have BK104 := n0_; have HB := n1_; clear n0_ n1_))) | ((with_reducible refine gate_dst (N := 99) rfl ?_); refine Kd.R_lit (Kd.int .u8) _ 5 ?hg (N := 99) ?hd (xs := ([137, t165] : List Int)) (inner := [.int .u8 137, .int .u8 t165]) (ok := fun _ => True) (okp := fun _ => True) ?hr ?hp (fun _ hk => hk) trivial (Below.refl _ _) (Nat.le_refl _) (by simp) ?_; (case hd => rfl); (case hg => rfl); (case hr => first | (go_simp; done) | (go_simp; rfl)); (case hp => exact (Reps.one (show Kd.M (Kd.int .u8) _ _ _ 137 [.int .u8 137] from rfl) (Reps.one (show Kd.M (Kd.int .u8) _ _ _ t165 [.int .u8 t165] from rfl) (Reps.none _ _)))); intro v167 w92 ho93 hb hg_ hnew_; clear hg_ hnew_; (first | rw [← Ny166.out] at ho93 | (simp only [Int.reduceToNat] at ho93; rw [← Ny166.out] at ho93)); have n0_ := Aside0.mk (Kd.R_lower ho93 (below_size (by repeat (first | (with_reducible first | exact HB.out | apply below_alloc | apply pw_below_drewN | apply below_drew1 | refine below_set ?_ GE104.out) | exact HB.out)))); have n1_ := Aside0.mk (blk_below (g := gb104) (o := .cells #[.slice none 0 0, .int .i64 0] 139 (0, 0)) (by (with_reducible repeat (first | refine blk_drewN ?_ _ | refine blk_drew ?_ | refine blk_alloc ?_ _)); exact BK104.out) hb); have n2_ := Aside0.mk (below_step (by repeat (first | (with_reducible first | exact HB.out | apply below_alloc | apply pw_below_drewN | apply below_drew1 | refine below_set ?_ GE104.out) | exact HB.out)) hb); clear BK104; clear HB; have HO168 := n0_; have BK104 := n1_; have HB := n2_; clear n0_ n1_ n2_; clear hb ho93; obtain ⟨Ao94, co94, eo94⟩ := Kd.R_slice HO168.out; subst eo94) | ((with_reducible refine gate_callee (f := 157) rfl ?_); refine goesL_ (some 100) rfl rfl Tryd.func157 (by kernel_rfl) rfl #[.int .i64 2, .slice Ao94 y166.length co94] rfl (by (try simp only [List.map_toArray, List.map_cons, List.map_nil]); first | done | rfl | (simp only [List.length_drop, List.length_take]; rfl)) ?_; (with_reducible refine (isa86_of.calls 2 (fun k_ => some k_ = (.slice Ao94 y166.length co94 : Value).ownBlock) (.slice Ao94 y166.length co94) y166 t169 t172 w _ ?side1 ?side2 A91.out).mono ?_); (case side1 => repeat (first | (with_reducible first | exact HB.out | apply below_alloc | apply pw_below_drewN | apply below_drew1 | refine below_set ?_ GE104.out) | exact HB.out)); (case side2 => exact Kd.R_tight rfl HO168.out); rintro e w95 ⟨v170, rfl, ho0, hb, hkp⟩; refine ⟨_, rfl, ?_⟩; have n0_ := Aside0.mk (blk_kept (by (with_reducible repeat (first | refine blk_drewN ?_ _ | refine blk_drew ?_ | refine blk_alloc ?_ _)); exact BK104.out) hkp (fun hs_ => (fun e_ => (Kd.R_ne HO168.out BK104.out (by decide)) e_) hs_)); have n1_ := Aside0.mk (Kd.R_mono (ok' := fun k_ => True) ho0 (fun k_ hk_ => trivial)); have n2_ := Aside0.mk (hb); clear BK104; clear HB; clear HO168; have BK104 := n0_; have HO171 := n1_; have HB := n2_; clear n0_ n1_ n2_; (try clear hb); (try clear hkp); (try clear ho0); obtain ⟨Ao96, co96, eo96⟩ := Kd.R_slice HO171.out; subst eo96; have hcz97_0 : w95.cell? ⟨gb104, 0, none⟩ = some (.slice none 0 0) := (blk_cell BK104.out 0).trans rfl; have hcz97_1 : w95.cell? ⟨gb104, 1, none⟩ = some (.int .i64 0) := (blk_cell BK104.out 1).trans rfl; have hfz97_0 := blk_frozen BK104.out 0; have hfz97_1 := blk_frozen BK104.out 1))
                                                  refine bodyPost_ret (results_cell_row rfl _ _ gb104 139 #[.slice Ao96 t169.length co96, .int .i64 t172] (0, 0) _ rfl (by (with_reducible repeat (first | refine blk_drewN ?_ _ | refine blk_drew ?_ | refine blk_alloc ?_ _)); refine blk_put (cs := #[.slice Ao96 t169.length co96, .int .i64 0]) ?_ 1 _ rfl; (with_reducible repeat (first | refine blk_drewN ?_ _ | refine blk_drew ?_ | refine blk_alloc ?_ _)); refine blk_put (cs := #[.slice none 0 0, .int .i64 0]) ?_ 0 _ rfl; (with_reducible repeat (first | refine blk_drewN ?_ _ | refine blk_drew ?_ | refine blk_alloc ?_ _)); exact BK104.out) Tryd.underlying139 rfl (by kernel_rfl)) rfl ?_
                                                  exact ⟨_, by first | rfl | (simp [errW_none, errW_some] <;> rfl) | (simp [*, errW_none, errW_some] <;> rfl), by (with_reducible repeat (first | apply Kd.R_alloc | apply Kd.R_drewN | apply Kd.R_drew)); exact Kd.R_mono (Kd.R_far (p := ⟨gb104, 1, none⟩) (Kd.R_far (p := ⟨gb104, 0, none⟩) (Kd.R_types HO171.out BK104.out (by decide)) (fun _ hk => hk.2) (.slice Ao96 t169.length co96)) (fun _ hk => hk.2) (.int .i64 t172)) (fun _ hk => trivial), by repeat (first | (with_reducible first | exact HB.out | apply below_alloc | apply pw_below_drewN | apply below_drew1 | refine below_set ?_ GE104.out) | exact HB.out)⟩
                                                · replace c88 := Bool.eq_false_iff.mpr c88
                                                  subst c88
                                                  have H1 : ((isa86_wide.f kj83 a0).bind fun t173 => (if t173 = 8 then (isa86_places.j8 kj83 a0 a1 (a1 == 20)) else (isa86_places.j8 kj83 a0 a1 false))) = some (r1, r2) := by rw [if_neg (show ¬ (false = true) by decide)] at H; exact H
                                                  clear H
                                                  have H := H1
                                                  clear H1
                                                  have HC98 := Aside0.mk H
                                                  clear H
                                                  go_upto_region 17 with (fail)
                                                  go_cut [101] (fun v101 wc => ∃ (kq : Nat) (x101_97 : Bool), v101 = .bool x101_97 ∧ Aside0 (isa86_places.j8 kq a0 a1 x101_97 = some (r1, r2)) ∧ Aside0 (kq ≤ kj83) ∧ Aside0 (wc.heap[gb104]? = some (.cells #[(.slice none 0 0), .int .i64 0] 139 (0, 0))) ∧ Aside0 (Below w.heap.size w wc))
                                                  case first =>
                                                    have H := HC98.out
                                                    clear HC98
                                                    replace H := Option.bind_eq_some_iff.mp H
                                                    obtain ⟨t173, A990, H⟩ := H
                                                    replace H : (if t173 = 8 then (isa86_places.j8 kj83 a0 a1 (a1 == 20)) else (isa86_places.j8 kj83 a0 a1 false)) = some (r1, r2) := H
                                                    have A99 := Aside0.mk A990
                                                    clear A990
                                                    by_cases c100 : t173 = 8
                                                    · rw [if_pos c100] at H
                                                      have c100b0 : (t173 == 8) = true := beq_iff_eq.mpr c100
                                                      have c100b1 : (t173 != 8) = false := bne_eq_false_iff_eq.mpr c100
                                                      clear c100
                                                      (first | rw [c100b0] | (simp only [i64_w, i32_w]; rw [c100b0]) | skip)
                                                      have H' := Aside0.mk H
                                                      clear H
                                                      go_wp2_with (first | ((with_reducible refine gate_callee (f := 174) rfl ?_); refine goesL_ (some 103) rfl rfl Tryd.func174 (by kernel_rfl) rfl #[.int .i64 a0] rfl (by (try simp only [List.map_toArray, List.map_cons, List.map_nil]); first | done | rfl | (simp only [List.length_drop, List.length_take]; rfl)) ?_; (with_reducible refine (isa86_wide.calls kj83 a0 t173 _ A99.out).mono ?_); rintro e w' ⟨rfl, ⟨nd, rfl⟩⟩; refine ⟨_, rfl, ?_⟩))
                                                      go_meet
                                                      case rel => exact ⟨_, ((a1 == 20)), (by first | rfl | (simp; done) | (simp [*]; done)), H', ⟨by have := HJ2.out; have := HJ16.out; have := HJ29.out; have := HJ39.out; have := HJ49.out; have := HJ59.out; have := HJ69.out; have := HJ83.out; first | omega | exact Nat.le_refl _⟩, ⟨by (with_reducible repeat (first | refine blk_drewN ?_ _ | refine blk_drew ?_ | refine blk_alloc ?_ _)); exact BK104.out⟩, ⟨by repeat (first | (with_reducible first | exact HB.out | apply below_alloc | apply pw_below_drewN | apply below_drew1 | refine below_set ?_ GE104.out) | exact HB.out)⟩⟩
                                                    · rw [if_neg c100] at H
                                                      have c100b0 : (t173 == 8) = false := beq_eq_false_iff_ne.mpr c100
                                                      have c100b1 : (t173 != 8) = true := bne_iff_ne.mpr c100
                                                      (first | rw [c100b0] | (simp only [i64_w, i32_w]; rw [c100b0]) | skip)
                                                      have H' := Aside0.mk H
                                                      clear H
                                                      go_wp2_with (first | ((with_reducible refine gate_callee (f := 174) rfl ?_); refine goesL_ (some 103) rfl rfl Tryd.func174 (by kernel_rfl) rfl #[.int .i64 a0] rfl (by (try simp only [List.map_toArray, List.map_cons, List.map_nil]); first | done | rfl | (simp only [List.length_drop, List.length_take]; rfl)) ?_; (with_reducible refine (isa86_wide.calls kj83 a0 t173 _ A99.out).mono ?_); rintro e w' ⟨rfl, ⟨nd, rfl⟩⟩; refine ⟨_, rfl, ?_⟩))
                                                      go_meet
                                                      case rel => exact ⟨_, (false), (by first | rfl | (simp; done) | (simp [*]; done)), H', ⟨by have := HJ2.out; have := HJ16.out; have := HJ29.out; have := HJ39.out; have := HJ49.out; have := HJ59.out; have := HJ69.out; have := HJ83.out; first | omega | exact Nat.le_refl _⟩, ⟨by (with_reducible repeat (first | refine blk_drewN ?_ _ | refine blk_drew ?_ | refine blk_alloc ?_ _)); exact BK104.out⟩, ⟨by repeat (first | (with_reducible first | exact HB.out | apply below_alloc | apply pw_below_drewN | apply below_drew1 | refine below_set ?_ GE104.out) | exact HB.out)⟩⟩
                                                  case rest =>
                                                    clear HC98
                                                    try clear c1
                                                    try clear c2
                                                    try clear p2
                                                    try clear c3
                                                    try clear c4
                                                    try clear c5
                                                    try clear c6
                                                    try clear c6b0
                                                    try clear c6b1
                                                    try clear c7
                                                    try clear c8
                                                    try clear c10
                                                    try clear c15
                                                    try clear c17
                                                    try clear c18
                                                    try clear c18b0
                                                    try clear c18b1
                                                    try clear c20
                                                    try clear c31
                                                    try clear c31b0
                                                    try clear c31b1
                                                    try clear c32
                                                    try clear c41
                                                    try clear c41b0
                                                    try clear c41b1
                                                    try clear c42
                                                    try clear c51
                                                    try clear c51b0
                                                    try clear c51b1
                                                    try clear c52
                                                    try clear c61
                                                    try clear c61b0
                                                    try clear c61b1
                                                    try clear c62
                                                    try clear c72
                                                    try clear c72b0
                                                    try clear c72b1
                                                    try clear c73
                                                    try clear c73b0
                                                    try clear c73b1
                                                    try clear c74
                                                    try clear c85
                                                    try clear c85b0
                                                    try clear c85b1
                                                    try clear c87
                                                    try clear c87b0
                                                    try clear c87b1
                                                    try clear c88
                                                    try clear c100
                                                    try clear c100b0
                                                    try clear c100b1
                                                    try clear hcz16_0
                                                    try clear hcz16_1
                                                    try clear hcz29_0
                                                    try clear hcz29_1
                                                    try clear hcz39_0
                                                    try clear hcz39_1
                                                    try clear hcz49_0
                                                    try clear hcz49_1
                                                    try clear hcz59_0
                                                    try clear hcz59_1
                                                    try clear hcz69_0
                                                    try clear hcz69_1
                                                    try clear hcz83_0
                                                    try clear hcz83_1
                                                    try clear hcz97_0
                                                    try clear hcz97_1
                                                    try clear hfz16_0
                                                    try clear hfz16_1
                                                    try clear hfz29_0
                                                    try clear hfz29_1
                                                    try clear hfz39_0
                                                    try clear hfz39_1
                                                    try clear hfz49_0
                                                    try clear hfz49_1
                                                    try clear hfz59_0
                                                    try clear hfz59_1
                                                    try clear hfz69_0
                                                    try clear hfz69_1
                                                    try clear hfz83_0
                                                    try clear hfz83_1
                                                    try clear hfz97_0
                                                    try clear hfz97_1
                                                    try clear p2
                                                    obtain ⟨kq, x101_97, rfl, HA, HJ97, BK104, HB⟩ := hcut
                                                    cases kq with
                                                    | zero => exact absurd HA.out (by simp [isa86_places.j8])
                                                    | succ kj97 =>
                                                      have H := HA.out
                                                      clear HA
                                                      simp only [isa86_places.j8] at H
                                                      by_cases c101 : x101_97 = true
                                                      · subst c101
                                                        have H1 : ((isa86_num.f a0).bind fun t174 => ((isa86_of.f 1 (([Go.bits .or .u8 176 t174] : List Int))).bind fun bt178 => (some (bt178.1, bt178.2)))) = some (r1, r2) := by rw [if_pos rfl] at H; exact H
                                                        clear H
                                                        have H := H1
                                                        clear H1
                                                        replace H := Option.bind_eq_some_iff.mp H
                                                        obtain ⟨t174, A1020, H⟩ := H
                                                        replace H : ((isa86_of.f 1 (([Go.bits .or .u8 176 t174] : List Int))).bind fun bt178 => (some (bt178.1, bt178.2))) = some (r1, r2) := H
                                                        have A102 := Aside0.mk A1020
                                                        clear A1020
                                                        obtain ⟨y175, hy175⟩ : ∃ y_ : List Int, y_ = (([Go.bits .or .u8 176 t174] : List Int)) := ⟨_, rfl⟩
                                                        replace H : ((isa86_of.f 1 y175).bind fun bt178 => (some (bt178.1, bt178.2))) = some (r1, r2) := by first | (rw [hy175]; with_reducible exact H) | (have H2_ := (Option.bind_some _ _).symm.trans H; rw [hy175]; with_reducible exact H2_) | (have H2_ := (Option.bind_some _ _).symm.trans H; with_reducible exact H2_) | with_reducible exact H | (rw [hy175]; exact H) | exact H
                                                        have Ny175 := Aside0.mk hy175
                                                        clear hy175
                                                        replace H := Option.bind_eq_some_iff.mp H
                                                        obtain ⟨⟨t178, t181⟩, A1030, H⟩ := H
                                                        replace H : (some (t178, t181)) = some (r1, r2) := H
                                                        have A103 := Aside0.mk A1030
                                                        clear A1030
                                                        simp only [Option.some.injEq, Prod.mk.injEq] at H
                                                        obtain ⟨rfl, rfl⟩ := H
                                                        go_wp2_with (first | ((with_reducible refine gate_callee (f := 176) rfl ?_); refine goesL_ (some 110) rfl rfl Tryd.func176 (by kernel_rfl) rfl #[.int .i64 a0] rfl (by (try simp only [List.map_toArray, List.map_cons, List.map_nil]); first | done | rfl | (simp only [List.length_drop, List.length_take]; rfl)) ?_; (with_reducible refine (isa86_num.calls a0 t174 _ A102.out).mono ?_); rintro e w' ⟨rfl, ⟨nd, rfl⟩⟩; refine ⟨_, rfl, ?_⟩; (try (rw [drewN_self wc]; generalize hq_ : World.drewN wc _ = wc; have n0_ : Aside0 (wc.heap[gb104]? = some (.cells #[.slice none 0 0, .int .i64 0] 139 (0, 0))) := ⟨by rw [← hq_]; exact (by (with_reducible repeat (first | refine blk_drewN ?_ _ | refine blk_drew ?_ | refine blk_alloc ?_ _)); exact BK104.out)⟩; have n1_ : Aside0 (Below w.heap.size w wc) := ⟨by rw [← hq_]; exact (by repeat (first | (with_reducible first | exact HB.out | apply below_alloc | apply pw_below_drewN | apply below_drew1 | refine below_set ?_ GE104.out) | exact HB.out))⟩; clear BK104 HB hq_; have BK104 := n0_; have HB := n1_; clear n0_ n1_))) | ((with_reducible refine gate_dst (N := 112) rfl ?_); refine Kd.R_lit (Kd.int .u8) _ 5 ?hg (N := 112) ?hd (xs := ([Go.bits .or .u8 176 t174] : List Int)) (inner := [.int .u8 (Go.bits .or .u8 176 t174)]) (ok := fun _ => True) (okp := fun _ => True) ?hr ?hp (fun _ hk => hk) trivial (Below.refl _ _) (Nat.le_refl _) (by simp) ?_; (case hd => rfl); (case hg => rfl); (case hr => first | (go_simp; done) | (go_simp; rfl)); (case hp => exact (Reps.one (show Kd.M (Kd.int .u8) _ _ _ (Go.bits .or .u8 176 t174) [.int .u8 (Go.bits .or .u8 176 t174)] from rfl) (Reps.none _ _))); intro v176 w104 ho105 hb hg_ hnew_; clear hg_ hnew_; (first | rw [← Ny175.out] at ho105 | (simp only [Int.reduceToNat] at ho105; rw [← Ny175.out] at ho105)); have n0_ := Aside0.mk (Kd.R_lower ho105 (below_size (by repeat (first | (with_reducible first | exact HB.out | apply below_alloc | apply pw_below_drewN | apply below_drew1 | refine below_set ?_ GE104.out) | exact HB.out)))); have n1_ := Aside0.mk (blk_below (g := gb104) (o := .cells #[.slice none 0 0, .int .i64 0] 139 (0, 0)) (by (with_reducible repeat (first | refine blk_drewN ?_ _ | refine blk_drew ?_ | refine blk_alloc ?_ _)); exact BK104.out) hb); have n2_ := Aside0.mk (below_step (by repeat (first | (with_reducible first | exact HB.out | apply below_alloc | apply pw_below_drewN | apply below_drew1 | refine below_set ?_ GE104.out) | exact HB.out)) hb); clear BK104; clear HB; have HO177 := n0_; have BK104 := n1_; have HB := n2_; clear n0_ n1_ n2_; clear hb ho105; obtain ⟨Ao106, co106, eo106⟩ := Kd.R_slice HO177.out; subst eo106) | ((with_reducible refine gate_callee (f := 157) rfl ?_); refine goesL_ (some 113) rfl rfl Tryd.func157 (by kernel_rfl) rfl #[.int .i64 1, .slice Ao106 y175.length co106] rfl (by (try simp only [List.map_toArray, List.map_cons, List.map_nil]); first | done | rfl | (simp only [List.length_drop, List.length_take]; rfl)) ?_; (with_reducible refine (isa86_of.calls 1 (fun k_ => some k_ = (.slice Ao106 y175.length co106 : Value).ownBlock) (.slice Ao106 y175.length co106) y175 t178 t181 w _ ?side1 ?side2 A103.out).mono ?_); (case side1 => repeat (first | (with_reducible first | exact HB.out | apply below_alloc | apply pw_below_drewN | apply below_drew1 | refine below_set ?_ GE104.out) | exact HB.out)); (case side2 => exact Kd.R_tight rfl HO177.out); rintro e w107 ⟨v179, rfl, ho0, hb, hkp⟩; refine ⟨_, rfl, ?_⟩; have n0_ := Aside0.mk (blk_kept (by (with_reducible repeat (first | refine blk_drewN ?_ _ | refine blk_drew ?_ | refine blk_alloc ?_ _)); exact BK104.out) hkp (fun hs_ => (fun e_ => (Kd.R_ne HO177.out BK104.out (by decide)) e_) hs_)); have n1_ := Aside0.mk (Kd.R_mono (ok' := fun k_ => True) ho0 (fun k_ hk_ => trivial)); have n2_ := Aside0.mk (hb); clear BK104; clear HB; clear HO177; have BK104 := n0_; have HO180 := n1_; have HB := n2_; clear n0_ n1_ n2_; (try clear hb); (try clear hkp); (try clear ho0); obtain ⟨Ao108, co108, eo108⟩ := Kd.R_slice HO180.out; subst eo108; have hcz109_0 : w107.cell? ⟨gb104, 0, none⟩ = some (.slice none 0 0) := (blk_cell BK104.out 0).trans rfl; have hcz109_1 : w107.cell? ⟨gb104, 1, none⟩ = some (.int .i64 0) := (blk_cell BK104.out 1).trans rfl; have hfz109_0 := blk_frozen BK104.out 0; have hfz109_1 := blk_frozen BK104.out 1))
                                                        refine bodyPost_ret (results_cell_row rfl _ _ gb104 139 #[.slice Ao108 t178.length co108, .int .i64 t181] (0, 0) _ rfl (by (with_reducible repeat (first | refine blk_drewN ?_ _ | refine blk_drew ?_ | refine blk_alloc ?_ _)); refine blk_put (cs := #[.slice Ao108 t178.length co108, .int .i64 0]) ?_ 1 _ rfl; (with_reducible repeat (first | refine blk_drewN ?_ _ | refine blk_drew ?_ | refine blk_alloc ?_ _)); refine blk_put (cs := #[.slice none 0 0, .int .i64 0]) ?_ 0 _ rfl; (with_reducible repeat (first | refine blk_drewN ?_ _ | refine blk_drew ?_ | refine blk_alloc ?_ _)); exact BK104.out) Tryd.underlying139 rfl (by kernel_rfl)) rfl ?_
                                                        exact ⟨_, by first | rfl | (simp [errW_none, errW_some] <;> rfl) | (simp [*, errW_none, errW_some] <;> rfl), by (with_reducible repeat (first | apply Kd.R_alloc | apply Kd.R_drewN | apply Kd.R_drew)); exact Kd.R_mono (Kd.R_far (p := ⟨gb104, 1, none⟩) (Kd.R_far (p := ⟨gb104, 0, none⟩) (Kd.R_types HO180.out BK104.out (by decide)) (fun _ hk => hk.2) (.slice Ao108 t178.length co108)) (fun _ hk => hk.2) (.int .i64 t181)) (fun _ hk => trivial), by repeat (first | (with_reducible first | exact HB.out | apply below_alloc | apply pw_below_drewN | apply below_drew1 | refine below_set ?_ GE104.out) | exact HB.out)⟩
                                                      · replace c101 := Bool.eq_false_iff.mpr c101
                                                        subst c101
                                                        have H1 : ((isa86_wide.f kj97 a0).bind fun t182 => (if t182 = 16 then (isa86_places.j9 kj97 a0 a1 (a1 == 20)) else (isa86_places.j9 kj97 a0 a1 false))) = some (r1, r2) := by rw [if_neg (show ¬ (false = true) by decide)] at H; exact H
                                                        clear H
                                                        have H := H1
                                                        clear H1
                                                        have HC110 := Aside0.mk H
                                                        clear H
                                                        go_upto_region 19 with (fail)
                                                        go_cut [114] (fun v114 wc => ∃ (kq : Nat) (x114_109 : Bool), v114 = .bool x114_109 ∧ Aside0 (isa86_places.j9 kq a0 a1 x114_109 = some (r1, r2)) ∧ Aside0 (kq ≤ kj97) ∧ Aside0 (wc.heap[gb104]? = some (.cells #[(.slice none 0 0), .int .i64 0] 139 (0, 0))) ∧ Aside0 (Below w.heap.size w wc))
                                                        case first =>
                                                          have H := HC110.out
                                                          clear HC110
                                                          replace H := Option.bind_eq_some_iff.mp H
                                                          obtain ⟨t182, A1110, H⟩ := H
                                                          replace H : (if t182 = 16 then (isa86_places.j9 kj97 a0 a1 (a1 == 20)) else (isa86_places.j9 kj97 a0 a1 false)) = some (r1, r2) := H
                                                          have A111 := Aside0.mk A1110
                                                          clear A1110
                                                          by_cases c112 : t182 = 16
                                                          · rw [if_pos c112] at H
                                                            have c112b0 : (t182 == 16) = true := beq_iff_eq.mpr c112
                                                            have c112b1 : (t182 != 16) = false := bne_eq_false_iff_eq.mpr c112
                                                            clear c112
                                                            (first | rw [c112b0] | (simp only [i64_w, i32_w]; rw [c112b0]) | skip)
                                                            have H' := Aside0.mk H
                                                            clear H
                                                            go_wp2_with (first | ((with_reducible refine gate_callee (f := 174) rfl ?_); refine goesL_ (some 116) rfl rfl Tryd.func174 (by kernel_rfl) rfl #[.int .i64 a0] rfl (by (try simp only [List.map_toArray, List.map_cons, List.map_nil]); first | done | rfl | (simp only [List.length_drop, List.length_take]; rfl)) ?_; (with_reducible refine (isa86_wide.calls kj97 a0 t182 _ A111.out).mono ?_); rintro e w' ⟨rfl, ⟨nd, rfl⟩⟩; refine ⟨_, rfl, ?_⟩))
                                                            go_meet
                                                            case rel => exact ⟨_, ((a1 == 20)), (by first | rfl | (simp; done) | (simp [*]; done)), H', ⟨by have := HJ2.out; have := HJ16.out; have := HJ29.out; have := HJ39.out; have := HJ49.out; have := HJ59.out; have := HJ69.out; have := HJ83.out; have := HJ97.out; first | omega | exact Nat.le_refl _⟩, ⟨by (with_reducible repeat (first | refine blk_drewN ?_ _ | refine blk_drew ?_ | refine blk_alloc ?_ _)); exact BK104.out⟩, ⟨by repeat (first | (with_reducible first | exact HB.out | apply below_alloc | apply pw_below_drewN | apply below_drew1 | refine below_set ?_ GE104.out) | exact HB.out)⟩⟩
                                                          · rw [if_neg c112] at H
                                                            have c112b0 : (t182 == 16) = false := beq_eq_false_iff_ne.mpr c112
                                                            have c112b1 : (t182 != 16) = true := bne_iff_ne.mpr c112
                                                            (first | rw [c112b0] | (simp only [i64_w, i32_w]; rw [c112b0]) | skip)
                                                            have H' := Aside0.mk H
                                                            clear H
                                                            go_wp2_with (first | ((with_reducible refine gate_callee (f := 174) rfl ?_); refine goesL_ (some 116) rfl rfl Tryd.func174 (by kernel_rfl) rfl #[.int .i64 a0] rfl (by (try simp only [List.map_toArray, List.map_cons, List.map_nil]); first | done | rfl | (simp only [List.length_drop, List.length_take]; rfl)) ?_; (with_reducible refine (isa86_wide.calls kj97 a0 t182 _ A111.out).mono ?_); rintro e w' ⟨rfl, ⟨nd, rfl⟩⟩; refine ⟨_, rfl, ?_⟩))
                                                            go_meet
                                                            case rel => exact ⟨_, (false), (by first | rfl | (simp; done) | (simp [*]; done)), H', ⟨by have := HJ2.out; have := HJ16.out; have := HJ29.out; have := HJ39.out; have := HJ49.out; have := HJ59.out; have := HJ69.out; have := HJ83.out; have := HJ97.out; first | omega | exact Nat.le_refl _⟩, ⟨by (with_reducible repeat (first | refine blk_drewN ?_ _ | refine blk_drew ?_ | refine blk_alloc ?_ _)); exact BK104.out⟩, ⟨by repeat (first | (with_reducible first | exact HB.out | apply below_alloc | apply pw_below_drewN | apply below_drew1 | refine below_set ?_ GE104.out) | exact HB.out)⟩⟩
                                                        case rest =>
                                                          clear HC110
                                                          try clear c1
                                                          try clear c2
                                                          try clear p2
                                                          try clear c3
                                                          try clear c4
                                                          try clear c5
                                                          try clear c6
                                                          try clear c6b0
                                                          try clear c6b1
                                                          try clear c7
                                                          try clear c8
                                                          try clear c10
                                                          try clear c11
                                                          try clear c15
                                                          try clear c17
                                                          try clear c18
                                                          try clear c18b0
                                                          try clear c18b1
                                                          try clear c20
                                                          try clear c31
                                                          try clear c31b0
                                                          try clear c31b1
                                                          try clear c32
                                                          try clear c41
                                                          try clear c41b0
                                                          try clear c41b1
                                                          try clear c42
                                                          try clear c51
                                                          try clear c51b0
                                                          try clear c51b1
                                                          try clear c52
                                                          try clear c61
                                                          try clear c61b0
                                                          try clear c61b1
                                                          try clear c62
                                                          try clear c72
                                                          try clear c72b0
                                                          try clear c72b1
                                                          try clear c73
                                                          try clear c73b0
                                                          try clear c73b1
                                                          try clear c74
                                                          try clear c85
                                                          try clear c85b0
                                                          try clear c85b1
                                                          try clear c87
                                                          try clear c87b0
                                                          try clear c87b1
                                                          try clear c88
                                                          try clear c100
                                                          try clear c100b0
                                                          try clear c100b1
                                                          try clear c101
                                                          try clear c112
                                                          try clear c112b0
                                                          try clear c112b1
                                                          try clear hcz109_0
                                                          try clear hcz109_1
                                                          try clear hcz16_0
                                                          try clear hcz16_1
                                                          try clear hcz29_0
                                                          try clear hcz29_1
                                                          try clear hcz39_0
                                                          try clear hcz39_1
                                                          try clear hcz49_0
                                                          try clear hcz49_1
                                                          try clear hcz59_0
                                                          try clear hcz59_1
                                                          try clear hcz69_0
                                                          try clear hcz69_1
                                                          try clear hcz83_0
                                                          try clear hcz83_1
                                                          try clear hcz97_0
                                                          try clear hcz97_1
                                                          try clear hfz109_0
                                                          try clear hfz109_1
                                                          try clear hfz16_0
                                                          try clear hfz16_1
                                                          try clear hfz29_0
                                                          try clear hfz29_1
                                                          try clear hfz39_0
                                                          try clear hfz39_1
                                                          try clear hfz49_0
                                                          try clear hfz49_1
                                                          try clear hfz59_0
                                                          try clear hfz59_1
                                                          try clear hfz69_0
                                                          try clear hfz69_1
                                                          try clear hfz83_0
                                                          try clear hfz83_1
                                                          try clear hfz97_0
                                                          try clear hfz97_1
                                                          try clear p2
                                                          obtain ⟨kq, x114_109, rfl, HA, HJ109, BK104, HB⟩ := hcut
                                                          cases kq with
                                                          | zero => exact absurd HA.out (by simp [isa86_places.j9])
                                                          | succ kj109 =>
                                                            have H := HA.out
                                                            clear HA
                                                            simp only [isa86_places.j9] at H
                                                            by_cases c113 : x114_109 = true
                                                            · subst c113
                                                              have H1 : ((isa86_num.f a0).bind fun t183 => ((isa86_of.f 2 (([Go.bits .or .u8 184 t183] : List Int))).bind fun bt187 => (some (bt187.1, bt187.2)))) = some (r1, r2) := by rw [if_pos rfl] at H; exact H
                                                              clear H
                                                              have H := H1
                                                              clear H1
                                                              replace H := Option.bind_eq_some_iff.mp H
                                                              obtain ⟨t183, A1140, H⟩ := H
                                                              replace H : ((isa86_of.f 2 (([Go.bits .or .u8 184 t183] : List Int))).bind fun bt187 => (some (bt187.1, bt187.2))) = some (r1, r2) := H
                                                              have A114 := Aside0.mk A1140
                                                              clear A1140
                                                              obtain ⟨y184, hy184⟩ : ∃ y_ : List Int, y_ = (([Go.bits .or .u8 184 t183] : List Int)) := ⟨_, rfl⟩
                                                              replace H : ((isa86_of.f 2 y184).bind fun bt187 => (some (bt187.1, bt187.2))) = some (r1, r2) := by first | (rw [hy184]; with_reducible exact H) | (have H2_ := (Option.bind_some _ _).symm.trans H; rw [hy184]; with_reducible exact H2_) | (have H2_ := (Option.bind_some _ _).symm.trans H; with_reducible exact H2_) | with_reducible exact H | (rw [hy184]; exact H) | exact H
                                                              have Ny184 := Aside0.mk hy184
                                                              clear hy184
                                                              replace H := Option.bind_eq_some_iff.mp H
                                                              obtain ⟨⟨t187, t190⟩, A1150, H⟩ := H
                                                              replace H : (some (t187, t190)) = some (r1, r2) := H
                                                              have A115 := Aside0.mk A1150
                                                              clear A1150
                                                              simp only [Option.some.injEq, Prod.mk.injEq] at H
                                                              obtain ⟨rfl, rfl⟩ := H
                                                              go_wp2_with (first | ((with_reducible refine gate_callee (f := 176) rfl ?_); refine goesL_ (some 123) rfl rfl Tryd.func176 (by kernel_rfl) rfl #[.int .i64 a0] rfl (by (try simp only [List.map_toArray, List.map_cons, List.map_nil]); first | done | rfl | (simp only [List.length_drop, List.length_take]; rfl)) ?_; (with_reducible refine (isa86_num.calls a0 t183 _ A114.out).mono ?_); rintro e w' ⟨rfl, ⟨nd, rfl⟩⟩; refine ⟨_, rfl, ?_⟩; (try (rw [drewN_self wc]; generalize hq_ : World.drewN wc _ = wc; have n0_ : Aside0 (wc.heap[gb104]? = some (.cells #[.slice none 0 0, .int .i64 0] 139 (0, 0))) := ⟨by rw [← hq_]; exact (by (with_reducible repeat (first | refine blk_drewN ?_ _ | refine blk_drew ?_ | refine blk_alloc ?_ _)); exact BK104.out)⟩; have n1_ : Aside0 (Below w.heap.size w wc) := ⟨by rw [← hq_]; exact (by repeat (first | (with_reducible first | exact HB.out | apply below_alloc | apply pw_below_drewN | apply below_drew1 | refine below_set ?_ GE104.out) | exact HB.out))⟩; clear BK104 HB hq_; have BK104 := n0_; have HB := n1_; clear n0_ n1_))) | ((with_reducible refine gate_dst (N := 125) rfl ?_); refine Kd.R_lit (Kd.int .u8) _ 5 ?hg (N := 125) ?hd (xs := ([Go.bits .or .u8 184 t183] : List Int)) (inner := [.int .u8 (Go.bits .or .u8 184 t183)]) (ok := fun _ => True) (okp := fun _ => True) ?hr ?hp (fun _ hk => hk) trivial (Below.refl _ _) (Nat.le_refl _) (by simp) ?_; (case hd => rfl); (case hg => rfl); (case hr => first | (go_simp; done) | (go_simp; rfl)); (case hp => exact (Reps.one (show Kd.M (Kd.int .u8) _ _ _ (Go.bits .or .u8 184 t183) [.int .u8 (Go.bits .or .u8 184 t183)] from rfl) (Reps.none _ _))); intro v185 w116 ho117 hb hg_ hnew_; clear hg_ hnew_; (first | rw [← Ny184.out] at ho117 | (simp only [Int.reduceToNat] at ho117; rw [← Ny184.out] at ho117)); have n0_ := Aside0.mk (Kd.R_lower ho117 (below_size (by repeat (first | (with_reducible first | exact HB.out | apply below_alloc | apply pw_below_drewN | apply below_drew1 | refine below_set ?_ GE104.out) | exact HB.out)))); have n1_ := Aside0.mk (blk_below (g := gb104) (o := .cells #[.slice none 0 0, .int .i64 0] 139 (0, 0)) (by (with_reducible repeat (first | refine blk_drewN ?_ _ | refine blk_drew ?_ | refine blk_alloc ?_ _)); exact BK104.out) hb); have n2_ := Aside0.mk (below_step (by repeat (first | (with_reducible first | exact HB.out | apply below_alloc | apply pw_below_drewN | apply below_drew1 | refine below_set ?_ GE104.out) | exact HB.out)) hb); clear BK104; clear HB; have HO186 := n0_; have BK104 := n1_; have HB := n2_; clear n0_ n1_ n2_; clear hb ho117; obtain ⟨Ao118, co118, eo118⟩ := Kd.R_slice HO186.out; subst eo118) | ((with_reducible refine gate_callee (f := 157) rfl ?_); refine goesL_ (some 126) rfl rfl Tryd.func157 (by kernel_rfl) rfl #[.int .i64 2, .slice Ao118 y184.length co118] rfl (by (try simp only [List.map_toArray, List.map_cons, List.map_nil]); first | done | rfl | (simp only [List.length_drop, List.length_take]; rfl)) ?_; (with_reducible refine (isa86_of.calls 2 (fun k_ => some k_ = (.slice Ao118 y184.length co118 : Value).ownBlock) (.slice Ao118 y184.length co118) y184 t187 t190 w _ ?side1 ?side2 A115.out).mono ?_); (case side1 => repeat (first | (with_reducible first | exact HB.out | apply below_alloc | apply pw_below_drewN | apply below_drew1 | refine below_set ?_ GE104.out) | exact HB.out)); (case side2 => exact Kd.R_tight rfl HO186.out); rintro e w119 ⟨v188, rfl, ho0, hb, hkp⟩; refine ⟨_, rfl, ?_⟩; have n0_ := Aside0.mk (blk_kept (by (with_reducible repeat (first | refine blk_drewN ?_ _ | refine blk_drew ?_ | refine blk_alloc ?_ _)); exact BK104.out) hkp (fun hs_ => (fun e_ => (Kd.R_ne HO186.out BK104.out (by decide)) e_) hs_)); have n1_ := Aside0.mk (Kd.R_mono (ok' := fun k_ => True) ho0 (fun k_ hk_ => trivial)); have n2_ := Aside0.mk (hb); clear BK104; clear HB; clear HO186; have BK104 := n0_; have HO189 := n1_; have HB := n2_; clear n0_ n1_ n2_; (try clear hb); (try clear hkp); (try clear ho0); obtain ⟨Ao120, co120, eo120⟩ := Kd.R_slice HO189.out; subst eo120; have hcz121_0 : w119.cell? ⟨gb104, 0, none⟩ = some (.slice none 0 0) := (blk_cell BK104.out 0).trans rfl; have hcz121_1 : w119.cell? ⟨gb104, 1, none⟩ = some (.int .i64 0) := (blk_cell BK104.out 1).trans rfl; have hfz121_0 := blk_frozen BK104.out 0; have hfz121_1 := blk_frozen BK104.out 1))
                                                              refine bodyPost_ret (results_cell_row rfl _ _ gb104 139 #[.slice Ao120 t187.length co120, .int .i64 t190] (0, 0) _ rfl (by (with_reducible repeat (first | refine blk_drewN ?_ _ | refine blk_drew ?_ | refine blk_alloc ?_ _)); refine blk_put (cs := #[.slice Ao120 t187.length co120, .int .i64 0]) ?_ 1 _ rfl; (with_reducible repeat (first | refine blk_drewN ?_ _ | refine blk_drew ?_ | refine blk_alloc ?_ _)); refine blk_put (cs := #[.slice none 0 0, .int .i64 0]) ?_ 0 _ rfl; (with_reducible repeat (first | refine blk_drewN ?_ _ | refine blk_drew ?_ | refine blk_alloc ?_ _)); exact BK104.out) Tryd.underlying139 rfl (by kernel_rfl)) rfl ?_
                                                              exact ⟨_, by first | rfl | (simp [errW_none, errW_some] <;> rfl) | (simp [*, errW_none, errW_some] <;> rfl), by (with_reducible repeat (first | apply Kd.R_alloc | apply Kd.R_drewN | apply Kd.R_drew)); exact Kd.R_mono (Kd.R_far (p := ⟨gb104, 1, none⟩) (Kd.R_far (p := ⟨gb104, 0, none⟩) (Kd.R_types HO189.out BK104.out (by decide)) (fun _ hk => hk.2) (.slice Ao120 t187.length co120)) (fun _ hk => hk.2) (.int .i64 t190)) (fun _ hk => trivial), by repeat (first | (with_reducible first | exact HB.out | apply below_alloc | apply pw_below_drewN | apply below_drew1 | refine below_set ?_ GE104.out) | exact HB.out)⟩
                                                            · replace c113 := Bool.eq_false_iff.mpr c113
                                                              subst c113
                                                              have H1 : (if a0 = 17 then (if a1 = 20 then ((isa86_of.f 1 (([198, 7] : List Int))).bind fun bt194 => (some (bt194.1, bt194.2))) else (some (([] : List Int), 0))) else (some (([] : List Int), 0))) = some (r1, r2) := by rw [if_neg (show ¬ (false = true) by decide)] at H; exact H
                                                              clear H
                                                              have H := H1
                                                              clear H1
                                                              by_cases c122 : a0 = 17
                                                              · rw [if_pos c122] at H
                                                                have c122b0 : (a0 == 17) = true := beq_iff_eq.mpr c122
                                                                have c122b1 : (a0 != 17) = false := bne_eq_false_iff_eq.mpr c122
                                                                clear c122
                                                                by_cases c123 : a1 = 20
                                                                · rw [if_pos c123] at H
                                                                  have c123b0 : (a1 == 20) = true := beq_iff_eq.mpr c123
                                                                  have c123b1 : (a1 != 20) = false := bne_eq_false_iff_eq.mpr c123
                                                                  clear c123
                                                                  obtain ⟨y191, hy191⟩ : ∃ y_ : List Int, y_ = (([198, 7] : List Int)) := ⟨_, rfl⟩
                                                                  replace H : ((isa86_of.f 1 y191).bind fun bt194 => (some (bt194.1, bt194.2))) = some (r1, r2) := by first | (rw [hy191]; with_reducible exact H) | (have H2_ := (Option.bind_some _ _).symm.trans H; rw [hy191]; with_reducible exact H2_) | (have H2_ := (Option.bind_some _ _).symm.trans H; with_reducible exact H2_) | with_reducible exact H | (rw [hy191]; exact H) | exact H
                                                                  have Ny191 := Aside0.mk hy191
                                                                  clear hy191
                                                                  replace H := Option.bind_eq_some_iff.mp H
                                                                  obtain ⟨⟨t194, t197⟩, A1240, H⟩ := H
                                                                  replace H : (some (t194, t197)) = some (r1, r2) := H
                                                                  have A124 := Aside0.mk A1240
                                                                  clear A1240
                                                                  simp only [Option.some.injEq, Prod.mk.injEq] at H
                                                                  obtain ⟨rfl, rfl⟩ := H
                                                                  go_wp2_with (first | ((with_reducible refine gate_dst (N := 134) rfl ?_); refine Kd.R_lit (Kd.int .u8) _ 5 ?hg (N := 134) ?hd (xs := ([198, 7] : List Int)) (inner := [.int .u8 198, .int .u8 7]) (ok := fun _ => True) (okp := fun _ => True) ?hr ?hp (fun _ hk => hk) trivial (Below.refl _ _) (Nat.le_refl _) (by simp) ?_; (case hd => rfl); (case hg => rfl); (case hr => first | (go_simp; done) | (go_simp; rfl)); (case hp => exact (Reps.one (show Kd.M (Kd.int .u8) _ _ _ 198 [.int .u8 198] from rfl) (Reps.one (show Kd.M (Kd.int .u8) _ _ _ 7 [.int .u8 7] from rfl) (Reps.none _ _)))); intro v192 w125 ho126 hb hg_ hnew_; clear hg_ hnew_; (first | rw [← Ny191.out] at ho126 | (simp only [Int.reduceToNat] at ho126; rw [← Ny191.out] at ho126)); have n0_ := Aside0.mk (Kd.R_lower ho126 (below_size (by repeat (first | (with_reducible first | exact HB.out | apply below_alloc | apply pw_below_drewN | apply below_drew1 | refine below_set ?_ GE104.out) | exact HB.out)))); have n1_ := Aside0.mk (blk_below (g := gb104) (o := .cells #[.slice none 0 0, .int .i64 0] 139 (0, 0)) (by (with_reducible repeat (first | refine blk_drewN ?_ _ | refine blk_drew ?_ | refine blk_alloc ?_ _)); exact BK104.out) hb); have n2_ := Aside0.mk (below_step (by repeat (first | (with_reducible first | exact HB.out | apply below_alloc | apply pw_below_drewN | apply below_drew1 | refine below_set ?_ GE104.out) | exact HB.out)) hb); clear BK104; clear HB; have HO193 := n0_; have BK104 := n1_; have HB := n2_; clear n0_ n1_ n2_; clear hb ho126; obtain ⟨Ao127, co127, eo127⟩ := Kd.R_slice HO193.out; subst eo127) | ((with_reducible refine gate_callee (f := 157) rfl ?_); refine goesL_ (some 135) rfl rfl Tryd.func157 (by kernel_rfl) rfl #[.int .i64 1, .slice Ao127 y191.length co127] rfl (by (try simp only [List.map_toArray, List.map_cons, List.map_nil]); first | done | rfl | (simp only [List.length_drop, List.length_take]; rfl)) ?_; (with_reducible refine (isa86_of.calls 1 (fun k_ => some k_ = (.slice Ao127 y191.length co127 : Value).ownBlock) (.slice Ao127 y191.length co127) y191 t194 t197 w _ ?side1 ?side2 A124.out).mono ?_); (case side1 => repeat (first | (with_reducible first | exact HB.out | apply below_alloc | apply pw_below_drewN | apply below_drew1 | refine below_set ?_ GE104.out) | exact HB.out)); (case side2 => exact Kd.R_tight rfl HO193.out); rintro e w128 ⟨v195, rfl, ho0, hb, hkp⟩; refine ⟨_, rfl, ?_⟩; have n0_ := Aside0.mk (blk_kept (by (with_reducible repeat (first | refine blk_drewN ?_ _ | refine blk_drew ?_ | refine blk_alloc ?_ _)); exact BK104.out) hkp (fun hs_ => (fun e_ => (Kd.R_ne HO193.out BK104.out (by decide)) e_) hs_)); have n1_ := Aside0.mk (Kd.R_mono (ok' := fun k_ => True) ho0 (fun k_ hk_ => trivial)); have n2_ := Aside0.mk (hb); clear BK104; clear HB; clear HO193; have BK104 := n0_; have HO196 := n1_; have HB := n2_; clear n0_ n1_ n2_; (try clear hb); (try clear hkp); (try clear ho0); obtain ⟨Ao129, co129, eo129⟩ := Kd.R_slice HO196.out; subst eo129; have hcz130_0 : w128.cell? ⟨gb104, 0, none⟩ = some (.slice none 0 0) := (blk_cell BK104.out 0).trans rfl; have hcz130_1 : w128.cell? ⟨gb104, 1, none⟩ = some (.int .i64 0) := (blk_cell BK104.out 1).trans rfl; have hfz130_0 := blk_frozen BK104.out 0; have hfz130_1 := blk_frozen BK104.out 1))
                                                                  refine bodyPost_ret (results_cell_row rfl _ _ gb104 139 #[.slice Ao129 t194.length co129, .int .i64 t197] (0, 0) _ rfl (by (with_reducible repeat (first | refine blk_drewN ?_ _ | refine blk_drew ?_ | refine blk_alloc ?_ _)); refine blk_put (cs := #[.slice Ao129 t194.length co129, .int .i64 0]) ?_ 1 _ rfl; (with_reducible repeat (first | refine blk_drewN ?_ _ | refine blk_drew ?_ | refine blk_alloc ?_ _)); refine blk_put (cs := #[.slice none 0 0, .int .i64 0]) ?_ 0 _ rfl; (with_reducible repeat (first | refine blk_drewN ?_ _ | refine blk_drew ?_ | refine blk_alloc ?_ _)); exact BK104.out) Tryd.underlying139 rfl (by kernel_rfl)) rfl ?_
                                                                  exact ⟨_, by first | rfl | (simp [errW_none, errW_some] <;> rfl) | (simp [*, errW_none, errW_some] <;> rfl), by (with_reducible repeat (first | apply Kd.R_alloc | apply Kd.R_drewN | apply Kd.R_drew)); exact Kd.R_mono (Kd.R_far (p := ⟨gb104, 1, none⟩) (Kd.R_far (p := ⟨gb104, 0, none⟩) (Kd.R_types HO196.out BK104.out (by decide)) (fun _ hk => hk.2) (.slice Ao129 t194.length co129)) (fun _ hk => hk.2) (.int .i64 t197)) (fun _ hk => trivial), by repeat (first | (with_reducible first | exact HB.out | apply below_alloc | apply pw_below_drewN | apply below_drew1 | refine below_set ?_ GE104.out) | exact HB.out)⟩
                                                                · rw [if_neg c123] at H
                                                                  have c123b0 : (a1 == 20) = false := beq_eq_false_iff_ne.mpr c123
                                                                  have c123b1 : (a1 != 20) = true := bne_iff_ne.mpr c123
                                                                  simp only [Option.some.injEq, Prod.mk.injEq] at H
                                                                  obtain ⟨rfl, rfl⟩ := H
                                                                  have hcz131_0 : wc.cell? ⟨gb104, 0, none⟩ = some (.slice none 0 0) := (blk_cell BK104.out 0).trans rfl
                                                                  have hcz131_1 : wc.cell? ⟨gb104, 1, none⟩ = some (.int .i64 0) := (blk_cell BK104.out 1).trans rfl
                                                                  have hfz131_0 := blk_frozen BK104.out 0
                                                                  have hfz131_1 := blk_frozen BK104.out 1
                                                                  go_wp2
                                                                  refine bodyPost_ret (results_cell_row rfl _ _ gb104 139 #[.slice none 0 0, .int .i64 0] (0, 0) _ rfl (by (with_reducible repeat (first | refine blk_drewN ?_ _ | refine blk_drew ?_ | refine blk_alloc ?_ _)); refine blk_put (cs := #[.slice none 0 0, .int .i64 0]) ?_ 1 _ rfl; (with_reducible repeat (first | refine blk_drewN ?_ _ | refine blk_drew ?_ | refine blk_alloc ?_ _)); refine blk_put (cs := #[.slice none 0 0, .int .i64 0]) ?_ 0 _ rfl; (with_reducible repeat (first | refine blk_drewN ?_ _ | refine blk_drew ?_ | refine blk_alloc ?_ _)); exact BK104.out) Tryd.underlying139 rfl (by kernel_rfl)) rfl ?_
                                                                  exact ⟨_, by first | rfl | (simp [errW_none, errW_some] <;> rfl) | (simp [*, errW_none, errW_some] <;> rfl), by first | exact Kd.R_nil _ _ _ _ _ | exact Kd.N_nil _ _ _ _ _ | exact Kd.V_nil _ _ _ _ _ | exact Kd.Q_nil _ _ _ _ _ | exact Kd.S_nil _ _ _ _ _, by repeat (first | (with_reducible first | exact HB.out | apply below_alloc | apply pw_below_drewN | apply below_drew1 | refine below_set ?_ GE104.out) | exact HB.out)⟩
                                                              · rw [if_neg c122] at H
                                                                have c122b0 : (a0 == 17) = false := beq_eq_false_iff_ne.mpr c122
                                                                have c122b1 : (a0 != 17) = true := bne_iff_ne.mpr c122
                                                                simp only [Option.some.injEq, Prod.mk.injEq] at H
                                                                obtain ⟨rfl, rfl⟩ := H
                                                                have hcz132_0 : wc.cell? ⟨gb104, 0, none⟩ = some (.slice none 0 0) := (blk_cell BK104.out 0).trans rfl
                                                                have hcz132_1 : wc.cell? ⟨gb104, 1, none⟩ = some (.int .i64 0) := (blk_cell BK104.out 1).trans rfl
                                                                have hfz132_0 := blk_frozen BK104.out 0
                                                                have hfz132_1 := blk_frozen BK104.out 1
                                                                go_wp2
                                                                refine bodyPost_ret (results_cell_row rfl _ _ gb104 139 #[.slice none 0 0, .int .i64 0] (0, 0) _ rfl (by (with_reducible repeat (first | refine blk_drewN ?_ _ | refine blk_drew ?_ | refine blk_alloc ?_ _)); refine blk_put (cs := #[.slice none 0 0, .int .i64 0]) ?_ 1 _ rfl; (with_reducible repeat (first | refine blk_drewN ?_ _ | refine blk_drew ?_ | refine blk_alloc ?_ _)); refine blk_put (cs := #[.slice none 0 0, .int .i64 0]) ?_ 0 _ rfl; (with_reducible repeat (first | refine blk_drewN ?_ _ | refine blk_drew ?_ | refine blk_alloc ?_ _)); exact BK104.out) Tryd.underlying139 rfl (by kernel_rfl)) rfl ?_
                                                                exact ⟨_, by first | rfl | (simp [errW_none, errW_some] <;> rfl) | (simp [*, errW_none, errW_some] <;> rfl), by first | exact Kd.R_nil _ _ _ _ _ | exact Kd.N_nil _ _ _ _ _ | exact Kd.V_nil _ _ _ _ _ | exact Kd.Q_nil _ _ _ _ _ | exact Kd.S_nil _ _ _ _ _, by repeat (first | (with_reducible first | exact HB.out | apply below_alloc | apply pw_below_drewN | apply below_drew1 | refine below_set ?_ GE104.out) | exact HB.out)⟩
end Go.Proofs.YtejhagejjogbaaaDoor.Ra
