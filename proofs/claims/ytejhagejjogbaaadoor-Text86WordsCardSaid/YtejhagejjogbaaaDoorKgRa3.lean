import Derived.Test.YtejhagejjogbaaaDoorKgRa0
import Derived.Test.YtejhagejjogbaaaDoorKgRa1
import Derived.Test.YtejhagejjogbaaaDoorKgRa2
namespace Go.Proofs.YtejhagejjogbaaaDoor.Ra
open Go.RowKit Go.Proofs.YtejhagejjogbaaaDoorW.PrintWords Go.Proofs.YtejhagejjogbaaaDoorW.PrintLast Go.Proofs.YtejhagejjogbaaaDoorW.PrintMore Go.Proofs.YtejhagejjogbaaaDoor.Given Go.Proofs.YtejhagejjogbaaaDoor.And7
attribute [local go_sem] max2_int min2_int max_two min_two max_three min_three max_four min_four   -- for this text's walks alone
set_option linter.unusedVariables false
set_option linter.unusedSimpArgs false
mutual
def isa86_two.j0 : Nat → Int → Int → Int → Int → Bool → Option (List Int × Int)
  | 0, _, _, _, _, _ => none
  | k + 1, x0, x1, x2, x7, x8 => (isa86_wide.f k x1).bind fun t202 => (if t202 = 16 then (isa86_two.j1 k x0 x1 x2 x7 x8 1) else (isa86_two.j1 k x0 x1 x2 x7 x8 0))
def isa86_two.j1 : Nat → Int → Int → Int → Int → Bool → Int → Option (List Int × Int)
  | 0, _, _, _, _, _, _ => none
  | k + 1, x0, x1, x2, x7, x8, x9 => if x0 = 1 then (isa86_two.j2 k x0 x1 x2 x7 x8 x9 x8) else (isa86_two.j2 k x0 x1 x2 x7 x8 x9 false)
def isa86_two.j2 : Nat → Int → Int → Int → Int → Bool → Int → Bool → Option (List Int × Int)
  | 0, _, _, _, _, _, _, _ => none
  | k + 1, x0, x1, x2, x7, x8, x9, x27 => if x27 = true then ((isa86_num.f x2).bind fun t203 => ((isa86_num.f x1).bind fun t204 => ((isa86_rm.f t203 t204).bind fun t205 => ((isa86_of.f 0 (([Go.bits .or .u8 136 x9, t205] : List Int))).bind fun bt209 => (some (bt209.1, bt209.2)))))) else (if x0 = 1 then ((isa86_places.f k x1 x2).bind fun bt213 => (some (bt213.1, bt213.2))) else (if x0 = 17 then (if x8 = true then (if x1 = 9 then (isa86_two.j3 k x0 x1 x2 x7 x8 x9 false) else (isa86_two.j3 k x0 x1 x2 x7 x8 x9 (x2 != 9))) else (isa86_two.j3 k x0 x1 x2 x7 x8 x9 false)) else (isa86_two.j3 k x0 x1 x2 x7 x8 x9 false)))
def isa86_two.j3 : Nat → Int → Int → Int → Int → Bool → Int → Bool → Option (List Int × Int)
  | 0, _, _, _, _, _, _, _ => none
  | k + 1, x0, x1, x2, x7, x8, x9, x48 => if x48 = true then ((isa86_num.f x2).bind fun t217 => ((isa86_num.f x1).bind fun t218 => ((isa86_rm.f t217 t218).bind fun t219 => ((isa86_of.f 0 (([Go.bits .or .u8 134 x9, t219] : List Int))).bind fun bt223 => (some (bt223.1, bt223.2)))))) else (if x0 = 30 then (if x1 = 1 then (isa86_two.j4 k x0 x1 x2 x7 x8 x9 (x2 == 20)) else (isa86_two.j4 k x0 x1 x2 x7 x8 x9 false)) else (isa86_two.j4 k x0 x1 x2 x7 x8 x9 false))
def isa86_two.j4 : Nat → Int → Int → Int → Int → Bool → Int → Bool → Option (List Int × Int)
  | 0, _, _, _, _, _, _, _ => none
  | k + 1, x0, x1, x2, x7, x8, x9, x71 => if x71 = true then ((isa86_of.f 1 (([228] : List Int))).bind fun bt230 => (some (bt230.1, bt230.2))) else (if x0 = 31 then (if x1 = 20 then (isa86_two.j5 k x0 x1 x2 x7 x8 x9 (x2 == 1)) else (isa86_two.j5 k x0 x1 x2 x7 x8 x9 false)) else (isa86_two.j5 k x0 x1 x2 x7 x8 x9 false))
def isa86_two.j5 : Nat → Int → Int → Int → Int → Bool → Int → Bool → Option (List Int × Int)
  | 0, _, _, _, _, _, _, _ => none
  | k + 1, x0, x1, x2, x7, x8, x9, x84 => if x84 = true then ((isa86_of.f 1 (([230] : List Int))).bind fun bt237 => (some (bt237.1, bt237.2))) else (if x0 < 2 then (isa86_two.j6 k x1 x2 x7 x8 x9 true) else (isa86_two.j6 k x1 x2 x7 x8 x9 (decide (x0 > 9))))
def isa86_two.j6 : Nat → Int → Int → Int → Bool → Int → Bool → Option (List Int × Int)
  | 0, _, _, _, _, _, _ => none
  | k + 1, x1, x2, x7, x8, x9, x97 => if x97 = true then (some (([] : List Int), 0)) else (if x8 = true then ((isa86_num.f x2).bind fun t241 => ((isa86_num.f x1).bind fun t242 => ((isa86_rm.f t241 t242).bind fun t243 => ((isa86_of.f 0 (([Go.bits .or .u8 ((x7 * 8) % 256) x9, t243] : List Int))).bind fun bt247 => (some (bt247.1, bt247.2)))))) else ((isa86_wide.f k x1).bind fun t251 => (if t251 = 8 then (isa86_two.j7 k x1 x2 x7 (x2 == 17)) else (isa86_two.j7 k x1 x2 x7 false))))
def isa86_two.j7 : Nat → Int → Int → Int → Bool → Option (List Int × Int)
  | 0, _, _, _, _ => none
  | k + 1, x1, x2, x7, x118 => if x118 = true then ((isa86_num.f x1).bind fun t252 => ((isa86_mem.f t252 7).bind fun t253 => ((isa86_of.f 0 (([Go.bits .or .u8 ((x7 * 8) % 256) 2, t253] : List Int))).bind fun bt257 => (some (bt257.1, bt257.2))))) else (if x1 = 1 then (isa86_two.j8 k x1 x2 x7 (x2 == 20)) else (isa86_two.j8 k x1 x2 x7 false))
def isa86_two.j8 : Nat → Int → Int → Int → Bool → Option (List Int × Int)
  | 0, _, _, _, _ => none
  | k + 1, x1, x2, x7, x134 => if x134 = true then ((isa86_of.f 1 (([Go.bits .or .u8 ((x7 * 8) % 256) 4] : List Int))).bind fun bt264 => (some (bt264.1, bt264.2))) else ((isa86_wide.f k x1).bind fun t268 => (if t268 = 8 then (isa86_two.j9 k x1 x7 (x2 == 20)) else (isa86_two.j9 k x1 x7 false)))
def isa86_two.j9 : Nat → Int → Int → Bool → Option (List Int × Int)
  | 0, _, _, _ => none
  | k + 1, x1, x7, x146 => if x146 = true then ((isa86_num.f x1).bind fun t269 => ((isa86_rm.f x7 t269).bind fun t270 => ((isa86_of.f 1 (([128, t270] : List Int))).bind fun bt274 => (some (bt274.1, bt274.2))))) else (some (([] : List Int), 0))
end
def isa86_two.f (k : Nat) (a0 : Int) (a1 : Int) (a2 : Int) : Option (List Int × Int) := (isa86_wide.f k a1).bind fun t199 => (if t199 = 0 then (isa86_two.j0 k a0 a1 a2 ((wrap64 (a0 - 2)) % 8) false) else ((isa86_wide.f k a1).bind fun t200 => ((isa86_wide.f k a2).bind fun t201 => (isa86_two.j0 k a0 a1 a2 ((wrap64 (a0 - 2)) % 8) (t200 == t201)))))
set_option maxHeartbeats 8000000 in
set_option maxRecDepth 100000 in
theorem isa86_two.calls (k : Nat) (a0 : Int) (a1 : Int) (a2 : Int) (r1 : List Int) (r2 : Int) (w : World) (h : isa86_two.f k a0 a1 a2 = some (r1, r2)) :
    Calls Tryd.prog 155 #[.int .i64 a0, .int .i64 a1, .int .i64 a2] w fun e w' => ∃ v0_ : Value, e = .returned (.agg #[v0_, .int .i64 r2]) ∧ Kd.R (Kd.int .u8) 5 w' w.heap.size (fun _ => True) v0_ r1 ∧ Below w.heap.size w w' := by
  have hu139 := Tryd.underlying139
  have HB := Aside0.mk (Below.refl w.heap.size w)
  have H : ((isa86_wide.f k a1).bind fun t199 => (if t199 = 0 then (isa86_two.j0 k a0 a1 a2 ((wrap64 (a0 - 2)) % 8) false) else ((isa86_wide.f k a1).bind fun t200 => ((isa86_wide.f k a2).bind fun t201 => (isa86_two.j0 k a0 a1 a2 ((wrap64 (a0 - 2)) % 8) (t200 == t201)))))) = some (r1, r2) := h
  clear h
  have HC4 := Aside0.mk H
  clear H
  go_enter Tryd.func155, Tryd.ntmps155
  go_upto_region 2 with (first | ((with_reducible refine gate_dst (N := 6) rfl ?_); refine box_event ?hg (N := 6) ?hd (cs := #[.slice none 0 0, .int .i64 0]) (t := 139) ?hr ?_; (case hd => rfl); (case hg => rfl); (case hr => first | (go_simp; done) | (go_simp; rfl)); intro gb198 hg w5 hbox hb; have n0_ := Aside0.mk (below_step (by repeat (first | (with_reducible first | exact HB.out | apply below_alloc | apply pw_below_drewN | apply below_drew1) | exact HB.out)) hb); have n1_ := Aside0.mk (hbox); have n2_ := Aside0.mk ((by rw [hg]; exact (below_size (by repeat (first | (with_reducible first | exact HB.out | apply below_alloc | apply pw_below_drewN | apply below_drew1) | exact HB.out))) : w.heap.size ≤ gb198)); have n3_ := Aside0.mk ((by rw [hg]; exact (below_size (by repeat (first | (with_reducible first | exact HB.out | apply below_alloc | apply pw_below_drewN | apply below_drew1) | exact HB.out))) : w.heap.size ≤ gb198)); clear HB; have HB := n0_; have BK198 := n1_; have GW198 := n2_; have GE198 := n3_; clear n0_ n1_ n2_ n3_; clear hb hbox hg))
  (try simp only [Act.put, List.setIfInBounds_toArray, List.set_cons_zero, List.set_cons_succ])
  (try rw [show wrap64 (a0 - 2) % 256 % 8 = wrap64 (a0 - 2) % 8 from (by omega)])
  generalize wrap64 (a0 - 2) % 8 = x7_ at HC4 ⊢
  go_cut [8] (fun v8 wc => ∃ (kq : Nat) (x8_3 : Bool), v8 = .bool x8_3 ∧ Aside0 (isa86_two.j0 kq a0 a1 a2 x7_ x8_3 = some (r1, r2)) ∧ Aside0 (kq ≤ k) ∧ Aside0 (wc.heap[gb198]? = some (.cells #[(.slice none 0 0), .int .i64 0] 139 (0, 0))) ∧ Aside0 (Below w.heap.size w wc))
  case first =>
    have H := HC4.out
    clear HC4
    replace H := Option.bind_eq_some_iff.mp H
    obtain ⟨t199, A60, H⟩ := H
    replace H : (if t199 = 0 then (isa86_two.j0 k a0 a1 a2 x7_ false) else ((isa86_wide.f k a1).bind fun t200 => ((isa86_wide.f k a2).bind fun t201 => (isa86_two.j0 k a0 a1 a2 x7_ (t200 == t201))))) = some (r1, r2) := H
    have A6 := Aside0.mk A60
    clear A60
    by_cases c7 : t199 = 0
    · rw [if_pos c7] at H
      have c7b0 : (t199 == 0) = true := beq_iff_eq.mpr c7
      have c7b1 : (t199 != 0) = false := bne_eq_false_iff_eq.mpr c7
      clear c7
      (first | rw [c7b0] | (simp only [i64_w, i32_w]; rw [c7b0]) | skip)
      have H' := Aside0.mk H
      clear H
      go_wp2_with (first | ((with_reducible refine gate_callee (f := 174) rfl ?_); refine goesL_ (some 15) rfl rfl Tryd.func174 (by kernel_rfl) rfl #[.int .i64 a1] rfl (by (try simp only [List.map_toArray, List.map_cons, List.map_nil]); first | done | rfl | (simp only [List.length_drop, List.length_take]; rfl)) ?_; (with_reducible refine (isa86_wide.calls k a1 t199 _ A6.out).mono ?_); rintro e w' ⟨rfl, ⟨nd, rfl⟩⟩; refine ⟨_, rfl, ?_⟩))
      go_meet
      case rel => exact ⟨_, (false), (by first | rfl | (simp; done) | (simp [*]; done)), H', ⟨by first | omega | exact Nat.le_refl _⟩, ⟨by (with_reducible repeat (first | refine blk_drewN ?_ _ | refine blk_drew ?_ | refine blk_alloc ?_ _)); exact BK198.out⟩, ⟨by repeat (first | (with_reducible first | exact HB.out | apply below_alloc | apply pw_below_drewN | apply below_drew1 | refine below_set ?_ GE198.out) | exact HB.out)⟩⟩
    · rw [if_neg c7] at H
      have c7b0 : (t199 == 0) = false := beq_eq_false_iff_ne.mpr c7
      have c7b1 : (t199 != 0) = true := bne_iff_ne.mpr c7
      (first | rw [c7b0] | (simp only [i64_w, i32_w]; rw [c7b0]) | skip)
      replace H := Option.bind_eq_some_iff.mp H
      obtain ⟨t200, A80, H⟩ := H
      replace H : ((isa86_wide.f k a2).bind fun t201 => (isa86_two.j0 k a0 a1 a2 x7_ (t200 == t201))) = some (r1, r2) := H
      have A8 := Aside0.mk A80
      clear A80
      replace H := Option.bind_eq_some_iff.mp H
      obtain ⟨t201, A90, H⟩ := H
      replace H : (isa86_two.j0 k a0 a1 a2 x7_ (t200 == t201)) = some (r1, r2) := H
      have A9 := Aside0.mk A90
      clear A90
      have H' := Aside0.mk H
      clear H
      go_wp2_with (first | ((with_reducible refine gate_callee (f := 174) rfl ?_); refine goesL_ (some 15) rfl rfl Tryd.func174 (by kernel_rfl) rfl #[.int .i64 a1] rfl (by (try simp only [List.map_toArray, List.map_cons, List.map_nil]); first | done | rfl | (simp only [List.length_drop, List.length_take]; rfl)) ?_; (with_reducible refine (isa86_wide.calls k a1 t199 _ A6.out).mono ?_); rintro e w' ⟨rfl, ⟨nd, rfl⟩⟩; refine ⟨_, rfl, ?_⟩; (try clear A6)) | (go_at_call 174; (with_reducible refine (isa86_wide.calls k a1 t200 _ A8.out).mono ?_); rintro e w' ⟨rfl, ⟨nd, rfl⟩⟩; (try clear A8)) | (go_at_call 174; (with_reducible refine (isa86_wide.calls k a2 t201 _ A9.out).mono ?_); rintro e w' ⟨rfl, ⟨nd, rfl⟩⟩; (try clear A9)) )
      go_meet
      case rel => exact ⟨_, ((t200 == t201)), (by first | rfl | (simp; done) | (simp [*]; done)), H', ⟨by first | omega | exact Nat.le_refl _⟩, ⟨by (with_reducible repeat (first | refine blk_drewN ?_ _ | refine blk_drew ?_ | refine blk_alloc ?_ _)); exact BK198.out⟩, ⟨by repeat (first | (with_reducible first | exact HB.out | apply below_alloc | apply pw_below_drewN | apply below_drew1 | refine below_set ?_ GE198.out) | exact HB.out)⟩⟩
  case rest =>
    as_aux_lemma =>
    clear HC4
    try clear c1
    try clear p2
    try clear p6
    try clear c7
    try clear c7b0
    try clear c7b1
    obtain ⟨kq, x8_3, rfl, HA, HJ3, BK198, HB⟩ := hcut
    cases kq with
    | zero => exact absurd HA.out (by simp [isa86_two.j0])
    | succ kj3 =>
      have H := HA.out
      clear HA
      simp only [isa86_two.j0] at H
      replace H := Option.bind_eq_some_iff.mp H
      obtain ⟨t202, A100, H⟩ := H
      replace H : (if t202 = 16 then (isa86_two.j1 kj3 a0 a1 a2 x7_ x8_3 1) else (isa86_two.j1 kj3 a0 a1 a2 x7_ x8_3 0)) = some (r1, r2) := H
      have A10 := Aside0.mk A100
      clear A100
      have HC11 := Aside0.mk H
      clear H
      go_upto_if 26 with (first | ((with_reducible refine gate_callee (f := 174) rfl ?_); refine goesL_ (some 25) rfl rfl Tryd.func174 (by kernel_rfl) rfl #[.int .i64 a1] rfl (by (try simp only [List.map_toArray, List.map_cons, List.map_nil]); first | done | rfl | (simp only [List.length_drop, List.length_take]; rfl)) ?_; (with_reducible refine (isa86_wide.calls kj3 a1 t202 _ A10.out).mono ?_); rintro e w' ⟨rfl, ⟨nd, rfl⟩⟩; refine ⟨_, rfl, ?_⟩))
      (try simp only [Act.put, List.setIfInBounds_toArray, List.set_cons_zero, List.set_cons_succ])
      go_cut [9] (fun v9 wc => ∃ (kq : Nat) (x9_10 : Int), v9 = .int .u8 x9_10 ∧ Aside0 (isa86_two.j1 kq a0 a1 a2 x7_ x8_3 x9_10 = some (r1, r2)) ∧ Aside0 (kq ≤ kj3) ∧ Aside0 (wc.heap[gb198]? = some (.cells #[(.slice none 0 0), .int .i64 0] 139 (0, 0))) ∧ Aside0 (Below w.heap.size w wc))
      case first =>
        have H := HC11.out
        clear HC11
        by_cases c12 : t202 = 16
        · rw [if_pos c12] at H
          have c12b0 : (t202 == 16) = true := beq_iff_eq.mpr c12
          have c12b1 : (t202 != 16) = false := bne_eq_false_iff_eq.mpr c12
          clear c12
          (first | rw [c12b0] | (simp only [i64_w, i32_w]; rw [c12b0]) | skip)
          have H' := Aside0.mk H
          clear H
          go_wp2
          go_meet
          case rel => exact ⟨_, (1), (by first | rfl | (simp; done) | (simp [*]; done)), H', ⟨by have := HJ3.out; first | omega | exact Nat.le_refl _⟩, ⟨by (with_reducible repeat (first | refine blk_drewN ?_ _ | refine blk_drew ?_ | refine blk_alloc ?_ _)); exact BK198.out⟩, ⟨by repeat (first | (with_reducible first | exact HB.out | apply below_alloc | apply pw_below_drewN | apply below_drew1 | refine below_set ?_ GE198.out) | exact HB.out)⟩⟩
        · rw [if_neg c12] at H
          have c12b0 : (t202 == 16) = false := beq_eq_false_iff_ne.mpr c12
          have c12b1 : (t202 != 16) = true := bne_iff_ne.mpr c12
          (first | rw [c12b0] | (simp only [i64_w, i32_w]; rw [c12b0]) | skip)
          have H' := Aside0.mk H
          clear H
          go_wp2
          go_meet
          case rel => exact ⟨_, (0), (by first | rfl | (simp; done) | (simp [*]; done)), H', ⟨by have := HJ3.out; first | omega | exact Nat.le_refl _⟩, ⟨by (with_reducible repeat (first | refine blk_drewN ?_ _ | refine blk_drew ?_ | refine blk_alloc ?_ _)); exact BK198.out⟩, ⟨by repeat (first | (with_reducible first | exact HB.out | apply below_alloc | apply pw_below_drewN | apply below_drew1 | refine below_set ?_ GE198.out) | exact HB.out)⟩⟩
      case rest =>
        as_aux_lemma =>
        clear HC11
        try clear c1
        try clear p2
        try clear p6
        try clear c7
        try clear c7b0
        try clear c7b1
        try clear c12
        try clear c12b0
        try clear c12b1
        try clear p2
        try clear p6
        obtain ⟨kq, x9_10, rfl, HA, HJ10, BK198, HB⟩ := hcut
        cases kq with
        | zero => exact absurd HA.out (by simp [isa86_two.j1])
        | succ kj10 =>
          have H := HA.out
          clear HA
          simp only [isa86_two.j1] at H
          have HC13 := Aside0.mk H
          clear H
          go_upto_region 6 with (fail)
          go_cut [27] (fun v27 wc => ∃ (kq : Nat) (x27_12 : Bool), v27 = .bool x27_12 ∧ Aside0 (isa86_two.j2 kq a0 a1 a2 x7_ x8_3 x9_10 x27_12 = some (r1, r2)) ∧ Aside0 (kq ≤ kj10) ∧ Aside0 (wc.heap[gb198]? = some (.cells #[(.slice none 0 0), .int .i64 0] 139 (0, 0))) ∧ Aside0 (Below w.heap.size w wc))
          case first =>
            have H := HC13.out
            clear HC13
            by_cases c14 : a0 = 1
            · rw [if_pos c14] at H
              have c14b0 : (a0 == 1) = true := beq_iff_eq.mpr c14
              have c14b1 : (a0 != 1) = false := bne_eq_false_iff_eq.mpr c14
              clear c14
              (first | rw [c14b0] | (simp only [i64_w, i32_w]; rw [c14b0]) | skip)
              have H' := Aside0.mk H
              clear H
              go_wp2
              go_meet
              case rel => exact ⟨_, (x8_3), (by first | rfl | (simp; done) | (simp [*]; done)), H', ⟨by have := HJ3.out; have := HJ10.out; first | omega | exact Nat.le_refl _⟩, ⟨by (with_reducible repeat (first | refine blk_drewN ?_ _ | refine blk_drew ?_ | refine blk_alloc ?_ _)); exact BK198.out⟩, ⟨by repeat (first | (with_reducible first | exact HB.out | apply below_alloc | apply pw_below_drewN | apply below_drew1 | refine below_set ?_ GE198.out) | exact HB.out)⟩⟩
            · rw [if_neg c14] at H
              have c14b0 : (a0 == 1) = false := beq_eq_false_iff_ne.mpr c14
              have c14b1 : (a0 != 1) = true := bne_iff_ne.mpr c14
              (first | rw [c14b0] | (simp only [i64_w, i32_w]; rw [c14b0]) | skip)
              have H' := Aside0.mk H
              clear H
              go_wp2
              go_meet
              case rel => exact ⟨_, (false), (by first | rfl | (simp; done) | (simp [*]; done)), H', ⟨by have := HJ3.out; have := HJ10.out; first | omega | exact Nat.le_refl _⟩, ⟨by (with_reducible repeat (first | refine blk_drewN ?_ _ | refine blk_drew ?_ | refine blk_alloc ?_ _)); exact BK198.out⟩, ⟨by repeat (first | (with_reducible first | exact HB.out | apply below_alloc | apply pw_below_drewN | apply below_drew1 | refine below_set ?_ GE198.out) | exact HB.out)⟩⟩
          case rest =>
            as_aux_lemma =>
            clear HC13
            try clear c1
            try clear p2
            try clear p6
            try clear c7
            try clear c7b0
            try clear c7b1
            try clear c12
            try clear c12b0
            try clear c12b1
            try clear c14
            try clear c14b0
            try clear c14b1
            try clear p2
            try clear p6
            obtain ⟨kq, x27_12, rfl, HA, HJ12, BK198, HB⟩ := hcut
            cases kq with
            | zero => exact absurd HA.out (by simp [isa86_two.j2])
            | succ kj12 =>
              have H := HA.out
              clear HA
              simp only [isa86_two.j2] at H
              by_cases c15 : x27_12 = true
              · subst c15
                have H1 : ((isa86_num.f a2).bind fun t203 => ((isa86_num.f a1).bind fun t204 => ((isa86_rm.f t203 t204).bind fun t205 => ((isa86_of.f 0 (([Go.bits .or .u8 136 x9_10, t205] : List Int))).bind fun bt209 => (some (bt209.1, bt209.2)))))) = some (r1, r2) := by rw [if_pos rfl] at H; exact H
                clear H
                have H := H1
                clear H1
                replace H := Option.bind_eq_some_iff.mp H
                obtain ⟨t203, A160, H⟩ := H
                replace H : ((isa86_num.f a1).bind fun t204 => ((isa86_rm.f t203 t204).bind fun t205 => ((isa86_of.f 0 (([Go.bits .or .u8 136 x9_10, t205] : List Int))).bind fun bt209 => (some (bt209.1, bt209.2))))) = some (r1, r2) := H
                have A16 := Aside0.mk A160
                clear A160
                replace H := Option.bind_eq_some_iff.mp H
                obtain ⟨t204, A170, H⟩ := H
                replace H : ((isa86_rm.f t203 t204).bind fun t205 => ((isa86_of.f 0 (([Go.bits .or .u8 136 x9_10, t205] : List Int))).bind fun bt209 => (some (bt209.1, bt209.2)))) = some (r1, r2) := H
                have A17 := Aside0.mk A170
                clear A170
                replace H := Option.bind_eq_some_iff.mp H
                obtain ⟨t205, A180, H⟩ := H
                replace H : ((isa86_of.f 0 (([Go.bits .or .u8 136 x9_10, t205] : List Int))).bind fun bt209 => (some (bt209.1, bt209.2))) = some (r1, r2) := H
                have A18 := Aside0.mk A180
                clear A180
                obtain ⟨y206, hy206⟩ : ∃ y_ : List Int, y_ = (([Go.bits .or .u8 136 x9_10, t205] : List Int)) := ⟨_, rfl⟩
                replace H : ((isa86_of.f 0 y206).bind fun bt209 => (some (bt209.1, bt209.2))) = some (r1, r2) := by first | (rw [hy206]; with_reducible exact H) | (have H2_ := (Option.bind_some _ _).symm.trans H; rw [hy206]; with_reducible exact H2_) | (have H2_ := (Option.bind_some _ _).symm.trans H; with_reducible exact H2_) | with_reducible exact H | (rw [hy206]; exact H) | exact H
                have Ny206 := Aside0.mk hy206
                clear hy206
                replace H := Option.bind_eq_some_iff.mp H
                obtain ⟨⟨t209, t212⟩, A190, H⟩ := H
                replace H : (some (t209, t212)) = some (r1, r2) := H
                have A19 := Aside0.mk A190
                clear A190
                simp only [Option.some.injEq, Prod.mk.injEq] at H
                obtain ⟨rfl, rfl⟩ := H
                go_wp2_with (first | ((with_reducible refine gate_callee (f := 176) rfl ?_); refine goesL_ (some 36) rfl rfl Tryd.func176 (by kernel_rfl) rfl #[.int .i64 a2] rfl (by (try simp only [List.map_toArray, List.map_cons, List.map_nil]); first | done | rfl | (simp only [List.length_drop, List.length_take]; rfl)) ?_; (with_reducible refine (isa86_num.calls a2 t203 _ A16.out).mono ?_); rintro e w' ⟨rfl, ⟨nd, rfl⟩⟩; refine ⟨_, rfl, ?_⟩; (try (rw [drewN_self wc]; generalize hq_ : World.drewN wc _ = wc; have n0_ : Aside0 (wc.heap[gb198]? = some (.cells #[.slice none 0 0, .int .i64 0] 139 (0, 0))) := ⟨by rw [← hq_]; exact (by (with_reducible repeat (first | refine blk_drewN ?_ _ | refine blk_drew ?_ | refine blk_alloc ?_ _)); exact BK198.out)⟩; have n1_ : Aside0 (Below w.heap.size w wc) := ⟨by rw [← hq_]; exact (by repeat (first | (with_reducible first | exact HB.out | apply below_alloc | apply pw_below_drewN | apply below_drew1 | refine below_set ?_ GE198.out) | exact HB.out))⟩; clear BK198 HB hq_; have BK198 := n0_; have HB := n1_; clear n0_ n1_)); (try clear A16)) | ((with_reducible refine gate_callee (f := 176) rfl ?_); refine goesL_ (some 38) rfl rfl Tryd.func176 (by kernel_rfl) rfl #[.int .i64 a1] rfl (by (try simp only [List.map_toArray, List.map_cons, List.map_nil]); first | done | rfl | (simp only [List.length_drop, List.length_take]; rfl)) ?_; (with_reducible refine (isa86_num.calls a1 t204 _ A17.out).mono ?_); rintro e w' ⟨rfl, ⟨nd, rfl⟩⟩; refine ⟨_, rfl, ?_⟩; (try (rw [drewN_self wc]; generalize hq_ : World.drewN wc _ = wc; have n0_ : Aside0 (wc.heap[gb198]? = some (.cells #[.slice none 0 0, .int .i64 0] 139 (0, 0))) := ⟨by rw [← hq_]; exact (by (with_reducible repeat (first | refine blk_drewN ?_ _ | refine blk_drew ?_ | refine blk_alloc ?_ _)); exact BK198.out)⟩; have n1_ : Aside0 (Below w.heap.size w wc) := ⟨by rw [← hq_]; exact (by repeat (first | (with_reducible first | exact HB.out | apply below_alloc | apply pw_below_drewN | apply below_drew1 | refine below_set ?_ GE198.out) | exact HB.out))⟩; clear BK198 HB hq_; have BK198 := n0_; have HB := n1_; clear n0_ n1_)); (try clear A17)) | ((with_reducible refine gate_callee (f := 175) rfl ?_); refine goesL_ (some 39) rfl rfl Tryd.func175 (by kernel_rfl) rfl #[.int .u8 t203, .int .u8 t204] rfl (by (try simp only [List.map_toArray, List.map_cons, List.map_nil]); first | done | rfl | (simp only [List.length_drop, List.length_take]; rfl)) ?_; (with_reducible refine (isa86_rm.calls t203 t204 t205 _ A18.out).mono ?_); rintro e w' ⟨rfl, ⟨nd, rfl⟩⟩; refine ⟨_, rfl, ?_⟩; (try (rw [drewN_self wc]; generalize hq_ : World.drewN wc _ = wc; have n0_ : Aside0 (wc.heap[gb198]? = some (.cells #[.slice none 0 0, .int .i64 0] 139 (0, 0))) := ⟨by rw [← hq_]; exact (by (with_reducible repeat (first | refine blk_drewN ?_ _ | refine blk_drew ?_ | refine blk_alloc ?_ _)); exact BK198.out)⟩; have n1_ : Aside0 (Below w.heap.size w wc) := ⟨by rw [← hq_]; exact (by repeat (first | (with_reducible first | exact HB.out | apply below_alloc | apply pw_below_drewN | apply below_drew1 | refine below_set ?_ GE198.out) | exact HB.out))⟩; clear BK198 HB hq_; have BK198 := n0_; have HB := n1_; clear n0_ n1_))) | ((with_reducible refine gate_dst (N := 40) rfl ?_); refine Kd.R_lit (Kd.int .u8) _ 5 ?hg (N := 40) ?hd (xs := ([Go.bits .or .u8 136 x9_10, t205] : List Int)) (inner := [.int .u8 (Go.bits .or .u8 136 x9_10), .int .u8 t205]) (ok := fun _ => True) (okp := fun _ => True) ?hr ?hp (fun _ hk => hk) trivial (Below.refl _ _) (Nat.le_refl _) (by simp) ?_; (case hd => rfl); (case hg => rfl); (case hr => first | (go_simp; done) | (go_simp; rfl)); (case hp => exact (Reps.one (show Kd.M (Kd.int .u8) _ _ _ (Go.bits .or .u8 136 x9_10) [.int .u8 (Go.bits .or .u8 136 x9_10)] from rfl) (Reps.one (show Kd.M (Kd.int .u8) _ _ _ t205 [.int .u8 t205] from rfl) (Reps.none _ _)))); intro v207 w20 ho21 hb hg_ hnew_; clear hg_ hnew_; (first | rw [← Ny206.out] at ho21 | (simp only [Int.reduceToNat] at ho21; rw [← Ny206.out] at ho21)); have n0_ := Aside0.mk (Kd.R_lower ho21 (below_size (by repeat (first | (with_reducible first | exact HB.out | apply below_alloc | apply pw_below_drewN | apply below_drew1 | refine below_set ?_ GE198.out) | exact HB.out)))); have n1_ := Aside0.mk (blk_below (g := gb198) (o := .cells #[.slice none 0 0, .int .i64 0] 139 (0, 0)) (by (with_reducible repeat (first | refine blk_drewN ?_ _ | refine blk_drew ?_ | refine blk_alloc ?_ _)); exact BK198.out) hb); have n2_ := Aside0.mk (below_step (by repeat (first | (with_reducible first | exact HB.out | apply below_alloc | apply pw_below_drewN | apply below_drew1 | refine below_set ?_ GE198.out) | exact HB.out)) hb); clear BK198; clear HB; have HO208 := n0_; have BK198 := n1_; have HB := n2_; clear n0_ n1_ n2_; clear hb ho21; obtain ⟨Ao22, co22, eo22⟩ := Kd.R_slice HO208.out; subst eo22) | ((with_reducible refine gate_callee (f := 157) rfl ?_); refine goesL_ (some 41) rfl rfl Tryd.func157 (by kernel_rfl) rfl #[.int .i64 0, .slice Ao22 y206.length co22] rfl (by (try simp only [List.map_toArray, List.map_cons, List.map_nil]); first | done | rfl | (simp only [List.length_drop, List.length_take]; rfl)) ?_; (with_reducible refine (isa86_of.calls 0 (fun k_ => some k_ = (.slice Ao22 y206.length co22 : Value).ownBlock) (.slice Ao22 y206.length co22) y206 t209 t212 w _ ?side1 ?side2 A19.out).mono ?_); (case side1 => repeat (first | (with_reducible first | exact HB.out | apply below_alloc | apply pw_below_drewN | apply below_drew1 | refine below_set ?_ GE198.out) | exact HB.out)); (case side2 => exact Kd.R_tight rfl HO208.out); rintro e w23 ⟨v210, rfl, ho0, hb, hkp⟩; refine ⟨_, rfl, ?_⟩; have n0_ := Aside0.mk (blk_kept (by (with_reducible repeat (first | refine blk_drewN ?_ _ | refine blk_drew ?_ | refine blk_alloc ?_ _)); exact BK198.out) hkp (fun hs_ => (fun e_ => (Kd.R_ne HO208.out BK198.out (by decide)) e_) hs_)); have n1_ := Aside0.mk (Kd.R_mono (ok' := fun k_ => True) ho0 (fun k_ hk_ => trivial)); have n2_ := Aside0.mk (hb); clear BK198; clear HB; clear HO208; have BK198 := n0_; have HO211 := n1_; have HB := n2_; clear n0_ n1_ n2_; (try clear hb); (try clear hkp); (try clear ho0); obtain ⟨Ao24, co24, eo24⟩ := Kd.R_slice HO211.out; subst eo24; have hcz25_0 : w23.cell? ⟨gb198, 0, none⟩ = some (.slice none 0 0) := (blk_cell BK198.out 0).trans rfl; have hcz25_1 : w23.cell? ⟨gb198, 1, none⟩ = some (.int .i64 0) := (blk_cell BK198.out 1).trans rfl; have hfz25_0 := blk_frozen BK198.out 0; have hfz25_1 := blk_frozen BK198.out 1))
                refine bodyPost_ret (results_cell_row rfl _ _ gb198 139 #[.slice Ao24 t209.length co24, .int .i64 t212] (0, 0) _ rfl (by (with_reducible repeat (first | refine blk_drewN ?_ _ | refine blk_drew ?_ | refine blk_alloc ?_ _)); refine blk_put (cs := #[.slice Ao24 t209.length co24, .int .i64 0]) ?_ 1 _ rfl; (with_reducible repeat (first | refine blk_drewN ?_ _ | refine blk_drew ?_ | refine blk_alloc ?_ _)); refine blk_put (cs := #[.slice none 0 0, .int .i64 0]) ?_ 0 _ rfl; (with_reducible repeat (first | refine blk_drewN ?_ _ | refine blk_drew ?_ | refine blk_alloc ?_ _)); exact BK198.out) Tryd.underlying139 rfl (by kernel_rfl)) rfl ?_
                exact ⟨_, by first | rfl | (simp [errW_none, errW_some] <;> rfl) | (simp [*, errW_none, errW_some] <;> rfl), by (with_reducible repeat (first | apply Kd.R_alloc | apply Kd.R_drewN | apply Kd.R_drew)); exact Kd.R_mono (Kd.R_far (p := ⟨gb198, 1, none⟩) (Kd.R_far (p := ⟨gb198, 0, none⟩) (Kd.R_types HO211.out BK198.out (by decide)) (fun _ hk => hk.2) (.slice Ao24 t209.length co24)) (fun _ hk => hk.2) (.int .i64 t212)) (fun _ hk => trivial), by repeat (first | (with_reducible first | exact HB.out | apply below_alloc | apply pw_below_drewN | apply below_drew1 | refine below_set ?_ GE198.out) | exact HB.out)⟩
              · replace c15 := Bool.eq_false_iff.mpr c15
                subst c15
                have H1 : (if a0 = 1 then ((isa86_places.f kj12 a1 a2).bind fun bt213 => (some (bt213.1, bt213.2))) else (if a0 = 17 then (if x8_3 = true then (if a1 = 9 then (isa86_two.j3 kj12 a0 a1 a2 x7_ x8_3 x9_10 false) else (isa86_two.j3 kj12 a0 a1 a2 x7_ x8_3 x9_10 (a2 != 9))) else (isa86_two.j3 kj12 a0 a1 a2 x7_ x8_3 x9_10 false)) else (isa86_two.j3 kj12 a0 a1 a2 x7_ x8_3 x9_10 false))) = some (r1, r2) := by rw [if_neg (show ¬ (false = true) by decide)] at H; exact H
                clear H
                have H := H1
                clear H1
                by_cases c26 : a0 = 1
                · rw [if_pos c26] at H
                  have c26b0 : (a0 == 1) = true := beq_iff_eq.mpr c26
                  have c26b1 : (a0 != 1) = false := bne_eq_false_iff_eq.mpr c26
                  clear c26
                  replace H := Option.bind_eq_some_iff.mp H
                  obtain ⟨⟨t213, t216⟩, A270, H⟩ := H
                  replace H : (some (t213, t216)) = some (r1, r2) := H
                  have A27 := Aside0.mk A270
                  clear A270
                  simp only [Option.some.injEq, Prod.mk.injEq] at H
                  obtain ⟨rfl, rfl⟩ := H
                  go_wp2_with (first | ((with_reducible refine gate_callee (f := 177) rfl ?_); refine goesL_ (some 47) rfl rfl Tryd.func177 (by kernel_rfl) rfl #[.int .i64 a1, .int .i64 a2] rfl (by (try simp only [List.map_toArray, List.map_cons, List.map_nil]); first | done | rfl | (simp only [List.length_drop, List.length_take]; rfl)) ?_; (with_reducible refine (isa86_places.calls kj12 a1 a2 t213 t216 _ A27.out).mono ?_); rintro e w28 ⟨v214, rfl, ho0, hb⟩; refine ⟨_, rfl, ?_⟩; have n0_ := Aside0.mk (Kd.R_lower ho0 (below_size (by repeat (first | (with_reducible first | exact HB.out | apply below_alloc | apply pw_below_drewN | apply below_drew1 | refine below_set ?_ GE198.out) | exact HB.out)))); have n1_ := Aside0.mk (blk_below (g := gb198) (o := .cells #[.slice none 0 0, .int .i64 0] 139 (0, 0)) (by (with_reducible repeat (first | refine blk_drewN ?_ _ | refine blk_drew ?_ | refine blk_alloc ?_ _)); exact BK198.out) hb); have n2_ := Aside0.mk (below_step (by repeat (first | (with_reducible first | exact HB.out | apply below_alloc | apply pw_below_drewN | apply below_drew1 | refine below_set ?_ GE198.out) | exact HB.out)) hb); clear BK198; clear HB; have HO215 := n0_; have BK198 := n1_; have HB := n2_; clear n0_ n1_ n2_; (try clear hb); (try clear hb2); (try clear hk); (try clear hi); (try clear ho0); obtain ⟨Ao29, co29, eo29⟩ := Kd.R_slice HO215.out; subst eo29; have hcz30_0 : w28.cell? ⟨gb198, 0, none⟩ = some (.slice none 0 0) := (blk_cell BK198.out 0).trans rfl; have hcz30_1 : w28.cell? ⟨gb198, 1, none⟩ = some (.int .i64 0) := (blk_cell BK198.out 1).trans rfl; have hfz30_0 := blk_frozen BK198.out 0; have hfz30_1 := blk_frozen BK198.out 1))
                  refine bodyPost_ret (results_cell_row rfl _ _ gb198 139 #[.slice Ao29 t213.length co29, .int .i64 t216] (0, 0) _ rfl (by (with_reducible repeat (first | refine blk_drewN ?_ _ | refine blk_drew ?_ | refine blk_alloc ?_ _)); refine blk_put (cs := #[.slice Ao29 t213.length co29, .int .i64 0]) ?_ 1 _ rfl; (with_reducible repeat (first | refine blk_drewN ?_ _ | refine blk_drew ?_ | refine blk_alloc ?_ _)); refine blk_put (cs := #[.slice none 0 0, .int .i64 0]) ?_ 0 _ rfl; (with_reducible repeat (first | refine blk_drewN ?_ _ | refine blk_drew ?_ | refine blk_alloc ?_ _)); exact BK198.out) Tryd.underlying139 rfl (by kernel_rfl)) rfl ?_
                  exact ⟨_, by first | rfl | (simp [errW_none, errW_some] <;> rfl) | (simp [*, errW_none, errW_some] <;> rfl), by (with_reducible repeat (first | apply Kd.R_alloc | apply Kd.R_drewN | apply Kd.R_drew)); exact Kd.R_mono (Kd.R_far (p := ⟨gb198, 1, none⟩) (Kd.R_far (p := ⟨gb198, 0, none⟩) (Kd.R_types HO215.out BK198.out (by decide)) (fun _ hk => hk.2) (.slice Ao29 t213.length co29)) (fun _ hk => hk.2) (.int .i64 t216)) (fun _ hk => trivial), by repeat (first | (with_reducible first | exact HB.out | apply below_alloc | apply pw_below_drewN | apply below_drew1 | refine below_set ?_ GE198.out) | exact HB.out)⟩
                · rw [if_neg c26] at H
                  have c26b0 : (a0 == 1) = false := beq_eq_false_iff_ne.mpr c26
                  have c26b1 : (a0 != 1) = true := bne_iff_ne.mpr c26
                  have HC31 := Aside0.mk H
                  clear H
                  go_upto_region 10 with (fail)
                  go_cut [48] (fun v48 wc => ∃ (kq : Nat) (x48_30 : Bool), v48 = .bool x48_30 ∧ Aside0 (isa86_two.j3 kq a0 a1 a2 x7_ x8_3 x9_10 x48_30 = some (r1, r2)) ∧ Aside0 (kq ≤ kj12) ∧ Aside0 (wc.heap[gb198]? = some (.cells #[(.slice none 0 0), .int .i64 0] 139 (0, 0))) ∧ Aside0 (Below w.heap.size w wc))
                  case first =>
                    have H := HC31.out
                    clear HC31
                    by_cases c32 : a0 = 17
                    · rw [if_pos c32] at H
                      have c32b0 : (a0 == 17) = true := beq_iff_eq.mpr c32
                      have c32b1 : (a0 != 17) = false := bne_eq_false_iff_eq.mpr c32
                      clear c32
                      (first | rw [c32b0] | (simp only [i64_w, i32_w]; rw [c32b0]) | skip)
                      by_cases c33 : x8_3 = true
                      · subst c33
                        have H1 : (if a1 = 9 then (isa86_two.j3 kj12 a0 a1 a2 x7_ true x9_10 false) else (isa86_two.j3 kj12 a0 a1 a2 x7_ true x9_10 (a2 != 9))) = some (r1, r2) := by rw [if_pos rfl] at H; exact H
                        clear H
                        have H := H1
                        clear H1
                        by_cases c34 : a1 = 9
                        · rw [if_pos c34] at H
                          have c34b0 : (a1 == 9) = true := beq_iff_eq.mpr c34
                          have c34b1 : (a1 != 9) = false := bne_eq_false_iff_eq.mpr c34
                          clear c34
                          have H' := Aside0.mk H
                          clear H
                          go_wp2
                          go_meet
                          case rel => exact ⟨_, (false), (by first | rfl | (simp; done) | (simp [*]; done)), H', ⟨by have := HJ3.out; have := HJ10.out; have := HJ12.out; first | omega | exact Nat.le_refl _⟩, ⟨by (with_reducible repeat (first | refine blk_drewN ?_ _ | refine blk_drew ?_ | refine blk_alloc ?_ _)); exact BK198.out⟩, ⟨by repeat (first | (with_reducible first | exact HB.out | apply below_alloc | apply pw_below_drewN | apply below_drew1 | refine below_set ?_ GE198.out) | exact HB.out)⟩⟩
                        · rw [if_neg c34] at H
                          have c34b0 : (a1 == 9) = false := beq_eq_false_iff_ne.mpr c34
                          have c34b1 : (a1 != 9) = true := bne_iff_ne.mpr c34
                          have H' := Aside0.mk H
                          clear H
                          go_wp2
                          go_meet
                          case rel => exact ⟨_, ((a2 != 9)), (by first | rfl | (simp; done) | (simp [*]; done)), H', ⟨by have := HJ3.out; have := HJ10.out; have := HJ12.out; first | omega | exact Nat.le_refl _⟩, ⟨by (with_reducible repeat (first | refine blk_drewN ?_ _ | refine blk_drew ?_ | refine blk_alloc ?_ _)); exact BK198.out⟩, ⟨by repeat (first | (with_reducible first | exact HB.out | apply below_alloc | apply pw_below_drewN | apply below_drew1 | refine below_set ?_ GE198.out) | exact HB.out)⟩⟩
                      · replace c33 := Bool.eq_false_iff.mpr c33
                        subst c33
                        have H1 : (isa86_two.j3 kj12 a0 a1 a2 x7_ false x9_10 false) = some (r1, r2) := by rw [if_neg (show ¬ (false = true) by decide)] at H; exact H
                        clear H
                        have H := H1
                        clear H1
                        have H' := Aside0.mk H
                        clear H
                        go_wp2
                        go_meet
                        case rel => exact ⟨_, (false), (by first | rfl | (simp; done) | (simp [*]; done)), H', ⟨by have := HJ3.out; have := HJ10.out; have := HJ12.out; first | omega | exact Nat.le_refl _⟩, ⟨by (with_reducible repeat (first | refine blk_drewN ?_ _ | refine blk_drew ?_ | refine blk_alloc ?_ _)); exact BK198.out⟩, ⟨by repeat (first | (with_reducible first | exact HB.out | apply below_alloc | apply pw_below_drewN | apply below_drew1 | refine below_set ?_ GE198.out) | exact HB.out)⟩⟩
                    · rw [if_neg c32] at H
                      have c32b0 : (a0 == 17) = false := beq_eq_false_iff_ne.mpr c32
                      have c32b1 : (a0 != 17) = true := bne_iff_ne.mpr c32
                      (first | rw [c32b0] | (simp only [i64_w, i32_w]; rw [c32b0]) | skip)
                      have H' := Aside0.mk H
                      clear H
                      go_wp2
                      go_meet
                      case rel => exact ⟨_, (false), (by first | rfl | (simp; done) | (simp [*]; done)), H', ⟨by have := HJ3.out; have := HJ10.out; have := HJ12.out; first | omega | exact Nat.le_refl _⟩, ⟨by (with_reducible repeat (first | refine blk_drewN ?_ _ | refine blk_drew ?_ | refine blk_alloc ?_ _)); exact BK198.out⟩, ⟨by repeat (first | (with_reducible first | exact HB.out | apply below_alloc | apply pw_below_drewN | apply below_drew1 | refine below_set ?_ GE198.out) | exact HB.out)⟩⟩
                  case rest =>
                    as_aux_lemma =>
                    clear HC31
                    try clear c1
                    try clear c2
                    try clear p2
                    try clear c3
                    try clear p6
                    try clear c7
                    try clear c7b0
                    try clear c7b1
                    try clear c12
                    try clear c12b0
                    try clear c12b1
                    try clear c14
                    try clear c14b0
                    try clear c14b1
                    try clear c15
                    try clear c17
                    try clear c26
                    try clear c26b0
                    try clear c26b1
                    try clear c32
                    try clear c32b0
                    try clear c32b1
                    try clear c33
                    try clear c34
                    try clear c34b0
                    try clear c34b1
                    try clear hcz25_0
                    try clear hcz25_1
                    try clear hcz30_0
                    try clear hcz30_1
                    try clear hfz25_0
                    try clear hfz25_1
                    try clear hfz30_0
                    try clear hfz30_1
                    try clear p2
                    try clear p6
                    obtain ⟨kq, x48_30, rfl, HA, HJ30, BK198, HB⟩ := hcut
                    cases kq with
                    | zero => exact absurd HA.out (by simp [isa86_two.j3])
                    | succ kj30 =>
                      have H := HA.out
                      clear HA
                      simp only [isa86_two.j3] at H
                      by_cases c35 : x48_30 = true
                      · subst c35
                        have H1 : ((isa86_num.f a2).bind fun t217 => ((isa86_num.f a1).bind fun t218 => ((isa86_rm.f t217 t218).bind fun t219 => ((isa86_of.f 0 (([Go.bits .or .u8 134 x9_10, t219] : List Int))).bind fun bt223 => (some (bt223.1, bt223.2)))))) = some (r1, r2) := by rw [if_pos rfl] at H; exact H
                        clear H
                        have H := H1
                        clear H1
                        replace H := Option.bind_eq_some_iff.mp H
                        obtain ⟨t217, A360, H⟩ := H
                        replace H : ((isa86_num.f a1).bind fun t218 => ((isa86_rm.f t217 t218).bind fun t219 => ((isa86_of.f 0 (([Go.bits .or .u8 134 x9_10, t219] : List Int))).bind fun bt223 => (some (bt223.1, bt223.2))))) = some (r1, r2) := H
                        have A36 := Aside0.mk A360
                        clear A360
                        replace H := Option.bind_eq_some_iff.mp H
                        obtain ⟨t218, A370, H⟩ := H
                        replace H : ((isa86_rm.f t217 t218).bind fun t219 => ((isa86_of.f 0 (([Go.bits .or .u8 134 x9_10, t219] : List Int))).bind fun bt223 => (some (bt223.1, bt223.2)))) = some (r1, r2) := H
                        have A37 := Aside0.mk A370
                        clear A370
                        replace H := Option.bind_eq_some_iff.mp H
                        obtain ⟨t219, A380, H⟩ := H
                        replace H : ((isa86_of.f 0 (([Go.bits .or .u8 134 x9_10, t219] : List Int))).bind fun bt223 => (some (bt223.1, bt223.2))) = some (r1, r2) := H
                        have A38 := Aside0.mk A380
                        clear A380
                        obtain ⟨y220, hy220⟩ : ∃ y_ : List Int, y_ = (([Go.bits .or .u8 134 x9_10, t219] : List Int)) := ⟨_, rfl⟩
                        replace H : ((isa86_of.f 0 y220).bind fun bt223 => (some (bt223.1, bt223.2))) = some (r1, r2) := by first | (rw [hy220]; with_reducible exact H) | (have H2_ := (Option.bind_some _ _).symm.trans H; rw [hy220]; with_reducible exact H2_) | (have H2_ := (Option.bind_some _ _).symm.trans H; with_reducible exact H2_) | with_reducible exact H | (rw [hy220]; exact H) | exact H
                        have Ny220 := Aside0.mk hy220
                        clear hy220
                        replace H := Option.bind_eq_some_iff.mp H
                        obtain ⟨⟨t223, t226⟩, A390, H⟩ := H
                        replace H : (some (t223, t226)) = some (r1, r2) := H
                        have A39 := Aside0.mk A390
                        clear A390
                        simp only [Option.some.injEq, Prod.mk.injEq] at H
                        obtain ⟨rfl, rfl⟩ := H
                        go_wp2_with (first | ((with_reducible refine gate_callee (f := 176) rfl ?_); refine goesL_ (some 65) rfl rfl Tryd.func176 (by kernel_rfl) rfl #[.int .i64 a2] rfl (by (try simp only [List.map_toArray, List.map_cons, List.map_nil]); first | done | rfl | (simp only [List.length_drop, List.length_take]; rfl)) ?_; (with_reducible refine (isa86_num.calls a2 t217 _ A36.out).mono ?_); rintro e w' ⟨rfl, ⟨nd, rfl⟩⟩; refine ⟨_, rfl, ?_⟩; (try (rw [drewN_self wc]; generalize hq_ : World.drewN wc _ = wc; have n0_ : Aside0 (wc.heap[gb198]? = some (.cells #[.slice none 0 0, .int .i64 0] 139 (0, 0))) := ⟨by rw [← hq_]; exact (by (with_reducible repeat (first | refine blk_drewN ?_ _ | refine blk_drew ?_ | refine blk_alloc ?_ _)); exact BK198.out)⟩; have n1_ : Aside0 (Below w.heap.size w wc) := ⟨by rw [← hq_]; exact (by repeat (first | (with_reducible first | exact HB.out | apply below_alloc | apply pw_below_drewN | apply below_drew1 | refine below_set ?_ GE198.out) | exact HB.out))⟩; clear BK198 HB hq_; have BK198 := n0_; have HB := n1_; clear n0_ n1_)); (try clear A36)) | ((with_reducible refine gate_callee (f := 176) rfl ?_); refine goesL_ (some 67) rfl rfl Tryd.func176 (by kernel_rfl) rfl #[.int .i64 a1] rfl (by (try simp only [List.map_toArray, List.map_cons, List.map_nil]); first | done | rfl | (simp only [List.length_drop, List.length_take]; rfl)) ?_; (with_reducible refine (isa86_num.calls a1 t218 _ A37.out).mono ?_); rintro e w' ⟨rfl, ⟨nd, rfl⟩⟩; refine ⟨_, rfl, ?_⟩; (try (rw [drewN_self wc]; generalize hq_ : World.drewN wc _ = wc; have n0_ : Aside0 (wc.heap[gb198]? = some (.cells #[.slice none 0 0, .int .i64 0] 139 (0, 0))) := ⟨by rw [← hq_]; exact (by (with_reducible repeat (first | refine blk_drewN ?_ _ | refine blk_drew ?_ | refine blk_alloc ?_ _)); exact BK198.out)⟩; have n1_ : Aside0 (Below w.heap.size w wc) := ⟨by rw [← hq_]; exact (by repeat (first | (with_reducible first | exact HB.out | apply below_alloc | apply pw_below_drewN | apply below_drew1 | refine below_set ?_ GE198.out) | exact HB.out))⟩; clear BK198 HB hq_; have BK198 := n0_; have HB := n1_; clear n0_ n1_)); (try clear A37)) | ((with_reducible refine gate_callee (f := 175) rfl ?_); refine goesL_ (some 68) rfl rfl Tryd.func175 (by kernel_rfl) rfl #[.int .u8 t217, .int .u8 t218] rfl (by (try simp only [List.map_toArray, List.map_cons, List.map_nil]); first | done | rfl | (simp only [List.length_drop, List.length_take]; rfl)) ?_; (with_reducible refine (isa86_rm.calls t217 t218 t219 _ A38.out).mono ?_); rintro e w' ⟨rfl, ⟨nd, rfl⟩⟩; refine ⟨_, rfl, ?_⟩; (try (rw [drewN_self wc]; generalize hq_ : World.drewN wc _ = wc; have n0_ : Aside0 (wc.heap[gb198]? = some (.cells #[.slice none 0 0, .int .i64 0] 139 (0, 0))) := ⟨by rw [← hq_]; exact (by (with_reducible repeat (first | refine blk_drewN ?_ _ | refine blk_drew ?_ | refine blk_alloc ?_ _)); exact BK198.out)⟩; have n1_ : Aside0 (Below w.heap.size w wc) := ⟨by rw [← hq_]; exact (by repeat (first | (with_reducible first | exact HB.out | apply below_alloc | apply pw_below_drewN | apply below_drew1 | refine below_set ?_ GE198.out) | exact HB.out))⟩; clear BK198 HB hq_; have BK198 := n0_; have HB := n1_; clear n0_ n1_))) | ((with_reducible refine gate_dst (N := 69) rfl ?_); refine Kd.R_lit (Kd.int .u8) _ 5 ?hg (N := 69) ?hd (xs := ([Go.bits .or .u8 134 x9_10, t219] : List Int)) (inner := [.int .u8 (Go.bits .or .u8 134 x9_10), .int .u8 t219]) (ok := fun _ => True) (okp := fun _ => True) ?hr ?hp (fun _ hk => hk) trivial (Below.refl _ _) (Nat.le_refl _) (by simp) ?_; (case hd => rfl); (case hg => rfl); (case hr => first | (go_simp; done) | (go_simp; rfl)); (case hp => exact (Reps.one (show Kd.M (Kd.int .u8) _ _ _ (Go.bits .or .u8 134 x9_10) [.int .u8 (Go.bits .or .u8 134 x9_10)] from rfl) (Reps.one (show Kd.M (Kd.int .u8) _ _ _ t219 [.int .u8 t219] from rfl) (Reps.none _ _)))); intro v221 w40 ho41 hb hg_ hnew_; clear hg_ hnew_; (first | rw [← Ny220.out] at ho41 | (simp only [Int.reduceToNat] at ho41; rw [← Ny220.out] at ho41)); have n0_ := Aside0.mk (Kd.R_lower ho41 (below_size (by repeat (first | (with_reducible first | exact HB.out | apply below_alloc | apply pw_below_drewN | apply below_drew1 | refine below_set ?_ GE198.out) | exact HB.out)))); have n1_ := Aside0.mk (blk_below (g := gb198) (o := .cells #[.slice none 0 0, .int .i64 0] 139 (0, 0)) (by (with_reducible repeat (first | refine blk_drewN ?_ _ | refine blk_drew ?_ | refine blk_alloc ?_ _)); exact BK198.out) hb); have n2_ := Aside0.mk (below_step (by repeat (first | (with_reducible first | exact HB.out | apply below_alloc | apply pw_below_drewN | apply below_drew1 | refine below_set ?_ GE198.out) | exact HB.out)) hb); clear BK198; clear HB; have HO222 := n0_; have BK198 := n1_; have HB := n2_; clear n0_ n1_ n2_; clear hb ho41; obtain ⟨Ao42, co42, eo42⟩ := Kd.R_slice HO222.out; subst eo42) | ((with_reducible refine gate_callee (f := 157) rfl ?_); refine goesL_ (some 70) rfl rfl Tryd.func157 (by kernel_rfl) rfl #[.int .i64 0, .slice Ao42 y220.length co42] rfl (by (try simp only [List.map_toArray, List.map_cons, List.map_nil]); first | done | rfl | (simp only [List.length_drop, List.length_take]; rfl)) ?_; (with_reducible refine (isa86_of.calls 0 (fun k_ => some k_ = (.slice Ao42 y220.length co42 : Value).ownBlock) (.slice Ao42 y220.length co42) y220 t223 t226 w _ ?side1 ?side2 A39.out).mono ?_); (case side1 => repeat (first | (with_reducible first | exact HB.out | apply below_alloc | apply pw_below_drewN | apply below_drew1 | refine below_set ?_ GE198.out) | exact HB.out)); (case side2 => exact Kd.R_tight rfl HO222.out); rintro e w43 ⟨v224, rfl, ho0, hb, hkp⟩; refine ⟨_, rfl, ?_⟩; have n0_ := Aside0.mk (blk_kept (by (with_reducible repeat (first | refine blk_drewN ?_ _ | refine blk_drew ?_ | refine blk_alloc ?_ _)); exact BK198.out) hkp (fun hs_ => (fun e_ => (Kd.R_ne HO222.out BK198.out (by decide)) e_) hs_)); have n1_ := Aside0.mk (Kd.R_mono (ok' := fun k_ => True) ho0 (fun k_ hk_ => trivial)); have n2_ := Aside0.mk (hb); clear BK198; clear HB; clear HO222; have BK198 := n0_; have HO225 := n1_; have HB := n2_; clear n0_ n1_ n2_; (try clear hb); (try clear hkp); (try clear ho0); obtain ⟨Ao44, co44, eo44⟩ := Kd.R_slice HO225.out; subst eo44; have hcz45_0 : w43.cell? ⟨gb198, 0, none⟩ = some (.slice none 0 0) := (blk_cell BK198.out 0).trans rfl; have hcz45_1 : w43.cell? ⟨gb198, 1, none⟩ = some (.int .i64 0) := (blk_cell BK198.out 1).trans rfl; have hfz45_0 := blk_frozen BK198.out 0; have hfz45_1 := blk_frozen BK198.out 1))
                        refine bodyPost_ret (results_cell_row rfl _ _ gb198 139 #[.slice Ao44 t223.length co44, .int .i64 t226] (0, 0) _ rfl (by (with_reducible repeat (first | refine blk_drewN ?_ _ | refine blk_drew ?_ | refine blk_alloc ?_ _)); refine blk_put (cs := #[.slice Ao44 t223.length co44, .int .i64 0]) ?_ 1 _ rfl; (with_reducible repeat (first | refine blk_drewN ?_ _ | refine blk_drew ?_ | refine blk_alloc ?_ _)); refine blk_put (cs := #[.slice none 0 0, .int .i64 0]) ?_ 0 _ rfl; (with_reducible repeat (first | refine blk_drewN ?_ _ | refine blk_drew ?_ | refine blk_alloc ?_ _)); exact BK198.out) Tryd.underlying139 rfl (by kernel_rfl)) rfl ?_
                        exact ⟨_, by first | rfl | (simp [errW_none, errW_some] <;> rfl) | (simp [*, errW_none, errW_some] <;> rfl), by (with_reducible repeat (first | apply Kd.R_alloc | apply Kd.R_drewN | apply Kd.R_drew)); exact Kd.R_mono (Kd.R_far (p := ⟨gb198, 1, none⟩) (Kd.R_far (p := ⟨gb198, 0, none⟩) (Kd.R_types HO225.out BK198.out (by decide)) (fun _ hk => hk.2) (.slice Ao44 t223.length co44)) (fun _ hk => hk.2) (.int .i64 t226)) (fun _ hk => trivial), by repeat (first | (with_reducible first | exact HB.out | apply below_alloc | apply pw_below_drewN | apply below_drew1 | refine below_set ?_ GE198.out) | exact HB.out)⟩
                      · replace c35 := Bool.eq_false_iff.mpr c35
                        subst c35
                        have H1 : (if a0 = 30 then (if a1 = 1 then (isa86_two.j4 kj30 a0 a1 a2 x7_ x8_3 x9_10 (a2 == 20)) else (isa86_two.j4 kj30 a0 a1 a2 x7_ x8_3 x9_10 false)) else (isa86_two.j4 kj30 a0 a1 a2 x7_ x8_3 x9_10 false)) = some (r1, r2) := by rw [if_neg (show ¬ (false = true) by decide)] at H; exact H
                        clear H
                        have H := H1
                        clear H1
                        have HC46 := Aside0.mk H
                        clear H
                        go_upto_region 12 with (fail)
                        go_cut [71] (fun v71 wc => ∃ (kq : Nat) (x71_45 : Bool), v71 = .bool x71_45 ∧ Aside0 (isa86_two.j4 kq a0 a1 a2 x7_ x8_3 x9_10 x71_45 = some (r1, r2)) ∧ Aside0 (kq ≤ kj30) ∧ Aside0 (wc.heap[gb198]? = some (.cells #[(.slice none 0 0), .int .i64 0] 139 (0, 0))) ∧ Aside0 (Below w.heap.size w wc))
                        case first =>
                          have H := HC46.out
                          clear HC46
                          by_cases c47 : a0 = 30
                          · rw [if_pos c47] at H
                            have c47b0 : (a0 == 30) = true := beq_iff_eq.mpr c47
                            have c47b1 : (a0 != 30) = false := bne_eq_false_iff_eq.mpr c47
                            clear c47
                            (first | rw [c47b0] | (simp only [i64_w, i32_w]; rw [c47b0]) | skip)
                            by_cases c48 : a1 = 1
                            · rw [if_pos c48] at H
                              have c48b0 : (a1 == 1) = true := beq_iff_eq.mpr c48
                              have c48b1 : (a1 != 1) = false := bne_eq_false_iff_eq.mpr c48
                              clear c48
                              have H' := Aside0.mk H
                              clear H
                              go_wp2
                              go_meet
                              case rel => exact ⟨_, ((a2 == 20)), (by first | rfl | (simp; done) | (simp [*]; done)), H', ⟨by have := HJ3.out; have := HJ10.out; have := HJ12.out; have := HJ30.out; first | omega | exact Nat.le_refl _⟩, ⟨by (with_reducible repeat (first | refine blk_drewN ?_ _ | refine blk_drew ?_ | refine blk_alloc ?_ _)); exact BK198.out⟩, ⟨by repeat (first | (with_reducible first | exact HB.out | apply below_alloc | apply pw_below_drewN | apply below_drew1 | refine below_set ?_ GE198.out) | exact HB.out)⟩⟩
                            · rw [if_neg c48] at H
                              have c48b0 : (a1 == 1) = false := beq_eq_false_iff_ne.mpr c48
                              have c48b1 : (a1 != 1) = true := bne_iff_ne.mpr c48
                              have H' := Aside0.mk H
                              clear H
                              go_wp2
                              go_meet
                              case rel => exact ⟨_, (false), (by first | rfl | (simp; done) | (simp [*]; done)), H', ⟨by have := HJ3.out; have := HJ10.out; have := HJ12.out; have := HJ30.out; first | omega | exact Nat.le_refl _⟩, ⟨by (with_reducible repeat (first | refine blk_drewN ?_ _ | refine blk_drew ?_ | refine blk_alloc ?_ _)); exact BK198.out⟩, ⟨by repeat (first | (with_reducible first | exact HB.out | apply below_alloc | apply pw_below_drewN | apply below_drew1 | refine below_set ?_ GE198.out) | exact HB.out)⟩⟩
                          · rw [if_neg c47] at H
                            have c47b0 : (a0 == 30) = false := beq_eq_false_iff_ne.mpr c47
                            have c47b1 : (a0 != 30) = true := bne_iff_ne.mpr c47
                            (first | rw [c47b0] | (simp only [i64_w, i32_w]; rw [c47b0]) | skip)
                            have H' := Aside0.mk H
                            clear H
                            go_wp2
                            go_meet
                            case rel => exact ⟨_, (false), (by first | rfl | (simp; done) | (simp [*]; done)), H', ⟨by have := HJ3.out; have := HJ10.out; have := HJ12.out; have := HJ30.out; first | omega | exact Nat.le_refl _⟩, ⟨by (with_reducible repeat (first | refine blk_drewN ?_ _ | refine blk_drew ?_ | refine blk_alloc ?_ _)); exact BK198.out⟩, ⟨by repeat (first | (with_reducible first | exact HB.out | apply below_alloc | apply pw_below_drewN | apply below_drew1 | refine below_set ?_ GE198.out) | exact HB.out)⟩⟩
                        case rest =>
                          as_aux_lemma =>
                          clear HC46
                          try clear c1
                          try clear c2
                          try clear p2
                          try clear c3
                          try clear c4
                          try clear p6
                          try clear c7
                          try clear c7b0
                          try clear c7b1
                          try clear c12
                          try clear c12b0
                          try clear c12b1
                          try clear c14
                          try clear c14b0
                          try clear c14b1
                          try clear c15
                          try clear c17
                          try clear c26
                          try clear c26b0
                          try clear c26b1
                          try clear c32
                          try clear c32b0
                          try clear c32b1
                          try clear c33
                          try clear c34
                          try clear c34b0
                          try clear c34b1
                          try clear c35
                          try clear c47
                          try clear c47b0
                          try clear c47b1
                          try clear c48
                          try clear c48b0
                          try clear c48b1
                          try clear hcz25_0
                          try clear hcz25_1
                          try clear hcz30_0
                          try clear hcz30_1
                          try clear hcz45_0
                          try clear hcz45_1
                          try clear hfz25_0
                          try clear hfz25_1
                          try clear hfz30_0
                          try clear hfz30_1
                          try clear hfz45_0
                          try clear hfz45_1
                          try clear p2
                          try clear p6
                          obtain ⟨kq, x71_45, rfl, HA, HJ45, BK198, HB⟩ := hcut
                          cases kq with
                          | zero => exact absurd HA.out (by simp [isa86_two.j4])
                          | succ kj45 =>
                            have H := HA.out
                            clear HA
                            simp only [isa86_two.j4] at H
                            by_cases c49 : x71_45 = true
                            · subst c49
                              have H1 : ((isa86_of.f 1 (([228] : List Int))).bind fun bt230 => (some (bt230.1, bt230.2))) = some (r1, r2) := by rw [if_pos rfl] at H; exact H
                              clear H
                              have H := H1
                              clear H1
                              obtain ⟨y227, hy227⟩ : ∃ y_ : List Int, y_ = (([228] : List Int)) := ⟨_, rfl⟩
                              replace H : ((isa86_of.f 1 y227).bind fun bt230 => (some (bt230.1, bt230.2))) = some (r1, r2) := by first | (rw [hy227]; with_reducible exact H) | (have H2_ := (Option.bind_some _ _).symm.trans H; rw [hy227]; with_reducible exact H2_) | (have H2_ := (Option.bind_some _ _).symm.trans H; with_reducible exact H2_) | with_reducible exact H | (rw [hy227]; exact H) | exact H
                              have Ny227 := Aside0.mk hy227
                              clear hy227
                              replace H := Option.bind_eq_some_iff.mp H
                              obtain ⟨⟨t230, t233⟩, A500, H⟩ := H
                              replace H : (some (t230, t233)) = some (r1, r2) := H
                              have A50 := Aside0.mk A500
                              clear A500
                              simp only [Option.some.injEq, Prod.mk.injEq] at H
                              obtain ⟨rfl, rfl⟩ := H
                              go_wp2_with (first | ((with_reducible refine gate_dst (N := 82) rfl ?_); refine Kd.R_lit (Kd.int .u8) _ 5 ?hg (N := 82) ?hd (xs := ([228] : List Int)) (inner := [.int .u8 228]) (ok := fun _ => True) (okp := fun _ => True) ?hr ?hp (fun _ hk => hk) trivial (Below.refl _ _) (Nat.le_refl _) (by simp) ?_; (case hd => rfl); (case hg => rfl); (case hr => first | (go_simp; done) | (go_simp; rfl)); (case hp => exact (Reps.one (show Kd.M (Kd.int .u8) _ _ _ 228 [.int .u8 228] from rfl) (Reps.none _ _))); intro v228 w51 ho52 hb hg_ hnew_; clear hg_ hnew_; (first | rw [← Ny227.out] at ho52 | (simp only [Int.reduceToNat] at ho52; rw [← Ny227.out] at ho52)); have n0_ := Aside0.mk (Kd.R_lower ho52 (below_size (by repeat (first | (with_reducible first | exact HB.out | apply below_alloc | apply pw_below_drewN | apply below_drew1 | refine below_set ?_ GE198.out) | exact HB.out)))); have n1_ := Aside0.mk (blk_below (g := gb198) (o := .cells #[.slice none 0 0, .int .i64 0] 139 (0, 0)) (by (with_reducible repeat (first | refine blk_drewN ?_ _ | refine blk_drew ?_ | refine blk_alloc ?_ _)); exact BK198.out) hb); have n2_ := Aside0.mk (below_step (by repeat (first | (with_reducible first | exact HB.out | apply below_alloc | apply pw_below_drewN | apply below_drew1 | refine below_set ?_ GE198.out) | exact HB.out)) hb); clear BK198; clear HB; have HO229 := n0_; have BK198 := n1_; have HB := n2_; clear n0_ n1_ n2_; clear hb ho52; obtain ⟨Ao53, co53, eo53⟩ := Kd.R_slice HO229.out; subst eo53) | ((with_reducible refine gate_callee (f := 157) rfl ?_); refine goesL_ (some 83) rfl rfl Tryd.func157 (by kernel_rfl) rfl #[.int .i64 1, .slice Ao53 y227.length co53] rfl (by (try simp only [List.map_toArray, List.map_cons, List.map_nil]); first | done | rfl | (simp only [List.length_drop, List.length_take]; rfl)) ?_; (with_reducible refine (isa86_of.calls 1 (fun k_ => some k_ = (.slice Ao53 y227.length co53 : Value).ownBlock) (.slice Ao53 y227.length co53) y227 t230 t233 w _ ?side1 ?side2 A50.out).mono ?_); (case side1 => repeat (first | (with_reducible first | exact HB.out | apply below_alloc | apply pw_below_drewN | apply below_drew1 | refine below_set ?_ GE198.out) | exact HB.out)); (case side2 => exact Kd.R_tight rfl HO229.out); rintro e w54 ⟨v231, rfl, ho0, hb, hkp⟩; refine ⟨_, rfl, ?_⟩; have n0_ := Aside0.mk (blk_kept (by (with_reducible repeat (first | refine blk_drewN ?_ _ | refine blk_drew ?_ | refine blk_alloc ?_ _)); exact BK198.out) hkp (fun hs_ => (fun e_ => (Kd.R_ne HO229.out BK198.out (by decide)) e_) hs_)); have n1_ := Aside0.mk (Kd.R_mono (ok' := fun k_ => True) ho0 (fun k_ hk_ => trivial)); have n2_ := Aside0.mk (hb); clear BK198; clear HB; clear HO229; have BK198 := n0_; have HO232 := n1_; have HB := n2_; clear n0_ n1_ n2_; (try clear hb); (try clear hkp); (try clear ho0); obtain ⟨Ao55, co55, eo55⟩ := Kd.R_slice HO232.out; subst eo55; have hcz56_0 : w54.cell? ⟨gb198, 0, none⟩ = some (.slice none 0 0) := (blk_cell BK198.out 0).trans rfl; have hcz56_1 : w54.cell? ⟨gb198, 1, none⟩ = some (.int .i64 0) := (blk_cell BK198.out 1).trans rfl; have hfz56_0 := blk_frozen BK198.out 0; have hfz56_1 := blk_frozen BK198.out 1))
                              refine bodyPost_ret (results_cell_row rfl _ _ gb198 139 #[.slice Ao55 t230.length co55, .int .i64 t233] (0, 0) _ rfl (by (with_reducible repeat (first | refine blk_drewN ?_ _ | refine blk_drew ?_ | refine blk_alloc ?_ _)); refine blk_put (cs := #[.slice Ao55 t230.length co55, .int .i64 0]) ?_ 1 _ rfl; (with_reducible repeat (first | refine blk_drewN ?_ _ | refine blk_drew ?_ | refine blk_alloc ?_ _)); refine blk_put (cs := #[.slice none 0 0, .int .i64 0]) ?_ 0 _ rfl; (with_reducible repeat (first | refine blk_drewN ?_ _ | refine blk_drew ?_ | refine blk_alloc ?_ _)); exact BK198.out) Tryd.underlying139 rfl (by kernel_rfl)) rfl ?_
                              exact ⟨_, by first | rfl | (simp [errW_none, errW_some] <;> rfl) | (simp [*, errW_none, errW_some] <;> rfl), by (with_reducible repeat (first | apply Kd.R_alloc | apply Kd.R_drewN | apply Kd.R_drew)); exact Kd.R_mono (Kd.R_far (p := ⟨gb198, 1, none⟩) (Kd.R_far (p := ⟨gb198, 0, none⟩) (Kd.R_types HO232.out BK198.out (by decide)) (fun _ hk => hk.2) (.slice Ao55 t230.length co55)) (fun _ hk => hk.2) (.int .i64 t233)) (fun _ hk => trivial), by repeat (first | (with_reducible first | exact HB.out | apply below_alloc | apply pw_below_drewN | apply below_drew1 | refine below_set ?_ GE198.out) | exact HB.out)⟩
                            · replace c49 := Bool.eq_false_iff.mpr c49
                              subst c49
                              have H1 : (if a0 = 31 then (if a1 = 20 then (isa86_two.j5 kj45 a0 a1 a2 x7_ x8_3 x9_10 (a2 == 1)) else (isa86_two.j5 kj45 a0 a1 a2 x7_ x8_3 x9_10 false)) else (isa86_two.j5 kj45 a0 a1 a2 x7_ x8_3 x9_10 false)) = some (r1, r2) := by rw [if_neg (show ¬ (false = true) by decide)] at H; exact H
                              clear H
                              have H := H1
                              clear H1
                              have HC57 := Aside0.mk H
                              clear H
                              go_upto_region 14 with (fail)
                              go_cut [84] (fun v84 wc => ∃ (kq : Nat) (x84_56 : Bool), v84 = .bool x84_56 ∧ Aside0 (isa86_two.j5 kq a0 a1 a2 x7_ x8_3 x9_10 x84_56 = some (r1, r2)) ∧ Aside0 (kq ≤ kj45) ∧ Aside0 (wc.heap[gb198]? = some (.cells #[(.slice none 0 0), .int .i64 0] 139 (0, 0))) ∧ Aside0 (Below w.heap.size w wc))
                              case first =>
                                have H := HC57.out
                                clear HC57
                                by_cases c58 : a0 = 31
                                · rw [if_pos c58] at H
                                  have c58b0 : (a0 == 31) = true := beq_iff_eq.mpr c58
                                  have c58b1 : (a0 != 31) = false := bne_eq_false_iff_eq.mpr c58
                                  clear c58
                                  (first | rw [c58b0] | (simp only [i64_w, i32_w]; rw [c58b0]) | skip)
                                  by_cases c59 : a1 = 20
                                  · rw [if_pos c59] at H
                                    have c59b0 : (a1 == 20) = true := beq_iff_eq.mpr c59
                                    have c59b1 : (a1 != 20) = false := bne_eq_false_iff_eq.mpr c59
                                    clear c59
                                    have H' := Aside0.mk H
                                    clear H
                                    go_wp2
                                    go_meet
                                    case rel => exact ⟨_, ((a2 == 1)), (by first | rfl | (simp; done) | (simp [*]; done)), H', ⟨by have := HJ3.out; have := HJ10.out; have := HJ12.out; have := HJ30.out; have := HJ45.out; first | omega | exact Nat.le_refl _⟩, ⟨by (with_reducible repeat (first | refine blk_drewN ?_ _ | refine blk_drew ?_ | refine blk_alloc ?_ _)); exact BK198.out⟩, ⟨by repeat (first | (with_reducible first | exact HB.out | apply below_alloc | apply pw_below_drewN | apply below_drew1 | refine below_set ?_ GE198.out) | exact HB.out)⟩⟩
                                  · rw [if_neg c59] at H
                                    have c59b0 : (a1 == 20) = false := beq_eq_false_iff_ne.mpr c59
                                    have c59b1 : (a1 != 20) = true := bne_iff_ne.mpr c59
                                    have H' := Aside0.mk H
                                    clear H
                                    go_wp2
                                    go_meet
                                    case rel => exact ⟨_, (false), (by first | rfl | (simp; done) | (simp [*]; done)), H', ⟨by have := HJ3.out; have := HJ10.out; have := HJ12.out; have := HJ30.out; have := HJ45.out; first | omega | exact Nat.le_refl _⟩, ⟨by (with_reducible repeat (first | refine blk_drewN ?_ _ | refine blk_drew ?_ | refine blk_alloc ?_ _)); exact BK198.out⟩, ⟨by repeat (first | (with_reducible first | exact HB.out | apply below_alloc | apply pw_below_drewN | apply below_drew1 | refine below_set ?_ GE198.out) | exact HB.out)⟩⟩
                                · rw [if_neg c58] at H
                                  have c58b0 : (a0 == 31) = false := beq_eq_false_iff_ne.mpr c58
                                  have c58b1 : (a0 != 31) = true := bne_iff_ne.mpr c58
                                  (first | rw [c58b0] | (simp only [i64_w, i32_w]; rw [c58b0]) | skip)
                                  have H' := Aside0.mk H
                                  clear H
                                  go_wp2
                                  go_meet
                                  case rel => exact ⟨_, (false), (by first | rfl | (simp; done) | (simp [*]; done)), H', ⟨by have := HJ3.out; have := HJ10.out; have := HJ12.out; have := HJ30.out; have := HJ45.out; first | omega | exact Nat.le_refl _⟩, ⟨by (with_reducible repeat (first | refine blk_drewN ?_ _ | refine blk_drew ?_ | refine blk_alloc ?_ _)); exact BK198.out⟩, ⟨by repeat (first | (with_reducible first | exact HB.out | apply below_alloc | apply pw_below_drewN | apply below_drew1 | refine below_set ?_ GE198.out) | exact HB.out)⟩⟩
                              case rest =>
                                as_aux_lemma =>
                                clear HC57
                                try clear c1
                                try clear c2
                                try clear p2
                                try clear c3
                                try clear c4
                                try clear c5
                                try clear p6
                                try clear c7
                                try clear c7b0
                                try clear c7b1
                                try clear c12
                                try clear c12b0
                                try clear c12b1
                                try clear c14
                                try clear c14b0
                                try clear c14b1
                                try clear c15
                                try clear c17
                                try clear c26
                                try clear c26b0
                                try clear c26b1
                                try clear c32
                                try clear c32b0
                                try clear c32b1
                                try clear c33
                                try clear c34
                                try clear c34b0
                                try clear c34b1
                                try clear c35
                                try clear c47
                                try clear c47b0
                                try clear c47b1
                                try clear c48
                                try clear c48b0
                                try clear c48b1
                                try clear c49
                                try clear c58
                                try clear c58b0
                                try clear c58b1
                                try clear c59
                                try clear c59b0
                                try clear c59b1
                                try clear hcz25_0
                                try clear hcz25_1
                                try clear hcz30_0
                                try clear hcz30_1
                                try clear hcz45_0
                                try clear hcz45_1
                                try clear hcz56_0
                                try clear hcz56_1
                                try clear hfz25_0
                                try clear hfz25_1
                                try clear hfz30_0
                                try clear hfz30_1
                                try clear hfz45_0
                                try clear hfz45_1
                                try clear hfz56_0
                                try clear hfz56_1
                                try clear p2
                                try clear p6
                                obtain ⟨kq, x84_56, rfl, HA, HJ56, BK198, HB⟩ := hcut
                                cases kq with
                                | zero => exact absurd HA.out (by simp [isa86_two.j5])
                                | succ kj56 =>
                                  have H := HA.out
                                  clear HA
                                  simp only [isa86_two.j5] at H
                                  by_cases c60 : x84_56 = true
                                  · subst c60
                                    have H1 : ((isa86_of.f 1 (([230] : List Int))).bind fun bt237 => (some (bt237.1, bt237.2))) = some (r1, r2) := by rw [if_pos rfl] at H; exact H
                                    clear H
                                    have H := H1
                                    clear H1
                                    obtain ⟨y234, hy234⟩ : ∃ y_ : List Int, y_ = (([230] : List Int)) := ⟨_, rfl⟩
                                    replace H : ((isa86_of.f 1 y234).bind fun bt237 => (some (bt237.1, bt237.2))) = some (r1, r2) := by first | (rw [hy234]; with_reducible exact H) | (have H2_ := (Option.bind_some _ _).symm.trans H; rw [hy234]; with_reducible exact H2_) | (have H2_ := (Option.bind_some _ _).symm.trans H; with_reducible exact H2_) | with_reducible exact H | (rw [hy234]; exact H) | exact H
                                    have Ny234 := Aside0.mk hy234
                                    clear hy234
                                    replace H := Option.bind_eq_some_iff.mp H
                                    obtain ⟨⟨t237, t240⟩, A610, H⟩ := H
                                    replace H : (some (t237, t240)) = some (r1, r2) := H
                                    have A61 := Aside0.mk A610
                                    clear A610
                                    simp only [Option.some.injEq, Prod.mk.injEq] at H
                                    obtain ⟨rfl, rfl⟩ := H
                                    go_wp2_with (first | ((with_reducible refine gate_dst (N := 95) rfl ?_); refine Kd.R_lit (Kd.int .u8) _ 5 ?hg (N := 95) ?hd (xs := ([230] : List Int)) (inner := [.int .u8 230]) (ok := fun _ => True) (okp := fun _ => True) ?hr ?hp (fun _ hk => hk) trivial (Below.refl _ _) (Nat.le_refl _) (by simp) ?_; (case hd => rfl); (case hg => rfl); (case hr => first | (go_simp; done) | (go_simp; rfl)); (case hp => exact (Reps.one (show Kd.M (Kd.int .u8) _ _ _ 230 [.int .u8 230] from rfl) (Reps.none _ _))); intro v235 w62 ho63 hb hg_ hnew_; clear hg_ hnew_; (first | rw [← Ny234.out] at ho63 | (simp only [Int.reduceToNat] at ho63; rw [← Ny234.out] at ho63)); have n0_ := Aside0.mk (Kd.R_lower ho63 (below_size (by repeat (first | (with_reducible first | exact HB.out | apply below_alloc | apply pw_below_drewN | apply below_drew1 | refine below_set ?_ GE198.out) | exact HB.out)))); have n1_ := Aside0.mk (blk_below (g := gb198) (o := .cells #[.slice none 0 0, .int .i64 0] 139 (0, 0)) (by (with_reducible repeat (first | refine blk_drewN ?_ _ | refine blk_drew ?_ | refine blk_alloc ?_ _)); exact BK198.out) hb); have n2_ := Aside0.mk (below_step (by repeat (first | (with_reducible first | exact HB.out | apply below_alloc | apply pw_below_drewN | apply below_drew1 | refine below_set ?_ GE198.out) | exact HB.out)) hb); clear BK198; clear HB; have HO236 := n0_; have BK198 := n1_; have HB := n2_; clear n0_ n1_ n2_; clear hb ho63; obtain ⟨Ao64, co64, eo64⟩ := Kd.R_slice HO236.out; subst eo64) | ((with_reducible refine gate_callee (f := 157) rfl ?_); refine goesL_ (some 96) rfl rfl Tryd.func157 (by kernel_rfl) rfl #[.int .i64 1, .slice Ao64 y234.length co64] rfl (by (try simp only [List.map_toArray, List.map_cons, List.map_nil]); first | done | rfl | (simp only [List.length_drop, List.length_take]; rfl)) ?_; (with_reducible refine (isa86_of.calls 1 (fun k_ => some k_ = (.slice Ao64 y234.length co64 : Value).ownBlock) (.slice Ao64 y234.length co64) y234 t237 t240 w _ ?side1 ?side2 A61.out).mono ?_); (case side1 => repeat (first | (with_reducible first | exact HB.out | apply below_alloc | apply pw_below_drewN | apply below_drew1 | refine below_set ?_ GE198.out) | exact HB.out)); (case side2 => exact Kd.R_tight rfl HO236.out); rintro e w65 ⟨v238, rfl, ho0, hb, hkp⟩; refine ⟨_, rfl, ?_⟩; have n0_ := Aside0.mk (blk_kept (by (with_reducible repeat (first | refine blk_drewN ?_ _ | refine blk_drew ?_ | refine blk_alloc ?_ _)); exact BK198.out) hkp (fun hs_ => (fun e_ => (Kd.R_ne HO236.out BK198.out (by decide)) e_) hs_)); have n1_ := Aside0.mk (Kd.R_mono (ok' := fun k_ => True) ho0 (fun k_ hk_ => trivial)); have n2_ := Aside0.mk (hb); clear BK198; clear HB; clear HO236; have BK198 := n0_; have HO239 := n1_; have HB := n2_; clear n0_ n1_ n2_; (try clear hb); (try clear hkp); (try clear ho0); obtain ⟨Ao66, co66, eo66⟩ := Kd.R_slice HO239.out; subst eo66; have hcz67_0 : w65.cell? ⟨gb198, 0, none⟩ = some (.slice none 0 0) := (blk_cell BK198.out 0).trans rfl; have hcz67_1 : w65.cell? ⟨gb198, 1, none⟩ = some (.int .i64 0) := (blk_cell BK198.out 1).trans rfl; have hfz67_0 := blk_frozen BK198.out 0; have hfz67_1 := blk_frozen BK198.out 1))
                                    refine bodyPost_ret (results_cell_row rfl _ _ gb198 139 #[.slice Ao66 t237.length co66, .int .i64 t240] (0, 0) _ rfl (by (with_reducible repeat (first | refine blk_drewN ?_ _ | refine blk_drew ?_ | refine blk_alloc ?_ _)); refine blk_put (cs := #[.slice Ao66 t237.length co66, .int .i64 0]) ?_ 1 _ rfl; (with_reducible repeat (first | refine blk_drewN ?_ _ | refine blk_drew ?_ | refine blk_alloc ?_ _)); refine blk_put (cs := #[.slice none 0 0, .int .i64 0]) ?_ 0 _ rfl; (with_reducible repeat (first | refine blk_drewN ?_ _ | refine blk_drew ?_ | refine blk_alloc ?_ _)); exact BK198.out) Tryd.underlying139 rfl (by kernel_rfl)) rfl ?_
                                    exact ⟨_, by first | rfl | (simp [errW_none, errW_some] <;> rfl) | (simp [*, errW_none, errW_some] <;> rfl), by (with_reducible repeat (first | apply Kd.R_alloc | apply Kd.R_drewN | apply Kd.R_drew)); exact Kd.R_mono (Kd.R_far (p := ⟨gb198, 1, none⟩) (Kd.R_far (p := ⟨gb198, 0, none⟩) (Kd.R_types HO239.out BK198.out (by decide)) (fun _ hk => hk.2) (.slice Ao66 t237.length co66)) (fun _ hk => hk.2) (.int .i64 t240)) (fun _ hk => trivial), by repeat (first | (with_reducible first | exact HB.out | apply below_alloc | apply pw_below_drewN | apply below_drew1 | refine below_set ?_ GE198.out) | exact HB.out)⟩
                                  · replace c60 := Bool.eq_false_iff.mpr c60
                                    subst c60
                                    have H1 : (if a0 < 2 then (isa86_two.j6 kj56 a1 a2 x7_ x8_3 x9_10 true) else (isa86_two.j6 kj56 a1 a2 x7_ x8_3 x9_10 (decide (a0 > 9)))) = some (r1, r2) := by rw [if_neg (show ¬ (false = true) by decide)] at H; exact H
                                    clear H
                                    have H := H1
                                    clear H1
                                    have HC68 := Aside0.mk H
                                    clear H
                                    go_upto_region 16 with (fail)
                                    go_cut [97] (fun v97 wc => ∃ (kq : Nat) (x97_67 : Bool), v97 = .bool x97_67 ∧ Aside0 (isa86_two.j6 kq a1 a2 x7_ x8_3 x9_10 x97_67 = some (r1, r2)) ∧ Aside0 (kq ≤ kj56) ∧ Aside0 (wc.heap[gb198]? = some (.cells #[(.slice none 0 0), .int .i64 0] 139 (0, 0))) ∧ Aside0 (Below w.heap.size w wc))
                                    case first =>
                                      have H := HC68.out
                                      clear HC68
                                      by_cases c69 : a0 < 2
                                      · rw [if_pos c69] at H
                                        have c69b0 : decide (a0 < 2) = true := decide_eq_true c69
                                        clear c69
                                        (first | rw [c69b0] | (simp only [i64_w, i32_w]; rw [c69b0]) | skip)
                                        have H' := Aside0.mk H
                                        clear H
                                        go_wp2
                                        go_meet
                                        case rel => exact ⟨_, (true), (by first | rfl | (simp; done) | (simp [*]; done)), H', ⟨by have := HJ3.out; have := HJ10.out; have := HJ12.out; have := HJ30.out; have := HJ45.out; have := HJ56.out; first | omega | exact Nat.le_refl _⟩, ⟨by (with_reducible repeat (first | refine blk_drewN ?_ _ | refine blk_drew ?_ | refine blk_alloc ?_ _)); exact BK198.out⟩, ⟨by repeat (first | (with_reducible first | exact HB.out | apply below_alloc | apply pw_below_drewN | apply below_drew1 | refine below_set ?_ GE198.out) | exact HB.out)⟩⟩
                                      · rw [if_neg c69] at H
                                        have c69b0 : decide (a0 < 2) = false := decide_eq_false c69
                                        clear c69
                                        (first | rw [c69b0] | (simp only [i64_w, i32_w]; rw [c69b0]) | skip)
                                        have H' := Aside0.mk H
                                        clear H
                                        go_wp2
                                        go_meet
                                        case rel => exact ⟨_, (decide (a0 > 9)), (by first | rfl | (simp; done) | (simp [*]; done)), H', ⟨by have := HJ3.out; have := HJ10.out; have := HJ12.out; have := HJ30.out; have := HJ45.out; have := HJ56.out; first | omega | exact Nat.le_refl _⟩, ⟨by (with_reducible repeat (first | refine blk_drewN ?_ _ | refine blk_drew ?_ | refine blk_alloc ?_ _)); exact BK198.out⟩, ⟨by repeat (first | (with_reducible first | exact HB.out | apply below_alloc | apply pw_below_drewN | apply below_drew1 | refine below_set ?_ GE198.out) | exact HB.out)⟩⟩
                                    case rest =>
                                      as_aux_lemma =>
                                      clear HC68
                                      try clear c1
                                      try clear c2
                                      try clear p2
                                      try clear c3
                                      try clear c4
                                      try clear c5
                                      try clear c6
                                      try clear p6
                                      try clear c7
                                      try clear c7b0
                                      try clear c7b1
                                      try clear c12
                                      try clear c12b0
                                      try clear c12b1
                                      try clear c14
                                      try clear c14b0
                                      try clear c14b1
                                      try clear c15
                                      try clear c17
                                      try clear c26
                                      try clear c26b0
                                      try clear c26b1
                                      try clear c32
                                      try clear c32b0
                                      try clear c32b1
                                      try clear c33
                                      try clear c34
                                      try clear c34b0
                                      try clear c34b1
                                      try clear c35
                                      try clear c47
                                      try clear c47b0
                                      try clear c47b1
                                      try clear c48
                                      try clear c48b0
                                      try clear c48b1
                                      try clear c49
                                      try clear c58
                                      try clear c58b0
                                      try clear c58b1
                                      try clear c59
                                      try clear c59b0
                                      try clear c59b1
                                      try clear c60
                                      try clear p64
                                      try clear c69
                                      try clear c69b0
                                      try clear hcz25_0
                                      try clear hcz25_1
                                      try clear hcz30_0
                                      try clear hcz30_1
                                      try clear hcz45_0
                                      try clear hcz45_1
                                      try clear hcz56_0
                                      try clear hcz56_1
                                      try clear hcz67_0
                                      try clear hcz67_1
                                      try clear hfz25_0
                                      try clear hfz25_1
                                      try clear hfz30_0
                                      try clear hfz30_1
                                      try clear hfz45_0
                                      try clear hfz45_1
                                      try clear hfz56_0
                                      try clear hfz56_1
                                      try clear hfz67_0
                                      try clear hfz67_1
                                      try clear p2
                                      try clear p6
                                      obtain ⟨kq, x97_67, rfl, HA, HJ67, BK198, HB⟩ := hcut
                                      cases kq with
                                      | zero => exact absurd HA.out (by simp [isa86_two.j6])
                                      | succ kj67 =>
                                        have H := HA.out
                                        clear HA
                                        simp only [isa86_two.j6] at H
                                        by_cases c70 : x97_67 = true
                                        · subst c70
                                          have H1 : (some (([] : List Int), 0)) = some (r1, r2) := by rw [if_pos rfl] at H; exact H
                                          clear H
                                          have H := H1
                                          clear H1
                                          simp only [Option.some.injEq, Prod.mk.injEq] at H
                                          obtain ⟨rfl, rfl⟩ := H
                                          have hcz71_0 : wc.cell? ⟨gb198, 0, none⟩ = some (.slice none 0 0) := (blk_cell BK198.out 0).trans rfl
                                          have hcz71_1 : wc.cell? ⟨gb198, 1, none⟩ = some (.int .i64 0) := (blk_cell BK198.out 1).trans rfl
                                          have hfz71_0 := blk_frozen BK198.out 0
                                          have hfz71_1 := blk_frozen BK198.out 1
                                          go_wp2
                                          refine bodyPost_ret (results_cell_row rfl _ _ gb198 139 #[.slice none 0 0, .int .i64 0] (0, 0) _ rfl (by (with_reducible repeat (first | refine blk_drewN ?_ _ | refine blk_drew ?_ | refine blk_alloc ?_ _)); refine blk_put (cs := #[.slice none 0 0, .int .i64 0]) ?_ 1 _ rfl; (with_reducible repeat (first | refine blk_drewN ?_ _ | refine blk_drew ?_ | refine blk_alloc ?_ _)); refine blk_put (cs := #[.slice none 0 0, .int .i64 0]) ?_ 0 _ rfl; (with_reducible repeat (first | refine blk_drewN ?_ _ | refine blk_drew ?_ | refine blk_alloc ?_ _)); exact BK198.out) Tryd.underlying139 rfl (by kernel_rfl)) rfl ?_
                                          exact ⟨_, by first | rfl | (simp [errW_none, errW_some] <;> rfl) | (simp [*, errW_none, errW_some] <;> rfl), by first | exact Kd.R_nil _ _ _ _ _ | exact Kd.N_nil _ _ _ _ _ | exact Kd.V_nil _ _ _ _ _ | exact Kd.Q_nil _ _ _ _ _ | exact Kd.S_nil _ _ _ _ _, by repeat (first | (with_reducible first | exact HB.out | apply below_alloc | apply pw_below_drewN | apply below_drew1 | refine below_set ?_ GE198.out) | exact HB.out)⟩
                                        · replace c70 := Bool.eq_false_iff.mpr c70
                                          subst c70
                                          have H1 : (if x8_3 = true then ((isa86_num.f a2).bind fun t241 => ((isa86_num.f a1).bind fun t242 => ((isa86_rm.f t241 t242).bind fun t243 => ((isa86_of.f 0 (([Go.bits .or .u8 ((x7_ * 8) % 256) x9_10, t243] : List Int))).bind fun bt247 => (some (bt247.1, bt247.2)))))) else ((isa86_wide.f kj67 a1).bind fun t251 => (if t251 = 8 then (isa86_two.j7 kj67 a1 a2 x7_ (a2 == 17)) else (isa86_two.j7 kj67 a1 a2 x7_ false)))) = some (r1, r2) := by rw [if_neg (show ¬ (false = true) by decide)] at H; exact H
                                          clear H
                                          have H := H1
                                          clear H1
                                          by_cases c72 : x8_3 = true
                                          · subst c72
                                            have H1 : ((isa86_num.f a2).bind fun t241 => ((isa86_num.f a1).bind fun t242 => ((isa86_rm.f t241 t242).bind fun t243 => ((isa86_of.f 0 (([Go.bits .or .u8 ((x7_ * 8) % 256) x9_10, t243] : List Int))).bind fun bt247 => (some (bt247.1, bt247.2)))))) = some (r1, r2) := by rw [if_pos rfl] at H; exact H
                                            clear H
                                            have H := H1
                                            clear H1
                                            replace H := Option.bind_eq_some_iff.mp H
                                            obtain ⟨t241, A730, H⟩ := H
                                            replace H : ((isa86_num.f a1).bind fun t242 => ((isa86_rm.f t241 t242).bind fun t243 => ((isa86_of.f 0 (([Go.bits .or .u8 ((x7_ * 8) % 256) x9_10, t243] : List Int))).bind fun bt247 => (some (bt247.1, bt247.2))))) = some (r1, r2) := H
                                            have A73 := Aside0.mk A730
                                            clear A730
                                            replace H := Option.bind_eq_some_iff.mp H
                                            obtain ⟨t242, A740, H⟩ := H
                                            replace H : ((isa86_rm.f t241 t242).bind fun t243 => ((isa86_of.f 0 (([Go.bits .or .u8 ((x7_ * 8) % 256) x9_10, t243] : List Int))).bind fun bt247 => (some (bt247.1, bt247.2)))) = some (r1, r2) := H
                                            have A74 := Aside0.mk A740
                                            clear A740
                                            replace H := Option.bind_eq_some_iff.mp H
                                            obtain ⟨t243, A750, H⟩ := H
                                            replace H : ((isa86_of.f 0 (([Go.bits .or .u8 ((x7_ * 8) % 256) x9_10, t243] : List Int))).bind fun bt247 => (some (bt247.1, bt247.2))) = some (r1, r2) := H
                                            have A75 := Aside0.mk A750
                                            clear A750
                                            obtain ⟨y244, hy244⟩ : ∃ y_ : List Int, y_ = (([Go.bits .or .u8 ((x7_ * 8) % 256) x9_10, t243] : List Int)) := ⟨_, rfl⟩
                                            replace H : ((isa86_of.f 0 y244).bind fun bt247 => (some (bt247.1, bt247.2))) = some (r1, r2) := by first | (rw [hy244]; with_reducible exact H) | (have H2_ := (Option.bind_some _ _).symm.trans H; rw [hy244]; with_reducible exact H2_) | (have H2_ := (Option.bind_some _ _).symm.trans H; with_reducible exact H2_) | with_reducible exact H | (rw [hy244]; exact H) | exact H
                                            have Ny244 := Aside0.mk hy244
                                            clear hy244
                                            replace H := Option.bind_eq_some_iff.mp H
                                            obtain ⟨⟨t247, t250⟩, A760, H⟩ := H
                                            replace H : (some (t247, t250)) = some (r1, r2) := H
                                            have A76 := Aside0.mk A760
                                            clear A760
                                            simp only [Option.some.injEq, Prod.mk.injEq] at H
                                            obtain ⟨rfl, rfl⟩ := H
                                            go_wp2_with (first | ((with_reducible refine gate_callee (f := 176) rfl ?_); refine goesL_ (some 112) rfl rfl Tryd.func176 (by kernel_rfl) rfl #[.int .i64 a2] rfl (by (try simp only [List.map_toArray, List.map_cons, List.map_nil]); first | done | rfl | (simp only [List.length_drop, List.length_take]; rfl)) ?_; (with_reducible refine (isa86_num.calls a2 t241 _ A73.out).mono ?_); rintro e w' ⟨rfl, ⟨nd, rfl⟩⟩; refine ⟨_, rfl, ?_⟩; (try (rw [drewN_self wc]; generalize hq_ : World.drewN wc _ = wc; have n0_ : Aside0 (wc.heap[gb198]? = some (.cells #[.slice none 0 0, .int .i64 0] 139 (0, 0))) := ⟨by rw [← hq_]; exact (by (with_reducible repeat (first | refine blk_drewN ?_ _ | refine blk_drew ?_ | refine blk_alloc ?_ _)); exact BK198.out)⟩; have n1_ : Aside0 (Below w.heap.size w wc) := ⟨by rw [← hq_]; exact (by repeat (first | (with_reducible first | exact HB.out | apply below_alloc | apply pw_below_drewN | apply below_drew1 | refine below_set ?_ GE198.out) | exact HB.out))⟩; clear BK198 HB hq_; have BK198 := n0_; have HB := n1_; clear n0_ n1_)); (try clear A73)) | ((with_reducible refine gate_callee (f := 176) rfl ?_); refine goesL_ (some 114) rfl rfl Tryd.func176 (by kernel_rfl) rfl #[.int .i64 a1] rfl (by (try simp only [List.map_toArray, List.map_cons, List.map_nil]); first | done | rfl | (simp only [List.length_drop, List.length_take]; rfl)) ?_; (with_reducible refine (isa86_num.calls a1 t242 _ A74.out).mono ?_); rintro e w' ⟨rfl, ⟨nd, rfl⟩⟩; refine ⟨_, rfl, ?_⟩; (try (rw [drewN_self wc]; generalize hq_ : World.drewN wc _ = wc; have n0_ : Aside0 (wc.heap[gb198]? = some (.cells #[.slice none 0 0, .int .i64 0] 139 (0, 0))) := ⟨by rw [← hq_]; exact (by (with_reducible repeat (first | refine blk_drewN ?_ _ | refine blk_drew ?_ | refine blk_alloc ?_ _)); exact BK198.out)⟩; have n1_ : Aside0 (Below w.heap.size w wc) := ⟨by rw [← hq_]; exact (by repeat (first | (with_reducible first | exact HB.out | apply below_alloc | apply pw_below_drewN | apply below_drew1 | refine below_set ?_ GE198.out) | exact HB.out))⟩; clear BK198 HB hq_; have BK198 := n0_; have HB := n1_; clear n0_ n1_)); (try clear A74)) | ((with_reducible refine gate_callee (f := 175) rfl ?_); refine goesL_ (some 115) rfl rfl Tryd.func175 (by kernel_rfl) rfl #[.int .u8 t241, .int .u8 t242] rfl (by (try simp only [List.map_toArray, List.map_cons, List.map_nil]); first | done | rfl | (simp only [List.length_drop, List.length_take]; rfl)) ?_; (with_reducible refine (isa86_rm.calls t241 t242 t243 _ A75.out).mono ?_); rintro e w' ⟨rfl, ⟨nd, rfl⟩⟩; refine ⟨_, rfl, ?_⟩; (try (rw [drewN_self wc]; generalize hq_ : World.drewN wc _ = wc; have n0_ : Aside0 (wc.heap[gb198]? = some (.cells #[.slice none 0 0, .int .i64 0] 139 (0, 0))) := ⟨by rw [← hq_]; exact (by (with_reducible repeat (first | refine blk_drewN ?_ _ | refine blk_drew ?_ | refine blk_alloc ?_ _)); exact BK198.out)⟩; have n1_ : Aside0 (Below w.heap.size w wc) := ⟨by rw [← hq_]; exact (by repeat (first | (with_reducible first | exact HB.out | apply below_alloc | apply pw_below_drewN | apply below_drew1 | refine below_set ?_ GE198.out) | exact HB.out))⟩; clear BK198 HB hq_; have BK198 := n0_; have HB := n1_; clear n0_ n1_))) | ((with_reducible refine gate_dst (N := 116) rfl ?_); refine Kd.R_lit (Kd.int .u8) _ 5 ?hg (N := 116) ?hd (xs := ([Go.bits .or .u8 ((x7_ * 8) % 256) x9_10, t243] : List Int)) (inner := [.int .u8 (Go.bits .or .u8 ((x7_ * 8) % 256) x9_10), .int .u8 t243]) (ok := fun _ => True) (okp := fun _ => True) ?hr ?hp (fun _ hk => hk) trivial (Below.refl _ _) (Nat.le_refl _) (by simp) ?_; (case hd => rfl); (case hg => rfl); (case hr => first | (go_simp; done) | (go_simp; rfl)); (case hp => exact (Reps.one (show Kd.M (Kd.int .u8) _ _ _ (Go.bits .or .u8 ((x7_ * 8) % 256) x9_10) [.int .u8 (Go.bits .or .u8 ((x7_ * 8) % 256) x9_10)] from rfl) (Reps.one (show Kd.M (Kd.int .u8) _ _ _ t243 [.int .u8 t243] from rfl) (Reps.none _ _)))); intro v245 w77 ho78 hb hg_ hnew_; clear hg_ hnew_; (first | rw [← Ny244.out] at ho78 | (simp only [Int.reduceToNat] at ho78; rw [← Ny244.out] at ho78)); have n0_ := Aside0.mk (Kd.R_lower ho78 (below_size (by repeat (first | (with_reducible first | exact HB.out | apply below_alloc | apply pw_below_drewN | apply below_drew1 | refine below_set ?_ GE198.out) | exact HB.out)))); have n1_ := Aside0.mk (blk_below (g := gb198) (o := .cells #[.slice none 0 0, .int .i64 0] 139 (0, 0)) (by (with_reducible repeat (first | refine blk_drewN ?_ _ | refine blk_drew ?_ | refine blk_alloc ?_ _)); exact BK198.out) hb); have n2_ := Aside0.mk (below_step (by repeat (first | (with_reducible first | exact HB.out | apply below_alloc | apply pw_below_drewN | apply below_drew1 | refine below_set ?_ GE198.out) | exact HB.out)) hb); clear BK198; clear HB; have HO246 := n0_; have BK198 := n1_; have HB := n2_; clear n0_ n1_ n2_; clear hb ho78; obtain ⟨Ao79, co79, eo79⟩ := Kd.R_slice HO246.out; subst eo79) | ((with_reducible refine gate_callee (f := 157) rfl ?_); refine goesL_ (some 117) rfl rfl Tryd.func157 (by kernel_rfl) rfl #[.int .i64 0, .slice Ao79 y244.length co79] rfl (by (try simp only [List.map_toArray, List.map_cons, List.map_nil]); first | done | rfl | (simp only [List.length_drop, List.length_take]; rfl)) ?_; (with_reducible refine (isa86_of.calls 0 (fun k_ => some k_ = (.slice Ao79 y244.length co79 : Value).ownBlock) (.slice Ao79 y244.length co79) y244 t247 t250 w _ ?side1 ?side2 A76.out).mono ?_); (case side1 => repeat (first | (with_reducible first | exact HB.out | apply below_alloc | apply pw_below_drewN | apply below_drew1 | refine below_set ?_ GE198.out) | exact HB.out)); (case side2 => exact Kd.R_tight rfl HO246.out); rintro e w80 ⟨v248, rfl, ho0, hb, hkp⟩; refine ⟨_, rfl, ?_⟩; have n0_ := Aside0.mk (blk_kept (by (with_reducible repeat (first | refine blk_drewN ?_ _ | refine blk_drew ?_ | refine blk_alloc ?_ _)); exact BK198.out) hkp (fun hs_ => (fun e_ => (Kd.R_ne HO246.out BK198.out (by decide)) e_) hs_)); have n1_ := Aside0.mk (Kd.R_mono (ok' := fun k_ => True) ho0 (fun k_ hk_ => trivial)); have n2_ := Aside0.mk (hb); clear BK198; clear HB; clear HO246; have BK198 := n0_; have HO249 := n1_; have HB := n2_; clear n0_ n1_ n2_; (try clear hb); (try clear hkp); (try clear ho0); obtain ⟨Ao81, co81, eo81⟩ := Kd.R_slice HO249.out; subst eo81; have hcz82_0 : w80.cell? ⟨gb198, 0, none⟩ = some (.slice none 0 0) := (blk_cell BK198.out 0).trans rfl; have hcz82_1 : w80.cell? ⟨gb198, 1, none⟩ = some (.int .i64 0) := (blk_cell BK198.out 1).trans rfl; have hfz82_0 := blk_frozen BK198.out 0; have hfz82_1 := blk_frozen BK198.out 1))
                                            refine bodyPost_ret (results_cell_row rfl _ _ gb198 139 #[.slice Ao81 t247.length co81, .int .i64 t250] (0, 0) _ rfl (by (with_reducible repeat (first | refine blk_drewN ?_ _ | refine blk_drew ?_ | refine blk_alloc ?_ _)); refine blk_put (cs := #[.slice Ao81 t247.length co81, .int .i64 0]) ?_ 1 _ rfl; (with_reducible repeat (first | refine blk_drewN ?_ _ | refine blk_drew ?_ | refine blk_alloc ?_ _)); refine blk_put (cs := #[.slice none 0 0, .int .i64 0]) ?_ 0 _ rfl; (with_reducible repeat (first | refine blk_drewN ?_ _ | refine blk_drew ?_ | refine blk_alloc ?_ _)); exact BK198.out) Tryd.underlying139 rfl (by kernel_rfl)) rfl ?_
                                            exact ⟨_, by first | rfl | (simp [errW_none, errW_some] <;> rfl) | (simp [*, errW_none, errW_some] <;> rfl), by (with_reducible repeat (first | apply Kd.R_alloc | apply Kd.R_drewN | apply Kd.R_drew)); exact Kd.R_mono (Kd.R_far (p := ⟨gb198, 1, none⟩) (Kd.R_far (p := ⟨gb198, 0, none⟩) (Kd.R_types HO249.out BK198.out (by decide)) (fun _ hk => hk.2) (.slice Ao81 t247.length co81)) (fun _ hk => hk.2) (.int .i64 t250)) (fun _ hk => trivial), by repeat (first | (with_reducible first | exact HB.out | apply below_alloc | apply pw_below_drewN | apply below_drew1 | refine below_set ?_ GE198.out) | exact HB.out)⟩
                                          · replace c72 := Bool.eq_false_iff.mpr c72
                                            subst c72
                                            have H1 : ((isa86_wide.f kj67 a1).bind fun t251 => (if t251 = 8 then (isa86_two.j7 kj67 a1 a2 x7_ (a2 == 17)) else (isa86_two.j7 kj67 a1 a2 x7_ false))) = some (r1, r2) := by rw [if_neg (show ¬ (false = true) by decide)] at H; exact H
                                            clear H
                                            have H := H1
                                            clear H1
                                            have HC83 := Aside0.mk H
                                            clear H
                                            go_upto_region 20 with (fail)
                                            go_cut [118] (fun v118 wc => ∃ (kq : Nat) (x118_82 : Bool), v118 = .bool x118_82 ∧ Aside0 (isa86_two.j7 kq a1 a2 x7_ x118_82 = some (r1, r2)) ∧ Aside0 (kq ≤ kj67) ∧ Aside0 (wc.heap[gb198]? = some (.cells #[(.slice none 0 0), .int .i64 0] 139 (0, 0))) ∧ Aside0 (Below w.heap.size w wc))
                                            case first =>
                                              have H := HC83.out
                                              clear HC83
                                              replace H := Option.bind_eq_some_iff.mp H
                                              obtain ⟨t251, A840, H⟩ := H
                                              replace H : (if t251 = 8 then (isa86_two.j7 kj67 a1 a2 x7_ (a2 == 17)) else (isa86_two.j7 kj67 a1 a2 x7_ false)) = some (r1, r2) := H
                                              have A84 := Aside0.mk A840
                                              clear A840
                                              by_cases c85 : t251 = 8
                                              · rw [if_pos c85] at H
                                                have c85b0 : (t251 == 8) = true := beq_iff_eq.mpr c85
                                                have c85b1 : (t251 != 8) = false := bne_eq_false_iff_eq.mpr c85
                                                clear c85
                                                (first | rw [c85b0] | (simp only [i64_w, i32_w]; rw [c85b0]) | skip)
                                                have H' := Aside0.mk H
                                                clear H
                                                go_wp2_with (first | ((with_reducible refine gate_callee (f := 174) rfl ?_); refine goesL_ (some 120) rfl rfl Tryd.func174 (by kernel_rfl) rfl #[.int .i64 a1] rfl (by (try simp only [List.map_toArray, List.map_cons, List.map_nil]); first | done | rfl | (simp only [List.length_drop, List.length_take]; rfl)) ?_; (with_reducible refine (isa86_wide.calls kj67 a1 t251 _ A84.out).mono ?_); rintro e w' ⟨rfl, ⟨nd, rfl⟩⟩; refine ⟨_, rfl, ?_⟩))
                                                go_meet
                                                case rel => exact ⟨_, ((a2 == 17)), (by first | rfl | (simp; done) | (simp [*]; done)), H', ⟨by have := HJ3.out; have := HJ10.out; have := HJ12.out; have := HJ30.out; have := HJ45.out; have := HJ56.out; have := HJ67.out; first | omega | exact Nat.le_refl _⟩, ⟨by (with_reducible repeat (first | refine blk_drewN ?_ _ | refine blk_drew ?_ | refine blk_alloc ?_ _)); exact BK198.out⟩, ⟨by repeat (first | (with_reducible first | exact HB.out | apply below_alloc | apply pw_below_drewN | apply below_drew1 | refine below_set ?_ GE198.out) | exact HB.out)⟩⟩
                                              · rw [if_neg c85] at H
                                                have c85b0 : (t251 == 8) = false := beq_eq_false_iff_ne.mpr c85
                                                have c85b1 : (t251 != 8) = true := bne_iff_ne.mpr c85
                                                (first | rw [c85b0] | (simp only [i64_w, i32_w]; rw [c85b0]) | skip)
                                                have H' := Aside0.mk H
                                                clear H
                                                go_wp2_with (first | ((with_reducible refine gate_callee (f := 174) rfl ?_); refine goesL_ (some 120) rfl rfl Tryd.func174 (by kernel_rfl) rfl #[.int .i64 a1] rfl (by (try simp only [List.map_toArray, List.map_cons, List.map_nil]); first | done | rfl | (simp only [List.length_drop, List.length_take]; rfl)) ?_; (with_reducible refine (isa86_wide.calls kj67 a1 t251 _ A84.out).mono ?_); rintro e w' ⟨rfl, ⟨nd, rfl⟩⟩; refine ⟨_, rfl, ?_⟩))
                                                go_meet
                                                case rel => exact ⟨_, (false), (by first | rfl | (simp; done) | (simp [*]; done)), H', ⟨by have := HJ3.out; have := HJ10.out; have := HJ12.out; have := HJ30.out; have := HJ45.out; have := HJ56.out; have := HJ67.out; first | omega | exact Nat.le_refl _⟩, ⟨by (with_reducible repeat (first | refine blk_drewN ?_ _ | refine blk_drew ?_ | refine blk_alloc ?_ _)); exact BK198.out⟩, ⟨by repeat (first | (with_reducible first | exact HB.out | apply below_alloc | apply pw_below_drewN | apply below_drew1 | refine below_set ?_ GE198.out) | exact HB.out)⟩⟩
                                            case rest =>
                                              as_aux_lemma =>
                                              clear HC83
                                              try clear c1
                                              try clear c2
                                              try clear p2
                                              try clear c3
                                              try clear c4
                                              try clear c5
                                              try clear c6
                                              try clear p6
                                              try clear c7
                                              try clear c7b0
                                              try clear c7b1
                                              try clear c8
                                              try clear c12
                                              try clear c12b0
                                              try clear c12b1
                                              try clear c14
                                              try clear c14b0
                                              try clear c14b1
                                              try clear c15
                                              try clear c17
                                              try clear c26
                                              try clear c26b0
                                              try clear c26b1
                                              try clear c32
                                              try clear c32b0
                                              try clear c32b1
                                              try clear c33
                                              try clear c34
                                              try clear c34b0
                                              try clear c34b1
                                              try clear c35
                                              try clear c47
                                              try clear c47b0
                                              try clear c47b1
                                              try clear c48
                                              try clear c48b0
                                              try clear c48b1
                                              try clear c49
                                              try clear c58
                                              try clear c58b0
                                              try clear c58b1
                                              try clear c59
                                              try clear c59b0
                                              try clear c59b1
                                              try clear c60
                                              try clear p64
                                              try clear c69
                                              try clear c69b0
                                              try clear c70
                                              try clear c72
                                              try clear c85
                                              try clear c85b0
                                              try clear c85b1
                                              try clear hcz25_0
                                              try clear hcz25_1
                                              try clear hcz30_0
                                              try clear hcz30_1
                                              try clear hcz45_0
                                              try clear hcz45_1
                                              try clear hcz56_0
                                              try clear hcz56_1
                                              try clear hcz67_0
                                              try clear hcz67_1
                                              try clear hcz71_0
                                              try clear hcz71_1
                                              try clear hcz82_0
                                              try clear hcz82_1
                                              try clear hfz25_0
                                              try clear hfz25_1
                                              try clear hfz30_0
                                              try clear hfz30_1
                                              try clear hfz45_0
                                              try clear hfz45_1
                                              try clear hfz56_0
                                              try clear hfz56_1
                                              try clear hfz67_0
                                              try clear hfz67_1
                                              try clear hfz71_0
                                              try clear hfz71_1
                                              try clear hfz82_0
                                              try clear hfz82_1
                                              try clear p2
                                              try clear p6
                                              try clear p64
                                              obtain ⟨kq, x118_82, rfl, HA, HJ82, BK198, HB⟩ := hcut
                                              cases kq with
                                              | zero => exact absurd HA.out (by simp [isa86_two.j7])
                                              | succ kj82 =>
                                                have H := HA.out
                                                clear HA
                                                simp only [isa86_two.j7] at H
                                                by_cases c86 : x118_82 = true
                                                · subst c86
                                                  have H1 : ((isa86_num.f a1).bind fun t252 => ((isa86_mem.f t252 7).bind fun t253 => ((isa86_of.f 0 (([Go.bits .or .u8 ((x7_ * 8) % 256) 2, t253] : List Int))).bind fun bt257 => (some (bt257.1, bt257.2))))) = some (r1, r2) := by rw [if_pos rfl] at H; exact H
                                                  clear H
                                                  have H := H1
                                                  clear H1
                                                  replace H := Option.bind_eq_some_iff.mp H
                                                  obtain ⟨t252, A870, H⟩ := H
                                                  replace H : ((isa86_mem.f t252 7).bind fun t253 => ((isa86_of.f 0 (([Go.bits .or .u8 ((x7_ * 8) % 256) 2, t253] : List Int))).bind fun bt257 => (some (bt257.1, bt257.2)))) = some (r1, r2) := H
                                                  have A87 := Aside0.mk A870
                                                  clear A870
                                                  replace H := Option.bind_eq_some_iff.mp H
                                                  obtain ⟨t253, A880, H⟩ := H
                                                  replace H : ((isa86_of.f 0 (([Go.bits .or .u8 ((x7_ * 8) % 256) 2, t253] : List Int))).bind fun bt257 => (some (bt257.1, bt257.2))) = some (r1, r2) := H
                                                  have A88 := Aside0.mk A880
                                                  clear A880
                                                  obtain ⟨y254, hy254⟩ : ∃ y_ : List Int, y_ = (([Go.bits .or .u8 ((x7_ * 8) % 256) 2, t253] : List Int)) := ⟨_, rfl⟩
                                                  replace H : ((isa86_of.f 0 y254).bind fun bt257 => (some (bt257.1, bt257.2))) = some (r1, r2) := by first | (rw [hy254]; with_reducible exact H) | (have H2_ := (Option.bind_some _ _).symm.trans H; rw [hy254]; with_reducible exact H2_) | (have H2_ := (Option.bind_some _ _).symm.trans H; with_reducible exact H2_) | with_reducible exact H | (rw [hy254]; exact H) | exact H
                                                  have Ny254 := Aside0.mk hy254
                                                  clear hy254
                                                  replace H := Option.bind_eq_some_iff.mp H
                                                  obtain ⟨⟨t257, t260⟩, A890, H⟩ := H
                                                  replace H : (some (t257, t260)) = some (r1, r2) := H
                                                  have A89 := Aside0.mk A890
                                                  clear A890
                                                  simp only [Option.some.injEq, Prod.mk.injEq] at H
                                                  obtain ⟨rfl, rfl⟩ := H
                                                  go_wp2_with (first | ((with_reducible refine gate_callee (f := 176) rfl ?_); refine goesL_ (some 130) rfl rfl Tryd.func176 (by kernel_rfl) rfl #[.int .i64 a1] rfl (by (try simp only [List.map_toArray, List.map_cons, List.map_nil]); first | done | rfl | (simp only [List.length_drop, List.length_take]; rfl)) ?_; (with_reducible refine (isa86_num.calls a1 t252 _ A87.out).mono ?_); rintro e w' ⟨rfl, ⟨nd, rfl⟩⟩; refine ⟨_, rfl, ?_⟩; (try (rw [drewN_self wc]; generalize hq_ : World.drewN wc _ = wc; have n0_ : Aside0 (wc.heap[gb198]? = some (.cells #[.slice none 0 0, .int .i64 0] 139 (0, 0))) := ⟨by rw [← hq_]; exact (by (with_reducible repeat (first | refine blk_drewN ?_ _ | refine blk_drew ?_ | refine blk_alloc ?_ _)); exact BK198.out)⟩; have n1_ : Aside0 (Below w.heap.size w wc) := ⟨by rw [← hq_]; exact (by repeat (first | (with_reducible first | exact HB.out | apply below_alloc | apply pw_below_drewN | apply below_drew1 | refine below_set ?_ GE198.out) | exact HB.out))⟩; clear BK198 HB hq_; have BK198 := n0_; have HB := n1_; clear n0_ n1_))) | ((with_reducible refine gate_callee (f := 178) rfl ?_); refine goesL_ (some 131) rfl rfl Tryd.func178 (by kernel_rfl) rfl #[.int .u8 t252, .int .u8 7] rfl (by (try simp only [List.map_toArray, List.map_cons, List.map_nil]); first | done | rfl | (simp only [List.length_drop, List.length_take]; rfl)) ?_; (with_reducible refine (isa86_mem.calls t252 7 t253 _ A88.out).mono ?_); rintro e w' ⟨rfl, ⟨nd, rfl⟩⟩; refine ⟨_, rfl, ?_⟩; (try (rw [drewN_self wc]; generalize hq_ : World.drewN wc _ = wc; have n0_ : Aside0 (wc.heap[gb198]? = some (.cells #[.slice none 0 0, .int .i64 0] 139 (0, 0))) := ⟨by rw [← hq_]; exact (by (with_reducible repeat (first | refine blk_drewN ?_ _ | refine blk_drew ?_ | refine blk_alloc ?_ _)); exact BK198.out)⟩; have n1_ : Aside0 (Below w.heap.size w wc) := ⟨by rw [← hq_]; exact (by repeat (first | (with_reducible first | exact HB.out | apply below_alloc | apply pw_below_drewN | apply below_drew1 | refine below_set ?_ GE198.out) | exact HB.out))⟩; clear BK198 HB hq_; have BK198 := n0_; have HB := n1_; clear n0_ n1_))) | ((with_reducible refine gate_dst (N := 132) rfl ?_); refine Kd.R_lit (Kd.int .u8) _ 5 ?hg (N := 132) ?hd (xs := ([Go.bits .or .u8 ((x7_ * 8) % 256) 2, t253] : List Int)) (inner := [.int .u8 (Go.bits .or .u8 ((x7_ * 8) % 256) 2), .int .u8 t253]) (ok := fun _ => True) (okp := fun _ => True) ?hr ?hp (fun _ hk => hk) trivial (Below.refl _ _) (Nat.le_refl _) (by simp) ?_; (case hd => rfl); (case hg => rfl); (case hr => first | (go_simp; done) | (go_simp; rfl)); (case hp => exact (Reps.one (show Kd.M (Kd.int .u8) _ _ _ (Go.bits .or .u8 ((x7_ * 8) % 256) 2) [.int .u8 (Go.bits .or .u8 ((x7_ * 8) % 256) 2)] from rfl) (Reps.one (show Kd.M (Kd.int .u8) _ _ _ t253 [.int .u8 t253] from rfl) (Reps.none _ _)))); intro v255 w90 ho91 hb hg_ hnew_; clear hg_ hnew_; (first | rw [← Ny254.out] at ho91 | (simp only [Int.reduceToNat] at ho91; rw [← Ny254.out] at ho91)); have n0_ := Aside0.mk (Kd.R_lower ho91 (below_size (by repeat (first | (with_reducible first | exact HB.out | apply below_alloc | apply pw_below_drewN | apply below_drew1 | refine below_set ?_ GE198.out) | exact HB.out)))); have n1_ := Aside0.mk (blk_below (g := gb198) (o := .cells #[.slice none 0 0, .int .i64 0] 139 (0, 0)) (by (with_reducible repeat (first | refine blk_drewN ?_ _ | refine blk_drew ?_ | refine blk_alloc ?_ _)); exact BK198.out) hb); have n2_ := Aside0.mk (below_step (by repeat (first | (with_reducible first | exact HB.out | apply below_alloc | apply pw_below_drewN | apply below_drew1 | refine below_set ?_ GE198.out) | exact HB.out)) hb); clear BK198; clear HB; have HO256 := n0_; have BK198 := n1_; have HB := n2_; clear n0_ n1_ n2_; clear hb ho91; obtain ⟨Ao92, co92, eo92⟩ := Kd.R_slice HO256.out; subst eo92) | ((with_reducible refine gate_callee (f := 157) rfl ?_); refine goesL_ (some 133) rfl rfl Tryd.func157 (by kernel_rfl) rfl #[.int .i64 0, .slice Ao92 y254.length co92] rfl (by (try simp only [List.map_toArray, List.map_cons, List.map_nil]); first | done | rfl | (simp only [List.length_drop, List.length_take]; rfl)) ?_; (with_reducible refine (isa86_of.calls 0 (fun k_ => some k_ = (.slice Ao92 y254.length co92 : Value).ownBlock) (.slice Ao92 y254.length co92) y254 t257 t260 w _ ?side1 ?side2 A89.out).mono ?_); (case side1 => repeat (first | (with_reducible first | exact HB.out | apply below_alloc | apply pw_below_drewN | apply below_drew1 | refine below_set ?_ GE198.out) | exact HB.out)); (case side2 => exact Kd.R_tight rfl HO256.out); rintro e w93 ⟨v258, rfl, ho0, hb, hkp⟩; refine ⟨_, rfl, ?_⟩; have n0_ := Aside0.mk (blk_kept (by (with_reducible repeat (first | refine blk_drewN ?_ _ | refine blk_drew ?_ | refine blk_alloc ?_ _)); exact BK198.out) hkp (fun hs_ => (fun e_ => (Kd.R_ne HO256.out BK198.out (by decide)) e_) hs_)); have n1_ := Aside0.mk (Kd.R_mono (ok' := fun k_ => True) ho0 (fun k_ hk_ => trivial)); have n2_ := Aside0.mk (hb); clear BK198; clear HB; clear HO256; have BK198 := n0_; have HO259 := n1_; have HB := n2_; clear n0_ n1_ n2_; (try clear hb); (try clear hkp); (try clear ho0); obtain ⟨Ao94, co94, eo94⟩ := Kd.R_slice HO259.out; subst eo94; have hcz95_0 : w93.cell? ⟨gb198, 0, none⟩ = some (.slice none 0 0) := (blk_cell BK198.out 0).trans rfl; have hcz95_1 : w93.cell? ⟨gb198, 1, none⟩ = some (.int .i64 0) := (blk_cell BK198.out 1).trans rfl; have hfz95_0 := blk_frozen BK198.out 0; have hfz95_1 := blk_frozen BK198.out 1))
                                                  refine bodyPost_ret (results_cell_row rfl _ _ gb198 139 #[.slice Ao94 t257.length co94, .int .i64 t260] (0, 0) _ rfl (by (with_reducible repeat (first | refine blk_drewN ?_ _ | refine blk_drew ?_ | refine blk_alloc ?_ _)); refine blk_put (cs := #[.slice Ao94 t257.length co94, .int .i64 0]) ?_ 1 _ rfl; (with_reducible repeat (first | refine blk_drewN ?_ _ | refine blk_drew ?_ | refine blk_alloc ?_ _)); refine blk_put (cs := #[.slice none 0 0, .int .i64 0]) ?_ 0 _ rfl; (with_reducible repeat (first | refine blk_drewN ?_ _ | refine blk_drew ?_ | refine blk_alloc ?_ _)); exact BK198.out) Tryd.underlying139 rfl (by kernel_rfl)) rfl ?_
                                                  exact ⟨_, by first | rfl | (simp [errW_none, errW_some] <;> rfl) | (simp [*, errW_none, errW_some] <;> rfl), by (with_reducible repeat (first | apply Kd.R_alloc | apply Kd.R_drewN | apply Kd.R_drew)); exact Kd.R_mono (Kd.R_far (p := ⟨gb198, 1, none⟩) (Kd.R_far (p := ⟨gb198, 0, none⟩) (Kd.R_types HO259.out BK198.out (by decide)) (fun _ hk => hk.2) (.slice Ao94 t257.length co94)) (fun _ hk => hk.2) (.int .i64 t260)) (fun _ hk => trivial), by repeat (first | (with_reducible first | exact HB.out | apply below_alloc | apply pw_below_drewN | apply below_drew1 | refine below_set ?_ GE198.out) | exact HB.out)⟩
                                                · replace c86 := Bool.eq_false_iff.mpr c86
                                                  subst c86
                                                  have H1 : (if a1 = 1 then (isa86_two.j8 kj82 a1 a2 x7_ (a2 == 20)) else (isa86_two.j8 kj82 a1 a2 x7_ false)) = some (r1, r2) := by rw [if_neg (show ¬ (false = true) by decide)] at H; exact H
                                                  clear H
                                                  have H := H1
                                                  clear H1
                                                  have HC96 := Aside0.mk H
                                                  clear H
                                                  go_upto_region 22 with (fail)
                                                  go_cut [134] (fun v134 wc => ∃ (kq : Nat) (x134_95 : Bool), v134 = .bool x134_95 ∧ Aside0 (isa86_two.j8 kq a1 a2 x7_ x134_95 = some (r1, r2)) ∧ Aside0 (kq ≤ kj82) ∧ Aside0 (wc.heap[gb198]? = some (.cells #[(.slice none 0 0), .int .i64 0] 139 (0, 0))) ∧ Aside0 (Below w.heap.size w wc))
                                                  case first =>
                                                    have H := HC96.out
                                                    clear HC96
                                                    by_cases c97 : a1 = 1
                                                    · rw [if_pos c97] at H
                                                      have c97b0 : (a1 == 1) = true := beq_iff_eq.mpr c97
                                                      have c97b1 : (a1 != 1) = false := bne_eq_false_iff_eq.mpr c97
                                                      clear c97
                                                      (first | rw [c97b0] | (simp only [i64_w, i32_w]; rw [c97b0]) | skip)
                                                      have H' := Aside0.mk H
                                                      clear H
                                                      go_wp2
                                                      go_meet
                                                      case rel => exact ⟨_, ((a2 == 20)), (by first | rfl | (simp; done) | (simp [*]; done)), H', ⟨by have := HJ3.out; have := HJ10.out; have := HJ12.out; have := HJ30.out; have := HJ45.out; have := HJ56.out; have := HJ67.out; have := HJ82.out; first | omega | exact Nat.le_refl _⟩, ⟨by (with_reducible repeat (first | refine blk_drewN ?_ _ | refine blk_drew ?_ | refine blk_alloc ?_ _)); exact BK198.out⟩, ⟨by repeat (first | (with_reducible first | exact HB.out | apply below_alloc | apply pw_below_drewN | apply below_drew1 | refine below_set ?_ GE198.out) | exact HB.out)⟩⟩
                                                    · rw [if_neg c97] at H
                                                      have c97b0 : (a1 == 1) = false := beq_eq_false_iff_ne.mpr c97
                                                      have c97b1 : (a1 != 1) = true := bne_iff_ne.mpr c97
                                                      (first | rw [c97b0] | (simp only [i64_w, i32_w]; rw [c97b0]) | skip)
                                                      have H' := Aside0.mk H
                                                      clear H
                                                      go_wp2
                                                      go_meet
                                                      case rel => exact ⟨_, (false), (by first | rfl | (simp; done) | (simp [*]; done)), H', ⟨by have := HJ3.out; have := HJ10.out; have := HJ12.out; have := HJ30.out; have := HJ45.out; have := HJ56.out; have := HJ67.out; have := HJ82.out; first | omega | exact Nat.le_refl _⟩, ⟨by (with_reducible repeat (first | refine blk_drewN ?_ _ | refine blk_drew ?_ | refine blk_alloc ?_ _)); exact BK198.out⟩, ⟨by repeat (first | (with_reducible first | exact HB.out | apply below_alloc | apply pw_below_drewN | apply below_drew1 | refine below_set ?_ GE198.out) | exact HB.out)⟩⟩
                                                  case rest =>
                                                    as_aux_lemma =>
                                                    clear HC96
                                                    try clear c1
                                                    try clear c2
                                                    try clear p2
                                                    try clear c3
                                                    try clear c4
                                                    try clear c5
                                                    try clear c6
                                                    try clear p6
                                                    try clear c7
                                                    try clear c7b0
                                                    try clear c7b1
                                                    try clear c8
                                                    try clear c9
                                                    try clear c12
                                                    try clear c12b0
                                                    try clear c12b1
                                                    try clear c14
                                                    try clear c14b0
                                                    try clear c14b1
                                                    try clear c15
                                                    try clear c17
                                                    try clear c26
                                                    try clear c26b0
                                                    try clear c26b1
                                                    try clear c32
                                                    try clear c32b0
                                                    try clear c32b1
                                                    try clear c33
                                                    try clear c34
                                                    try clear c34b0
                                                    try clear c34b1
                                                    try clear c35
                                                    try clear c47
                                                    try clear c47b0
                                                    try clear c47b1
                                                    try clear c48
                                                    try clear c48b0
                                                    try clear c48b1
                                                    try clear c49
                                                    try clear c58
                                                    try clear c58b0
                                                    try clear c58b1
                                                    try clear c59
                                                    try clear c59b0
                                                    try clear c59b1
                                                    try clear c60
                                                    try clear p64
                                                    try clear c69
                                                    try clear c69b0
                                                    try clear c70
                                                    try clear c72
                                                    try clear c85
                                                    try clear c85b0
                                                    try clear c85b1
                                                    try clear c86
                                                    try clear c97
                                                    try clear c97b0
                                                    try clear c97b1
                                                    try clear hcz25_0
                                                    try clear hcz25_1
                                                    try clear hcz30_0
                                                    try clear hcz30_1
                                                    try clear hcz45_0
                                                    try clear hcz45_1
                                                    try clear hcz56_0
                                                    try clear hcz56_1
                                                    try clear hcz67_0
                                                    try clear hcz67_1
                                                    try clear hcz71_0
                                                    try clear hcz71_1
                                                    try clear hcz82_0
                                                    try clear hcz82_1
                                                    try clear hcz95_0
                                                    try clear hcz95_1
                                                    try clear hfz25_0
                                                    try clear hfz25_1
                                                    try clear hfz30_0
                                                    try clear hfz30_1
                                                    try clear hfz45_0
                                                    try clear hfz45_1
                                                    try clear hfz56_0
                                                    try clear hfz56_1
                                                    try clear hfz67_0
                                                    try clear hfz67_1
                                                    try clear hfz71_0
                                                    try clear hfz71_1
                                                    try clear hfz82_0
                                                    try clear hfz82_1
                                                    try clear hfz95_0
                                                    try clear hfz95_1
                                                    try clear p2
                                                    try clear p6
                                                    try clear p64
                                                    obtain ⟨kq, x134_95, rfl, HA, HJ95, BK198, HB⟩ := hcut
                                                    cases kq with
                                                    | zero => exact absurd HA.out (by simp [isa86_two.j8])
                                                    | succ kj95 =>
                                                      have H := HA.out
                                                      clear HA
                                                      simp only [isa86_two.j8] at H
                                                      by_cases c98 : x134_95 = true
                                                      · subst c98
                                                        have H1 : ((isa86_of.f 1 (([Go.bits .or .u8 ((x7_ * 8) % 256) 4] : List Int))).bind fun bt264 => (some (bt264.1, bt264.2))) = some (r1, r2) := by rw [if_pos rfl] at H; exact H
                                                        clear H
                                                        have H := H1
                                                        clear H1
                                                        obtain ⟨y261, hy261⟩ : ∃ y_ : List Int, y_ = (([Go.bits .or .u8 ((x7_ * 8) % 256) 4] : List Int)) := ⟨_, rfl⟩
                                                        replace H : ((isa86_of.f 1 y261).bind fun bt264 => (some (bt264.1, bt264.2))) = some (r1, r2) := by first | (rw [hy261]; with_reducible exact H) | (have H2_ := (Option.bind_some _ _).symm.trans H; rw [hy261]; with_reducible exact H2_) | (have H2_ := (Option.bind_some _ _).symm.trans H; with_reducible exact H2_) | with_reducible exact H | (rw [hy261]; exact H) | exact H
                                                        have Ny261 := Aside0.mk hy261
                                                        clear hy261
                                                        replace H := Option.bind_eq_some_iff.mp H
                                                        obtain ⟨⟨t264, t267⟩, A990, H⟩ := H
                                                        replace H : (some (t264, t267)) = some (r1, r2) := H
                                                        have A99 := Aside0.mk A990
                                                        clear A990
                                                        simp only [Option.some.injEq, Prod.mk.injEq] at H
                                                        obtain ⟨rfl, rfl⟩ := H
                                                        go_wp2_with (first | ((with_reducible refine gate_dst (N := 144) rfl ?_); refine Kd.R_lit (Kd.int .u8) _ 5 ?hg (N := 144) ?hd (xs := ([Go.bits .or .u8 ((x7_ * 8) % 256) 4] : List Int)) (inner := [.int .u8 (Go.bits .or .u8 ((x7_ * 8) % 256) 4)]) (ok := fun _ => True) (okp := fun _ => True) ?hr ?hp (fun _ hk => hk) trivial (Below.refl _ _) (Nat.le_refl _) (by simp) ?_; (case hd => rfl); (case hg => rfl); (case hr => first | (go_simp; done) | (go_simp; rfl)); (case hp => exact (Reps.one (show Kd.M (Kd.int .u8) _ _ _ (Go.bits .or .u8 ((x7_ * 8) % 256) 4) [.int .u8 (Go.bits .or .u8 ((x7_ * 8) % 256) 4)] from rfl) (Reps.none _ _))); intro v262 w100 ho101 hb hg_ hnew_; clear hg_ hnew_; (first | rw [← Ny261.out] at ho101 | (simp only [Int.reduceToNat] at ho101; rw [← Ny261.out] at ho101)); have n0_ := Aside0.mk (Kd.R_lower ho101 (below_size (by repeat (first | (with_reducible first | exact HB.out | apply below_alloc | apply pw_below_drewN | apply below_drew1 | refine below_set ?_ GE198.out) | exact HB.out)))); have n1_ := Aside0.mk (blk_below (g := gb198) (o := .cells #[.slice none 0 0, .int .i64 0] 139 (0, 0)) (by (with_reducible repeat (first | refine blk_drewN ?_ _ | refine blk_drew ?_ | refine blk_alloc ?_ _)); exact BK198.out) hb); have n2_ := Aside0.mk (below_step (by repeat (first | (with_reducible first | exact HB.out | apply below_alloc | apply pw_below_drewN | apply below_drew1 | refine below_set ?_ GE198.out) | exact HB.out)) hb); clear BK198; clear HB; have HO263 := n0_; have BK198 := n1_; have HB := n2_; clear n0_ n1_ n2_; clear hb ho101; obtain ⟨Ao102, co102, eo102⟩ := Kd.R_slice HO263.out; subst eo102) | ((with_reducible refine gate_callee (f := 157) rfl ?_); refine goesL_ (some 145) rfl rfl Tryd.func157 (by kernel_rfl) rfl #[.int .i64 1, .slice Ao102 y261.length co102] rfl (by (try simp only [List.map_toArray, List.map_cons, List.map_nil]); first | done | rfl | (simp only [List.length_drop, List.length_take]; rfl)) ?_; (with_reducible refine (isa86_of.calls 1 (fun k_ => some k_ = (.slice Ao102 y261.length co102 : Value).ownBlock) (.slice Ao102 y261.length co102) y261 t264 t267 w _ ?side1 ?side2 A99.out).mono ?_); (case side1 => repeat (first | (with_reducible first | exact HB.out | apply below_alloc | apply pw_below_drewN | apply below_drew1 | refine below_set ?_ GE198.out) | exact HB.out)); (case side2 => exact Kd.R_tight rfl HO263.out); rintro e w103 ⟨v265, rfl, ho0, hb, hkp⟩; refine ⟨_, rfl, ?_⟩; have n0_ := Aside0.mk (blk_kept (by (with_reducible repeat (first | refine blk_drewN ?_ _ | refine blk_drew ?_ | refine blk_alloc ?_ _)); exact BK198.out) hkp (fun hs_ => (fun e_ => (Kd.R_ne HO263.out BK198.out (by decide)) e_) hs_)); have n1_ := Aside0.mk (Kd.R_mono (ok' := fun k_ => True) ho0 (fun k_ hk_ => trivial)); have n2_ := Aside0.mk (hb); clear BK198; clear HB; clear HO263; have BK198 := n0_; have HO266 := n1_; have HB := n2_; clear n0_ n1_ n2_; (try clear hb); (try clear hkp); (try clear ho0); obtain ⟨Ao104, co104, eo104⟩ := Kd.R_slice HO266.out; subst eo104; have hcz105_0 : w103.cell? ⟨gb198, 0, none⟩ = some (.slice none 0 0) := (blk_cell BK198.out 0).trans rfl; have hcz105_1 : w103.cell? ⟨gb198, 1, none⟩ = some (.int .i64 0) := (blk_cell BK198.out 1).trans rfl; have hfz105_0 := blk_frozen BK198.out 0; have hfz105_1 := blk_frozen BK198.out 1))
                                                        refine bodyPost_ret (results_cell_row rfl _ _ gb198 139 #[.slice Ao104 t264.length co104, .int .i64 t267] (0, 0) _ rfl (by (with_reducible repeat (first | refine blk_drewN ?_ _ | refine blk_drew ?_ | refine blk_alloc ?_ _)); refine blk_put (cs := #[.slice Ao104 t264.length co104, .int .i64 0]) ?_ 1 _ rfl; (with_reducible repeat (first | refine blk_drewN ?_ _ | refine blk_drew ?_ | refine blk_alloc ?_ _)); refine blk_put (cs := #[.slice none 0 0, .int .i64 0]) ?_ 0 _ rfl; (with_reducible repeat (first | refine blk_drewN ?_ _ | refine blk_drew ?_ | refine blk_alloc ?_ _)); exact BK198.out) Tryd.underlying139 rfl (by kernel_rfl)) rfl ?_
                                                        exact ⟨_, by first | rfl | (simp [errW_none, errW_some] <;> rfl) | (simp [*, errW_none, errW_some] <;> rfl), by (with_reducible repeat (first | apply Kd.R_alloc | apply Kd.R_drewN | apply Kd.R_drew)); exact Kd.R_mono (Kd.R_far (p := ⟨gb198, 1, none⟩) (Kd.R_far (p := ⟨gb198, 0, none⟩) (Kd.R_types HO266.out BK198.out (by decide)) (fun _ hk => hk.2) (.slice Ao104 t264.length co104)) (fun _ hk => hk.2) (.int .i64 t267)) (fun _ hk => trivial), by repeat (first | (with_reducible first | exact HB.out | apply below_alloc | apply pw_below_drewN | apply below_drew1 | refine below_set ?_ GE198.out) | exact HB.out)⟩
                                                      · replace c98 := Bool.eq_false_iff.mpr c98
                                                        subst c98
                                                        have H1 : ((isa86_wide.f kj95 a1).bind fun t268 => (if t268 = 8 then (isa86_two.j9 kj95 a1 x7_ (a2 == 20)) else (isa86_two.j9 kj95 a1 x7_ false))) = some (r1, r2) := by rw [if_neg (show ¬ (false = true) by decide)] at H; exact H
                                                        clear H
                                                        have H := H1
                                                        clear H1
                                                        have HC106 := Aside0.mk H
                                                        clear H
                                                        go_upto_region 24 with (fail)
                                                        go_cut [146] (fun v146 wc => ∃ (kq : Nat) (x146_105 : Bool), v146 = .bool x146_105 ∧ Aside0 (isa86_two.j9 kq a1 x7_ x146_105 = some (r1, r2)) ∧ Aside0 (kq ≤ kj95) ∧ Aside0 (wc.heap[gb198]? = some (.cells #[(.slice none 0 0), .int .i64 0] 139 (0, 0))) ∧ Aside0 (Below w.heap.size w wc))
                                                        case first =>
                                                          have H := HC106.out
                                                          clear HC106
                                                          replace H := Option.bind_eq_some_iff.mp H
                                                          obtain ⟨t268, A1070, H⟩ := H
                                                          replace H : (if t268 = 8 then (isa86_two.j9 kj95 a1 x7_ (a2 == 20)) else (isa86_two.j9 kj95 a1 x7_ false)) = some (r1, r2) := H
                                                          have A107 := Aside0.mk A1070
                                                          clear A1070
                                                          by_cases c108 : t268 = 8
                                                          · rw [if_pos c108] at H
                                                            have c108b0 : (t268 == 8) = true := beq_iff_eq.mpr c108
                                                            have c108b1 : (t268 != 8) = false := bne_eq_false_iff_eq.mpr c108
                                                            clear c108
                                                            (first | rw [c108b0] | (simp only [i64_w, i32_w]; rw [c108b0]) | skip)
                                                            have H' := Aside0.mk H
                                                            clear H
                                                            go_wp2_with (first | ((with_reducible refine gate_callee (f := 174) rfl ?_); refine goesL_ (some 148) rfl rfl Tryd.func174 (by kernel_rfl) rfl #[.int .i64 a1] rfl (by (try simp only [List.map_toArray, List.map_cons, List.map_nil]); first | done | rfl | (simp only [List.length_drop, List.length_take]; rfl)) ?_; (with_reducible refine (isa86_wide.calls kj95 a1 t268 _ A107.out).mono ?_); rintro e w' ⟨rfl, ⟨nd, rfl⟩⟩; refine ⟨_, rfl, ?_⟩))
                                                            go_meet
                                                            case rel => exact ⟨_, ((a2 == 20)), (by first | rfl | (simp; done) | (simp [*]; done)), H', ⟨by have := HJ3.out; have := HJ10.out; have := HJ12.out; have := HJ30.out; have := HJ45.out; have := HJ56.out; have := HJ67.out; have := HJ82.out; have := HJ95.out; first | omega | exact Nat.le_refl _⟩, ⟨by (with_reducible repeat (first | refine blk_drewN ?_ _ | refine blk_drew ?_ | refine blk_alloc ?_ _)); exact BK198.out⟩, ⟨by repeat (first | (with_reducible first | exact HB.out | apply below_alloc | apply pw_below_drewN | apply below_drew1 | refine below_set ?_ GE198.out) | exact HB.out)⟩⟩
                                                          · rw [if_neg c108] at H
                                                            have c108b0 : (t268 == 8) = false := beq_eq_false_iff_ne.mpr c108
                                                            have c108b1 : (t268 != 8) = true := bne_iff_ne.mpr c108
                                                            (first | rw [c108b0] | (simp only [i64_w, i32_w]; rw [c108b0]) | skip)
                                                            have H' := Aside0.mk H
                                                            clear H
                                                            go_wp2_with (first | ((with_reducible refine gate_callee (f := 174) rfl ?_); refine goesL_ (some 148) rfl rfl Tryd.func174 (by kernel_rfl) rfl #[.int .i64 a1] rfl (by (try simp only [List.map_toArray, List.map_cons, List.map_nil]); first | done | rfl | (simp only [List.length_drop, List.length_take]; rfl)) ?_; (with_reducible refine (isa86_wide.calls kj95 a1 t268 _ A107.out).mono ?_); rintro e w' ⟨rfl, ⟨nd, rfl⟩⟩; refine ⟨_, rfl, ?_⟩))
                                                            go_meet
                                                            case rel => exact ⟨_, (false), (by first | rfl | (simp; done) | (simp [*]; done)), H', ⟨by have := HJ3.out; have := HJ10.out; have := HJ12.out; have := HJ30.out; have := HJ45.out; have := HJ56.out; have := HJ67.out; have := HJ82.out; have := HJ95.out; first | omega | exact Nat.le_refl _⟩, ⟨by (with_reducible repeat (first | refine blk_drewN ?_ _ | refine blk_drew ?_ | refine blk_alloc ?_ _)); exact BK198.out⟩, ⟨by repeat (first | (with_reducible first | exact HB.out | apply below_alloc | apply pw_below_drewN | apply below_drew1 | refine below_set ?_ GE198.out) | exact HB.out)⟩⟩
                                                        case rest =>
                                                          as_aux_lemma =>
                                                          clear HC106
                                                          try clear c1
                                                          try clear c2
                                                          try clear p2
                                                          try clear c3
                                                          try clear c4
                                                          try clear c5
                                                          try clear c6
                                                          try clear p6
                                                          try clear c7
                                                          try clear c7b0
                                                          try clear c7b1
                                                          try clear c8
                                                          try clear c9
                                                          try clear c10
                                                          try clear c12
                                                          try clear c12b0
                                                          try clear c12b1
                                                          try clear c14
                                                          try clear c14b0
                                                          try clear c14b1
                                                          try clear c15
                                                          try clear c17
                                                          try clear c26
                                                          try clear c26b0
                                                          try clear c26b1
                                                          try clear c32
                                                          try clear c32b0
                                                          try clear c32b1
                                                          try clear c33
                                                          try clear c34
                                                          try clear c34b0
                                                          try clear c34b1
                                                          try clear c35
                                                          try clear c47
                                                          try clear c47b0
                                                          try clear c47b1
                                                          try clear c48
                                                          try clear c48b0
                                                          try clear c48b1
                                                          try clear c49
                                                          try clear c58
                                                          try clear c58b0
                                                          try clear c58b1
                                                          try clear c59
                                                          try clear c59b0
                                                          try clear c59b1
                                                          try clear c60
                                                          try clear p64
                                                          try clear c69
                                                          try clear c69b0
                                                          try clear c70
                                                          try clear c72
                                                          try clear c85
                                                          try clear c85b0
                                                          try clear c85b1
                                                          try clear c86
                                                          try clear c97
                                                          try clear c97b0
                                                          try clear c97b1
                                                          try clear c98
                                                          try clear c108
                                                          try clear c108b0
                                                          try clear c108b1
                                                          try clear hcz105_0
                                                          try clear hcz105_1
                                                          try clear hcz25_0
                                                          try clear hcz25_1
                                                          try clear hcz30_0
                                                          try clear hcz30_1
                                                          try clear hcz45_0
                                                          try clear hcz45_1
                                                          try clear hcz56_0
                                                          try clear hcz56_1
                                                          try clear hcz67_0
                                                          try clear hcz67_1
                                                          try clear hcz71_0
                                                          try clear hcz71_1
                                                          try clear hcz82_0
                                                          try clear hcz82_1
                                                          try clear hcz95_0
                                                          try clear hcz95_1
                                                          try clear hfz105_0
                                                          try clear hfz105_1
                                                          try clear hfz25_0
                                                          try clear hfz25_1
                                                          try clear hfz30_0
                                                          try clear hfz30_1
                                                          try clear hfz45_0
                                                          try clear hfz45_1
                                                          try clear hfz56_0
                                                          try clear hfz56_1
                                                          try clear hfz67_0
                                                          try clear hfz67_1
                                                          try clear hfz71_0
                                                          try clear hfz71_1
                                                          try clear hfz82_0
                                                          try clear hfz82_1
                                                          try clear hfz95_0
                                                          try clear hfz95_1
                                                          try clear p2
                                                          try clear p6
                                                          try clear p64
                                                          obtain ⟨kq, x146_105, rfl, HA, HJ105, BK198, HB⟩ := hcut
                                                          cases kq with
                                                          | zero => exact absurd HA.out (by simp [isa86_two.j9])
                                                          | succ kj105 =>
                                                            have H := HA.out
                                                            clear HA
                                                            simp only [isa86_two.j9] at H
                                                            by_cases c109 : x146_105 = true
                                                            · subst c109
                                                              have H1 : ((isa86_num.f a1).bind fun t269 => ((isa86_rm.f x7_ t269).bind fun t270 => ((isa86_of.f 1 (([128, t270] : List Int))).bind fun bt274 => (some (bt274.1, bt274.2))))) = some (r1, r2) := by rw [if_pos rfl] at H; exact H
                                                              clear H
                                                              have H := H1
                                                              clear H1
                                                              replace H := Option.bind_eq_some_iff.mp H
                                                              obtain ⟨t269, A1100, H⟩ := H
                                                              replace H : ((isa86_rm.f x7_ t269).bind fun t270 => ((isa86_of.f 1 (([128, t270] : List Int))).bind fun bt274 => (some (bt274.1, bt274.2)))) = some (r1, r2) := H
                                                              have A110 := Aside0.mk A1100
                                                              clear A1100
                                                              replace H := Option.bind_eq_some_iff.mp H
                                                              obtain ⟨t270, A1110, H⟩ := H
                                                              replace H : ((isa86_of.f 1 (([128, t270] : List Int))).bind fun bt274 => (some (bt274.1, bt274.2))) = some (r1, r2) := H
                                                              have A111 := Aside0.mk A1110
                                                              clear A1110
                                                              obtain ⟨y271, hy271⟩ : ∃ y_ : List Int, y_ = (([128, t270] : List Int)) := ⟨_, rfl⟩
                                                              replace H : ((isa86_of.f 1 y271).bind fun bt274 => (some (bt274.1, bt274.2))) = some (r1, r2) := by first | (rw [hy271]; with_reducible exact H) | (have H2_ := (Option.bind_some _ _).symm.trans H; rw [hy271]; with_reducible exact H2_) | (have H2_ := (Option.bind_some _ _).symm.trans H; with_reducible exact H2_) | with_reducible exact H | (rw [hy271]; exact H) | exact H
                                                              have Ny271 := Aside0.mk hy271
                                                              clear hy271
                                                              replace H := Option.bind_eq_some_iff.mp H
                                                              obtain ⟨⟨t274, t277⟩, A1120, H⟩ := H
                                                              replace H : (some (t274, t277)) = some (r1, r2) := H
                                                              have A112 := Aside0.mk A1120
                                                              clear A1120
                                                              simp only [Option.some.injEq, Prod.mk.injEq] at H
                                                              obtain ⟨rfl, rfl⟩ := H
                                                              go_wp2_with (first | ((with_reducible refine gate_callee (f := 176) rfl ?_); refine goesL_ (some 156) rfl rfl Tryd.func176 (by kernel_rfl) rfl #[.int .i64 a1] rfl (by (try simp only [List.map_toArray, List.map_cons, List.map_nil]); first | done | rfl | (simp only [List.length_drop, List.length_take]; rfl)) ?_; (with_reducible refine (isa86_num.calls a1 t269 _ A110.out).mono ?_); rintro e w' ⟨rfl, ⟨nd, rfl⟩⟩; refine ⟨_, rfl, ?_⟩; (try (rw [drewN_self wc]; generalize hq_ : World.drewN wc _ = wc; have n0_ : Aside0 (wc.heap[gb198]? = some (.cells #[.slice none 0 0, .int .i64 0] 139 (0, 0))) := ⟨by rw [← hq_]; exact (by (with_reducible repeat (first | refine blk_drewN ?_ _ | refine blk_drew ?_ | refine blk_alloc ?_ _)); exact BK198.out)⟩; have n1_ : Aside0 (Below w.heap.size w wc) := ⟨by rw [← hq_]; exact (by repeat (first | (with_reducible first | exact HB.out | apply below_alloc | apply pw_below_drewN | apply below_drew1 | refine below_set ?_ GE198.out) | exact HB.out))⟩; clear BK198 HB hq_; have BK198 := n0_; have HB := n1_; clear n0_ n1_))) | ((with_reducible refine gate_callee (f := 175) rfl ?_); refine goesL_ (some 157) rfl rfl Tryd.func175 (by kernel_rfl) rfl #[.int .u8 x7_, .int .u8 t269] rfl (by (try simp only [List.map_toArray, List.map_cons, List.map_nil]); first | done | rfl | (simp only [List.length_drop, List.length_take]; rfl)) ?_; (with_reducible refine (isa86_rm.calls x7_ t269 t270 _ A111.out).mono ?_); rintro e w' ⟨rfl, ⟨nd, rfl⟩⟩; refine ⟨_, rfl, ?_⟩; (try (rw [drewN_self wc]; generalize hq_ : World.drewN wc _ = wc; have n0_ : Aside0 (wc.heap[gb198]? = some (.cells #[.slice none 0 0, .int .i64 0] 139 (0, 0))) := ⟨by rw [← hq_]; exact (by (with_reducible repeat (first | refine blk_drewN ?_ _ | refine blk_drew ?_ | refine blk_alloc ?_ _)); exact BK198.out)⟩; have n1_ : Aside0 (Below w.heap.size w wc) := ⟨by rw [← hq_]; exact (by repeat (first | (with_reducible first | exact HB.out | apply below_alloc | apply pw_below_drewN | apply below_drew1 | refine below_set ?_ GE198.out) | exact HB.out))⟩; clear BK198 HB hq_; have BK198 := n0_; have HB := n1_; clear n0_ n1_))) | ((with_reducible refine gate_dst (N := 158) rfl ?_); refine Kd.R_lit (Kd.int .u8) _ 5 ?hg (N := 158) ?hd (xs := ([128, t270] : List Int)) (inner := [.int .u8 128, .int .u8 t270]) (ok := fun _ => True) (okp := fun _ => True) ?hr ?hp (fun _ hk => hk) trivial (Below.refl _ _) (Nat.le_refl _) (by simp) ?_; (case hd => rfl); (case hg => rfl); (case hr => first | (go_simp; done) | (go_simp; rfl)); (case hp => exact (Reps.one (show Kd.M (Kd.int .u8) _ _ _ 128 [.int .u8 128] from rfl) (Reps.one (show Kd.M (Kd.int .u8) _ _ _ t270 [.int .u8 t270] from rfl) (Reps.none _ _)))); intro v272 w113 ho114 hb hg_ hnew_; clear hg_ hnew_; (first | rw [← Ny271.out] at ho114 | (simp only [Int.reduceToNat] at ho114; rw [← Ny271.out] at ho114)); have n0_ := Aside0.mk (Kd.R_lower ho114 (below_size (by repeat (first | (with_reducible first | exact HB.out | apply below_alloc | apply pw_below_drewN | apply below_drew1 | refine below_set ?_ GE198.out) | exact HB.out)))); have n1_ := Aside0.mk (blk_below (g := gb198) (o := .cells #[.slice none 0 0, .int .i64 0] 139 (0, 0)) (by (with_reducible repeat (first | refine blk_drewN ?_ _ | refine blk_drew ?_ | refine blk_alloc ?_ _)); exact BK198.out) hb); have n2_ := Aside0.mk (below_step (by repeat (first | (with_reducible first | exact HB.out | apply below_alloc | apply pw_below_drewN | apply below_drew1 | refine below_set ?_ GE198.out) | exact HB.out)) hb); clear BK198; clear HB; have HO273 := n0_; have BK198 := n1_; have HB := n2_; clear n0_ n1_ n2_; clear hb ho114; obtain ⟨Ao115, co115, eo115⟩ := Kd.R_slice HO273.out; subst eo115) | ((with_reducible refine gate_callee (f := 157) rfl ?_); refine goesL_ (some 159) rfl rfl Tryd.func157 (by kernel_rfl) rfl #[.int .i64 1, .slice Ao115 y271.length co115] rfl (by (try simp only [List.map_toArray, List.map_cons, List.map_nil]); first | done | rfl | (simp only [List.length_drop, List.length_take]; rfl)) ?_; (with_reducible refine (isa86_of.calls 1 (fun k_ => some k_ = (.slice Ao115 y271.length co115 : Value).ownBlock) (.slice Ao115 y271.length co115) y271 t274 t277 w _ ?side1 ?side2 A112.out).mono ?_); (case side1 => repeat (first | (with_reducible first | exact HB.out | apply below_alloc | apply pw_below_drewN | apply below_drew1 | refine below_set ?_ GE198.out) | exact HB.out)); (case side2 => exact Kd.R_tight rfl HO273.out); rintro e w116 ⟨v275, rfl, ho0, hb, hkp⟩; refine ⟨_, rfl, ?_⟩; have n0_ := Aside0.mk (blk_kept (by (with_reducible repeat (first | refine blk_drewN ?_ _ | refine blk_drew ?_ | refine blk_alloc ?_ _)); exact BK198.out) hkp (fun hs_ => (fun e_ => (Kd.R_ne HO273.out BK198.out (by decide)) e_) hs_)); have n1_ := Aside0.mk (Kd.R_mono (ok' := fun k_ => True) ho0 (fun k_ hk_ => trivial)); have n2_ := Aside0.mk (hb); clear BK198; clear HB; clear HO273; have BK198 := n0_; have HO276 := n1_; have HB := n2_; clear n0_ n1_ n2_; (try clear hb); (try clear hkp); (try clear ho0); obtain ⟨Ao117, co117, eo117⟩ := Kd.R_slice HO276.out; subst eo117; have hcz118_0 : w116.cell? ⟨gb198, 0, none⟩ = some (.slice none 0 0) := (blk_cell BK198.out 0).trans rfl; have hcz118_1 : w116.cell? ⟨gb198, 1, none⟩ = some (.int .i64 0) := (blk_cell BK198.out 1).trans rfl; have hfz118_0 := blk_frozen BK198.out 0; have hfz118_1 := blk_frozen BK198.out 1))
                                                              refine bodyPost_ret (results_cell_row rfl _ _ gb198 139 #[.slice Ao117 t274.length co117, .int .i64 t277] (0, 0) _ rfl (by (with_reducible repeat (first | refine blk_drewN ?_ _ | refine blk_drew ?_ | refine blk_alloc ?_ _)); refine blk_put (cs := #[.slice Ao117 t274.length co117, .int .i64 0]) ?_ 1 _ rfl; (with_reducible repeat (first | refine blk_drewN ?_ _ | refine blk_drew ?_ | refine blk_alloc ?_ _)); refine blk_put (cs := #[.slice none 0 0, .int .i64 0]) ?_ 0 _ rfl; (with_reducible repeat (first | refine blk_drewN ?_ _ | refine blk_drew ?_ | refine blk_alloc ?_ _)); exact BK198.out) Tryd.underlying139 rfl (by kernel_rfl)) rfl ?_
                                                              exact ⟨_, by first | rfl | (simp [errW_none, errW_some] <;> rfl) | (simp [*, errW_none, errW_some] <;> rfl), by (with_reducible repeat (first | apply Kd.R_alloc | apply Kd.R_drewN | apply Kd.R_drew)); exact Kd.R_mono (Kd.R_far (p := ⟨gb198, 1, none⟩) (Kd.R_far (p := ⟨gb198, 0, none⟩) (Kd.R_types HO276.out BK198.out (by decide)) (fun _ hk => hk.2) (.slice Ao117 t274.length co117)) (fun _ hk => hk.2) (.int .i64 t277)) (fun _ hk => trivial), by repeat (first | (with_reducible first | exact HB.out | apply below_alloc | apply pw_below_drewN | apply below_drew1 | refine below_set ?_ GE198.out) | exact HB.out)⟩
                                                            · replace c109 := Bool.eq_false_iff.mpr c109
                                                              subst c109
                                                              have H1 : (some (([] : List Int), 0)) = some (r1, r2) := by rw [if_neg (show ¬ (false = true) by decide)] at H; exact H
                                                              clear H
                                                              have H := H1
                                                              clear H1
                                                              simp only [Option.some.injEq, Prod.mk.injEq] at H
                                                              obtain ⟨rfl, rfl⟩ := H
                                                              have hcz119_0 : wc.cell? ⟨gb198, 0, none⟩ = some (.slice none 0 0) := (blk_cell BK198.out 0).trans rfl
                                                              have hcz119_1 : wc.cell? ⟨gb198, 1, none⟩ = some (.int .i64 0) := (blk_cell BK198.out 1).trans rfl
                                                              have hfz119_0 := blk_frozen BK198.out 0
                                                              have hfz119_1 := blk_frozen BK198.out 1
                                                              go_wp2
                                                              refine bodyPost_ret (results_cell_row rfl _ _ gb198 139 #[.slice none 0 0, .int .i64 0] (0, 0) _ rfl (by (with_reducible repeat (first | refine blk_drewN ?_ _ | refine blk_drew ?_ | refine blk_alloc ?_ _)); refine blk_put (cs := #[.slice none 0 0, .int .i64 0]) ?_ 1 _ rfl; (with_reducible repeat (first | refine blk_drewN ?_ _ | refine blk_drew ?_ | refine blk_alloc ?_ _)); refine blk_put (cs := #[.slice none 0 0, .int .i64 0]) ?_ 0 _ rfl; (with_reducible repeat (first | refine blk_drewN ?_ _ | refine blk_drew ?_ | refine blk_alloc ?_ _)); exact BK198.out) Tryd.underlying139 rfl (by kernel_rfl)) rfl ?_
                                                              exact ⟨_, by first | rfl | (simp [errW_none, errW_some] <;> rfl) | (simp [*, errW_none, errW_some] <;> rfl), by first | exact Kd.R_nil _ _ _ _ _ | exact Kd.N_nil _ _ _ _ _ | exact Kd.V_nil _ _ _ _ _ | exact Kd.Q_nil _ _ _ _ _ | exact Kd.S_nil _ _ _ _ _, by repeat (first | (with_reducible first | exact HB.out | apply below_alloc | apply pw_below_drewN | apply below_drew1 | refine below_set ?_ GE198.out) | exact HB.out)⟩
end Go.Proofs.YtejhagejjogbaaaDoor.Ra
