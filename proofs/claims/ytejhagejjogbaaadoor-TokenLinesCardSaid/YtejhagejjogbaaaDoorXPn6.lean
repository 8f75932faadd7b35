import Derived.Test.YtejhagejjogbaaaDoorXPn0
import Derived.Test.YtejhagejjogbaaaDoorXPn5
namespace Go.Proofs.YtejhagejjogbaaaDoor.Pn
open Go.RowKit Go.Proofs.YtejhagejjogbaaaDoorW.PrintWords Go.Proofs.YtejhagejjogbaaaDoorW.PrintLast Go.Proofs.YtejhagejjogbaaaDoorW.PrintMore Go.Proofs.YtejhagejjogbaaaDoor.Given
attribute [local go_sem] max2_int min2_int max_two min_two max_three min_three max_four min_four   -- for this text's walks alone
set_option linter.unusedVariables false
set_option linter.unusedSimpArgs false
mutual
def pidginref03_Parse.j0 : Nat → ByteArray → Bool → Option (Int × Int)
  | 0, _, _ => none
  | k + 1, x4, x26 => if x26 = true then (some (0, 2)) else (if 0 ≤ (wrap64 ((x4.size : Int) - 1)) then (if (wrap64 ((x4.size : Int) - 1)) < (x4.size : Int) then (if (bt x4 (wrap64 ((x4.size : Int) - 1))) = 72 then (pidginref03_Parse.j2 k x4 16 true) else (if (bt x4 (wrap64 ((x4.size : Int) - 1))) = 79 then (pidginref03_Parse.j1 k x4 10 true (bt x4 (wrap64 ((x4.size : Int) - 1))) ((bt x4 (wrap64 ((x4.size : Int) - 1))) == 79)) else (pidginref03_Parse.j1 k x4 10 true (bt x4 (wrap64 ((x4.size : Int) - 1))) ((bt x4 (wrap64 ((x4.size : Int) - 1))) == 81)))) else (none)) else (none))
def pidginref03_Parse.j2 : Nat → ByteArray → Int → Bool → Option (Int × Int)
  | 0, _, _, _ => none
  | k + 1, x4, x5, x7 => if x7 = true then (if 0 ≤ (wrap64 ((x4.size : Int) - 1)) then (if (wrap64 ((x4.size : Int) - 1)) ≤ (x4.size : Int) then (pidginref03_Parse.j3 k (x4.extract 0 ((wrap64 ((x4.size : Int) - 1)) : Int).toNat) x5) else (none)) else (none)) else (pidginref03_Parse.j3 k x4 x5)
def pidginref03_Parse.j3 : Nat → ByteArray → Int → Option (Int × Int)
  | 0, _, _ => none
  | k + 1, x4, x5 => pidginref03_Parse.l0 k x4 x5 0 false 0
def pidginref03_Parse.l0 : Nat → ByteArray → Int → Int → Bool → Int → Option (Int × Int)
  | 0, _, _, _, _, _ => none
  | k + 1, x4, x5, x8, x9, x10 => if x10 < (x4.size : Int) then (if 0 ≤ x10 then ((pidginref03_digit.f k (bt x4 x10)).bind fun t178 => (if t178 < 0 then (pidginref03_Parse.j5 k x4 x5 x8 x9 x10 t178 true) else (pidginref03_Parse.j5 k x4 x5 x8 x9 x10 t178 (decide (t178 ≥ x5))))) else (none)) else (if x9 = true then (some (0, 5)) else (some (IntKind.u16.wrap (x8), 0)))
def pidginref03_Parse.j5 : Nat → ByteArray → Int → Int → Bool → Int → Int → Bool → Option (Int × Int)
  | 0, _, _, _, _, _, _, _ => none
  | k + 1, x4, x5, x8, x9, x10, x11, x64 => if x64 = true then (some (0, 2)) else (if (wrap64 ((wrap64 (x8 * x5)) + x11)) > 65535 then (pidginref03_Parse.l0 k x4 x5 65536 true (wrap64 (x10 + 1))) else (pidginref03_Parse.l0 k x4 x5 (wrap64 ((wrap64 (x8 * x5)) + x11)) x9 (wrap64 (x10 + 1))))
def pidginref03_Parse.j1 : Nat → ByteArray → Int → Bool → Int → Bool → Option (Int × Int)
  | 0, _, _, _, _, _ => none
  | k + 1, x4, x5, x7, x32, x35 => if x35 = true then (pidginref03_Parse.j2 k x4 8 x7) else (if x32 = 66 then (pidginref03_Parse.j2 k x4 2 x7) else (if x32 = 68 then (pidginref03_Parse.j2 k x4 x5 x7) else (pidginref03_Parse.j2 k x4 x5 false)))
end
def pidginref03_Parse.f (k : Nat) (a0 : ByteArray) : Option (Int × Int) := (pidginref03_Upper.f k a0).bind fun t177 => (if (t177.size : Int) = 0 then (pidginref03_Parse.j0 k t177 true) else (if 0 < (t177.size : Int) then (if (bt t177 0) < 48 then (pidginref03_Parse.j0 k t177 true) else (pidginref03_Parse.j0 k t177 (decide ((bt t177 0) > 57)))) else (none)))
set_option maxHeartbeats 8000000 in
set_option maxRecDepth 100000 in
theorem pidginref03_Parse.calls (k : Nat) (a0 : ByteArray) (r1 : Int) (r2 : Int) (w : World) (h : pidginref03_Parse.f k a0 = some (r1, r2)) :
    Calls Tryd.prog 116 #[.string a0] w fun e w' => e = .returned (.tuple #[.int .u16 r1, .int .i64 r2]) ∧ Below w.heap.size w w' := by
  have HB := Aside0.mk (Below.refl w.heap.size w)
  have H : ((pidginref03_Upper.f k a0).bind fun t177 => (if (t177.size : Int) = 0 then (pidginref03_Parse.j0 k t177 true) else (if 0 < (t177.size : Int) then (if (bt t177 0) < 48 then (pidginref03_Parse.j0 k t177 true) else (pidginref03_Parse.j0 k t177 (decide ((bt t177 0) > 57)))) else (none)))) = some (r1, r2) := h
  clear h
  replace H := Option.bind_eq_some_iff.mp H
  obtain ⟨t177, A20, H⟩ := H
  replace H : (if (t177.size : Int) = 0 then (pidginref03_Parse.j0 k t177 true) else (if 0 < (t177.size : Int) then (if (bt t177 0) < 48 then (pidginref03_Parse.j0 k t177 true) else (pidginref03_Parse.j0 k t177 (decide ((bt t177 0) > 57)))) else (none))) = some (r1, r2) := H
  have A2 := Aside0.mk A20
  clear A20
  have HC3 := Aside0.mk H
  clear H
  go_enter Tryd.func116, Tryd.ntmps116
  go_upto_region 2 with (first | ((with_reducible refine gate_callee (f := 114) rfl ?_); refine goesL_ (some 13) rfl rfl Tryd.func114 (by kernel_rfl) rfl #[.string a0] rfl (by (try simp only [List.map_toArray, List.map_cons, List.map_nil]); first | done | rfl | (simp only [List.length_drop, List.length_take]; rfl)) ?_; (with_reducible refine (pidginref03_Upper.calls k a0 t177 _ A2.out).mono ?_); rintro e w4 ⟨rfl, hb⟩; refine ⟨_, rfl, ?_⟩; have n0_ := Aside0.mk (below_step (by repeat (first | (with_reducible first | exact HB.out | apply below_alloc | apply pw_below_drewN | apply below_drew1) | exact HB.out)) hb); clear HB; have HB := n0_; clear n0_; (try clear hb); (try clear hb2); (try clear hk); (try clear hi)))
  (try simp only [Act.put, List.setIfInBounds_toArray, List.set_cons_zero, List.set_cons_succ])
  go_cut [26] (fun v26 wc => ∃ (kq : Nat) (x26_2 : Bool), v26 = .bool x26_2 ∧ Aside0 (pidginref03_Parse.j0 kq t177 x26_2 = some (r1, r2)) ∧ Aside0 (kq ≤ k) ∧ Aside0 (Below w.heap.size w wc))
  case first =>
    have H := HC3.out
    clear HC3
    by_cases c5 : (t177.size : Int) = 0
    · rw [if_pos c5] at H
      have c5b0 : ((t177.size : Int) == 0) = true := beq_iff_eq.mpr c5
      have c5b1 : ((t177.size : Int) != 0) = false := bne_eq_false_iff_eq.mpr c5
      clear c5
      (first | rw [c5b0] | (simp only [i64_w, i32_w]; rw [c5b0]) | skip)
      have H' := Aside0.mk H
      clear H
      go_wp2
      go_meet
      case rel => exact ⟨_, (true), (by first | rfl | (simp; done) | (simp [*]; done)), H', ⟨by first | omega | exact Nat.le_refl _⟩, ⟨by repeat (first | (with_reducible first | exact HB.out | apply below_alloc | apply pw_below_drewN | apply below_drew1) | exact HB.out)⟩⟩
    · rw [if_neg c5] at H
      have c5b0 : ((t177.size : Int) == 0) = false := beq_eq_false_iff_ne.mpr c5
      have c5b1 : ((t177.size : Int) != 0) = true := bne_iff_ne.mpr c5
      (first | rw [c5b0] | (simp only [i64_w, i32_w]; rw [c5b0]) | skip)
      by_cases c6 : 0 < (t177.size : Int)
      · rw [if_pos c6] at H
        have c6b0 : decide (0 < (t177.size : Int)) = true := decide_eq_true c6
        have c6b1 : decide (0 < t177.size) = true := decide_eq_true (by omega)
        clear c6
        by_cases c8 : (bt t177 0) < 48
        · rw [if_pos c8] at H
          have c8b0 : decide ((bt t177 0) < 48) = true := decide_eq_true c8
          clear c8
          have H' := Aside0.mk H
          clear H
          have p7 : 0 ≤ (0 : Int) := (by omega)
          have q7 : 0 < t177.size := (by have : (0 : Int) < (t177.size : Int) := of_decide_eq_true (by first | (with_reducible assumption) | assumption); omega)
          have hx7 : ∀ h : 0 < t177.size, ((t177[0]'h).toNat : Int) = bt t177 0 := bt_at t177 0
          clear p7
          have qi7 : (0 < (t177.size : Int)) = True := eq_true (of_decide_eq_true (by first | (with_reducible assumption) | assumption))
          replace q7 := eq_true q7
          go_wp2
          go_meet
          case rel => exact ⟨_, (true), (by first | rfl | (simp; done) | (simp [*]; done)), H', ⟨by first | omega | exact Nat.le_refl _⟩, ⟨by repeat (first | (with_reducible first | exact HB.out | apply below_alloc | apply pw_below_drewN | apply below_drew1) | exact HB.out)⟩⟩
        · rw [if_neg c8] at H
          have c8b0 : decide ((bt t177 0) < 48) = false := decide_eq_false c8
          clear c8
          have H' := Aside0.mk H
          clear H
          have p7 : 0 ≤ (0 : Int) := (by omega)
          have q7 : 0 < t177.size := (by have : (0 : Int) < (t177.size : Int) := of_decide_eq_true (by first | (with_reducible assumption) | assumption); omega)
          have hx7 : ∀ h : 0 < t177.size, ((t177[0]'h).toNat : Int) = bt t177 0 := bt_at t177 0
          clear p7
          have qi7 : (0 < (t177.size : Int)) = True := eq_true (of_decide_eq_true (by first | (with_reducible assumption) | assumption))
          replace q7 := eq_true q7
          have p9 : 0 ≤ (0 : Int) := (by omega)
          have q9 : 0 < t177.size := (by have : (0 : Int) < (t177.size : Int) := of_decide_eq_true (by first | (with_reducible assumption) | assumption); omega)
          have hx9 : ∀ h : 0 < t177.size, ((t177[0]'h).toNat : Int) = bt t177 0 := bt_at t177 0
          clear p9
          have qi9 : (0 < (t177.size : Int)) = True := eq_true (of_decide_eq_true (by first | (with_reducible assumption) | assumption))
          replace q9 := eq_true q9
          go_wp2
          go_meet
          case rel => exact ⟨_, (decide ((bt t177 0) > 57)), (by first | rfl | (simp; done) | (simp [*]; done)), H', ⟨by first | omega | exact Nat.le_refl _⟩, ⟨by repeat (first | (with_reducible first | exact HB.out | apply below_alloc | apply pw_below_drewN | apply below_drew1) | exact HB.out)⟩⟩
      · rw [if_neg c6] at H
        exact absurd H (by simp)
  case rest =>
    clear HC3
    try clear c1
    try clear p2
    try clear c5
    try clear c5b0
    try clear c5b1
    try clear c6
    try clear c6b0
    try clear c6b1
    try clear p7
    try clear q7
    try clear hx7
    try clear qi7
    try clear c8
    try clear c8b0
    try clear p9
    try clear q9
    try clear hx9
    try clear qi9
    try clear p7
    try clear p9
    try clear q7
    try clear q9
    obtain ⟨kq, x26_2, rfl, HA, HJ2, HB⟩ := hcut
    cases kq with
    | zero => exact absurd HA.out (by simp [pidginref03_Parse.j0])
    | succ kj2 =>
      have H := HA.out
      clear HA
      simp only [pidginref03_Parse.j0] at H
      by_cases c10 : x26_2 = true
      · subst c10
        have H1 : (some (0, 2)) = some (r1, r2) := by rw [if_pos rfl] at H; exact H
        clear H
        have H := H1
        clear H1
        simp only [Option.some.injEq, Prod.mk.injEq] at H
        obtain ⟨rfl, rfl⟩ := H
        go_wp2
        go_ret2
        exact ⟨by first | rfl | (simp [errW_none, errW_some] <;> rfl) | (simp [*, errW_none, errW_some] <;> rfl), by repeat (first | (with_reducible first | exact HB.out | apply below_alloc | apply pw_below_drewN | apply below_drew1) | exact HB.out)⟩
      · replace c10 := Bool.eq_false_iff.mpr c10
        subst c10
        have H1 : (if 0 ≤ (wrap64 ((t177.size : Int) - 1)) then (if (wrap64 ((t177.size : Int) - 1)) < (t177.size : Int) then (if (bt t177 (wrap64 ((t177.size : Int) - 1))) = 72 then (pidginref03_Parse.j2 kj2 t177 16 true) else (if (bt t177 (wrap64 ((t177.size : Int) - 1))) = 79 then (pidginref03_Parse.j1 kj2 t177 10 true (bt t177 (wrap64 ((t177.size : Int) - 1))) ((bt t177 (wrap64 ((t177.size : Int) - 1))) == 79)) else (pidginref03_Parse.j1 kj2 t177 10 true (bt t177 (wrap64 ((t177.size : Int) - 1))) ((bt t177 (wrap64 ((t177.size : Int) - 1))) == 81)))) else (none)) else (none)) = some (r1, r2) := by rw [if_neg (show ¬ (false = true) by decide)] at H; exact H
        clear H
        have H := H1
        clear H1
        obtain ⟨ji11, hji11⟩ : ∃ j_ : Int, (wrap64 ((t177.size : Int) - 1)) = j_ := ⟨_, rfl⟩
        replace H : (if 0 ≤ (ji11) then (if (ji11) < (t177.size : Int) then (if (bt t177 (ji11)) = 72 then (pidginref03_Parse.j2 kj2 t177 16 true) else (if (bt t177 (ji11)) = 79 then (pidginref03_Parse.j1 kj2 t177 10 true (bt t177 (ji11)) ((bt t177 (ji11)) == 79)) else (pidginref03_Parse.j1 kj2 t177 10 true (bt t177 (ji11)) ((bt t177 (ji11)) == 81)))) else (none)) else (none)) = some (r1, r2) := by first | (rw [hji11] at H; exact H) | (simp only [hji11] at H ⊢; exact H)
        have hji11w : (IntKind.i64.wrap ((t177.size : Int) - 1)) = ji11 := (i64_w _).trans hji11
        by_cases c12 : 0 ≤ (ji11)
        · rw [if_pos c12] at H
          have c12b0 : decide (0 ≤ (ji11)) = true := decide_eq_true c12
          clear c12
          by_cases c13 : (ji11) < (t177.size : Int)
          · rw [if_pos c13] at H
            have c13b0 : decide ((ji11) < (t177.size : Int)) = true := decide_eq_true c13
            clear c13
            have HC15 := Aside0.mk H
            clear H
            have p14 : 0 ≤ ((ji11) : Int) := of_decide_eq_true (by first | (with_reducible assumption) | assumption)
            have q14 : (ji11) < (t177.size : Int) := of_decide_eq_true (by first | (with_reducible assumption) | assumption)
            have hx14 := bt_at t177 (ji11)
            replace p14 := eq_true p14
            replace q14 := eq_true q14
            go_upto_block 0 with (fail)
            go_cut [5, 7] (fun v5 v7 wc => ∃ (kq : Nat) (x5_14 : Int) (x7_14 : Bool), v5 = .int .i64 x5_14 ∧ v7 = .bool x7_14 ∧ Aside0 (pidginref03_Parse.j2 kq t177 x5_14 x7_14 = some (r1, r2)) ∧ Aside0 (kq ≤ kj2) ∧ Aside0 (Below w.heap.size w wc))
            case first =>
              have H := HC15.out
              clear HC15
              by_cases c16 : (bt t177 (ji11)) = 72
              · rw [if_pos c16] at H
                have c16b0 : ((bt t177 (ji11)) == 72) = true := beq_iff_eq.mpr c16
                have c16b1 : ((bt t177 (ji11)) != 72) = false := bne_eq_false_iff_eq.mpr c16
                clear c16
                (first | rw [c16b0] | (simp only [i64_w, i32_w]; rw [c16b0]) | skip)
                have H' := Aside0.mk H
                clear H
                go_wp2
                go_meet
                case rel => exact ⟨_, (16), (true), (by first | rfl | (simp; done) | (simp [*]; done)), (by first | rfl | (simp; done) | (simp [*]; done)), H', ⟨by have := HJ2.out; first | omega | exact Nat.le_refl _⟩, ⟨by repeat (first | (with_reducible first | exact HB.out | apply below_alloc | apply pw_below_drewN | apply below_drew1) | exact HB.out)⟩⟩
              · rw [if_neg c16] at H
                have c16b0 : ((bt t177 (ji11)) == 72) = false := beq_eq_false_iff_ne.mpr c16
                have c16b1 : ((bt t177 (ji11)) != 72) = true := bne_iff_ne.mpr c16
                (first | rw [c16b0] | (simp only [i64_w, i32_w]; rw [c16b0]) | skip)
                have HC17 := Aside0.mk H
                clear H
                go_upto_if 35 with (fail)
                go_cut [35] (fun v35 wc => ∃ (kq : Nat) (x35_16 : Bool), v35 = .bool x35_16 ∧ Aside0 (pidginref03_Parse.j1 kq t177 10 true (bt t177 (ji11)) x35_16 = some (r1, r2)) ∧ Aside0 (kq ≤ kj2) ∧ Aside0 (Below w.heap.size w wc))
                case first =>
                  have H := HC17.out
                  clear HC17
                  by_cases c18 : (bt t177 (ji11)) = 79
                  · rw [if_pos c18] at H
                    have c18b0 : ((bt t177 (ji11)) == 79) = true := beq_iff_eq.mpr c18
                    have c18b1 : ((bt t177 (ji11)) != 79) = false := bne_eq_false_iff_eq.mpr c18
                    clear c18
                    (first | rw [c18b0] | (simp only [i64_w, i32_w]; rw [c18b0]) | skip)
                    have H' := Aside0.mk H
                    clear H
                    go_wp2
                    go_meet
                    case rel => exact ⟨_, (((bt t177 (ji11)) == 79)), (by first | rfl | (simp; done) | (simp only [← hji11] <;> (first | rfl | (simp; done) | (simp [*]; done))) | (simp [*]; done)), H', ⟨by have := HJ2.out; first | omega | exact Nat.le_refl _⟩, ⟨by repeat (first | (with_reducible first | exact HB.out | apply below_alloc | apply pw_below_drewN | apply below_drew1) | exact HB.out)⟩⟩
                  · rw [if_neg c18] at H
                    have c18b0 : ((bt t177 (ji11)) == 79) = false := beq_eq_false_iff_ne.mpr c18
                    have c18b1 : ((bt t177 (ji11)) != 79) = true := bne_iff_ne.mpr c18
                    (first | rw [c18b0] | (simp only [i64_w, i32_w]; rw [c18b0]) | skip)
                    have H' := Aside0.mk H
                    clear H
                    go_wp2
                    go_meet
                    case rel => exact ⟨_, (((bt t177 (ji11)) == 81)), (by first | rfl | (simp; done) | (simp only [← hji11] <;> (first | rfl | (simp; done) | (simp [*]; done))) | (simp [*]; done)), H', ⟨by have := HJ2.out; first | omega | exact Nat.le_refl _⟩, ⟨by repeat (first | (with_reducible first | exact HB.out | apply below_alloc | apply pw_below_drewN | apply below_drew1) | exact HB.out)⟩⟩
                case rest =>
                  clear HC17
                  try clear c1
                  try clear p1
                  try clear q1
                  try clear hx1
                  try clear p2
                  try clear c5
                  try clear c5b0
                  try clear c5b1
                  try clear c6
                  try clear c6b0
                  try clear c6b1
                  try clear p6
                  try clear p7
                  try clear q7
                  try clear hx7
                  try clear qi7
                  try clear c8
                  try clear c8b0
                  try clear p9
                  try clear q9
                  try clear hx9
                  try clear qi9
                  try clear c10
                  try clear c11
                  try clear c12
                  try clear c12b0
                  try clear c13
                  try clear c13b0
                  try clear p14
                  try clear q14
                  try clear hx14
                  try clear c16
                  try clear c16b0
                  try clear c16b1
                  try clear c18
                  try clear c18b0
                  try clear c18b1
                  try clear p14
                  try clear p2
                  try clear p7
                  try clear p9
                  try clear q14
                  try clear q7
                  try clear q9
                  obtain ⟨kq, x35_16, rfl, HA, HJ16, HB⟩ := hcut
                  cases kq with
                  | zero => exact absurd HA.out (by simp [pidginref03_Parse.j1])
                  | succ kj16 =>
                    have H := HA.out
                    clear HA
                    simp only [pidginref03_Parse.j1] at H
                    by_cases c19 : x35_16 = true
                    · subst c19
                      have H1 : (pidginref03_Parse.j2 kj16 t177 8 true) = some (r1, r2) := by rw [if_pos rfl] at H; exact H
                      clear H
                      have H := H1
                      clear H1
                      have H' := Aside0.mk H
                      clear H
                      go_wp2
                      go_meet
                      case rel => exact ⟨_, (8), (true), (by first | rfl | (simp; done) | (simp [*]; done)), (by first | rfl | (simp; done) | (simp [*]; done)), H', ⟨by have := HJ2.out; have := HJ16.out; first | omega | exact Nat.le_refl _⟩, ⟨by repeat (first | (with_reducible first | exact HB.out | apply below_alloc | apply pw_below_drewN | apply below_drew1) | exact HB.out)⟩⟩
                    · replace c19 := Bool.eq_false_iff.mpr c19
                      subst c19
                      have H1 : (if (bt t177 (ji11)) = 66 then (pidginref03_Parse.j2 kj16 t177 2 true) else (if (bt t177 (ji11)) = 68 then (pidginref03_Parse.j2 kj16 t177 10 true) else (pidginref03_Parse.j2 kj16 t177 10 false))) = some (r1, r2) := by rw [if_neg (show ¬ (false = true) by decide)] at H; exact H
                      clear H
                      have H := H1
                      clear H1
                      by_cases c20 : (bt t177 (ji11)) = 66
                      · rw [if_pos c20] at H
                        have c20b0 : ((bt t177 (ji11)) == 66) = true := beq_iff_eq.mpr c20
                        have c20b1 : ((bt t177 (ji11)) != 66) = false := bne_eq_false_iff_eq.mpr c20
                        clear c20
                        have H' := Aside0.mk H
                        clear H
                        go_wp2
                        go_meet
                        case rel => exact ⟨_, (2), (true), (by first | rfl | (simp; done) | (simp [*]; done)), (by first | rfl | (simp; done) | (simp [*]; done)), H', ⟨by have := HJ2.out; have := HJ16.out; first | omega | exact Nat.le_refl _⟩, ⟨by repeat (first | (with_reducible first | exact HB.out | apply below_alloc | apply pw_below_drewN | apply below_drew1) | exact HB.out)⟩⟩
                      · rw [if_neg c20] at H
                        have c20b0 : ((bt t177 (ji11)) == 66) = false := beq_eq_false_iff_ne.mpr c20
                        have c20b1 : ((bt t177 (ji11)) != 66) = true := bne_iff_ne.mpr c20
                        by_cases c21 : (bt t177 (ji11)) = 68
                        · rw [if_pos c21] at H
                          have c21b0 : ((bt t177 (ji11)) == 68) = true := beq_iff_eq.mpr c21
                          have c21b1 : ((bt t177 (ji11)) != 68) = false := bne_eq_false_iff_eq.mpr c21
                          clear c21
                          have H' := Aside0.mk H
                          clear H
                          go_wp2
                          go_meet
                          case rel => exact ⟨_, (10), (true), (by first | rfl | (simp; done) | (simp [*]; done)), (by first | rfl | (simp; done) | (simp [*]; done)), H', ⟨by have := HJ2.out; have := HJ16.out; first | omega | exact Nat.le_refl _⟩, ⟨by repeat (first | (with_reducible first | exact HB.out | apply below_alloc | apply pw_below_drewN | apply below_drew1) | exact HB.out)⟩⟩
                        · rw [if_neg c21] at H
                          have c21b0 : ((bt t177 (ji11)) == 68) = false := beq_eq_false_iff_ne.mpr c21
                          have c21b1 : ((bt t177 (ji11)) != 68) = true := bne_iff_ne.mpr c21
                          have H' := Aside0.mk H
                          clear H
                          go_wp2
                          go_meet
                          case rel => exact ⟨_, (10), (false), (by first | rfl | (simp; done) | (simp [*]; done)), (by first | rfl | (simp; done) | (simp [*]; done)), H', ⟨by have := HJ2.out; have := HJ16.out; first | omega | exact Nat.le_refl _⟩, ⟨by repeat (first | (with_reducible first | exact HB.out | apply below_alloc | apply pw_below_drewN | apply below_drew1) | exact HB.out)⟩⟩
            case rest =>
              clear HC15
              try clear c1
              try clear p1
              try clear q1
              try clear hx1
              try clear c2
              try clear p2
              try clear c5
              try clear c5b0
              try clear c5b1
              try clear c6
              try clear c6b0
              try clear c6b1
              try clear p6
              try clear p7
              try clear q7
              try clear hx7
              try clear qi7
              try clear c8
              try clear c8b0
              try clear p9
              try clear q9
              try clear hx9
              try clear qi9
              try clear c10
              try clear c11
              try clear c12
              try clear c12b0
              try clear c13
              try clear c13b0
              try clear p14
              try clear q14
              try clear hx14
              try clear c16
              try clear c16b0
              try clear c16b1
              try clear c18
              try clear c18b0
              try clear c18b1
              try clear c19
              try clear c20
              try clear c20b0
              try clear c20b1
              try clear c21
              try clear c21b0
              try clear c21b1
              try clear p1
              try clear p14
              try clear p2
              try clear p6
              try clear p7
              try clear p9
              try clear q1
              try clear q14
              try clear q7
              try clear q9
              obtain ⟨kq, x5_14, x7_14, rfl, rfl, HA, HJ14, HB⟩ := hcut
              cases kq with
              | zero => exact absurd HA.out (by simp [pidginref03_Parse.j2])
              | succ kj14 =>
                have H := HA.out
                clear HA
                simp only [pidginref03_Parse.j2] at H
                have HC22 := Aside0.mk H
                clear H
                go_upto_if 42 with (fail)
                go_cut [4] (fun v4 wc => ∃ (kq : Nat) (x4_21 : ByteArray), v4 = .string x4_21 ∧ Aside0 (pidginref03_Parse.j3 kq x4_21 x5_14 = some (r1, r2)) ∧ Aside0 (kq ≤ kj14) ∧ Aside0 (Below w.heap.size w wc))
                case first =>
                  have H := HC22.out
                  clear HC22
                  by_cases c23 : x7_14 = true
                  · subst c23
                    have H1 : (if 0 ≤ (wrap64 ((t177.size : Int) - 1)) then (if (wrap64 ((t177.size : Int) - 1)) ≤ (t177.size : Int) then (pidginref03_Parse.j3 kj14 (t177.extract 0 ((wrap64 ((t177.size : Int) - 1)) : Int).toNat) x5_14) else (none)) else (none)) = some (r1, r2) := by rw [if_pos rfl] at H; exact H
                    clear H
                    have H := H1
                    clear H1
                    try clear hji11w
                    try clear hji11
                    obtain ⟨ji24, hji24⟩ : ∃ j_ : Int, (wrap64 ((t177.size : Int) - 1)) = j_ := ⟨_, rfl⟩
                    replace H : (if 0 ≤ (ji24) then (if (ji24) ≤ (t177.size : Int) then (pidginref03_Parse.j3 kj14 (t177.extract 0 ((ji24) : Int).toNat) x5_14) else (none)) else (none)) = some (r1, r2) := by first | (rw [hji24] at H; exact H) | (simp only [hji24] at H ⊢; exact H)
                    have hji24w : (IntKind.i64.wrap ((t177.size : Int) - 1)) = ji24 := (i64_w _).trans hji24
                    by_cases c25 : 0 ≤ (ji24)
                    · rw [if_pos c25] at H
                      have c25b0 := eq_true c25
                      have c25b1 : decide (0 ≤ (ji24)) = true := decide_eq_true c25
                      clear c25
                      by_cases c26 : (ji24) ≤ (t177.size : Int)
                      · rw [if_pos c26] at H
                        have c26b0 := eq_true c26
                        have c26b1 : decide ((ji24) ≤ (t177.size : Int)) = true := decide_eq_true c26
                        clear c26
                        have H' := Aside0.mk H
                        clear H
                        go_wp2
                        go_meet
                        case rel => exact ⟨_, (t177.extract 0 ((ji24) : Int).toNat), (by first | rfl | (simp; done) | (simp only [← hji24] <;> (first | rfl | (simp; done) | (simp [*]; done))) | (simp [*]; done)), H', ⟨by have := HJ2.out; have := HJ14.out; first | omega | exact Nat.le_refl _⟩, ⟨by repeat (first | (with_reducible first | exact HB.out | apply below_alloc | apply pw_below_drewN | apply below_drew1) | exact HB.out)⟩⟩
                      · rw [if_neg c26] at H
                        exact absurd H (by simp)
                    · rw [if_neg c25] at H
                      exact absurd H (by simp)
                  · replace c23 := Bool.eq_false_iff.mpr c23
                    subst c23
                    have H1 : (pidginref03_Parse.j3 kj14 t177 x5_14) = some (r1, r2) := by rw [if_neg (show ¬ (false = true) by decide)] at H; exact H
                    clear H
                    have H := H1
                    clear H1
                    have H' := Aside0.mk H
                    clear H
                    go_wp2
                    go_meet
                    case rel => exact ⟨_, (t177), (by first | rfl | (simp; done) | (simp [*]; done)), H', ⟨by have := HJ2.out; have := HJ14.out; first | omega | exact Nat.le_refl _⟩, ⟨by repeat (first | (with_reducible first | exact HB.out | apply below_alloc | apply pw_below_drewN | apply below_drew1) | exact HB.out)⟩⟩
                case rest =>
                  clear HC22
                  try clear c1
                  try clear p1
                  try clear q1
                  try clear hx1
                  try clear c2
                  try clear p2
                  try clear c5
                  try clear c5b0
                  try clear c5b1
                  try clear c6
                  try clear c6b0
                  try clear c6b1
                  try clear p6
                  try clear p7
                  try clear q7
                  try clear hx7
                  try clear qi7
                  try clear c8
                  try clear c8b0
                  try clear p9
                  try clear q9
                  try clear hx9
                  try clear qi9
                  try clear c10
                  try clear c11
                  try clear c12
                  try clear c12b0
                  try clear c13
                  try clear c13b0
                  try clear p14
                  try clear q14
                  try clear hx14
                  try clear c16
                  try clear c16b0
                  try clear c16b1
                  try clear c18
                  try clear c18b0
                  try clear c18b1
                  try clear c19
                  try clear c20
                  try clear c20b0
                  try clear c20b1
                  try clear c21
                  try clear c21b0
                  try clear c21b1
                  try clear c23
                  try clear c25
                  try clear c25b0
                  try clear c25b1
                  try clear c26
                  try clear c26b0
                  try clear c26b1
                  try clear p1
                  try clear p14
                  try clear p2
                  try clear p6
                  try clear p7
                  try clear p9
                  try clear q1
                  try clear q14
                  try clear q7
                  try clear q9
                  obtain ⟨kq, x4_21, rfl, HA, HJ21, HB⟩ := hcut
                  cases kq with
                  | zero => exact absurd HA.out (by simp [pidginref03_Parse.j3])
                  | succ kj21 =>
                    have H := HA.out
                    clear HA
                    simp only [pidginref03_Parse.j3] at H
                    have H' := Aside0.mk H
                    clear H
                    go_wp2
                    go_loopg [8, 9, 10] kj21 (fun kq v8 v9 v10 w' => ∃ (x8_4 : Int) (x9_4 : Bool) (x10_4 : Int), v8 = .int .i64 x8_4 ∧ v9 = .bool x9_4 ∧ v10 = .int .i64 x10_4 ∧ Aside0 (pidginref03_Parse.l0 kq x4_21 x5_14 x8_4 x9_4 x10_4 = some (r1, r2)) ∧ Aside0 (kq ≤ kj21) ∧ Aside0 (Below w.heap.size w w'))
                    case atStart => exact ⟨(0), (false), (0), (by first | rfl | (simp; done) | (simp [*]; done)), (by first | rfl | (simp; done) | (simp [*]; done)), (by first | rfl | (simp; done) | (simp [*]; done)), H', ⟨Nat.le_refl _⟩, ⟨by repeat (first | (with_reducible first | exact HB.out | apply below_alloc | apply pw_below_drewN | apply below_drew1) | exact HB.out)⟩⟩
                    case round =>
                      clear H'
                      try clear c1
                      try clear p1
                      try clear q1
                      try clear hx1
                      try clear c2
                      try clear p2
                      try clear c5
                      try clear c5b0
                      try clear c5b1
                      try clear c6
                      try clear c6b0
                      try clear c6b1
                      try clear p6
                      try clear p7
                      try clear q7
                      try clear hx7
                      try clear qi7
                      try clear c8
                      try clear c8b0
                      try clear p9
                      try clear q9
                      try clear hx9
                      try clear qi9
                      try clear c10
                      try clear c11
                      try clear c12
                      try clear c12b0
                      try clear c13
                      try clear c13b0
                      try clear p14
                      try clear q14
                      try clear hx14
                      try clear c16
                      try clear c16b0
                      try clear c16b1
                      try clear c18
                      try clear c18b0
                      try clear c18b1
                      try clear c19
                      try clear c20
                      try clear c20b0
                      try clear c20b1
                      try clear c21
                      try clear c21b0
                      try clear c21b1
                      try clear c23
                      try clear c25
                      try clear c25b0
                      try clear c25b1
                      try clear c26
                      try clear c26b0
                      try clear c26b1
                      try clear p1
                      try clear p14
                      try clear p2
                      try clear p6
                      try clear p7
                      try clear p9
                      try clear q1
                      try clear q14
                      try clear q7
                      try clear q9
                      obtain ⟨x8_4, x9_4, x10_4, rfl, rfl, rfl, HA, HK4, HB⟩ := hrel
                      cases gk with
                      | zero => exact absurd HA.out (by simp [pidginref03_Parse.l0])
                      | succ k4 =>
                        have H := HA.out
                        clear HA
                        simp only [pidginref03_Parse.l0] at H
                        by_cases c27 : x10_4 < (x4_21.size : Int)
                        · rw [if_pos c27] at H
                          have c27b0 : decide (x10_4 < (x4_21.size : Int)) = true := decide_eq_true c27
                          clear c27
                          by_cases c28 : 0 ≤ x10_4
                          · rw [if_pos c28] at H
                            have c28b0 : decide (0 ≤ x10_4) = true := decide_eq_true c28
                            clear c28
                            replace H := Option.bind_eq_some_iff.mp H
                            obtain ⟨t178, A300, H⟩ := H
                            replace H : (if t178 < 0 then (pidginref03_Parse.j5 k4 x4_21 x5_14 x8_4 x9_4 x10_4 t178 true) else (pidginref03_Parse.j5 k4 x4_21 x5_14 x8_4 x9_4 x10_4 t178 (decide (t178 ≥ x5_14)))) = some (r1, r2) := H
                            have A30 := Aside0.mk A300
                            clear A300
                            have HC31 := Aside0.mk H
                            clear H
                            have p29 : 0 ≤ (x10_4 : Int) := of_decide_eq_true (by first | (with_reducible assumption) | assumption)
                            have q29 : x10_4 < (x4_21.size : Int) := of_decide_eq_true (by first | (with_reducible assumption) | assumption)
                            have hx29 := bt_at x4_21 x10_4
                            replace p29 := eq_true p29
                            replace q29 := eq_true q29
                            go_upto_region 25 with (first | ((with_reducible refine gate_callee (f := 141) rfl ?_); refine goesL_ (some 57) rfl rfl Tryd.func141 (by kernel_rfl) rfl #[.int .u8 (bt x4_21 x10_4)] rfl (by (try simp only [List.map_toArray, List.map_cons, List.map_nil]); first | done | rfl | (simp only [List.length_drop, List.length_take]; rfl)) ?_; (with_reducible refine (pidginref03_digit.calls k4 (bt x4_21 x10_4) t178 _ A30.out).mono ?_); rintro e w' ⟨rfl, ⟨nd, rfl⟩⟩; refine ⟨_, rfl, ?_⟩))
                            (try simp only [Act.put, List.setIfInBounds_toArray, List.set_cons_zero, List.set_cons_succ])
                            go_cut [64] (fun v64 wc => ∃ (kq : Nat) (x64_30 : Bool), v64 = .bool x64_30 ∧ Aside0 (pidginref03_Parse.j5 kq x4_21 x5_14 x8_4 x9_4 x10_4 t178 x64_30 = some (r1, r2)) ∧ Aside0 (kq ≤ k4) ∧ Aside0 (Below w.heap.size w wc))
                            case first =>
                              have H := HC31.out
                              clear HC31
                              by_cases c32 : t178 < 0
                              · rw [if_pos c32] at H
                                have c32b0 : decide (t178 < 0) = true := decide_eq_true c32
                                clear c32
                                (first | rw [c32b0] | (simp only [i64_w, i32_w]; rw [c32b0]) | skip)
                                have H' := Aside0.mk H
                                clear H
                                go_wp2
                                go_meet
                                case rel => exact ⟨_, (true), (by first | rfl | (simp; done) | (simp [*]; done)), H', ⟨by have := HJ2.out; have := HJ14.out; have := HJ21.out; have := HK4.out; first | omega | exact Nat.le_refl _⟩, ⟨by repeat (first | (with_reducible first | exact HB.out | apply below_alloc | apply pw_below_drewN | apply below_drew1) | exact HB.out)⟩⟩
                              · rw [if_neg c32] at H
                                have c32b0 : decide (t178 < 0) = false := decide_eq_false c32
                                clear c32
                                (first | rw [c32b0] | (simp only [i64_w, i32_w]; rw [c32b0]) | skip)
                                have H' := Aside0.mk H
                                clear H
                                go_wp2
                                go_meet
                                case rel => exact ⟨_, (decide (t178 ≥ x5_14)), (by first | rfl | (simp; done) | (simp [*]; done)), H', ⟨by have := HJ2.out; have := HJ14.out; have := HJ21.out; have := HK4.out; first | omega | exact Nat.le_refl _⟩, ⟨by repeat (first | (with_reducible first | exact HB.out | apply below_alloc | apply pw_below_drewN | apply below_drew1) | exact HB.out)⟩⟩
                            case rest =>
                              clear HC31
                              try clear c1
                              try clear p1
                              try clear q1
                              try clear hx1
                              try clear c2
                              try clear p2
                              try clear q2
                              try clear hx2
                              try clear c3
                              try clear c5
                              try clear c5b0
                              try clear c5b1
                              try clear c6
                              try clear c6b0
                              try clear c6b1
                              try clear p6
                              try clear p7
                              try clear q7
                              try clear hx7
                              try clear qi7
                              try clear c8
                              try clear c8b0
                              try clear p9
                              try clear q9
                              try clear hx9
                              try clear qi9
                              try clear c10
                              try clear c11
                              try clear c12
                              try clear c12b0
                              try clear c13
                              try clear c13b0
                              try clear c14
                              try clear p14
                              try clear q14
                              try clear hx14
                              try clear c16
                              try clear c16b0
                              try clear c16b1
                              try clear c18
                              try clear c18b0
                              try clear c18b1
                              try clear c19
                              try clear c20
                              try clear c20b0
                              try clear c20b1
                              try clear c21
                              try clear c21b0
                              try clear c21b1
                              try clear c23
                              try clear c25
                              try clear c25b0
                              try clear c25b1
                              try clear c26
                              try clear c26b0
                              try clear c26b1
                              try clear c27
                              try clear c27b0
                              try clear c28
                              try clear c28b0
                              try clear p29
                              try clear q29
                              try clear hx29
                              try clear c32
                              try clear c32b0
                              try clear p1
                              try clear p14
                              try clear p2
                              try clear p29
                              try clear p6
                              try clear p7
                              try clear p9
                              try clear q1
                              try clear q14
                              try clear q29
                              try clear q7
                              try clear q9
                              obtain ⟨kq, x64_30, rfl, HA, HJ30, HB⟩ := hcut
                              cases kq with
                              | zero => exact absurd HA.out (by simp [pidginref03_Parse.j5])
                              | succ kj30 =>
                                have H := HA.out
                                clear HA
                                simp only [pidginref03_Parse.j5] at H
                                by_cases c33 : x64_30 = true
                                · subst c33
                                  have H1 : (some (0, 2)) = some (r1, r2) := by rw [if_pos rfl] at H; exact H
                                  clear H
                                  have H := H1
                                  clear H1
                                  simp only [Option.some.injEq, Prod.mk.injEq] at H
                                  obtain ⟨rfl, rfl⟩ := H
                                  go_wp2
                                  go_ret2
                                  exact ⟨by first | rfl | (simp [errW_none, errW_some] <;> rfl) | (simp only [← hji11]; first | rfl | (simp [errW_none, errW_some] <;> rfl)) | (simp [*, errW_none, errW_some] <;> rfl), by repeat (first | (with_reducible first | exact HB.out | apply below_alloc | apply pw_below_drewN | apply below_drew1) | exact HB.out)⟩
                                · replace c33 := Bool.eq_false_iff.mpr c33
                                  subst c33
                                  have H1 : (if (wrap64 ((wrap64 (x8_4 * x5_14)) + t178)) > 65535 then (pidginref03_Parse.l0 kj30 x4_21 x5_14 65536 true (wrap64 (x10_4 + 1))) else (pidginref03_Parse.l0 kj30 x4_21 x5_14 (wrap64 ((wrap64 (x8_4 * x5_14)) + t178)) x9_4 (wrap64 (x10_4 + 1)))) = some (r1, r2) := by rw [if_neg (show ¬ (false = true) by decide)] at H; exact H
                                  clear H
                                  have H := H1
                                  clear H1
                                  by_cases c34 : (wrap64 ((wrap64 (x8_4 * x5_14)) + t178)) > 65535
                                  · rw [if_pos c34] at H
                                    have c34b0 : decide (65535 < (wrap64 ((wrap64 (x8_4 * x5_14)) + t178))) = true := decide_eq_true c34
                                    clear c34
                                    have H' := Aside0.mk H
                                    clear H
                                    go_wp2
                                    go_roundg kj30
                                    case measure => have := HJ2.out; have := HJ14.out; have := HJ21.out; have := HK4.out; have := HJ30.out; omega
                                    case rel => exact ⟨(65536), (true), (wrap64 (x10_4 + 1)), (by first | rfl | (simp; done) | (simp [*]; done)), (by first | rfl | (simp; done) | (simp [*]; done)), (by first | rfl | (simp; done) | (simp [*]; done)), H', ⟨by have := HJ2.out; have := HJ14.out; have := HJ21.out; have := HK4.out; have := HJ30.out; omega⟩, ⟨by repeat (first | (with_reducible first | exact HB.out | apply below_alloc | apply pw_below_drewN | apply below_drew1) | exact HB.out)⟩⟩
                                  · rw [if_neg c34] at H
                                    have c34b0 : decide (65535 < (wrap64 ((wrap64 (x8_4 * x5_14)) + t178))) = false := decide_eq_false c34
                                    clear c34
                                    have H' := Aside0.mk H
                                    clear H
                                    go_wp2
                                    go_roundg kj30
                                    case measure => have := HJ2.out; have := HJ14.out; have := HJ21.out; have := HK4.out; have := HJ30.out; omega
                                    case rel => exact ⟨(wrap64 ((wrap64 (x8_4 * x5_14)) + t178)), (x9_4), (wrap64 (x10_4 + 1)), (by first | rfl | (simp; done) | (simp [*]; done)), (by first | rfl | (simp; done) | (simp [*]; done)), (by first | rfl | (simp; done) | (simp [*]; done)), H', ⟨by have := HJ2.out; have := HJ14.out; have := HJ21.out; have := HK4.out; have := HJ30.out; omega⟩, ⟨by repeat (first | (with_reducible first | exact HB.out | apply below_alloc | apply pw_below_drewN | apply below_drew1) | exact HB.out)⟩⟩
                          · rw [if_neg c28] at H
                            exact absurd H (by simp)
                        · rw [if_neg c27] at H
                          have c27b0 : decide (x10_4 < (x4_21.size : Int)) = false := decide_eq_false c27
                          clear c27
                          by_cases c35 : x9_4 = true
                          · subst c35
                            have H1 : (some (0, 5)) = some (r1, r2) := by rw [if_pos rfl] at H; exact H
                            clear H
                            have H := H1
                            clear H1
                            simp only [Option.some.injEq, Prod.mk.injEq] at H
                            obtain ⟨rfl, rfl⟩ := H
                            go_wp2
                            go_ret2
                            exact ⟨by first | rfl | (simp [errW_none, errW_some] <;> rfl) | (simp only [← hji11]; first | rfl | (simp [errW_none, errW_some] <;> rfl)) | (simp [*, errW_none, errW_some] <;> rfl), by repeat (first | (with_reducible first | exact HB.out | apply below_alloc | apply pw_below_drewN | apply below_drew1) | exact HB.out)⟩
                          · replace c35 := Bool.eq_false_iff.mpr c35
                            subst c35
                            have H1 : (some (IntKind.u16.wrap (x8_4), 0)) = some (r1, r2) := by rw [if_neg (show ¬ (false = true) by decide)] at H; exact H
                            clear H
                            have H := H1
                            clear H1
                            simp only [Option.some.injEq, Prod.mk.injEq] at H
                            obtain ⟨rfl, rfl⟩ := H
                            go_wp2
                            go_ret2
                            exact ⟨by first | rfl | (simp [errW_none, errW_some] <;> rfl) | (simp only [← hji11]; first | rfl | (simp [errW_none, errW_some] <;> rfl)) | (simp [*, errW_none, errW_some] <;> rfl), by repeat (first | (with_reducible first | exact HB.out | apply below_alloc | apply pw_below_drewN | apply below_drew1) | exact HB.out)⟩
          · rw [if_neg c13] at H
            exact absurd H (by simp)
        · rw [if_neg c12] at H
          exact absurd H (by simp)
end Go.Proofs.YtejhagejjogbaaaDoor.Pn
