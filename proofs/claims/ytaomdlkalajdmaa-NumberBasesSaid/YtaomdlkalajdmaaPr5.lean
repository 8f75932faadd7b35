-- Printed by this session's program pp.py.
import Derived.Test.YtaomdlkalajdmaaPr0
import Derived.Test.YtaomdlkalajdmaaPr1
import Derived.Test.YtaomdlkalajdmaaPr2
namespace Go.Proofs.Ytaomdlkalajdmaa.Pr
open Go.RowKit Go.Proofs.YtaomdlkalajdmaaW.PrintWords Go.Proofs.YtaomdlkalajdmaaW.PrintLast Go.Proofs.YtaomdlkalajdmaaW.PrintMore Go.Proofs.Ytaomdlkalajdmaa.Given
attribute [local go_sem] max2_int min2_int max_two min_two max_three min_three max_four min_four   -- for this text's walks alone
set_option linter.unusedVariables false
set_option linter.unusedSimpArgs false

/-! ### pidginlaw03_NumberDigits: function 6 -/
def pidginlaw03_NumberDigits.j0 : Nat → Int → ByteArray → Bool → Option (Bool)
  | 0, _, _, _ => none
  | k + 1, x0, x3, x27 => if x27 = true then (some false) else (if x0 < 10 then (if (x3.size : Int) = 1 then ((pidginlaw03_alive.f k).bind fun t182 => (some t182)) else (some false)) else (if 0 < (x3.size : Int) then (if (bt x3 0) = 48 then (if 1 ≤ (x3.size : Int) then ((number_Parse.f k (x3.extract 1 x3.size)).bind fun bt183 => (if bt183.2 = 2 then ((pidginlaw03_alive.f k).bind fun t185 => (some t185)) else (some false))) else (none)) else (if 1 ≤ (x3.size : Int) then (if 1 + (x3.extract 1 x3.size).size ≤ 9223372036854775807 then ((number_Parse.f k ((⟨#[48]⟩ : ByteArray) ++ (x3.extract 1 x3.size))).bind fun bt186 => (if bt186.1 = x0 then (some false) else ((pidginlaw03_alive.f k).bind fun t188 => (some t188)))) else (none)) else (none))) else (none)))
def pidginlaw03_NumberDigits.f (k : Nat) (a0 : Int) : Option (Bool) := (number_Show.f k a0).bind fun t181 => (if (t181.size : Int) < 1 then (pidginlaw03_NumberDigits.j0 k a0 t181 true) else (if (t181.size : Int) > 6 then (pidginlaw03_NumberDigits.j0 k a0 t181 true) else (if 0 < (t181.size : Int) then (if (bt t181 0) < 48 then (pidginlaw03_NumberDigits.j0 k a0 t181 true) else (pidginlaw03_NumberDigits.j0 k a0 t181 (decide ((bt t181 0) > 57)))) else (none))))
theorem pidginlaw03_NumberDigits.mono_l : ∀ k, (∀ y0 y1 y2, LeO (pidginlaw03_NumberDigits.j0 k y0 y1 y2) (pidginlaw03_NumberDigits.j0 (k + 1) y0 y1 y2))
  | 0 => fun _ _ _ r h => by simp [pidginlaw03_NumberDigits.j0] at h
  | k + 1 => by
    have ih0 := pidginlaw03_NumberDigits.mono_l k
    · intro y0 y1 y2
      unfold pidginlaw03_NumberDigits.j0
      repeat' first
      | (with_reducible exact ih0 _ _ _)
      | (with_reducible exact number_Parse.mono _ _)
      | (with_reducible exact number_Show.mono _ _)
      | (with_reducible exact pidginlaw03_alive.mono _)
      | (with_reducible exact LeO.refl _)
      | (with_reducible exact LeO.none _)
      | (with_reducible refine LeO.ite ?_ ?_)
      | (with_reducible refine LeO.bind ?_ (fun _ => ?_))
      | exact ih0 _ _ _
      | exact number_Parse.mono _ _
      | exact number_Show.mono _ _
      | exact pidginlaw03_alive.mono _
      | exact LeO.none _
      | refine LeO.ite ?_ ?_
      | refine LeO.bind ?_ (fun _ => ?_)
theorem pidginlaw03_NumberDigits.mono : ∀ a0 k, LeO (pidginlaw03_NumberDigits.f k a0) (pidginlaw03_NumberDigits.f (k + 1) a0) := by
  intro a0 k
  have ih0 := pidginlaw03_NumberDigits.mono_l k
  unfold pidginlaw03_NumberDigits.f
  repeat' first
      | (with_reducible exact ih0 _ _ _)
      | (with_reducible exact number_Parse.mono _ _)
      | (with_reducible exact number_Show.mono _ _)
      | (with_reducible exact pidginlaw03_alive.mono _)
      | (with_reducible exact LeO.refl _)
      | (with_reducible exact LeO.none _)
      | (with_reducible refine LeO.ite ?_ ?_)
      | (with_reducible refine LeO.bind ?_ (fun _ => ?_))
      | exact ih0 _ _ _
      | exact number_Parse.mono _ _
      | exact number_Show.mono _ _
      | exact pidginlaw03_alive.mono _
      | exact LeO.none _
      | refine LeO.ite ?_ ?_
      | refine LeO.bind ?_ (fun _ => ?_)
set_option maxHeartbeats 8000000 in
set_option maxRecDepth 100000 in
theorem pidginlaw03_NumberDigits.calls (k : Nat) (a0 : Int) (r : Bool) (w : World) (h : pidginlaw03_NumberDigits.f k a0 = some r) :
    Calls Try.prog 6 #[.int .u16 a0] w fun e w' => e = .returned (.bool r) ∧ Below w.heap.size w w' := by
  have HB := Aside0.mk (Below.refl w.heap.size w)
  have H : ((number_Show.f k a0).bind fun t181 => (if (t181.size : Int) < 1 then (pidginlaw03_NumberDigits.j0 k a0 t181 true) else (if (t181.size : Int) > 6 then (pidginlaw03_NumberDigits.j0 k a0 t181 true) else (if 0 < (t181.size : Int) then (if (bt t181 0) < 48 then (pidginlaw03_NumberDigits.j0 k a0 t181 true) else (pidginlaw03_NumberDigits.j0 k a0 t181 (decide ((bt t181 0) > 57)))) else (none))))) = some r := h
  clear h
  replace H := Option.bind_eq_some_iff.mp H
  obtain ⟨t181, A20, H⟩ := H
  replace H : (if (t181.size : Int) < 1 then (pidginlaw03_NumberDigits.j0 k a0 t181 true) else (if (t181.size : Int) > 6 then (pidginlaw03_NumberDigits.j0 k a0 t181 true) else (if 0 < (t181.size : Int) then (if (bt t181 0) < 48 then (pidginlaw03_NumberDigits.j0 k a0 t181 true) else (pidginlaw03_NumberDigits.j0 k a0 t181 (decide ((bt t181 0) > 57)))) else (none)))) = some r := H
  have A2 := Aside0.mk A20
  clear A20
  have HC3 := Aside0.mk H
  clear H
  go_enter Try.func6, Try.ntmps6
  go_upto_region 2 with (first | ((with_reducible refine gate_callee (f := 11) rfl ?_); refine goesL_ (some 9) rfl rfl Try.func11 (by kernel_rfl) rfl #[.int .u16 a0] rfl (by (try simp only [List.map_toArray, List.map_cons, List.map_nil]); first | done | rfl | (simp only [List.length_drop, List.length_take]; rfl)) ?_; (with_reducible refine (number_Show.calls k a0 t181 _ A2.out).mono ?_); rintro e w4 ⟨rfl, hb⟩; refine ⟨_, rfl, ?_⟩; have n0_ := Aside0.mk (below_step (by repeat (first | (with_reducible first | exact HB.out | apply below_alloc | apply pw_below_drewN | apply below_drew1) | exact HB.out)) hb); clear HB; have HB := n0_; clear n0_; (try clear hb); (try clear hb2); (try clear hk); (try clear hi)))
  (try simp only [Act.put, List.setIfInBounds_toArray, List.set_cons_zero, List.set_cons_succ])
  go_cut [27] (fun v27 wc => ∃ (kq : Nat) (x27_2 : Bool), v27 = .bool x27_2 ∧ Aside0 (pidginlaw03_NumberDigits.j0 kq a0 t181 x27_2 = some r) ∧ Aside0 (kq ≤ k) ∧ Aside0 (Below w.heap.size w wc))
  case first =>
    have H := HC3.out
    clear HC3
    by_cases c5 : (t181.size : Int) < 1
    · rw [if_pos c5] at H
      have c5b0 : decide ((t181.size : Int) < 1) = true := decide_eq_true c5
      have c5b1 : decide (t181.size < 1) = true := decide_eq_true (by omega)
      clear c5
      (first | rw [c5b0] | (simp only [i64_w, i32_w]; rw [c5b0]) | skip)
      have H' := Aside0.mk H
      clear H
      go_wp2
      go_meet
      case rel => exact ⟨_, (true), (by first | rfl | (simp; done) | (simp [*]; done)), H', ⟨by first | omega | exact Nat.le_refl _⟩, ⟨by repeat (first | (with_reducible first | exact HB.out | apply below_alloc | apply pw_below_drewN | apply below_drew1) | exact HB.out)⟩⟩
    · rw [if_neg c5] at H
      have c5b0 : decide ((t181.size : Int) < 1) = false := decide_eq_false c5
      have c5b1 : decide (t181.size < 1) = false := decide_eq_false (by omega)
      clear c5
      (first | rw [c5b0] | (simp only [i64_w, i32_w]; rw [c5b0]) | skip)
      by_cases c6 : (t181.size : Int) > 6
      · rw [if_pos c6] at H
        have c6b0 : decide (6 < (t181.size : Int)) = true := decide_eq_true c6
        have c6b1 : decide (6 < t181.size) = true := decide_eq_true (by omega)
        clear c6
        have H' := Aside0.mk H
        clear H
        go_wp2
        go_meet
        case rel => exact ⟨_, (true), (by first | rfl | (simp; done) | (simp [*]; done)), H', ⟨by first | omega | exact Nat.le_refl _⟩, ⟨by repeat (first | (with_reducible first | exact HB.out | apply below_alloc | apply pw_below_drewN | apply below_drew1) | exact HB.out)⟩⟩
      · rw [if_neg c6] at H
        have c6b0 : decide (6 < (t181.size : Int)) = false := decide_eq_false c6
        have c6b1 : decide (6 < t181.size) = false := decide_eq_false (by omega)
        clear c6
        by_cases c7 : 0 < (t181.size : Int)
        · rw [if_pos c7] at H
          have c7b0 : decide (0 < (t181.size : Int)) = true := decide_eq_true c7
          have c7b1 : decide (0 < t181.size) = true := decide_eq_true (by omega)
          clear c7
          by_cases c9 : (bt t181 0) < 48
          · rw [if_pos c9] at H
            have c9b0 : decide ((bt t181 0) < 48) = true := decide_eq_true c9
            clear c9
            have H' := Aside0.mk H
            clear H
            have p8 : 0 ≤ (0 : Int) := (by omega)
            have q8 : 0 < t181.size := (by have : (0 : Int) < (t181.size : Int) := of_decide_eq_true (by first | (with_reducible assumption) | assumption); omega)
            have hx8 : ∀ h : 0 < t181.size, ((t181[0]'h).toNat : Int) = bt t181 0 := bt_at t181 0
            clear p8
            have qi8 : (0 < (t181.size : Int)) = True := eq_true (of_decide_eq_true (by first | (with_reducible assumption) | assumption))
            replace q8 := eq_true q8
            go_wp2
            go_meet
            case rel => exact ⟨_, (true), (by first | rfl | (simp; done) | (simp [*]; done)), H', ⟨by first | omega | exact Nat.le_refl _⟩, ⟨by repeat (first | (with_reducible first | exact HB.out | apply below_alloc | apply pw_below_drewN | apply below_drew1) | exact HB.out)⟩⟩
          · rw [if_neg c9] at H
            have c9b0 : decide ((bt t181 0) < 48) = false := decide_eq_false c9
            clear c9
            have H' := Aside0.mk H
            clear H
            have p8 : 0 ≤ (0 : Int) := (by omega)
            have q8 : 0 < t181.size := (by have : (0 : Int) < (t181.size : Int) := of_decide_eq_true (by first | (with_reducible assumption) | assumption); omega)
            have hx8 : ∀ h : 0 < t181.size, ((t181[0]'h).toNat : Int) = bt t181 0 := bt_at t181 0
            clear p8
            have qi8 : (0 < (t181.size : Int)) = True := eq_true (of_decide_eq_true (by first | (with_reducible assumption) | assumption))
            replace q8 := eq_true q8
            have p10 : 0 ≤ (0 : Int) := (by omega)
            have q10 : 0 < t181.size := (by have : (0 : Int) < (t181.size : Int) := of_decide_eq_true (by first | (with_reducible assumption) | assumption); omega)
            have hx10 : ∀ h : 0 < t181.size, ((t181[0]'h).toNat : Int) = bt t181 0 := bt_at t181 0
            clear p10
            have qi10 : (0 < (t181.size : Int)) = True := eq_true (of_decide_eq_true (by first | (with_reducible assumption) | assumption))
            replace q10 := eq_true q10
            go_wp2
            go_meet
            case rel => exact ⟨_, (decide ((bt t181 0) > 57)), (by first | rfl | (simp; done) | (simp [*]; done)), H', ⟨by first | omega | exact Nat.le_refl _⟩, ⟨by repeat (first | (with_reducible first | exact HB.out | apply below_alloc | apply pw_below_drewN | apply below_drew1) | exact HB.out)⟩⟩
        · rw [if_neg c7] at H
          exact absurd H (by simp)
  case rest =>
    clear HC3
    try clear c1
    try clear p1
    try clear q1
    try clear hx1
    try clear qi1
    try clear p2
    try clear c5
    try clear c5b0
    try clear c5b1
    try clear c6
    try clear c6b0
    try clear c6b1
    try clear c7
    try clear c7b0
    try clear c7b1
    try clear p8
    try clear q8
    try clear hx8
    try clear qi8
    try clear c9
    try clear c9b0
    try clear p10
    try clear q10
    try clear hx10
    try clear qi10
    try clear p10
    try clear p8
    try clear q10
    try clear q8
    obtain ⟨kq, x27_2, rfl, HA, HJ2, HB⟩ := hcut
    cases kq with
    | zero => exact absurd HA.out (by simp [pidginlaw03_NumberDigits.j0])
    | succ kj2 =>
      have H := HA.out
      clear HA
      simp only [pidginlaw03_NumberDigits.j0] at H
      by_cases c11 : x27_2 = true
      · subst c11
        have H1 : (some false) = some r := by rw [if_pos rfl] at H; exact H
        clear H
        have H := H1
        clear H1
        obtain rfl := Option.some.inj H
        go_wp2
        go_ret
        exact ⟨by first | rfl | (simp [errW_none, errW_some] <;> rfl) | (simp [*, errW_none, errW_some] <;> rfl), by repeat (first | (with_reducible first | exact HB.out | apply below_alloc | apply pw_below_drewN | apply below_drew1) | exact HB.out)⟩
      · replace c11 := Bool.eq_false_iff.mpr c11
        subst c11
        have H1 : (if a0 < 10 then (if (t181.size : Int) = 1 then ((pidginlaw03_alive.f kj2).bind fun t182 => (some t182)) else (some false)) else (if 0 < (t181.size : Int) then (if (bt t181 0) = 48 then (if 1 ≤ (t181.size : Int) then ((number_Parse.f kj2 (t181.extract 1 t181.size)).bind fun bt183 => (if bt183.2 = 2 then ((pidginlaw03_alive.f kj2).bind fun t185 => (some t185)) else (some false))) else (none)) else (if 1 ≤ (t181.size : Int) then (if 1 + (t181.extract 1 t181.size).size ≤ 9223372036854775807 then ((number_Parse.f kj2 ((⟨#[48]⟩ : ByteArray) ++ (t181.extract 1 t181.size))).bind fun bt186 => (if bt186.1 = a0 then (some false) else ((pidginlaw03_alive.f kj2).bind fun t188 => (some t188)))) else (none)) else (none))) else (none))) = some r := by rw [if_neg (show ¬ (false = true) by decide)] at H; exact H
        clear H
        have H := H1
        clear H1
        by_cases c12 : a0 < 10
        · rw [if_pos c12] at H
          have c12b0 : decide (a0 < 10) = true := decide_eq_true c12
          clear c12
          by_cases c13 : (t181.size : Int) = 1
          · rw [if_pos c13] at H
            have c13b0 : ((t181.size : Int) == 1) = true := beq_iff_eq.mpr c13
            have c13b1 : ((t181.size : Int) != 1) = false := bne_eq_false_iff_eq.mpr c13
            clear c13
            replace H := Option.bind_eq_some_iff.mp H
            obtain ⟨t182, A140, H⟩ := H
            replace H : (some t182) = some r := H
            have A14 := Aside0.mk A140
            clear A140
            obtain rfl := Option.some.inj H
            go_wp2_with (first | (go_at_call 8; (with_reducible refine (pidginlaw03_alive.calls kj2  t182 _ A14.out).mono ?_); rintro e w15 ⟨rfl, hb⟩; have n0_ := Aside0.mk (below_step (by repeat (first | (with_reducible first | exact HB.out | apply below_alloc | apply pw_below_drewN | apply below_drew1) | exact HB.out)) hb); clear HB; have HB := n0_; clear n0_; (try clear hb); (try clear hb2); (try clear hk); (try clear hi)))
            go_ret
            exact ⟨by first | rfl | (simp [errW_none, errW_some] <;> rfl) | (simp [*, errW_none, errW_some] <;> rfl), by repeat (first | (with_reducible first | exact HB.out | apply below_alloc | apply pw_below_drewN | apply below_drew1) | exact HB.out)⟩
          · rw [if_neg c13] at H
            have c13b0 : ((t181.size : Int) == 1) = false := beq_eq_false_iff_ne.mpr c13
            have c13b1 : ((t181.size : Int) != 1) = true := bne_iff_ne.mpr c13
            obtain rfl := Option.some.inj H
            go_wp2
            go_ret
            exact ⟨by first | rfl | (simp [errW_none, errW_some] <;> rfl) | (simp [*, errW_none, errW_some] <;> rfl), by repeat (first | (with_reducible first | exact HB.out | apply below_alloc | apply pw_below_drewN | apply below_drew1) | exact HB.out)⟩
        · rw [if_neg c12] at H
          have c12b0 : decide (a0 < 10) = false := decide_eq_false c12
          clear c12
          by_cases c16 : 0 < (t181.size : Int)
          · rw [if_pos c16] at H
            have c16b0 : decide (0 < (t181.size : Int)) = true := decide_eq_true c16
            have c16b1 : decide (0 < t181.size) = true := decide_eq_true (by omega)
            clear c16
            by_cases c18 : (bt t181 0) = 48
            · rw [if_pos c18] at H
              have c18b0 : ((bt t181 0) == 48) = true := beq_iff_eq.mpr c18
              have c18b1 : ((bt t181 0) != 48) = false := bne_eq_false_iff_eq.mpr c18
              clear c18
              by_cases c19 : 1 ≤ (t181.size : Int)
              · rw [if_pos c19] at H
                have c19b0 := eq_true c19
                have c19b1 : decide (1 ≤ (t181.size : Int)) = true := decide_eq_true c19
                clear c19
                replace H := Option.bind_eq_some_iff.mp H
                obtain ⟨⟨t183, t184⟩, A200, H⟩ := H
                replace H : (if t184 = 2 then ((pidginlaw03_alive.f kj2).bind fun t185 => (some t185)) else (some false)) = some r := H
                have A20 := Aside0.mk A200
                clear A200
                by_cases c21 : t184 = 2
                · rw [if_pos c21] at H
                  have c21b0 : (t184 == 2) = true := beq_iff_eq.mpr c21
                  have c21b1 : (t184 != 2) = false := bne_eq_false_iff_eq.mpr c21
                  clear c21
                  replace H := Option.bind_eq_some_iff.mp H
                  obtain ⟨t185, A220, H⟩ := H
                  replace H : (some t185) = some r := H
                  have A22 := Aside0.mk A220
                  clear A220
                  obtain rfl := Option.some.inj H
                  have p17 : 0 ≤ (0 : Int) := (by omega)
                  have q17 : 0 < t181.size := (by have : (0 : Int) < (t181.size : Int) := of_decide_eq_true (by first | (with_reducible assumption) | assumption); omega)
                  have hx17 : ∀ h : 0 < t181.size, ((t181[0]'h).toNat : Int) = bt t181 0 := bt_at t181 0
                  clear p17
                  have qi17 : (0 < (t181.size : Int)) = True := eq_true (of_decide_eq_true (by first | (with_reducible assumption) | assumption))
                  replace q17 := eq_true q17
                  go_wp2_with (first | ((with_reducible refine gate_callee (f := 9) rfl ?_); refine goesL_ (some 42) rfl rfl Try.func9 (by kernel_rfl) rfl #[.string (t181.extract 1 t181.size)] rfl (by (try simp only [List.map_toArray, List.map_cons, List.map_nil]); first | done | rfl | (simp only [List.length_drop, List.length_take]; rfl)) ?_; (with_reducible refine (number_Parse.calls kj2 (t181.extract 1 t181.size) t183 t184 _ A20.out).mono ?_); rintro e w23 ⟨rfl, hb⟩; refine ⟨_, rfl, ?_⟩; have n0_ := Aside0.mk (below_step (by repeat (first | (with_reducible first | exact HB.out | apply below_alloc | apply pw_below_drewN | apply below_drew1) | exact HB.out)) hb); clear HB; have HB := n0_; clear n0_; (try clear hb); (try clear hb2); (try clear hk); (try clear hi)) | (go_at_call 8; (with_reducible refine (pidginlaw03_alive.calls kj2  t185 _ A22.out).mono ?_); rintro e w24 ⟨rfl, hb⟩; have n0_ := Aside0.mk (below_step (by repeat (first | (with_reducible first | exact HB.out | apply below_alloc | apply pw_below_drewN | apply below_drew1) | exact HB.out)) hb); clear HB; have HB := n0_; clear n0_; (try clear hb); (try clear hb2); (try clear hk); (try clear hi)))
                  go_ret
                  exact ⟨by first | rfl | (simp [errW_none, errW_some] <;> rfl) | (simp [*, errW_none, errW_some] <;> rfl), by repeat (first | (with_reducible first | exact HB.out | apply below_alloc | apply pw_below_drewN | apply below_drew1) | exact HB.out)⟩
                · rw [if_neg c21] at H
                  have c21b0 : (t184 == 2) = false := beq_eq_false_iff_ne.mpr c21
                  have c21b1 : (t184 != 2) = true := bne_iff_ne.mpr c21
                  obtain rfl := Option.some.inj H
                  have p17 : 0 ≤ (0 : Int) := (by omega)
                  have q17 : 0 < t181.size := (by have : (0 : Int) < (t181.size : Int) := of_decide_eq_true (by first | (with_reducible assumption) | assumption); omega)
                  have hx17 : ∀ h : 0 < t181.size, ((t181[0]'h).toNat : Int) = bt t181 0 := bt_at t181 0
                  clear p17
                  have qi17 : (0 < (t181.size : Int)) = True := eq_true (of_decide_eq_true (by first | (with_reducible assumption) | assumption))
                  replace q17 := eq_true q17
                  go_wp2_with (first | ((with_reducible refine gate_callee (f := 9) rfl ?_); refine goesL_ (some 42) rfl rfl Try.func9 (by kernel_rfl) rfl #[.string (t181.extract 1 t181.size)] rfl (by (try simp only [List.map_toArray, List.map_cons, List.map_nil]); first | done | rfl | (simp only [List.length_drop, List.length_take]; rfl)) ?_; (with_reducible refine (number_Parse.calls kj2 (t181.extract 1 t181.size) t183 t184 _ A20.out).mono ?_); rintro e w25 ⟨rfl, hb⟩; refine ⟨_, rfl, ?_⟩; have n0_ := Aside0.mk (below_step (by repeat (first | (with_reducible first | exact HB.out | apply below_alloc | apply pw_below_drewN | apply below_drew1) | exact HB.out)) hb); clear HB; have HB := n0_; clear n0_; (try clear hb); (try clear hb2); (try clear hk); (try clear hi)))
                  go_ret
                  exact ⟨by first | rfl | (simp [errW_none, errW_some] <;> rfl) | (simp [*, errW_none, errW_some] <;> rfl), by repeat (first | (with_reducible first | exact HB.out | apply below_alloc | apply pw_below_drewN | apply below_drew1) | exact HB.out)⟩
              · rw [if_neg c19] at H
                exact absurd H (by simp)
            · rw [if_neg c18] at H
              have c18b0 : ((bt t181 0) == 48) = false := beq_eq_false_iff_ne.mpr c18
              have c18b1 : ((bt t181 0) != 48) = true := bne_iff_ne.mpr c18
              by_cases c26 : 1 ≤ (t181.size : Int)
              · rw [if_pos c26] at H
                have c26b0 := eq_true c26
                have c26b1 : decide (1 ≤ (t181.size : Int)) = true := decide_eq_true c26
                clear c26
                by_cases c27 : 1 + (t181.extract 1 t181.size).size ≤ 9223372036854775807
                · rw [if_pos c27] at H
                  have c27b0 := eq_true c27
                  have c27b1 : decide (1 + (t181.extract 1 t181.size).size ≤ 9223372036854775807) = true := decide_eq_true c27
                  try have c27b2 : (9223372036854775807 < 1 + (t181.extract 1 t181.size).size) = False := eq_false (Nat.not_lt.2 c27)
                  try (have c27b3 := c27b2; simp only [ByteArray.size_extract, Nat.min_self] at c27b3)
                  replace H := Option.bind_eq_some_iff.mp H
                  obtain ⟨⟨t186, t187⟩, A280, H⟩ := H
                  replace H : (if t186 = a0 then (some false) else ((pidginlaw03_alive.f kj2).bind fun t188 => (some t188))) = some r := H
                  have A28 := Aside0.mk A280
                  clear A280
                  by_cases c29 : t186 = a0
                  · rw [if_pos c29] at H
                    have c29b0 : (t186 == a0) = true := beq_iff_eq.mpr c29
                    have c29b1 : (t186 != a0) = false := bne_eq_false_iff_eq.mpr c29
                    clear c29
                    obtain rfl := Option.some.inj H
                    have p17 : 0 ≤ (0 : Int) := (by omega)
                    have q17 : 0 < t181.size := (by have : (0 : Int) < (t181.size : Int) := of_decide_eq_true (by first | (with_reducible assumption) | assumption); omega)
                    have hx17 : ∀ h : 0 < t181.size, ((t181[0]'h).toNat : Int) = bt t181 0 := bt_at t181 0
                    clear p17
                    have qi17 : (0 < (t181.size : Int)) = True := eq_true (of_decide_eq_true (by first | (with_reducible assumption) | assumption))
                    replace q17 := eq_true q17
                    go_wp2_with (first | ((with_reducible refine gate_callee (f := 9) rfl ?_); refine goesL_ (some 54) rfl rfl Try.func9 (by kernel_rfl) rfl #[.string ((⟨#[48]⟩ : ByteArray) ++ (t181.extract 1 t181.size))] rfl (by (try simp only [List.map_toArray, List.map_cons, List.map_nil]); first | done | rfl | (simp only [List.length_drop, List.length_take]; rfl)) ?_; (with_reducible refine (number_Parse.calls kj2 ((⟨#[48]⟩ : ByteArray) ++ (t181.extract 1 t181.size)) t186 t187 _ A28.out).mono ?_); rintro e w30 ⟨rfl, hb⟩; refine ⟨_, rfl, ?_⟩; have n0_ := Aside0.mk (below_step (by repeat (first | (with_reducible first | exact HB.out | apply below_alloc | apply pw_below_drewN | apply below_drew1) | exact HB.out)) hb); clear HB; have HB := n0_; clear n0_; (try clear hb); (try clear hb2); (try clear hk); (try clear hi)))
                    go_ret
                    exact ⟨by first | rfl | (simp [errW_none, errW_some] <;> rfl) | (simp [*, errW_none, errW_some] <;> rfl), by repeat (first | (with_reducible first | exact HB.out | apply below_alloc | apply pw_below_drewN | apply below_drew1) | exact HB.out)⟩
                  · rw [if_neg c29] at H
                    have c29b0 : (t186 == a0) = false := beq_eq_false_iff_ne.mpr c29
                    have c29b1 : (t186 != a0) = true := bne_iff_ne.mpr c29
                    replace H := Option.bind_eq_some_iff.mp H
                    obtain ⟨t188, A310, H⟩ := H
                    replace H : (some t188) = some r := H
                    have A31 := Aside0.mk A310
                    clear A310
                    obtain rfl := Option.some.inj H
                    have p17 : 0 ≤ (0 : Int) := (by omega)
                    have q17 : 0 < t181.size := (by have : (0 : Int) < (t181.size : Int) := of_decide_eq_true (by first | (with_reducible assumption) | assumption); omega)
                    have hx17 : ∀ h : 0 < t181.size, ((t181[0]'h).toNat : Int) = bt t181 0 := bt_at t181 0
                    clear p17
                    have qi17 : (0 < (t181.size : Int)) = True := eq_true (of_decide_eq_true (by first | (with_reducible assumption) | assumption))
                    replace q17 := eq_true q17
                    go_wp2_with (first | ((with_reducible refine gate_callee (f := 9) rfl ?_); refine goesL_ (some 54) rfl rfl Try.func9 (by kernel_rfl) rfl #[.string ((⟨#[48]⟩ : ByteArray) ++ (t181.extract 1 t181.size))] rfl (by (try simp only [List.map_toArray, List.map_cons, List.map_nil]); first | done | rfl | (simp only [List.length_drop, List.length_take]; rfl)) ?_; (with_reducible refine (number_Parse.calls kj2 ((⟨#[48]⟩ : ByteArray) ++ (t181.extract 1 t181.size)) t186 t187 _ A28.out).mono ?_); rintro e w32 ⟨rfl, hb⟩; refine ⟨_, rfl, ?_⟩; have n0_ := Aside0.mk (below_step (by repeat (first | (with_reducible first | exact HB.out | apply below_alloc | apply pw_below_drewN | apply below_drew1) | exact HB.out)) hb); clear HB; have HB := n0_; clear n0_; (try clear hb); (try clear hb2); (try clear hk); (try clear hi)) | (go_at_call 8; (with_reducible refine (pidginlaw03_alive.calls kj2  t188 _ A31.out).mono ?_); rintro e w33 ⟨rfl, hb⟩; have n0_ := Aside0.mk (below_step (by repeat (first | (with_reducible first | exact HB.out | apply below_alloc | apply pw_below_drewN | apply below_drew1) | exact HB.out)) hb); clear HB; have HB := n0_; clear n0_; (try clear hb); (try clear hb2); (try clear hk); (try clear hi)))
                    go_ret
                    exact ⟨by first | rfl | (simp [errW_none, errW_some] <;> rfl) | (simp [*, errW_none, errW_some] <;> rfl), by repeat (first | (with_reducible first | exact HB.out | apply below_alloc | apply pw_below_drewN | apply below_drew1) | exact HB.out)⟩
                · rw [if_neg c27] at H
                  exact absurd H (by simp)
              · rw [if_neg c26] at H
                exact absurd H (by simp)
          · rw [if_neg c16] at H
            exact absurd H (by simp)

/-- THE ONE PURE STATEMENT of pidginlaw03_NumberDigits: yours. -/
def pidginlaw03_NumberDigits.Pure : Prop := ∀ (a0 : Int), (Lit.int .u16 a0).wf = true → ∃ k, pidginlaw03_NumberDigits.f k a0 = some true
theorem pidginlaw03_NumberDigits.walk (P : pidginlaw03_NumberDigits.Pure) (a0 : Int) (w : World) (w0 : (Lit.int .u16 a0).wf = true) :
    Calls Try.prog 6 #[.int .u16 a0] w fun e w' => e = .returned (.bool true) ∧ Below w.heap.size w w' := by
  obtain ⟨k, h⟩ := P a0 w0
  refine (pidginlaw03_NumberDigits.calls k a0 true w h).mono ?_
  rintro e w' ⟨rfl, hd⟩
  exact ⟨rfl, hd⟩

/-! ### number_begins: function 22 -/
def number_begins.f (a0 : Int) : Option (Bool) := if 97 ≤ (Go.bits .or .u8 a0 32) then (some (decide ((Go.bits .or .u8 a0 32) ≤ 122))) else (some false)
set_option maxHeartbeats 8000000 in
set_option maxRecDepth 100000 in
theorem number_begins.calls (a0 : Int) (r : Bool) (w : World) (h : number_begins.f a0 = some r) :
    Calls Try.prog 22 #[.int .u8 a0] w fun e w' => e = .returned (.bool r) ∧ Drawn0 w w' := by
  have H : (if 97 ≤ (Go.bits .or .u8 a0 32) then (some (decide ((Go.bits .or .u8 a0 32) ≤ 122))) else (some false)) = some r := h
  clear h
  by_cases c2 : 97 ≤ (Go.bits .or .u8 a0 32)
  · rw [if_pos c2] at H
    have c2b0 : decide (97 ≤ (Go.bits .or .u8 a0 32)) = true := decide_eq_true c2
    clear c2
    obtain rfl := Option.some.inj H
    go_enter Try.func22, Try.ntmps22
    go_wp2
    go_ret
    exact ⟨by first | rfl | (simp; done) | (simp [*]; done), by repeat (first | exact Drawn0.refl _ | apply Drawn0.step)⟩
  · rw [if_neg c2] at H
    have c2b0 : decide (97 ≤ (Go.bits .or .u8 a0 32)) = false := decide_eq_false c2
    clear c2
    obtain rfl := Option.some.inj H
    go_enter Try.func22, Try.ntmps22
    go_wp2
    go_ret
    exact ⟨by first | rfl | (simp; done) | (simp [*]; done), by repeat (first | exact Drawn0.refl _ | apply Drawn0.step)⟩

/-! ### number_Name: function 14 -/
mutual
def number_Name.j0 : Nat → ByteArray → Bool → Option (Bool)
  | 0, _, _ => none
  | k + 1, x0, x11 => if x11 = true then (some false) else (number_Name.l0 k x0 (x0.size : Int) 0)
def number_Name.l0 : Nat → ByteArray → Int → Int → Option (Bool)
  | 0, _, _, _ => none
  | k + 1, x0, x13, x14 => if x14 < x13 then (if 0 ≤ x14 then (if x14 < (x0.size : Int) then ((number_begins.f (bt x0 x14)).bind fun t189 => (if t189 = true then (number_Name.j2 k x0 x14 (bt x0 x14) x13 x14 (decide ((bt x0 x14) < 128))) else (number_Name.j2 k x0 x14 (bt x0 x14) x13 x14 false))) else (none)) else (none)) else (some true)
def number_Name.j2 : Nat → ByteArray → Int → Int → Int → Int → Bool → Option (Bool)
  | 0, _, _, _, _, _, _ => none
  | k + 1, x0, x3, x4, x13, x14, x20 => if x20 = true then (number_Name.j3 k x0 x3 x4 x13 x14 x20) else (if x4 = 63 then (number_Name.j3 k x0 x3 x4 x13 x14 (x4 == 63)) else (if x4 = 64 then (number_Name.j3 k x0 x3 x4 x13 x14 (x4 == 64)) else (number_Name.j3 k x0 x3 x4 x13 x14 (x4 == 95))))
def number_Name.j3 : Nat → ByteArray → Int → Int → Int → Int → Bool → Option (Bool)
  | 0, _, _, _, _, _, _ => none
  | k + 1, x0, x3, x4, x13, x14, x20 => if x20 = true then (number_Name.l0 k x0 x13 (wrap64 (x14 + 1))) else (if x3 > 0 then (if 48 ≤ x4 then (if x4 ≤ 57 then (number_Name.l0 k x0 x13 (wrap64 (x14 + 1))) else (some false)) else (some false)) else (some false))
end
def number_Name.f (k : Nat) (a0 : ByteArray) : Option (Bool) := if a0.toList = ([] : List UInt8) then (number_Name.j0 k a0 true) else (number_Name.j0 k a0 (decide ((a0.size : Int) > 16)))
theorem number_Name.mono_l : ∀ k, (∀ y0 y1, LeO (number_Name.j0 k y0 y1) (number_Name.j0 (k + 1) y0 y1)) ∧ (∀ y0 y1 y2, LeO (number_Name.l0 k y0 y1 y2) (number_Name.l0 (k + 1) y0 y1 y2)) ∧ (∀ y0 y1 y2 y3 y4 y5, LeO (number_Name.j2 k y0 y1 y2 y3 y4 y5) (number_Name.j2 (k + 1) y0 y1 y2 y3 y4 y5)) ∧ (∀ y0 y1 y2 y3 y4 y5, LeO (number_Name.j3 k y0 y1 y2 y3 y4 y5) (number_Name.j3 (k + 1) y0 y1 y2 y3 y4 y5))
  | 0 => ⟨fun _ _ r h => by simp [number_Name.j0] at h, fun _ _ _ r h => by simp [number_Name.l0] at h, fun _ _ _ _ _ _ r h => by simp [number_Name.j2] at h, fun _ _ _ _ _ _ r h => by simp [number_Name.j3] at h⟩
  | k + 1 => by
    obtain ⟨ih0, ih1, ih2, ih3⟩ := number_Name.mono_l k
    refine ⟨?_, ?_, ?_, ?_⟩
    · intro y0 y1
      unfold number_Name.j0
      repeat' first
      | (with_reducible exact ih0 _ _)
      | (with_reducible exact ih1 _ _ _)
      | (with_reducible exact ih2 _ _ _ _ _ _)
      | (with_reducible exact ih3 _ _ _ _ _ _)
      | (with_reducible exact LeO.refl _)
      | (with_reducible exact LeO.none _)
      | (with_reducible refine LeO.ite ?_ ?_)
      | (with_reducible refine LeO.bind ?_ (fun _ => ?_))
      | exact ih0 _ _
      | exact ih1 _ _ _
      | exact ih2 _ _ _ _ _ _
      | exact ih3 _ _ _ _ _ _
      | exact LeO.none _
      | refine LeO.ite ?_ ?_
      | refine LeO.bind ?_ (fun _ => ?_)
    · intro y0 y1 y2
      unfold number_Name.l0
      repeat' first
      | (with_reducible exact ih0 _ _)
      | (with_reducible exact ih1 _ _ _)
      | (with_reducible exact ih2 _ _ _ _ _ _)
      | (with_reducible exact ih3 _ _ _ _ _ _)
      | (with_reducible exact LeO.refl _)
      | (with_reducible exact LeO.none _)
      | (with_reducible refine LeO.ite ?_ ?_)
      | (with_reducible refine LeO.bind ?_ (fun _ => ?_))
      | exact ih0 _ _
      | exact ih1 _ _ _
      | exact ih2 _ _ _ _ _ _
      | exact ih3 _ _ _ _ _ _
      | exact LeO.none _
      | refine LeO.ite ?_ ?_
      | refine LeO.bind ?_ (fun _ => ?_)
    · intro y0 y1 y2 y3 y4 y5
      unfold number_Name.j2
      repeat' first
      | (with_reducible exact ih0 _ _)
      | (with_reducible exact ih1 _ _ _)
      | (with_reducible exact ih2 _ _ _ _ _ _)
      | (with_reducible exact ih3 _ _ _ _ _ _)
      | (with_reducible exact LeO.refl _)
      | (with_reducible exact LeO.none _)
      | (with_reducible refine LeO.ite ?_ ?_)
      | (with_reducible refine LeO.bind ?_ (fun _ => ?_))
      | exact ih0 _ _
      | exact ih1 _ _ _
      | exact ih2 _ _ _ _ _ _
      | exact ih3 _ _ _ _ _ _
      | exact LeO.none _
      | refine LeO.ite ?_ ?_
      | refine LeO.bind ?_ (fun _ => ?_)
    · intro y0 y1 y2 y3 y4 y5
      unfold number_Name.j3
      repeat' first
      | (with_reducible exact ih0 _ _)
      | (with_reducible exact ih1 _ _ _)
      | (with_reducible exact ih2 _ _ _ _ _ _)
      | (with_reducible exact ih3 _ _ _ _ _ _)
      | (with_reducible exact LeO.refl _)
      | (with_reducible exact LeO.none _)
      | (with_reducible refine LeO.ite ?_ ?_)
      | (with_reducible refine LeO.bind ?_ (fun _ => ?_))
      | exact ih0 _ _
      | exact ih1 _ _ _
      | exact ih2 _ _ _ _ _ _
      | exact ih3 _ _ _ _ _ _
      | exact LeO.none _
      | refine LeO.ite ?_ ?_
      | refine LeO.bind ?_ (fun _ => ?_)
theorem number_Name.mono : ∀ a0 k, LeO (number_Name.f k a0) (number_Name.f (k + 1) a0) := by
  intro a0 k
  obtain ⟨ih0, ih1, ih2, ih3⟩ := number_Name.mono_l k
  unfold number_Name.f
  repeat' first
      | (with_reducible exact ih0 _ _)
      | (with_reducible exact ih1 _ _ _)
      | (with_reducible exact ih2 _ _ _ _ _ _)
      | (with_reducible exact ih3 _ _ _ _ _ _)
      | (with_reducible exact LeO.refl _)
      | (with_reducible exact LeO.none _)
      | (with_reducible refine LeO.ite ?_ ?_)
      | (with_reducible refine LeO.bind ?_ (fun _ => ?_))
      | exact ih0 _ _
      | exact ih1 _ _ _
      | exact ih2 _ _ _ _ _ _
      | exact ih3 _ _ _ _ _ _
      | exact LeO.none _
      | refine LeO.ite ?_ ?_
      | refine LeO.bind ?_ (fun _ => ?_)
set_option maxHeartbeats 8000000 in
set_option maxRecDepth 100000 in
theorem number_Name.calls (k : Nat) (a0 : ByteArray) (r : Bool) (w : World) (h : number_Name.f k a0 = some r) :
    Calls Try.prog 14 #[.string a0] w fun e w' => e = .returned (.bool r) ∧ Drawn0 w w' := by
  have H : (if a0.toList = ([] : List UInt8) then (number_Name.j0 k a0 true) else (number_Name.j0 k a0 (decide ((a0.size : Int) > 16)))) = some r := h
  clear h
  have HC2 := Aside0.mk H
  clear H
  go_enter Try.func14, Try.ntmps14
  go_upto_region 1 with (fail)
  go_cut [11] (fun v11 wc => ∃ (kq : Nat) (x11_1 : Bool), v11 = .bool x11_1 ∧ Aside0 (number_Name.j0 kq a0 x11_1 = some r) ∧ Aside0 (kq ≤ k) ∧ Drawn0 w wc)
  case first =>
    have H := HC2.out
    clear HC2
    by_cases c3 : a0.toList = ([] : List UInt8)
    · rw [if_pos c3] at H
      have c3b0 : (a0.toList == ([] : List UInt8)) = true := beq_iff_eq.mpr c3
      have c3b1 : (a0.toList != ([] : List UInt8)) = false := bne_eq_false_iff_eq.mpr c3
      clear c3
      (first | rw [c3b0] | (simp only [i64_w, i32_w]; rw [c3b0]) | skip)
      have H' := Aside0.mk H
      clear H
      go_wp2
      go_meet
      case rel => exact ⟨_, (true), (by first | rfl | (simp; done) | (simp [*]; done)), H', ⟨by first | omega | exact Nat.le_refl _⟩, by repeat (first | exact Drawn0.refl _ | apply Drawn0.step)⟩
    · rw [if_neg c3] at H
      have c3b0 : (a0.toList == ([] : List UInt8)) = false := beq_eq_false_iff_ne.mpr c3
      have c3b1 : (a0.toList != ([] : List UInt8)) = true := bne_iff_ne.mpr c3
      (first | rw [c3b0] | (simp only [i64_w, i32_w]; rw [c3b0]) | skip)
      have H' := Aside0.mk H
      clear H
      go_wp2
      go_meet
      case rel => exact ⟨_, (decide ((a0.size : Int) > 16)), (by first | rfl | (simp; done) | (simp [*]; done)), H', ⟨by first | omega | exact Nat.le_refl _⟩, by repeat (first | exact Drawn0.refl _ | apply Drawn0.step)⟩
  case rest =>
    clear HC2
    try clear c1
    try clear p2
    try clear c3
    try clear c3b0
    try clear c3b1
    obtain ⟨kq, x11_1, rfl, HA, HJ1, ⟨mc1, rfl⟩⟩ := hcut
    cases kq with
    | zero => exact absurd HA.out (by simp [number_Name.j0])
    | succ kj1 =>
      have H := HA.out
      clear HA
      simp only [number_Name.j0] at H
      by_cases c4 : x11_1 = true
      · subst c4
        have H1 : (some false) = some r := by rw [if_pos rfl] at H; exact H
        clear H
        have H := H1
        clear H1
        obtain rfl := Option.some.inj H
        go_wp2
        go_ret
        exact ⟨by first | rfl | (simp; done) | (simp [*]; done), by repeat (first | exact Drawn0.refl _ | apply Drawn0.step)⟩
      · replace c4 := Bool.eq_false_iff.mpr c4
        subst c4
        have H1 : (number_Name.l0 kj1 a0 (a0.size : Int) 0) = some r := by rw [if_neg (show ¬ (false = true) by decide)] at H; exact H
        clear H
        have H := H1
        clear H1
        have H' := Aside0.mk H
        clear H
        go_wp2
        go_loopg [14] kj1 (fun kq v14 w' => ∃ (x14_2 : Int), v14 = .int .i64 x14_2 ∧ Aside0 (number_Name.l0 kq a0 (a0.size : Int) x14_2 = some r) ∧ Aside0 (kq ≤ kj1) ∧ Drawn0 w w')
        case atStart => exact ⟨(0), (by first | rfl | (simp; done) | (simp [*]; done)), H', ⟨Nat.le_refl _⟩, by repeat (first | exact Drawn0.refl _ | apply Drawn0.step)⟩
        case round =>
          clear H'
          try clear c1
          try clear p2
          try clear c3
          try clear c3b0
          try clear c3b1
          try clear c4
          try clear p2
          obtain ⟨x14_2, rfl, HA, HK2, ⟨m2, rfl⟩⟩ := hrel
          cases gk with
          | zero => exact absurd HA.out (by simp [number_Name.l0])
          | succ k2 =>
            have H := HA.out
            clear HA
            simp only [number_Name.l0] at H
            by_cases c5 : x14_2 < (a0.size : Int)
            · rw [if_pos c5] at H
              have c5b0 : decide (x14_2 < (a0.size : Int)) = true := decide_eq_true c5
              clear c5
              by_cases c6 : 0 ≤ x14_2
              · rw [if_pos c6] at H
                have c6b0 : decide (0 ≤ x14_2) = true := decide_eq_true c6
                clear c6
                by_cases c7 : x14_2 < (a0.size : Int)
                · rw [if_pos c7] at H
                  have c7b0 : decide (x14_2 < (a0.size : Int)) = true := decide_eq_true c7
                  clear c7
                  have HC9 := Aside0.mk H
                  clear H
                  have p8 : 0 ≤ (x14_2 : Int) := of_decide_eq_true (by first | (with_reducible assumption) | assumption)
                  have q8 : x14_2 < (a0.size : Int) := of_decide_eq_true (by first | (with_reducible assumption) | assumption)
                  have hx8 := bt_at a0 x14_2
                  replace p8 := eq_true p8
                  replace q8 := eq_true q8
                  go_upto_region 8 with (fail)
                  go_cut [20] (fun v20 wc => ∃ (kq : Nat) (x20_8 : Bool), v20 = .bool x20_8 ∧ Aside0 (number_Name.j2 kq a0 x14_2 (bt a0 x14_2) (a0.size : Int) x14_2 x20_8 = some r) ∧ Aside0 (kq ≤ k2) ∧ Drawn0 w wc)
                  case first =>
                    have H := HC9.out
                    clear HC9
                    replace H := Option.bind_eq_some_iff.mp H
                    obtain ⟨t189, A100, H⟩ := H
                    replace H : (if t189 = true then (number_Name.j2 k2 a0 x14_2 (bt a0 x14_2) (a0.size : Int) x14_2 (decide ((bt a0 x14_2) < 128))) else (number_Name.j2 k2 a0 x14_2 (bt a0 x14_2) (a0.size : Int) x14_2 false)) = some r := H
                    have A10 := Aside0.mk A100
                    clear A100
                    by_cases c11 : t189 = true
                    · subst c11
                      have H1 : (number_Name.j2 k2 a0 x14_2 (bt a0 x14_2) (a0.size : Int) x14_2 (decide ((bt a0 x14_2) < 128))) = some r := by rw [if_pos rfl] at H; exact H
                      clear H
                      have H := H1
                      clear H1
                      have H' := Aside0.mk H
                      clear H
                      go_wp2_with (first | ((with_reducible refine gate_callee (f := 22) rfl ?_); refine goesL_ (some 22) rfl rfl Try.func22 (by kernel_rfl) rfl #[.int .u8 (bt a0 x14_2)] rfl (by (try simp only [List.map_toArray, List.map_cons, List.map_nil]); first | done | rfl | (simp only [List.length_drop, List.length_take]; rfl)) ?_; (with_reducible refine (number_begins.calls (bt a0 x14_2) true _ A10.out).mono ?_); rintro e w' ⟨rfl, ⟨nd, rfl⟩⟩; refine ⟨_, rfl, ?_⟩))
                      go_meet
                      case rel => exact ⟨_, (decide ((bt a0 x14_2) < 128)), (by first | rfl | (simp; done) | (simp [*]; done)), H', ⟨by have := HJ1.out; have := HK2.out; first | omega | exact Nat.le_refl _⟩, by repeat (first | exact Drawn0.refl _ | apply Drawn0.step)⟩
                    · replace c11 := Bool.eq_false_iff.mpr c11
                      subst c11
                      have H1 : (number_Name.j2 k2 a0 x14_2 (bt a0 x14_2) (a0.size : Int) x14_2 false) = some r := by rw [if_neg (show ¬ (false = true) by decide)] at H; exact H
                      clear H
                      have H := H1
                      clear H1
                      have H' := Aside0.mk H
                      clear H
                      go_wp2_with (first | ((with_reducible refine gate_callee (f := 22) rfl ?_); refine goesL_ (some 22) rfl rfl Try.func22 (by kernel_rfl) rfl #[.int .u8 (bt a0 x14_2)] rfl (by (try simp only [List.map_toArray, List.map_cons, List.map_nil]); first | done | rfl | (simp only [List.length_drop, List.length_take]; rfl)) ?_; (with_reducible refine (number_begins.calls (bt a0 x14_2) false _ A10.out).mono ?_); rintro e w' ⟨rfl, ⟨nd, rfl⟩⟩; refine ⟨_, rfl, ?_⟩))
                      go_meet
                      case rel => exact ⟨_, (false), (by first | rfl | (simp; done) | (simp [*]; done)), H', ⟨by have := HJ1.out; have := HK2.out; first | omega | exact Nat.le_refl _⟩, by repeat (first | exact Drawn0.refl _ | apply Drawn0.step)⟩
                  case rest =>
                    clear HC9
                    try clear c1
                    try clear c2
                    try clear p2
                    try clear c3
                    try clear c3b0
                    try clear c3b1
                    try clear c4
                    try clear c5
                    try clear c5b0
                    try clear c6
                    try clear c6b0
                    try clear c7
                    try clear c7b0
                    try clear p8
                    try clear q8
                    try clear hx8
                    try clear c11
                    try clear p2
                    try clear p8
                    try clear q8
                    obtain ⟨kq, x20_8, rfl, HA, HJ8, ⟨mc8, rfl⟩⟩ := hcut
                    cases kq with
                    | zero => exact absurd HA.out (by simp [number_Name.j2])
                    | succ kj8 =>
                      have H := HA.out
                      clear HA
                      simp only [number_Name.j2] at H
                      have HC12 := Aside0.mk H
                      clear H
                      go_upto_if 20 with (fail)
                      go_cut [20] (fun v20 wc => ∃ (kq : Nat) (x20_11 : Bool), v20 = .bool x20_11 ∧ Aside0 (number_Name.j3 kq a0 x14_2 (bt a0 x14_2) (a0.size : Int) x14_2 x20_11 = some r) ∧ Aside0 (kq ≤ kj8) ∧ Drawn0 w wc)
                      case first =>
                        have H := HC12.out
                        clear HC12
                        by_cases c13 : x20_8 = true
                        · subst c13
                          have H1 : (number_Name.j3 kj8 a0 x14_2 (bt a0 x14_2) (a0.size : Int) x14_2 true) = some r := by rw [if_pos rfl] at H; exact H
                          clear H
                          have H := H1
                          clear H1
                          have H' := Aside0.mk H
                          clear H
                          go_wp2
                          go_meet
                          case rel => exact ⟨_, (true), (by first | rfl | (simp; done) | (simp [*]; done)), H', ⟨by have := HJ1.out; have := HK2.out; have := HJ8.out; first | omega | exact Nat.le_refl _⟩, by repeat (first | exact Drawn0.refl _ | apply Drawn0.step)⟩
                        · replace c13 := Bool.eq_false_iff.mpr c13
                          subst c13
                          have H1 : (if (bt a0 x14_2) = 63 then (number_Name.j3 kj8 a0 x14_2 (bt a0 x14_2) (a0.size : Int) x14_2 ((bt a0 x14_2) == 63)) else (if (bt a0 x14_2) = 64 then (number_Name.j3 kj8 a0 x14_2 (bt a0 x14_2) (a0.size : Int) x14_2 ((bt a0 x14_2) == 64)) else (number_Name.j3 kj8 a0 x14_2 (bt a0 x14_2) (a0.size : Int) x14_2 ((bt a0 x14_2) == 95)))) = some r := by rw [if_neg (show ¬ (false = true) by decide)] at H; exact H
                          clear H
                          have H := H1
                          clear H1
                          by_cases c14 : (bt a0 x14_2) = 63
                          · rw [if_pos c14] at H
                            have c14b0 : ((bt a0 x14_2) == 63) = true := beq_iff_eq.mpr c14
                            have c14b1 : ((bt a0 x14_2) != 63) = false := bne_eq_false_iff_eq.mpr c14
                            clear c14
                            (first | rw [c14b0] | (simp only [i64_w, i32_w]; rw [c14b0]) | skip)
                            have H' := Aside0.mk H
                            clear H
                            go_wp2
                            go_meet
                            case rel => exact ⟨_, (((bt a0 x14_2) == 63)), (by first | rfl | (simp; done) | (simp [*]; done)), H', ⟨by have := HJ1.out; have := HK2.out; have := HJ8.out; first | omega | exact Nat.le_refl _⟩, by repeat (first | exact Drawn0.refl _ | apply Drawn0.step)⟩
                          · rw [if_neg c14] at H
                            have c14b0 : ((bt a0 x14_2) == 63) = false := beq_eq_false_iff_ne.mpr c14
                            have c14b1 : ((bt a0 x14_2) != 63) = true := bne_iff_ne.mpr c14
                            (first | rw [c14b0] | (simp only [i64_w, i32_w]; rw [c14b0]) | skip)
                            by_cases c15 : (bt a0 x14_2) = 64
                            · rw [if_pos c15] at H
                              have c15b0 : ((bt a0 x14_2) == 64) = true := beq_iff_eq.mpr c15
                              have c15b1 : ((bt a0 x14_2) != 64) = false := bne_eq_false_iff_eq.mpr c15
                              clear c15
                              have H' := Aside0.mk H
                              clear H
                              go_wp2
                              go_meet
                              case rel => exact ⟨_, (((bt a0 x14_2) == 64)), (by first | rfl | (simp; done) | (simp [*]; done)), H', ⟨by have := HJ1.out; have := HK2.out; have := HJ8.out; first | omega | exact Nat.le_refl _⟩, by repeat (first | exact Drawn0.refl _ | apply Drawn0.step)⟩
                            · rw [if_neg c15] at H
                              have c15b0 : ((bt a0 x14_2) == 64) = false := beq_eq_false_iff_ne.mpr c15
                              have c15b1 : ((bt a0 x14_2) != 64) = true := bne_iff_ne.mpr c15
                              have H' := Aside0.mk H
                              clear H
                              go_wp2
                              go_meet
                              case rel => exact ⟨_, (((bt a0 x14_2) == 95)), (by first | rfl | (simp; done) | (simp [*]; done)), H', ⟨by have := HJ1.out; have := HK2.out; have := HJ8.out; first | omega | exact Nat.le_refl _⟩, by repeat (first | exact Drawn0.refl _ | apply Drawn0.step)⟩
                      case rest =>
                        clear HC12
                        try clear c1
                        try clear c2
                        try clear p2
                        try clear c3
                        try clear c3b0
                        try clear c3b1
                        try clear c4
                        try clear c5
                        try clear c5b0
                        try clear c6
                        try clear c6b0
                        try clear c7
                        try clear c7b0
                        try clear c8
                        try clear p8
                        try clear q8
                        try clear hx8
                        try clear c11
                        try clear c13
                        try clear c14
                        try clear c14b0
                        try clear c14b1
                        try clear c15
                        try clear c15b0
                        try clear c15b1
                        try clear p2
                        try clear p8
                        try clear q8
                        obtain ⟨kq, x20_11, rfl, HA, HJ11, ⟨mc11, rfl⟩⟩ := hcut
                        cases kq with
                        | zero => exact absurd HA.out (by simp [number_Name.j3])
                        | succ kj11 =>
                          have H := HA.out
                          clear HA
                          simp only [number_Name.j3] at H
                          by_cases c16 : x20_11 = true
                          · subst c16
                            have H1 : (number_Name.l0 kj11 a0 (a0.size : Int) (wrap64 (x14_2 + 1))) = some r := by rw [if_pos rfl] at H; exact H
                            clear H
                            have H := H1
                            clear H1
                            have H' := Aside0.mk H
                            clear H
                            go_wp2
                            go_roundg kj11
                            case measure => have := HJ1.out; have := HK2.out; have := HJ8.out; have := HJ11.out; omega
                            case rel => exact ⟨(wrap64 (x14_2 + 1)), (by first | rfl | (simp; done) | (simp [*]; done)), H', ⟨by have := HJ1.out; have := HK2.out; have := HJ8.out; have := HJ11.out; omega⟩, by repeat (first | exact Drawn0.refl _ | apply Drawn0.step)⟩
                          · replace c16 := Bool.eq_false_iff.mpr c16
                            subst c16
                            have H1 : (if x14_2 > 0 then (if 48 ≤ (bt a0 x14_2) then (if (bt a0 x14_2) ≤ 57 then (number_Name.l0 kj11 a0 (a0.size : Int) (wrap64 (x14_2 + 1))) else (some false)) else (some false)) else (some false)) = some r := by rw [if_neg (show ¬ (false = true) by decide)] at H; exact H
                            clear H
                            have H := H1
                            clear H1
                            by_cases c17 : x14_2 > 0
                            · rw [if_pos c17] at H
                              have c17b0 : decide (0 < x14_2) = true := decide_eq_true c17
                              clear c17
                              by_cases c18 : 48 ≤ (bt a0 x14_2)
                              · rw [if_pos c18] at H
                                have c18b0 : decide (48 ≤ (bt a0 x14_2)) = true := decide_eq_true c18
                                clear c18
                                by_cases c19 : (bt a0 x14_2) ≤ 57
                                · rw [if_pos c19] at H
                                  have c19b0 : decide ((bt a0 x14_2) ≤ 57) = true := decide_eq_true c19
                                  clear c19
                                  have H' := Aside0.mk H
                                  clear H
                                  go_wp2
                                  go_roundg kj11
                                  case measure => have := HJ1.out; have := HK2.out; have := HJ8.out; have := HJ11.out; omega
                                  case rel => exact ⟨(wrap64 (x14_2 + 1)), (by first | rfl | (simp; done) | (simp [*]; done)), H', ⟨by have := HJ1.out; have := HK2.out; have := HJ8.out; have := HJ11.out; omega⟩, by repeat (first | exact Drawn0.refl _ | apply Drawn0.step)⟩
                                · rw [if_neg c19] at H
                                  have c19b0 : decide ((bt a0 x14_2) ≤ 57) = false := decide_eq_false c19
                                  clear c19
                                  obtain rfl := Option.some.inj H
                                  go_wp2
                                  go_ret
                                  exact ⟨by first | rfl | (simp; done) | (simp [*]; done), by repeat (first | exact Drawn0.refl _ | apply Drawn0.step)⟩
                              · rw [if_neg c18] at H
                                have c18b0 : decide (48 ≤ (bt a0 x14_2)) = false := decide_eq_false c18
                                clear c18
                                obtain rfl := Option.some.inj H
                                go_wp2
                                go_ret
                                exact ⟨by first | rfl | (simp; done) | (simp [*]; done), by repeat (first | exact Drawn0.refl _ | apply Drawn0.step)⟩
                            · rw [if_neg c17] at H
                              have c17b0 : decide (0 < x14_2) = false := decide_eq_false c17
                              clear c17
                              obtain rfl := Option.some.inj H
                              go_wp2
                              go_ret
                              exact ⟨by first | rfl | (simp; done) | (simp [*]; done), by repeat (first | exact Drawn0.refl _ | apply Drawn0.step)⟩
                · rw [if_neg c7] at H
                  exact absurd H (by simp)
              · rw [if_neg c6] at H
                exact absurd H (by simp)
            · rw [if_neg c5] at H
              have c5b0 : decide (x14_2 < (a0.size : Int)) = false := decide_eq_false c5
              clear c5
              obtain rfl := Option.some.inj H
              go_wp2
              go_ret
              exact ⟨by first | rfl | (simp; done) | (simp [*]; done), by repeat (first | exact Drawn0.refl _ | apply Drawn0.step)⟩

end Go.Proofs.Ytaomdlkalajdmaa.Pr
