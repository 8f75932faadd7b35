import Derived.Test.YtejhagejjogbaaaDoorKeM6
import Derived.Test.YtejhagejjogbaaaDoorKeM9
namespace Go.Proofs.YtejhagejjogbaaaDoor.Qa
open Go.RowKit YtejhagejjogbaaaDoorW.PrintWords YtejhagejjogbaaaDoorW.PrintLast YtejhagejjogbaaaDoorW.PrintMore Given TokSpan TokJoin TokRep Pn Pa Pb Pc Pd Pe
attribute [local go_sem] max2_int min2_int max_two min_two max_three min_three max_four min_four   -- for this text's walks alone
set_option linter.unusedVariables false
set_option linter.unusedSimpArgs false
def pidginref05_Right.f (k : Nat) (a0_0 : ByteArray) (a0_1 : Int) (a0_2 : ByteArray) (l0_3 : List (S50)) : Option (Int) := (pidginref05_right.f k a0_0 a0_1 a0_2 l0_3 1).bind fun t208 => (if t208 = true then (some 0) else (some 2))
set_option maxHeartbeats 8000000 in
set_option maxRecDepth 100000 in
theorem pidginref05_Right.calls (k : Nat) (a0_0 : ByteArray) (a0_1 : Int) (a0_2 : ByteArray) (A0_3 : Option Addr) (c0_3 : Nat) (l0_3 : List (S50)) (r : Int) (w : World) (hr0_3 : Kd.C k50 w A0_3 l0_3.length l0_3) (hc0_3 : l0_3.length ≤ c0_3) (h : pidginref05_Right.f k a0_0 a0_1 a0_2 l0_3 = some r) :
  Calls Tryd.prog 80 #[.agg #[.string a0_0, .int .u16 a0_1, .string a0_2, .slice A0_3 l0_3.length c0_3]] w fun e w' => e = .returned (.int .i64 r) ∧ Below w.heap.size w w' := by
 have hu50 := Tryd.underlying50
 have HR0_3 := zz_ hr0_3
 have HC0_3 := zz_ hc0_3
 clear hr0_3 hc0_3
 have HB := zz_ (Below.refl w.heap.size w)
 have H : ((pidginref05_right.f k a0_0 a0_1 a0_2 l0_3 1).bind fun t208 => (if t208 = true then (some 0) else (some 2))) = some r := h
 clear h
 replace H := Option.bind_eq_some_iff.mp H
 obtain ⟨t208, A20, H⟩ := H
 replace H : (if t208 = true then (some 0) else (some 2)) = some r := H
 have A2 := zz_ A20
 clear A20
 by_cases c3 : t208 = true
 ·subst c3
  have H1 : (some 0) = some r := by rw [if_pos rfl] at H; exact H
  clear H
  have H := H1
  clear H1
  obtain rfl := Option.some.inj H
  go_enter Tryd.func80, Tryd.ntmps80
  go_wp2_with (first | ((with_reducible refine zS (N := 1) rfl ?_); refine zO ?hg (N := 1) ?hd (cs := #[.string a0_0, .int .u16 a0_1, .string a0_2, .slice A0_3 l0_3.length c0_3]) (t := 50) ?hr ?_; (case hd => rfl); (case hg => rfl); (case hr => first | (go_simp; done) | (go_simp; rfl)); intro gb207 hg w4 hbox hb; have n0_ := zz_ (zG (by repeat (first | (with_reducible first | exact HB.out | apply zB | apply zA | apply zC) | exact HB.out)) hb); have n1_ := zz_ (hbox); have n2_ := zz_ ((by rw [hg]; exact (zR (by repeat (first | (with_reducible first | exact HB.out | apply zB | apply zA | apply zC) | exact HB.out))) : w.heap.size ≤ gb207)); have n3_ := zz_ ((by rw [hg]; exact (zR (by repeat (first | (with_reducible first | exact HB.out | apply zB | apply zA | apply zC) | exact HB.out))) : w.heap.size ≤ gb207)); clear HB; have HB := n0_; have BK207 := n1_; have GW207 := n2_; have GE207 := n3_; clear n0_ n1_ n2_ n3_; clear hb hbox hg; have hcz5_0 : w4.cell? ⟨gb207, 0, none⟩ = some (.string a0_0) := (zD BK207.out 0).trans rfl; have hcz5_1 : w4.cell? ⟨gb207, 1, none⟩ = some (.int .u16 a0_1) := (zD BK207.out 1).trans rfl; have hcz5_2 : w4.cell? ⟨gb207, 2, none⟩ = some (.string a0_2) := (zD BK207.out 2).trans rfl; have hcz5_3 : w4.cell? ⟨gb207, 3, none⟩ = some (.slice A0_3 l0_3.length c0_3) := (zD BK207.out 3).trans rfl; have hfz5_0 := zE BK207.out 0; have hfz5_1 := zE BK207.out 1; have hfz5_2 := zE BK207.out 2; have hfz5_3 := zE BK207.out 3) | ((with_reducible refine zQ (f := 122) rfl ?_); refine goesL_ (some 4) rfl rfl Tryd.func122 (by kernel_rfl) rfl #[.agg #[.string a0_0, .int .u16 a0_1, .string a0_2, .slice A0_3 l0_3.length c0_3], .int .i64 1] rfl (by (try simp only [List.map_toArray, List.map_cons, List.map_nil]); first | done | rfl | (simp only [List.length_drop, List.length_take]; rfl)) ?_; (with_reducible refine (pidginref05_right.calls k a0_0 a0_1 a0_2 _ _ l0_3 1 true _ ?side1 ?side2 A2.out).mono ?_); (case side1 => repeat (first | exact (Kd.zV HR0_3.out HB.out) | (with_reducible refine Kd.C_alloc ?_ _) | (with_reducible refine Kd.C_drewN ?_ _) | (with_reducible refine Kd.C_drew ?_))); (case side2 => exact HC0_3.out); rintro e w6 ⟨rfl, hb⟩; refine ⟨_, rfl, ?_⟩; have n0_ := zz_ (zK (g := gb207) (o := .cells #[.string a0_0, .int .u16 a0_1, .string a0_2, .slice A0_3 l0_3.length c0_3] 50 (0, 0)) (by (with_reducible repeat (first | refine zH ?_ _ | refine zJ ?_ | refine zI ?_ _)); exact BK207.out) hb); have n1_ := zz_ (zG (by repeat (first | (with_reducible first | exact HB.out | apply zB | apply zA | apply zC | refine zF ?_ GE207.out) | exact HB.out)) hb); clear BK207; clear HB; have BK207 := n0_; have HB := n1_; clear n0_ n1_; (try clear hb)))
  go_ret
  exact ⟨by first | rfl | (simp [zN, zM] <;> rfl) | (simp [*, zN, zM] <;> rfl), by repeat (first | (with_reducible first | exact HB.out | apply zB | apply zA | apply zC | refine zF ?_ GE207.out) | exact HB.out)⟩
 ·replace c3 := Bool.eq_false_iff.mpr c3
  subst c3
  have H1 : (some 2) = some r := by rw [if_neg (show ¬ (false = true) by decide)] at H; exact H
  clear H
  have H := H1
  clear H1
  obtain rfl := Option.some.inj H
  go_enter Tryd.func80, Tryd.ntmps80
  go_wp2_with (first | ((with_reducible refine zS (N := 1) rfl ?_); refine zO ?hg (N := 1) ?hd (cs := #[.string a0_0, .int .u16 a0_1, .string a0_2, .slice A0_3 l0_3.length c0_3]) (t := 50) ?hr ?_; (case hd => rfl); (case hg => rfl); (case hr => first | (go_simp; done) | (go_simp; rfl)); intro gb207 hg w7 hbox hb; have n0_ := zz_ (zG (by repeat (first | (with_reducible first | exact HB.out | apply zB | apply zA | apply zC) | exact HB.out)) hb); have n1_ := zz_ (hbox); have n2_ := zz_ ((by rw [hg]; exact (zR (by repeat (first | (with_reducible first | exact HB.out | apply zB | apply zA | apply zC) | exact HB.out))) : w.heap.size ≤ gb207)); have n3_ := zz_ ((by rw [hg]; exact (zR (by repeat (first | (with_reducible first | exact HB.out | apply zB | apply zA | apply zC) | exact HB.out))) : w.heap.size ≤ gb207)); clear HB; have HB := n0_; have BK207 := n1_; have GW207 := n2_; have GE207 := n3_; clear n0_ n1_ n2_ n3_; clear hb hbox hg; have hcz8_0 : w7.cell? ⟨gb207, 0, none⟩ = some (.string a0_0) := (zD BK207.out 0).trans rfl; have hcz8_1 : w7.cell? ⟨gb207, 1, none⟩ = some (.int .u16 a0_1) := (zD BK207.out 1).trans rfl; have hcz8_2 : w7.cell? ⟨gb207, 2, none⟩ = some (.string a0_2) := (zD BK207.out 2).trans rfl; have hcz8_3 : w7.cell? ⟨gb207, 3, none⟩ = some (.slice A0_3 l0_3.length c0_3) := (zD BK207.out 3).trans rfl; have hfz8_0 := zE BK207.out 0; have hfz8_1 := zE BK207.out 1; have hfz8_2 := zE BK207.out 2; have hfz8_3 := zE BK207.out 3) | ((with_reducible refine zQ (f := 122) rfl ?_); refine goesL_ (some 4) rfl rfl Tryd.func122 (by kernel_rfl) rfl #[.agg #[.string a0_0, .int .u16 a0_1, .string a0_2, .slice A0_3 l0_3.length c0_3], .int .i64 1] rfl (by (try simp only [List.map_toArray, List.map_cons, List.map_nil]); first | done | rfl | (simp only [List.length_drop, List.length_take]; rfl)) ?_; (with_reducible refine (pidginref05_right.calls k a0_0 a0_1 a0_2 _ _ l0_3 1 false _ ?side1 ?side2 A2.out).mono ?_); (case side1 => repeat (first | exact (Kd.zV HR0_3.out HB.out) | (with_reducible refine Kd.C_alloc ?_ _) | (with_reducible refine Kd.C_drewN ?_ _) | (with_reducible refine Kd.C_drew ?_))); (case side2 => exact HC0_3.out); rintro e w9 ⟨rfl, hb⟩; refine ⟨_, rfl, ?_⟩; have n0_ := zz_ (zK (g := gb207) (o := .cells #[.string a0_0, .int .u16 a0_1, .string a0_2, .slice A0_3 l0_3.length c0_3] 50 (0, 0)) (by (with_reducible repeat (first | refine zH ?_ _ | refine zJ ?_ | refine zI ?_ _)); exact BK207.out) hb); have n1_ := zz_ (zG (by repeat (first | (with_reducible first | exact HB.out | apply zB | apply zA | apply zC | refine zF ?_ GE207.out) | exact HB.out)) hb); clear BK207; clear HB; have BK207 := n0_; have HB := n1_; clear n0_ n1_; (try clear hb)))
  go_ret
  exact ⟨by first | rfl | (simp [zN, zM] <;> rfl) | (simp [*, zN, zM] <;> rfl), by repeat (first | (with_reducible first | exact HB.out | apply zB | apply zA | apply zC | refine zF ?_ GE207.out) | exact HB.out)⟩
def pidginref05_Find.l0 : Nat → List (S98) → ByteArray → Int → Option (Int × Int)
 | 0, _, _, _ => none
 | k + 1, x0, x1, x6 => if x6 < (x0.length : Int) then (if 0 ≤ x6 then (if ((rd_T98 x0 x6).f0).toList = x1.toList then (some ((rd_T98 x0 x6).f1, 0)) else (pidginref05_Find.l0 k x0 x1 (wrap64 (x6 + 1)))) else (none)) else (some (0, 3))
def pidginref05_Find.f (k : Nat) (l0 : List (S98)) (a1 : ByteArray) : Option (Int × Int) := pidginref05_Find.l0 k l0 a1 0
set_option maxHeartbeats 8000000 in
set_option maxRecDepth 100000 in
theorem pidginref05_Find.calls (k : Nat) (A0 : Option Addr) (c0 : Nat) (l0 : List (S98)) (a1 : ByteArray) (r1 : Int) (r2 : Int) (w : World) (hr0 : Kd.C k98 w A0 l0.length l0) (hc0 : l0.length ≤ c0) (h : pidginref05_Find.f k l0 a1 = some (r1, r2)) :
  Calls Tryd.prog 42 #[.slice A0 l0.length c0, .string a1] w fun e w' => e = .returned (.tuple #[.int .u16 r1, .int .i64 r2]) ∧ Drawn0 w w' := by
 have HR0 := zz_ hr0
 have HC0 := zz_ hc0
 clear hr0 hc0
 have H : (pidginref05_Find.l0 k l0 a1 0) = some (r1, r2) := h
 clear h
 have H' := zz_ H
 clear H
 go_enter Tryd.func42, Tryd.ntmps42
 go_wp2
 first | go_loopg [6] k (fun kq v6 w' => ∃ (x6_1 : Int), v6 = .int .i64 x6_1 ∧ Aside0 (pidginref05_Find.l0 kq l0 a1 x6_1 = some (r1, r2)) ∧ Aside0 (kq ≤ k) ∧ Drawn0 w w') | (go_simp; go_loopg [6] k (fun kq v6 w' => ∃ (x6_1 : Int), v6 = .int .i64 x6_1 ∧ Aside0 (pidginref05_Find.l0 kq l0 a1 x6_1 = some (r1, r2)) ∧ Aside0 (kq ≤ k) ∧ Drawn0 w w'))
 case atStart => exact ⟨(0), (by first | rfl | (simp; done) | (simp [*]; done)), H', ⟨Nat.le_refl _⟩, by repeat (first | exact Drawn0.refl _ | apply Drawn0.step)⟩
 case round =>
  clear H'
  try clear p2
  obtain ⟨x6_1, rfl, HA, HK1, ⟨m1, rfl⟩⟩ := hrel
  cases gk with
  | zero => exact absurd HA.out (by simp [pidginref05_Find.l0])
  | succ k1 =>
   have H := HA.out
   clear HA
   simp only [pidginref05_Find.l0] at H
   by_cases c3 : x6_1 < (l0.length : Int)
   ·rw [if_pos c3] at H
    have c3b0 : decide (x6_1 < (l0.length : Int)) = true := decide_eq_true c3
    clear c3
    by_cases c4 : 0 ≤ x6_1
    ·rw [if_pos c4] at H
     have c4b0 : decide (0 ≤ x6_1) = true := decide_eq_true c4
     clear c4
     by_cases c5 : ((rd_T98 l0 x6_1).f0).toList = a1.toList
     ·rw [if_pos c5] at H
      have c5b0 : (((rd_T98 l0 x6_1).f0).toList == a1.toList) = true := beq_iff_eq.mpr c5
      have c5b1 : (((rd_T98 l0 x6_1).f0).toList != a1.toList) = false := bne_eq_false_iff_eq.mpr c5
      clear c5
      simp only [Option.some.injEq, Prod.mk.injEq] at H
      obtain ⟨rfl, rfl⟩ := H
      have p209 : 0 ≤ (x6_1 : Int) := of_decide_eq_true (by first | (with_reducible assumption) | assumption)
      have q209 : x6_1 < (l0.length : Int) := of_decide_eq_true (by first | (with_reducible assumption) | assumption)
      obtain ⟨ad209, e209, hx209_0, hx209_1⟩ := at_T98 HR0.out x6_1 p209 q209
      cases e209
      replace p209 := eq_true p209
      replace q209 := eq_true q209
      have p210 : 0 ≤ (x6_1 : Int) := of_decide_eq_true (by first | (with_reducible assumption) | assumption)
      have q210 : x6_1 < (l0.length : Int) := of_decide_eq_true (by first | (with_reducible assumption) | assumption)
      obtain ⟨ad210, e210, hx210_0, hx210_1⟩ := at_T98 HR0.out x6_1 p210 q210
      obtain rfl : ad209 = ad210 := (by injection e210)
      replace p210 := eq_true p210
      replace q210 := eq_true q210
      go_wp2
      go_ret2
      exact ⟨by first | rfl | (simp; done) | (simp [*]; done), by repeat (first | exact Drawn0.refl _ | apply Drawn0.step)⟩
     ·rw [if_neg c5] at H
      have c5b0 : (((rd_T98 l0 x6_1).f0).toList == a1.toList) = false := beq_eq_false_iff_ne.mpr c5
      have c5b1 : (((rd_T98 l0 x6_1).f0).toList != a1.toList) = true := bne_iff_ne.mpr c5
      have H' := zz_ H
      clear H
      have p209 : 0 ≤ (x6_1 : Int) := of_decide_eq_true (by first | (with_reducible assumption) | assumption)
      have q209 : x6_1 < (l0.length : Int) := of_decide_eq_true (by first | (with_reducible assumption) | assumption)
      obtain ⟨ad209, e209, hx209_0, hx209_1⟩ := at_T98 HR0.out x6_1 p209 q209
      cases e209
      replace p209 := eq_true p209
      replace q209 := eq_true q209
      go_wp2
      go_roundg k1
      case measure => have := HK1.out; omega
      case rel => exact ⟨(wrap64 (x6_1 + 1)), (by first | rfl | (simp; done) | (simp [*]; done)), H', ⟨by have := HK1.out; omega⟩, by repeat (first | exact Drawn0.refl _ | apply Drawn0.step)⟩
    ·rw [if_neg c4] at H
     exact absurd H (by simp)
   ·rw [if_neg c3] at H
    have c3b0 : decide (x6_1 < (l0.length : Int)) = false := decide_eq_false c3
    clear c3
    simp only [Option.some.injEq, Prod.mk.injEq] at H
    obtain ⟨rfl, rfl⟩ := H
    go_wp2
    go_ret2
    exact ⟨by first | rfl | (simp; done) | (simp [*]; done), by repeat (first | exact Drawn0.refl _ | apply Drawn0.step)⟩
def pidginref05_power.l0 : Nat → Int → Int → Int → Option (Int)
 | 0, _, _, _ => none
 | k + 1, x0, x1, x5 => if x5 < x1 then (if x5 < 16 then (pidginref05_power.l0 k (IntKind.u16.wrap (x0 * 2)) x1 (IntKind.u16.wrap (x5 + 1))) else (some x0)) else (some x0)
def pidginref05_power.f (k : Nat) (a0 : Int) (a1 : Int) : Option (Int) := pidginref05_power.l0 k a0 a1 0
set_option maxHeartbeats 8000000 in
set_option maxRecDepth 100000 in
theorem pidginref05_power.calls (k : Nat) (a0 : Int) (a1 : Int) (r : Int) (w : World) (h : pidginref05_power.f k a0 a1 = some r) :
  Calls Tryd.prog 150 #[.int .u16 a0, .int .u16 a1] w fun e w' => e = .returned (.int .u16 r) ∧ Drawn0 w w' := by
 have H : (pidginref05_power.l0 k a0 a1 0) = some r := h
 clear h
 have H' := zz_ H
 clear H
 go_enter Tryd.func150, Tryd.ntmps150
 go_wp2
 first | go_loopg [0, 5] k (fun kq v0 v5 w' => ∃ (x0_1 : Int) (x5_1 : Int), v0 = .int .u16 x0_1 ∧ v5 = .int .u16 x5_1 ∧ Aside0 (pidginref05_power.l0 kq x0_1 a1 x5_1 = some r) ∧ Aside0 (kq ≤ k) ∧ Drawn0 w w') | (go_simp; go_loopg [0, 5] k (fun kq v0 v5 w' => ∃ (x0_1 : Int) (x5_1 : Int), v0 = .int .u16 x0_1 ∧ v5 = .int .u16 x5_1 ∧ Aside0 (pidginref05_power.l0 kq x0_1 a1 x5_1 = some r) ∧ Aside0 (kq ≤ k) ∧ Drawn0 w w'))
 case atStart => exact ⟨(a0), (0), (by first | rfl | (simp; done) | (simp [*]; done)), (by first | rfl | (simp; done) | (simp [*]; done)), H', ⟨Nat.le_refl _⟩, by repeat (first | exact Drawn0.refl _ | apply Drawn0.step)⟩
 case round =>
  clear H'
  try clear c1
  try clear p2
  obtain ⟨x0_1, x5_1, rfl, rfl, HA, HK1, ⟨m1, rfl⟩⟩ := hrel
  cases gk with
  | zero => exact absurd HA.out (by simp [pidginref05_power.l0])
  | succ k1 =>
   have H := HA.out
   clear HA
   simp only [pidginref05_power.l0] at H
   by_cases c3 : x5_1 < a1
   ·rw [if_pos c3] at H
    have c3b0 : decide (x5_1 < a1) = true := decide_eq_true c3
    clear c3
    by_cases c4 : x5_1 < 16
    ·rw [if_pos c4] at H
     have c4b0 : decide (x5_1 < 16) = true := decide_eq_true c4
     clear c4
     have H' := zz_ H
     clear H
     go_wp2
     go_roundg k1
     case measure => have := HK1.out; omega
     case rel => exact ⟨(IntKind.u16.wrap (x0_1 * 2)), (IntKind.u16.wrap (x5_1 + 1)), (by first | rfl | (simp; done) | (simp [*]; done)), (by first | rfl | (simp; done) | (simp [*]; done)), H', ⟨by have := HK1.out; omega⟩, by repeat (first | exact Drawn0.refl _ | apply Drawn0.step)⟩
    ·rw [if_neg c4] at H
     have c4b0 : decide (x5_1 < 16) = false := decide_eq_false c4
     clear c4
     obtain rfl := Option.some.inj H
     go_wp2
     go_ret
     exact ⟨by first | rfl | (simp; done) | (simp [*]; done), by repeat (first | exact Drawn0.refl _ | apply Drawn0.step)⟩
   ·rw [if_neg c3] at H
    have c3b0 : decide (x5_1 < a1) = false := decide_eq_false c3
    clear c3
    obtain rfl := Option.some.inj H
    go_wp2
    go_ret
    exact ⟨by first | rfl | (simp; done) | (simp [*]; done), by repeat (first | exact Drawn0.refl _ | apply Drawn0.step)⟩
def pidginref05_half.l0 : Nat → Int → Int → Int → Option (Int)
 | 0, _, _, _ => none
 | k + 1, x0, x1, x5 => if x5 < x1 then (if x5 < 16 then (pidginref05_half.l0 k (IntKind.u16.wrap (Int.tdiv x0 2)) x1 (IntKind.u16.wrap (x5 + 1))) else (some x0)) else (some x0)
def pidginref05_half.f (k : Nat) (a0 : Int) (a1 : Int) : Option (Int) := pidginref05_half.l0 k a0 a1 0
set_option maxHeartbeats 8000000 in
set_option maxRecDepth 100000 in
theorem pidginref05_half.calls (k : Nat) (a0 : Int) (a1 : Int) (r : Int) (w : World) (h : pidginref05_half.f k a0 a1 = some r) :
  Calls Tryd.prog 151 #[.int .u16 a0, .int .u16 a1] w fun e w' => e = .returned (.int .u16 r) ∧ Drawn0 w w' := by
 have H : (pidginref05_half.l0 k a0 a1 0) = some r := h
 clear h
 have H' := zz_ H
 clear H
 go_enter Tryd.func151, Tryd.ntmps151
 go_wp2
 first | go_loopg [0, 5] k (fun kq v0 v5 w' => ∃ (x0_1 : Int) (x5_1 : Int), v0 = .int .u16 x0_1 ∧ v5 = .int .u16 x5_1 ∧ Aside0 (pidginref05_half.l0 kq x0_1 a1 x5_1 = some r) ∧ Aside0 (kq ≤ k) ∧ Drawn0 w w') | (go_simp; go_loopg [0, 5] k (fun kq v0 v5 w' => ∃ (x0_1 : Int) (x5_1 : Int), v0 = .int .u16 x0_1 ∧ v5 = .int .u16 x5_1 ∧ Aside0 (pidginref05_half.l0 kq x0_1 a1 x5_1 = some r) ∧ Aside0 (kq ≤ k) ∧ Drawn0 w w'))
 case atStart => exact ⟨(a0), (0), (by first | rfl | (simp; done) | (simp [*]; done)), (by first | rfl | (simp; done) | (simp [*]; done)), H', ⟨Nat.le_refl _⟩, by repeat (first | exact Drawn0.refl _ | apply Drawn0.step)⟩
 case round =>
  clear H'
  try clear c1
  try clear p2
  obtain ⟨x0_1, x5_1, rfl, rfl, HA, HK1, ⟨m1, rfl⟩⟩ := hrel
  cases gk with
  | zero => exact absurd HA.out (by simp [pidginref05_half.l0])
  | succ k1 =>
   have H := HA.out
   clear HA
   simp only [pidginref05_half.l0] at H
   by_cases c3 : x5_1 < a1
   ·rw [if_pos c3] at H
    have c3b0 : decide (x5_1 < a1) = true := decide_eq_true c3
    clear c3
    by_cases c4 : x5_1 < 16
    ·rw [if_pos c4] at H
     have c4b0 : decide (x5_1 < 16) = true := decide_eq_true c4
     clear c4
     have H' := zz_ H
     clear H
     go_wp2
     go_roundg k1
     case measure => have := HK1.out; omega
     case rel => exact ⟨(IntKind.u16.wrap (Int.tdiv x0_1 2)), (IntKind.u16.wrap (x5_1 + 1)), (by first | rfl | (simp; done) | (simp [*]; done)), (by first | rfl | (simp; done) | (simp [*]; done)), H', ⟨by have := HK1.out; omega⟩, by repeat (first | exact Drawn0.refl _ | apply Drawn0.step)⟩
    ·rw [if_neg c4] at H
     have c4b0 : decide (x5_1 < 16) = false := decide_eq_false c4
     clear c4
     obtain rfl := Option.some.inj H
     go_wp2
     go_ret
     exact ⟨by first | rfl | (simp; done) | (simp [*]; done), by repeat (first | exact Drawn0.refl _ | apply Drawn0.step)⟩
   ·rw [if_neg c3] at H
    have c3b0 : decide (x5_1 < a1) = false := decide_eq_false c3
    clear c3
    obtain rfl := Option.some.inj H
    go_wp2
    go_ret
    exact ⟨by first | rfl | (simp; done) | (simp [*]; done), by repeat (first | exact Drawn0.refl _ | apply Drawn0.step)⟩
def pidginref05_two.f (k : Nat) (a0 : ByteArray) (a1 : Int) (a2 : Int) : Option (Int × Int) := if a0.toList = ([79, 82] : List UInt8) then (some (Go.bits .or .u16 a1 a2, 0)) else (if a0.toList = ([88, 79, 82] : List UInt8) then (some (Go.bits .xor .u16 a1 a2, 0)) else (if a0.toList = ([65, 78, 68] : List UInt8) then (some (Go.bits .and .u16 a1 a2, 0)) else (if a0.toList = ([43] : List UInt8) then (some (IntKind.u16.wrap (Go.bits .and .i64 (wrap64 ((wrap64 (a1)) + (wrap64 (a2)))) 65535), 0)) else (if a0.toList = ([45] : List UInt8) then (some (IntKind.u16.wrap (Go.bits .and .i64 (wrap64 ((wrap64 (a1)) - (wrap64 (a2)))) 65535), 0)) else (if a0.toList = ([42] : List UInt8) then (some (IntKind.u16.wrap (Go.bits .and .u64 (IntKind.u64.wrap ((IntKind.u64.wrap (a1)) * (IntKind.u64.wrap (a2)))) 65535), 0)) else (if a0.toList = ([83, 72, 76] : List UInt8) then ((pidginref05_power.f k a1 a2).bind fun t211 => (some (t211, 0))) else (if a0.toList = ([83, 72, 82] : List UInt8) then ((pidginref05_half.f k a1 a2).bind fun t212 => (some (t212, 0))) else (if a2 = 0 then (some (0, 5)) else (if a0.toList = ([47] : List UInt8) then (some (IntKind.u16.wrap (Int.tdiv a1 a2), 0)) else (some (Int.tmod a1 a2, 0)))))))))))
set_option maxHeartbeats 8000000 in
set_option maxRecDepth 100000 in
theorem pidginref05_two.calls (k : Nat) (a0 : ByteArray) (a1 : Int) (a2 : Int) (r1 : Int) (r2 : Int) (w : World) (h : pidginref05_two.f k a0 a1 a2 = some (r1, r2)) :
  Calls Tryd.prog 123 #[.string a0, .int .u16 a1, .int .u16 a2] w fun e w' => e = .returned (.tuple #[.int .u16 r1, .int .i64 r2]) ∧ Drawn0 w w' := by
 have H : (if a0.toList = ([79, 82] : List UInt8) then (some (Go.bits .or .u16 a1 a2, 0)) else (if a0.toList = ([88, 79, 82] : List UInt8) then (some (Go.bits .xor .u16 a1 a2, 0)) else (if a0.toList = ([65, 78, 68] : List UInt8) then (some (Go.bits .and .u16 a1 a2, 0)) else (if a0.toList = ([43] : List UInt8) then (some (IntKind.u16.wrap (Go.bits .and .i64 (wrap64 ((wrap64 (a1)) + (wrap64 (a2)))) 65535), 0)) else (if a0.toList = ([45] : List UInt8) then (some (IntKind.u16.wrap (Go.bits .and .i64 (wrap64 ((wrap64 (a1)) - (wrap64 (a2)))) 65535), 0)) else (if a0.toList = ([42] : List UInt8) then (some (IntKind.u16.wrap (Go.bits .and .u64 (IntKind.u64.wrap ((IntKind.u64.wrap (a1)) * (IntKind.u64.wrap (a2)))) 65535), 0)) else (if a0.toList = ([83, 72, 76] : List UInt8) then ((pidginref05_power.f k a1 a2).bind fun t211 => (some (t211, 0))) else (if a0.toList = ([83, 72, 82] : List UInt8) then ((pidginref05_half.f k a1 a2).bind fun t212 => (some (t212, 0))) else (if a2 = 0 then (some (0, 5)) else (if a0.toList = ([47] : List UInt8) then (some (IntKind.u16.wrap (Int.tdiv a1 a2), 0)) else (some (Int.tmod a1 a2, 0)))))))))))) = some (r1, r2) := h
 clear h
 by_cases c4 : a0.toList = ([79, 82] : List UInt8)
 ·rw [if_pos c4] at H
  have c4b0 : (a0.toList == ([79, 82] : List UInt8)) = true := beq_iff_eq.mpr c4
  have c4b1 : (a0.toList != ([79, 82] : List UInt8)) = false := bne_eq_false_iff_eq.mpr c4
  clear c4
  simp only [Option.some.injEq, Prod.mk.injEq] at H
  obtain ⟨rfl, rfl⟩ := H
  go_enter Tryd.func123, Tryd.ntmps123
  go_wp2
  go_ret2
  exact ⟨by first | rfl | (simp; done) | (simp [*]; done), by repeat (first | exact Drawn0.refl _ | apply Drawn0.step)⟩
 ·rw [if_neg c4] at H
  have c4b0 : (a0.toList == ([79, 82] : List UInt8)) = false := beq_eq_false_iff_ne.mpr c4
  have c4b1 : (a0.toList != ([79, 82] : List UInt8)) = true := bne_iff_ne.mpr c4
  by_cases c5 : a0.toList = ([88, 79, 82] : List UInt8)
  ·rw [if_pos c5] at H
   have c5b0 : (a0.toList == ([88, 79, 82] : List UInt8)) = true := beq_iff_eq.mpr c5
   have c5b1 : (a0.toList != ([88, 79, 82] : List UInt8)) = false := bne_eq_false_iff_eq.mpr c5
   clear c5
   simp only [Option.some.injEq, Prod.mk.injEq] at H
   obtain ⟨rfl, rfl⟩ := H
   go_enter Tryd.func123, Tryd.ntmps123
   go_wp2
   go_ret2
   exact ⟨by first | rfl | (simp; done) | (simp [*]; done), by repeat (first | exact Drawn0.refl _ | apply Drawn0.step)⟩
  ·rw [if_neg c5] at H
   have c5b0 : (a0.toList == ([88, 79, 82] : List UInt8)) = false := beq_eq_false_iff_ne.mpr c5
   have c5b1 : (a0.toList != ([88, 79, 82] : List UInt8)) = true := bne_iff_ne.mpr c5
   by_cases c6 : a0.toList = ([65, 78, 68] : List UInt8)
   ·rw [if_pos c6] at H
    have c6b0 : (a0.toList == ([65, 78, 68] : List UInt8)) = true := beq_iff_eq.mpr c6
    have c6b1 : (a0.toList != ([65, 78, 68] : List UInt8)) = false := bne_eq_false_iff_eq.mpr c6
    clear c6
    simp only [Option.some.injEq, Prod.mk.injEq] at H
    obtain ⟨rfl, rfl⟩ := H
    go_enter Tryd.func123, Tryd.ntmps123
    go_wp2
    go_ret2
    exact ⟨by first | rfl | (simp; done) | (simp [*]; done), by repeat (first | exact Drawn0.refl _ | apply Drawn0.step)⟩
   ·rw [if_neg c6] at H
    have c6b0 : (a0.toList == ([65, 78, 68] : List UInt8)) = false := beq_eq_false_iff_ne.mpr c6
    have c6b1 : (a0.toList != ([65, 78, 68] : List UInt8)) = true := bne_iff_ne.mpr c6
    by_cases c7 : a0.toList = ([43] : List UInt8)
    ·rw [if_pos c7] at H
     have c7b0 : (a0.toList == ([43] : List UInt8)) = true := beq_iff_eq.mpr c7
     have c7b1 : (a0.toList != ([43] : List UInt8)) = false := bne_eq_false_iff_eq.mpr c7
     clear c7
     simp only [Option.some.injEq, Prod.mk.injEq] at H
     obtain ⟨rfl, rfl⟩ := H
     go_enter Tryd.func123, Tryd.ntmps123
     go_wp2
     go_ret2
     exact ⟨by first | rfl | (simp; done) | (simp [*]; done), by repeat (first | exact Drawn0.refl _ | apply Drawn0.step)⟩
    ·rw [if_neg c7] at H
     have c7b0 : (a0.toList == ([43] : List UInt8)) = false := beq_eq_false_iff_ne.mpr c7
     have c7b1 : (a0.toList != ([43] : List UInt8)) = true := bne_iff_ne.mpr c7
     by_cases c8 : a0.toList = ([45] : List UInt8)
     ·rw [if_pos c8] at H
      have c8b0 : (a0.toList == ([45] : List UInt8)) = true := beq_iff_eq.mpr c8
      have c8b1 : (a0.toList != ([45] : List UInt8)) = false := bne_eq_false_iff_eq.mpr c8
      clear c8
      simp only [Option.some.injEq, Prod.mk.injEq] at H
      obtain ⟨rfl, rfl⟩ := H
      go_enter Tryd.func123, Tryd.ntmps123
      go_wp2
      go_ret2
      exact ⟨by first | rfl | (simp; done) | (simp [*]; done), by repeat (first | exact Drawn0.refl _ | apply Drawn0.step)⟩
     ·rw [if_neg c8] at H
      have c8b0 : (a0.toList == ([45] : List UInt8)) = false := beq_eq_false_iff_ne.mpr c8
      have c8b1 : (a0.toList != ([45] : List UInt8)) = true := bne_iff_ne.mpr c8
      by_cases c9 : a0.toList = ([42] : List UInt8)
      ·rw [if_pos c9] at H
       have c9b0 : (a0.toList == ([42] : List UInt8)) = true := beq_iff_eq.mpr c9
       have c9b1 : (a0.toList != ([42] : List UInt8)) = false := bne_eq_false_iff_eq.mpr c9
       clear c9
       simp only [Option.some.injEq, Prod.mk.injEq] at H
       obtain ⟨rfl, rfl⟩ := H
       go_enter Tryd.func123, Tryd.ntmps123
       go_wp2
       go_ret2
       exact ⟨by first | rfl | (simp; done) | (simp [*]; done), by repeat (first | exact Drawn0.refl _ | apply Drawn0.step)⟩
      ·rw [if_neg c9] at H
       have c9b0 : (a0.toList == ([42] : List UInt8)) = false := beq_eq_false_iff_ne.mpr c9
       have c9b1 : (a0.toList != ([42] : List UInt8)) = true := bne_iff_ne.mpr c9
       by_cases c10 : a0.toList = ([83, 72, 76] : List UInt8)
       ·rw [if_pos c10] at H
        have c10b0 : (a0.toList == ([83, 72, 76] : List UInt8)) = true := beq_iff_eq.mpr c10
        have c10b1 : (a0.toList != ([83, 72, 76] : List UInt8)) = false := bne_eq_false_iff_eq.mpr c10
        clear c10
        replace H := Option.bind_eq_some_iff.mp H
        obtain ⟨t211, A110, H⟩ := H
        replace H : (some (t211, 0)) = some (r1, r2) := H
        have A11 := zz_ A110
        clear A110
        simp only [Option.some.injEq, Prod.mk.injEq] at H
        obtain ⟨rfl, rfl⟩ := H
        go_enter Tryd.func123, Tryd.ntmps123
        go_wp2_with (first | ((with_reducible refine zQ (f := 150) rfl ?_); refine goesL_ (some 55) rfl rfl Tryd.func150 (by kernel_rfl) rfl #[.int .u16 a1, .int .u16 a2] rfl (by (try simp only [List.map_toArray, List.map_cons, List.map_nil]); first | done | rfl | (simp only [List.length_drop, List.length_take]; rfl)) ?_; (with_reducible refine (pidginref05_power.calls k a1 a2 t211 _ A11.out).mono ?_); rintro e w' ⟨rfl, ⟨nd, rfl⟩⟩; refine ⟨_, rfl, ?_⟩))
        go_ret2
        exact ⟨by first | rfl | (simp; done) | (simp [*]; done), by repeat (first | exact Drawn0.refl _ | apply Drawn0.step)⟩
       ·rw [if_neg c10] at H
        have c10b0 : (a0.toList == ([83, 72, 76] : List UInt8)) = false := beq_eq_false_iff_ne.mpr c10
        have c10b1 : (a0.toList != ([83, 72, 76] : List UInt8)) = true := bne_iff_ne.mpr c10
        by_cases c12 : a0.toList = ([83, 72, 82] : List UInt8)
        ·rw [if_pos c12] at H
         have c12b0 : (a0.toList == ([83, 72, 82] : List UInt8)) = true := beq_iff_eq.mpr c12
         have c12b1 : (a0.toList != ([83, 72, 82] : List UInt8)) = false := bne_eq_false_iff_eq.mpr c12
         clear c12
         replace H := Option.bind_eq_some_iff.mp H
         obtain ⟨t212, A130, H⟩ := H
         replace H : (some (t212, 0)) = some (r1, r2) := H
         have A13 := zz_ A130
         clear A130
         simp only [Option.some.injEq, Prod.mk.injEq] at H
         obtain ⟨rfl, rfl⟩ := H
         go_enter Tryd.func123, Tryd.ntmps123
         go_wp2_with (first | ((with_reducible refine zQ (f := 151) rfl ?_); refine goesL_ (some 60) rfl rfl Tryd.func151 (by kernel_rfl) rfl #[.int .u16 a1, .int .u16 a2] rfl (by (try simp only [List.map_toArray, List.map_cons, List.map_nil]); first | done | rfl | (simp only [List.length_drop, List.length_take]; rfl)) ?_; (with_reducible refine (pidginref05_half.calls k a1 a2 t212 _ A13.out).mono ?_); rintro e w' ⟨rfl, ⟨nd, rfl⟩⟩; refine ⟨_, rfl, ?_⟩))
         go_ret2
         exact ⟨by first | rfl | (simp; done) | (simp [*]; done), by repeat (first | exact Drawn0.refl _ | apply Drawn0.step)⟩
        ·rw [if_neg c12] at H
         have c12b0 : (a0.toList == ([83, 72, 82] : List UInt8)) = false := beq_eq_false_iff_ne.mpr c12
         have c12b1 : (a0.toList != ([83, 72, 82] : List UInt8)) = true := bne_iff_ne.mpr c12
         by_cases c14 : a2 = 0
         ·rw [if_pos c14] at H
          have c14b0 : (a2 == 0) = true := beq_iff_eq.mpr c14
          have c14b1 : (a2 != 0) = false := bne_eq_false_iff_eq.mpr c14
          clear c14
          simp only [Option.some.injEq, Prod.mk.injEq] at H
          obtain ⟨rfl, rfl⟩ := H
          go_enter Tryd.func123, Tryd.ntmps123
          go_wp2
          go_ret2
          exact ⟨by first | rfl | (simp; done) | (simp [*]; done), by repeat (first | exact Drawn0.refl _ | apply Drawn0.step)⟩
         ·rw [if_neg c14] at H
          have c14b0 : (a2 == 0) = false := beq_eq_false_iff_ne.mpr c14
          have c14b1 : (a2 != 0) = true := bne_iff_ne.mpr c14
          by_cases c15 : a0.toList = ([47] : List UInt8)
          ·rw [if_pos c15] at H
           have c15b0 : (a0.toList == ([47] : List UInt8)) = true := beq_iff_eq.mpr c15
           have c15b1 : (a0.toList != ([47] : List UInt8)) = false := bne_eq_false_iff_eq.mpr c15
           clear c15
           simp only [Option.some.injEq, Prod.mk.injEq] at H
           obtain ⟨rfl, rfl⟩ := H
           go_enter Tryd.func123, Tryd.ntmps123
           go_wp2
           go_ret2
           exact ⟨by first | rfl | (simp; done) | (simp [*]; done), by repeat (first | exact Drawn0.refl _ | apply Drawn0.step)⟩
          ·rw [if_neg c15] at H
           have c15b0 : (a0.toList == ([47] : List UInt8)) = false := beq_eq_false_iff_ne.mpr c15
           have c15b1 : (a0.toList != ([47] : List UInt8)) = true := bne_iff_ne.mpr c15
           simp only [Option.some.injEq, Prod.mk.injEq] at H
           obtain ⟨rfl, rfl⟩ := H
           go_enter Tryd.func123, Tryd.ntmps123
           go_wp2
           go_ret2
           exact ⟨by first | rfl | (simp; done) | (simp [*]; done), by repeat (first | exact Drawn0.refl _ | apply Drawn0.step)⟩
def pidginref05_eval.f : Nat → ByteArray → Int → ByteArray → List (S50) → Int → List (S98) → Option (Int × Int)
 | 0, _, _, _, _, _, _ => none
 | k + 1, a0_0, a0_1, a0_2, l0_3, a1, l2 => if a0_0.toList = ([35] : List UInt8) then (some (a0_1, 0)) else (if a0_0.toList = ([36] : List UInt8) then (some (a1, 0)) else (if a0_0.toList = ([110] : List UInt8) then ((pidginref05_Find.f k l2 a0_2).bind fun bt214 => (some (bt214.1, bt214.2))) else (if 0 < (l0_3.length : Int) then ((pidginref05_eval.f k ((zL l0_3 0).f0) ((zL l0_3 0).f1) ((zL l0_3 0).f2) ((zL l0_3 0).f3) a1 l2).bind fun bt217 => (if bt217.2 = 0 then (if a0_0.toList = ([78, 79, 84] : List UInt8) then (some (IntKind.u16.wrap (65535 - bt217.1), 0)) else (if a0_0.toList = ([78, 69, 71] : List UInt8) then (some (IntKind.u16.wrap (Go.bits .and .i64 (wrap64 (65536 - (wrap64 (bt217.1)))) 65535), 0)) else (if 1 < (l0_3.length : Int) then ((pidginref05_eval.f k ((zL l0_3 1).f0) ((zL l0_3 1).f1) ((zL l0_3 1).f2) ((zL l0_3 1).f3) a1 l2).bind fun bt220 => (if bt220.2 = 0 then ((pidginref05_two.f k a0_0 bt217.1 bt220.1).bind fun bt222 => (some (bt222.1, bt222.2))) else (some (0, bt220.2)))) else (none)))) else (some (0, bt217.2)))) else (none))))
set_option maxHeartbeats 8000000 in
set_option maxRecDepth 100000 in
theorem pidginref05_eval.calls (k : Nat) : ∀ (a0_0 : ByteArray) (a0_1 : Int) (a0_2 : ByteArray) (A0_3 : Option Addr) (c0_3 : Nat) (l0_3 : List (S50)) (a1 : Int) (A2 : Option Addr) (c2 : Nat) (l2 : List (S98)) (r1 : Int) (r2 : Int) (w : World) (hr0_3 : Kd.C k50 w A0_3 l0_3.length l0_3) (hc0_3 : l0_3.length ≤ c0_3) (hr2 : Kd.C k98 w A2 l2.length l2) (hc2 : l2.length ≤ c2) (h : pidginref05_eval.f k a0_0 a0_1 a0_2 l0_3 a1 l2 = some (r1, r2)),
  Calls Tryd.prog 81 #[.agg #[.string a0_0, .int .u16 a0_1, .string a0_2, .slice A0_3 l0_3.length c0_3], .int .u16 a1, .slice A2 l2.length c2] w fun e w' => e = .returned (.tuple #[.int .u16 r1, .int .i64 r2]) ∧ Below w.heap.size w w' := by
 induction k using Nat.strongRecOn with
 | _ k ih =>
 intro a0_0 a0_1 a0_2 A0_3 c0_3 l0_3 a1 A2 c2 l2 r1 r2 w hr0_3 hc0_3 hr2 hc2 h
 cases k with
 | zero => exact absurd h (by simp [pidginref05_eval.f])
 | succ k =>
 simp only [pidginref05_eval.f] at h
 have hu50 := Tryd.underlying50
 have HR0_3 := zz_ hr0_3
 have HC0_3 := zz_ hc0_3
 clear hr0_3 hc0_3
 have HR2 := zz_ hr2
 have HC2 := zz_ hc2
 clear hr2 hc2
 have HB := zz_ (Below.refl w.heap.size w)
 have H : (if a0_0.toList = ([35] : List UInt8) then (some (a0_1, 0)) else (if a0_0.toList = ([36] : List UInt8) then (some (a1, 0)) else (if a0_0.toList = ([110] : List UInt8) then ((pidginref05_Find.f k l2 a0_2).bind fun bt214 => (some (bt214.1, bt214.2))) else (if 0 < (l0_3.length : Int) then ((pidginref05_eval.f k ((zL l0_3 0).f0) ((zL l0_3 0).f1) ((zL l0_3 0).f2) ((zL l0_3 0).f3) a1 l2).bind fun bt217 => (if bt217.2 = 0 then (if a0_0.toList = ([78, 79, 84] : List UInt8) then (some (IntKind.u16.wrap (65535 - bt217.1), 0)) else (if a0_0.toList = ([78, 69, 71] : List UInt8) then (some (IntKind.u16.wrap (Go.bits .and .i64 (wrap64 (65536 - (wrap64 (bt217.1)))) 65535), 0)) else (if 1 < (l0_3.length : Int) then ((pidginref05_eval.f k ((zL l0_3 1).f0) ((zL l0_3 1).f1) ((zL l0_3 1).f2) ((zL l0_3 1).f3) a1 l2).bind fun bt220 => (if bt220.2 = 0 then ((pidginref05_two.f k a0_0 bt217.1 bt220.1).bind fun bt222 => (some (bt222.1, bt222.2))) else (some (0, bt220.2)))) else (none)))) else (some (0, bt217.2)))) else (none))))) = some (r1, r2) := h
 clear h
 by_cases c4 : a0_0.toList = ([35] : List UInt8)
 ·rw [if_pos c4] at H
  have c4b0 : (a0_0.toList == ([35] : List UInt8)) = true := beq_iff_eq.mpr c4
  have c4b1 : (a0_0.toList != ([35] : List UInt8)) = false := bne_eq_false_iff_eq.mpr c4
  clear c4
  simp only [Option.some.injEq, Prod.mk.injEq] at H
  obtain ⟨rfl, rfl⟩ := H
  go_enter Tryd.func81, Tryd.ntmps81
  go_wp2_with (first | ((with_reducible refine zS (N := 3) rfl ?_); refine zO ?hg (N := 3) ?hd (cs := #[.string a0_0, .int .u16 a0_1, .string a0_2, .slice A0_3 l0_3.length c0_3]) (t := 50) ?hr ?_; (case hd => rfl); (case hg => rfl); (case hr => first | (go_simp; done) | (go_simp; rfl)); intro gb213 hg w5 hbox hb; have n0_ := zz_ (zG (by repeat (first | (with_reducible first | exact HB.out | apply zB | apply zA | apply zC) | exact HB.out)) hb); have n1_ := zz_ (hbox); have n2_ := zz_ ((by rw [hg]; exact (zR (by repeat (first | (with_reducible first | exact HB.out | apply zB | apply zA | apply zC) | exact HB.out))) : w.heap.size ≤ gb213)); have n3_ := zz_ ((by rw [hg]; exact (zR (by repeat (first | (with_reducible first | exact HB.out | apply zB | apply zA | apply zC) | exact HB.out))) : w.heap.size ≤ gb213)); clear HB; have HB := n0_; have BK213 := n1_; have GW213 := n2_; have GE213 := n3_; clear n0_ n1_ n2_ n3_; clear hb hbox hg; have hcz6_0 : w5.cell? ⟨gb213, 0, none⟩ = some (.string a0_0) := (zD BK213.out 0).trans rfl; have hcz6_1 : w5.cell? ⟨gb213, 1, none⟩ = some (.int .u16 a0_1) := (zD BK213.out 1).trans rfl; have hcz6_2 : w5.cell? ⟨gb213, 2, none⟩ = some (.string a0_2) := (zD BK213.out 2).trans rfl; have hcz6_3 : w5.cell? ⟨gb213, 3, none⟩ = some (.slice A0_3 l0_3.length c0_3) := (zD BK213.out 3).trans rfl; have hfz6_0 := zE BK213.out 0; have hfz6_1 := zE BK213.out 1; have hfz6_2 := zE BK213.out 2; have hfz6_3 := zE BK213.out 3))
  go_ret2
  exact ⟨by first | rfl | (simp [zN, zM] <;> rfl) | (simp [*, zN, zM] <;> rfl), by repeat (first | (with_reducible first | exact HB.out | apply zB | apply zA | apply zC | refine zF ?_ GE213.out) | exact HB.out)⟩
 ·rw [if_neg c4] at H
  have c4b0 : (a0_0.toList == ([35] : List UInt8)) = false := beq_eq_false_iff_ne.mpr c4
  have c4b1 : (a0_0.toList != ([35] : List UInt8)) = true := bne_iff_ne.mpr c4
  by_cases c7 : a0_0.toList = ([36] : List UInt8)
  ·rw [if_pos c7] at H
   have c7b0 : (a0_0.toList == ([36] : List UInt8)) = true := beq_iff_eq.mpr c7
   have c7b1 : (a0_0.toList != ([36] : List UInt8)) = false := bne_eq_false_iff_eq.mpr c7
   clear c7
   simp only [Option.some.injEq, Prod.mk.injEq] at H
   obtain ⟨rfl, rfl⟩ := H
   go_enter Tryd.func81, Tryd.ntmps81
   go_wp2_with (first | ((with_reducible refine zS (N := 3) rfl ?_); refine zO ?hg (N := 3) ?hd (cs := #[.string a0_0, .int .u16 a0_1, .string a0_2, .slice A0_3 l0_3.length c0_3]) (t := 50) ?hr ?_; (case hd => rfl); (case hg => rfl); (case hr => first | (go_simp; done) | (go_simp; rfl)); intro gb213 hg w8 hbox hb; have n0_ := zz_ (zG (by repeat (first | (with_reducible first | exact HB.out | apply zB | apply zA | apply zC) | exact HB.out)) hb); have n1_ := zz_ (hbox); have n2_ := zz_ ((by rw [hg]; exact (zR (by repeat (first | (with_reducible first | exact HB.out | apply zB | apply zA | apply zC) | exact HB.out))) : w.heap.size ≤ gb213)); have n3_ := zz_ ((by rw [hg]; exact (zR (by repeat (first | (with_reducible first | exact HB.out | apply zB | apply zA | apply zC) | exact HB.out))) : w.heap.size ≤ gb213)); clear HB; have HB := n0_; have BK213 := n1_; have GW213 := n2_; have GE213 := n3_; clear n0_ n1_ n2_ n3_; clear hb hbox hg; have hcz9_0 : w8.cell? ⟨gb213, 0, none⟩ = some (.string a0_0) := (zD BK213.out 0).trans rfl; have hcz9_1 : w8.cell? ⟨gb213, 1, none⟩ = some (.int .u16 a0_1) := (zD BK213.out 1).trans rfl; have hcz9_2 : w8.cell? ⟨gb213, 2, none⟩ = some (.string a0_2) := (zD BK213.out 2).trans rfl; have hcz9_3 : w8.cell? ⟨gb213, 3, none⟩ = some (.slice A0_3 l0_3.length c0_3) := (zD BK213.out 3).trans rfl; have hfz9_0 := zE BK213.out 0; have hfz9_1 := zE BK213.out 1; have hfz9_2 := zE BK213.out 2; have hfz9_3 := zE BK213.out 3))
   go_ret2
   exact ⟨by first | rfl | (simp [zN, zM] <;> rfl) | (simp [*, zN, zM] <;> rfl), by repeat (first | (with_reducible first | exact HB.out | apply zB | apply zA | apply zC | refine zF ?_ GE213.out) | exact HB.out)⟩
  ·rw [if_neg c7] at H
   have c7b0 : (a0_0.toList == ([36] : List UInt8)) = false := beq_eq_false_iff_ne.mpr c7
   have c7b1 : (a0_0.toList != ([36] : List UInt8)) = true := bne_iff_ne.mpr c7
   by_cases c10 : a0_0.toList = ([110] : List UInt8)
   ·rw [if_pos c10] at H
    have c10b0 : (a0_0.toList == ([110] : List UInt8)) = true := beq_iff_eq.mpr c10
    have c10b1 : (a0_0.toList != ([110] : List UInt8)) = false := bne_eq_false_iff_eq.mpr c10
    clear c10
    replace H := Option.bind_eq_some_iff.mp H
    obtain ⟨⟨t214, t215⟩, A110, H⟩ := H
    replace H : (some (t214, t215)) = some (r1, r2) := H
    have A11 := zz_ A110
    clear A110
    simp only [Option.some.injEq, Prod.mk.injEq] at H
    obtain ⟨rfl, rfl⟩ := H
    go_enter Tryd.func81, Tryd.ntmps81
    go_wp2_with (first | ((with_reducible refine zS (N := 3) rfl ?_); refine zO ?hg (N := 3) ?hd (cs := #[.string a0_0, .int .u16 a0_1, .string a0_2, .slice A0_3 l0_3.length c0_3]) (t := 50) ?hr ?_; (case hd => rfl); (case hg => rfl); (case hr => first | (go_simp; done) | (go_simp; rfl)); intro gb213 hg w12 hbox hb; have n0_ := zz_ (zG (by repeat (first | (with_reducible first | exact HB.out | apply zB | apply zA | apply zC) | exact HB.out)) hb); have n1_ := zz_ (hbox); have n2_ := zz_ ((by rw [hg]; exact (zR (by repeat (first | (with_reducible first | exact HB.out | apply zB | apply zA | apply zC) | exact HB.out))) : w.heap.size ≤ gb213)); have n3_ := zz_ ((by rw [hg]; exact (zR (by repeat (first | (with_reducible first | exact HB.out | apply zB | apply zA | apply zC) | exact HB.out))) : w.heap.size ≤ gb213)); clear HB; have HB := n0_; have BK213 := n1_; have GW213 := n2_; have GE213 := n3_; clear n0_ n1_ n2_ n3_; clear hb hbox hg; have hcz13_0 : w12.cell? ⟨gb213, 0, none⟩ = some (.string a0_0) := (zD BK213.out 0).trans rfl; have hcz13_1 : w12.cell? ⟨gb213, 1, none⟩ = some (.int .u16 a0_1) := (zD BK213.out 1).trans rfl; have hcz13_2 : w12.cell? ⟨gb213, 2, none⟩ = some (.string a0_2) := (zD BK213.out 2).trans rfl; have hcz13_3 : w12.cell? ⟨gb213, 3, none⟩ = some (.slice A0_3 l0_3.length c0_3) := (zD BK213.out 3).trans rfl; have hfz13_0 := zE BK213.out 0; have hfz13_1 := zE BK213.out 1; have hfz13_2 := zE BK213.out 2; have hfz13_3 := zE BK213.out 3) | ((with_reducible refine zQ (f := 42) rfl ?_); refine goesL_ (some 25) rfl rfl Tryd.func42 (by kernel_rfl) rfl #[.slice A2 l2.length c2, .string a0_2] rfl (by (try simp only [List.map_toArray, List.map_cons, List.map_nil]); first | done | rfl | (simp only [List.length_drop, List.length_take]; rfl)) ?_; (with_reducible refine (pidginref05_Find.calls k _ _ l2 a0_2 t214 t215 _ ?side1 ?side2 A11.out).mono ?_); (case side1 => repeat (first | exact (Kd.zV HR2.out HB.out) | (with_reducible refine Kd.C_alloc ?_ _) | (with_reducible refine Kd.C_drewN ?_ _) | (with_reducible refine Kd.C_drew ?_))); (case side2 => exact HC2.out); rintro e w' ⟨rfl, ⟨nd, rfl⟩⟩; refine ⟨_, rfl, ?_⟩))
    go_ret2
    exact ⟨by first | rfl | (simp [zN, zM] <;> rfl) | (simp [*, zN, zM] <;> rfl), by repeat (first | (with_reducible first | exact HB.out | apply zB | apply zA | apply zC | refine zF ?_ GE213.out) | exact HB.out)⟩
   ·rw [if_neg c10] at H
    have c10b0 : (a0_0.toList == ([110] : List UInt8)) = false := beq_eq_false_iff_ne.mpr c10
    have c10b1 : (a0_0.toList != ([110] : List UInt8)) = true := bne_iff_ne.mpr c10
    by_cases c14 : 0 < (l0_3.length : Int)
    ·rw [if_pos c14] at H
     have c14b0 : decide (0 < (l0_3.length : Int)) = true := decide_eq_true c14
     have c14b1 : decide (0 < l0_3.length) = true := decide_eq_true (by omega)
     clear c14
     replace H := Option.bind_eq_some_iff.mp H
     obtain ⟨⟨t217, t218⟩, A150, H⟩ := H
     replace H : (if t218 = 0 then (if a0_0.toList = ([78, 79, 84] : List UInt8) then (some (IntKind.u16.wrap (65535 - t217), 0)) else (if a0_0.toList = ([78, 69, 71] : List UInt8) then (some (IntKind.u16.wrap (Go.bits .and .i64 (wrap64 (65536 - (wrap64 (t217)))) 65535), 0)) else (if 1 < (l0_3.length : Int) then ((pidginref05_eval.f k ((zL l0_3 1).f0) ((zL l0_3 1).f1) ((zL l0_3 1).f2) ((zL l0_3 1).f3) a1 l2).bind fun bt220 => (if bt220.2 = 0 then ((pidginref05_two.f k a0_0 t217 bt220.1).bind fun bt222 => (some (bt222.1, bt222.2))) else (some (0, bt220.2)))) else (none)))) else (some (0, t218))) = some (r1, r2) := H
     have A15 := zz_ A150
     clear A150
     by_cases c16 : t218 = 0
     ·rw [if_pos c16] at H
      have c16b0 : (t218 == 0) = true := beq_iff_eq.mpr c16
      have c16b1 : (t218 != 0) = false := bne_eq_false_iff_eq.mpr c16
      clear c16
      by_cases c17 : a0_0.toList = ([78, 79, 84] : List UInt8)
      ·rw [if_pos c17] at H
       have c17b0 : (a0_0.toList == ([78, 79, 84] : List UInt8)) = true := beq_iff_eq.mpr c17
       have c17b1 : (a0_0.toList != ([78, 79, 84] : List UInt8)) = false := bne_eq_false_iff_eq.mpr c17
       clear c17
       simp only [Option.some.injEq, Prod.mk.injEq] at H
       obtain ⟨rfl, rfl⟩ := H
       go_enter Tryd.func81, Tryd.ntmps81
       go_wp2_with (first | ((with_reducible refine zS (N := 3) rfl ?_); refine zO ?hg (N := 3) ?hd (cs := #[.string a0_0, .int .u16 a0_1, .string a0_2, .slice A0_3 l0_3.length c0_3]) (t := 50) ?hr ?_; (case hd => rfl); (case hg => rfl); (case hr => first | (go_simp; done) | (go_simp; rfl)); intro gb213 hg w18 hbox hb; have n0_ := zz_ (zG (by repeat (first | (with_reducible first | exact HB.out | apply zB | apply zA | apply zC) | exact HB.out)) hb); have n1_ := zz_ (hbox); have n2_ := zz_ ((by rw [hg]; exact (zR (by repeat (first | (with_reducible first | exact HB.out | apply zB | apply zA | apply zC) | exact HB.out))) : w.heap.size ≤ gb213)); have n3_ := zz_ ((by rw [hg]; exact (zR (by repeat (first | (with_reducible first | exact HB.out | apply zB | apply zA | apply zC) | exact HB.out))) : w.heap.size ≤ gb213)); clear HB; have HB := n0_; have BK213 := n1_; have GW213 := n2_; have GE213 := n3_; clear n0_ n1_ n2_ n3_; clear hb hbox hg; have hcz19_0 : w18.cell? ⟨gb213, 0, none⟩ = some (.string a0_0) := (zD BK213.out 0).trans rfl; have hcz19_1 : w18.cell? ⟨gb213, 1, none⟩ = some (.int .u16 a0_1) := (zD BK213.out 1).trans rfl; have hcz19_2 : w18.cell? ⟨gb213, 2, none⟩ = some (.string a0_2) := (zD BK213.out 2).trans rfl; have hcz19_3 : w18.cell? ⟨gb213, 3, none⟩ = some (.slice A0_3 l0_3.length c0_3) := (zD BK213.out 3).trans rfl; have hfz19_0 := zE BK213.out 0; have hfz19_1 := zE BK213.out 1; have hfz19_2 := zE BK213.out 2; have hfz19_3 := zE BK213.out 3; have p216 : 0 ≤ (0 : Int) := (by omega); have q216 : 0 < (l0_3.length : Int) := of_decide_eq_true (by first | (with_reducible assumption) | assumption); obtain ⟨ad216, A216_3, c216_3, e216, hx216_0, hx216_1, hx216_2, hx216_3, hl216_3, hi216_3⟩ := at_T50 HR0_3.out 0 p216 q216; cases e216; have qi216 : (0 < l0_3.length) = True := eq_true (by omega); (try rw [show ((0 : Int)).toNat = 0 from rfl] at hx216_0); (try rw [show 0 * 4 = 0 from rfl] at hx216_0); (try rw [Addr.add_zero'] at hx216_0); (try rw [show ((0 : Int)).toNat = 0 from rfl] at hx216_1); (try rw [show 0 * 4 = 0 from rfl] at hx216_1); (try rw [Addr.add_zero'] at hx216_1); (try rw [show ((0 : Int)).toNat = 0 from rfl] at hx216_2); (try rw [show 0 * 4 = 0 from rfl] at hx216_2); (try rw [Addr.add_zero'] at hx216_2); (try rw [show ((0 : Int)).toNat = 0 from rfl] at hx216_3); (try rw [show 0 * 4 = 0 from rfl] at hx216_3); (try rw [Addr.add_zero'] at hx216_3); replace hx216_0 := (HB.out.cell (World.block_lt_of_cell? w _ hx216_0)).trans hx216_0; replace hx216_1 := (HB.out.cell (World.block_lt_of_cell? w _ hx216_1)).trans hx216_1; replace hx216_2 := (HB.out.cell (World.block_lt_of_cell? w _ hx216_2)).trans hx216_2; replace hx216_3 := (HB.out.cell (World.block_lt_of_cell? w _ hx216_3)).trans hx216_3; have HR216_3 := zz_ hi216_3; have HC216_3 := zz_ hl216_3; clear hi216_3 hl216_3; replace p216 := eq_true p216; replace q216 := eq_true q216) | ((with_reducible refine zQ (f := 81) rfl ?_); refine goesL_ (some 35) rfl rfl Tryd.func81 (by kernel_rfl) rfl #[.agg #[.string ((zL l0_3 0).f0), .int .u16 ((zL l0_3 0).f1), .string ((zL l0_3 0).f2), .slice A216_3 ((zL l0_3 0).f3).length c216_3], .int .u16 a1, .slice A2 l2.length c2] rfl (by (try simp only [List.map_toArray, List.map_cons, List.map_nil]); first | done | rfl | (simp only [List.length_drop, List.length_take]; rfl)) ?_; (with_reducible refine (ih k (by omega) ((zL l0_3 0).f0) ((zL l0_3 0).f1) ((zL l0_3 0).f2) _ _ ((zL l0_3 0).f3) a1 _ _ l2 t217 t218 _ ?side1 ?side2 ?side3 ?side4 A15.out).mono ?_); (case side1 => repeat (first | exact (Kd.zV HR216_3.out HB.out) | (with_reducible refine Kd.C_alloc ?_ _) | (with_reducible refine Kd.C_drewN ?_ _) | (with_reducible refine Kd.C_drew ?_))); (case side2 => exact HC216_3.out); (case side3 => repeat (first | exact (Kd.zV HR2.out HB.out) | (with_reducible refine Kd.C_alloc ?_ _) | (with_reducible refine Kd.C_drewN ?_ _) | (with_reducible refine Kd.C_drew ?_))); (case side4 => exact HC2.out); rintro e w20 ⟨rfl, hb⟩; refine ⟨_, rfl, ?_⟩; have n0_ := zz_ (zK (g := gb213) (o := .cells #[.string a0_0, .int .u16 a0_1, .string a0_2, .slice (some ad216) l0_3.length c0_3] 50 (0, 0)) (by (with_reducible repeat (first | refine zH ?_ _ | refine zJ ?_ | refine zI ?_ _)); exact BK213.out) hb); have n1_ := zz_ (zG (by repeat (first | (with_reducible first | exact HB.out | apply zB | apply zA | apply zC | refine zF ?_ GE213.out) | exact HB.out)) hb); clear BK213; clear HB; have BK213 := n0_; have HB := n1_; clear n0_ n1_; (try clear hb); have hcz21_0 : w20.cell? ⟨gb213, 0, none⟩ = some (.string a0_0) := (zD BK213.out 0).trans rfl; have hcz21_1 : w20.cell? ⟨gb213, 1, none⟩ = some (.int .u16 a0_1) := (zD BK213.out 1).trans rfl; have hcz21_2 : w20.cell? ⟨gb213, 2, none⟩ = some (.string a0_2) := (zD BK213.out 2).trans rfl; have hcz21_3 : w20.cell? ⟨gb213, 3, none⟩ = some (.slice (some ad216) l0_3.length c0_3) := (zD BK213.out 3).trans rfl; have hfz21_0 := zE BK213.out 0; have hfz21_1 := zE BK213.out 1; have hfz21_2 := zE BK213.out 2; have hfz21_3 := zE BK213.out 3))
       go_ret2
       exact ⟨by first | rfl | (simp [zN, zM] <;> rfl) | (simp [*, zN, zM] <;> rfl), by repeat (first | (with_reducible first | exact HB.out | apply zB | apply zA | apply zC | refine zF ?_ GE213.out) | exact HB.out)⟩
      ·rw [if_neg c17] at H
       have c17b0 : (a0_0.toList == ([78, 79, 84] : List UInt8)) = false := beq_eq_false_iff_ne.mpr c17
       have c17b1 : (a0_0.toList != ([78, 79, 84] : List UInt8)) = true := bne_iff_ne.mpr c17
       by_cases c22 : a0_0.toList = ([78, 69, 71] : List UInt8)
       ·rw [if_pos c22] at H
        have c22b0 : (a0_0.toList == ([78, 69, 71] : List UInt8)) = true := beq_iff_eq.mpr c22
        have c22b1 : (a0_0.toList != ([78, 69, 71] : List UInt8)) = false := bne_eq_false_iff_eq.mpr c22
        clear c22
        simp only [Option.some.injEq, Prod.mk.injEq] at H
        obtain ⟨rfl, rfl⟩ := H
        go_enter Tryd.func81, Tryd.ntmps81
        go_wp2_with (first | ((with_reducible refine zS (N := 3) rfl ?_); refine zO ?hg (N := 3) ?hd (cs := #[.string a0_0, .int .u16 a0_1, .string a0_2, .slice A0_3 l0_3.length c0_3]) (t := 50) ?hr ?_; (case hd => rfl); (case hg => rfl); (case hr => first | (go_simp; done) | (go_simp; rfl)); intro gb213 hg w23 hbox hb; have n0_ := zz_ (zG (by repeat (first | (with_reducible first | exact HB.out | apply zB | apply zA | apply zC) | exact HB.out)) hb); have n1_ := zz_ (hbox); have n2_ := zz_ ((by rw [hg]; exact (zR (by repeat (first | (with_reducible first | exact HB.out | apply zB | apply zA | apply zC) | exact HB.out))) : w.heap.size ≤ gb213)); have n3_ := zz_ ((by rw [hg]; exact (zR (by repeat (first | (with_reducible first | exact HB.out | apply zB | apply zA | apply zC) | exact HB.out))) : w.heap.size ≤ gb213)); clear HB; have HB := n0_; have BK213 := n1_; have GW213 := n2_; have GE213 := n3_; clear n0_ n1_ n2_ n3_; clear hb hbox hg; have hcz24_0 : w23.cell? ⟨gb213, 0, none⟩ = some (.string a0_0) := (zD BK213.out 0).trans rfl; have hcz24_1 : w23.cell? ⟨gb213, 1, none⟩ = some (.int .u16 a0_1) := (zD BK213.out 1).trans rfl; have hcz24_2 : w23.cell? ⟨gb213, 2, none⟩ = some (.string a0_2) := (zD BK213.out 2).trans rfl; have hcz24_3 : w23.cell? ⟨gb213, 3, none⟩ = some (.slice A0_3 l0_3.length c0_3) := (zD BK213.out 3).trans rfl; have hfz24_0 := zE BK213.out 0; have hfz24_1 := zE BK213.out 1; have hfz24_2 := zE BK213.out 2; have hfz24_3 := zE BK213.out 3; have p216 : 0 ≤ (0 : Int) := (by omega); have q216 : 0 < (l0_3.length : Int) := of_decide_eq_true (by first | (with_reducible assumption) | assumption); obtain ⟨ad216, A216_3, c216_3, e216, hx216_0, hx216_1, hx216_2, hx216_3, hl216_3, hi216_3⟩ := at_T50 HR0_3.out 0 p216 q216; cases e216; have qi216 : (0 < l0_3.length) = True := eq_true (by omega); (try rw [show ((0 : Int)).toNat = 0 from rfl] at hx216_0); (try rw [show 0 * 4 = 0 from rfl] at hx216_0); (try rw [Addr.add_zero'] at hx216_0); (try rw [show ((0 : Int)).toNat = 0 from rfl] at hx216_1); (try rw [show 0 * 4 = 0 from rfl] at hx216_1); (try rw [Addr.add_zero'] at hx216_1); (try rw [show ((0 : Int)).toNat = 0 from rfl] at hx216_2); (try rw [show 0 * 4 = 0 from rfl] at hx216_2); (try rw [Addr.add_zero'] at hx216_2); (try rw [show ((0 : Int)).toNat = 0 from rfl] at hx216_3); (try rw [show 0 * 4 = 0 from rfl] at hx216_3); (try rw [Addr.add_zero'] at hx216_3); replace hx216_0 := (HB.out.cell (World.block_lt_of_cell? w _ hx216_0)).trans hx216_0; replace hx216_1 := (HB.out.cell (World.block_lt_of_cell? w _ hx216_1)).trans hx216_1; replace hx216_2 := (HB.out.cell (World.block_lt_of_cell? w _ hx216_2)).trans hx216_2; replace hx216_3 := (HB.out.cell (World.block_lt_of_cell? w _ hx216_3)).trans hx216_3; have HR216_3 := zz_ hi216_3; have HC216_3 := zz_ hl216_3; clear hi216_3 hl216_3; replace p216 := eq_true p216; replace q216 := eq_true q216) | ((with_reducible refine zQ (f := 81) rfl ?_); refine goesL_ (some 35) rfl rfl Tryd.func81 (by kernel_rfl) rfl #[.agg #[.string ((zL l0_3 0).f0), .int .u16 ((zL l0_3 0).f1), .string ((zL l0_3 0).f2), .slice A216_3 ((zL l0_3 0).f3).length c216_3], .int .u16 a1, .slice A2 l2.length c2] rfl (by (try simp only [List.map_toArray, List.map_cons, List.map_nil]); first | done | rfl | (simp only [List.length_drop, List.length_take]; rfl)) ?_; (with_reducible refine (ih k (by omega) ((zL l0_3 0).f0) ((zL l0_3 0).f1) ((zL l0_3 0).f2) _ _ ((zL l0_3 0).f3) a1 _ _ l2 t217 t218 _ ?side1 ?side2 ?side3 ?side4 A15.out).mono ?_); (case side1 => repeat (first | exact (Kd.zV HR216_3.out HB.out) | (with_reducible refine Kd.C_alloc ?_ _) | (with_reducible refine Kd.C_drewN ?_ _) | (with_reducible refine Kd.C_drew ?_))); (case side2 => exact HC216_3.out); (case side3 => repeat (first | exact (Kd.zV HR2.out HB.out) | (with_reducible refine Kd.C_alloc ?_ _) | (with_reducible refine Kd.C_drewN ?_ _) | (with_reducible refine Kd.C_drew ?_))); (case side4 => exact HC2.out); rintro e w25 ⟨rfl, hb⟩; refine ⟨_, rfl, ?_⟩; have n0_ := zz_ (zK (g := gb213) (o := .cells #[.string a0_0, .int .u16 a0_1, .string a0_2, .slice (some ad216) l0_3.length c0_3] 50 (0, 0)) (by (with_reducible repeat (first | refine zH ?_ _ | refine zJ ?_ | refine zI ?_ _)); exact BK213.out) hb); have n1_ := zz_ (zG (by repeat (first | (with_reducible first | exact HB.out | apply zB | apply zA | apply zC | refine zF ?_ GE213.out) | exact HB.out)) hb); clear BK213; clear HB; have BK213 := n0_; have HB := n1_; clear n0_ n1_; (try clear hb); have hcz26_0 : w25.cell? ⟨gb213, 0, none⟩ = some (.string a0_0) := (zD BK213.out 0).trans rfl; have hcz26_1 : w25.cell? ⟨gb213, 1, none⟩ = some (.int .u16 a0_1) := (zD BK213.out 1).trans rfl; have hcz26_2 : w25.cell? ⟨gb213, 2, none⟩ = some (.string a0_2) := (zD BK213.out 2).trans rfl; have hcz26_3 : w25.cell? ⟨gb213, 3, none⟩ = some (.slice (some ad216) l0_3.length c0_3) := (zD BK213.out 3).trans rfl; have hfz26_0 := zE BK213.out 0; have hfz26_1 := zE BK213.out 1; have hfz26_2 := zE BK213.out 2; have hfz26_3 := zE BK213.out 3))
        go_ret2
        exact ⟨by first | rfl | (simp [zN, zM] <;> rfl) | (simp [*, zN, zM] <;> rfl), by repeat (first | (with_reducible first | exact HB.out | apply zB | apply zA | apply zC | refine zF ?_ GE213.out) | exact HB.out)⟩
       ·rw [if_neg c22] at H
        have c22b0 : (a0_0.toList == ([78, 69, 71] : List UInt8)) = false := beq_eq_false_iff_ne.mpr c22
        have c22b1 : (a0_0.toList != ([78, 69, 71] : List UInt8)) = true := bne_iff_ne.mpr c22
        by_cases c27 : 1 < (l0_3.length : Int)
        ·rw [if_pos c27] at H
         have c27b0 : decide (1 < (l0_3.length : Int)) = true := decide_eq_true c27
         have c27b1 : decide (1 < l0_3.length) = true := decide_eq_true (by omega)
         clear c27
         replace H := Option.bind_eq_some_iff.mp H
         obtain ⟨⟨t220, t221⟩, A280, H⟩ := H
         replace H : (if t221 = 0 then ((pidginref05_two.f k a0_0 t217 t220).bind fun bt222 => (some (bt222.1, bt222.2))) else (some (0, t221))) = some (r1, r2) := H
         have A28 := zz_ A280
         clear A280
         by_cases c29 : t221 = 0
         ·rw [if_pos c29] at H
          have c29b0 : (t221 == 0) = true := beq_iff_eq.mpr c29
          have c29b1 : (t221 != 0) = false := bne_eq_false_iff_eq.mpr c29
          clear c29
          replace H := Option.bind_eq_some_iff.mp H
          obtain ⟨⟨t222, t223⟩, A300, H⟩ := H
          replace H : (some (t222, t223)) = some (r1, r2) := H
          have A30 := zz_ A300
          clear A300
          simp only [Option.some.injEq, Prod.mk.injEq] at H
          obtain ⟨rfl, rfl⟩ := H
          go_enter Tryd.func81, Tryd.ntmps81
          go_wp2_with (first | ((with_reducible refine zS (N := 3) rfl ?_); refine zO ?hg (N := 3) ?hd (cs := #[.string a0_0, .int .u16 a0_1, .string a0_2, .slice A0_3 l0_3.length c0_3]) (t := 50) ?hr ?_; (case hd => rfl); (case hg => rfl); (case hr => first | (go_simp; done) | (go_simp; rfl)); intro gb213 hg w31 hbox hb; have n0_ := zz_ (zG (by repeat (first | (with_reducible first | exact HB.out | apply zB | apply zA | apply zC) | exact HB.out)) hb); have n1_ := zz_ (hbox); have n2_ := zz_ ((by rw [hg]; exact (zR (by repeat (first | (with_reducible first | exact HB.out | apply zB | apply zA | apply zC) | exact HB.out))) : w.heap.size ≤ gb213)); have n3_ := zz_ ((by rw [hg]; exact (zR (by repeat (first | (with_reducible first | exact HB.out | apply zB | apply zA | apply zC) | exact HB.out))) : w.heap.size ≤ gb213)); clear HB; have HB := n0_; have BK213 := n1_; have GW213 := n2_; have GE213 := n3_; clear n0_ n1_ n2_ n3_; clear hb hbox hg; have hcz32_0 : w31.cell? ⟨gb213, 0, none⟩ = some (.string a0_0) := (zD BK213.out 0).trans rfl; have hcz32_1 : w31.cell? ⟨gb213, 1, none⟩ = some (.int .u16 a0_1) := (zD BK213.out 1).trans rfl; have hcz32_2 : w31.cell? ⟨gb213, 2, none⟩ = some (.string a0_2) := (zD BK213.out 2).trans rfl; have hcz32_3 : w31.cell? ⟨gb213, 3, none⟩ = some (.slice A0_3 l0_3.length c0_3) := (zD BK213.out 3).trans rfl; have hfz32_0 := zE BK213.out 0; have hfz32_1 := zE BK213.out 1; have hfz32_2 := zE BK213.out 2; have hfz32_3 := zE BK213.out 3; have p216 : 0 ≤ (0 : Int) := (by omega); have q216 : 0 < (l0_3.length : Int) := of_decide_eq_true (by first | (with_reducible assumption) | assumption); obtain ⟨ad216, A216_3, c216_3, e216, hx216_0, hx216_1, hx216_2, hx216_3, hl216_3, hi216_3⟩ := at_T50 HR0_3.out 0 p216 q216; cases e216; have qi216 : (0 < l0_3.length) = True := eq_true (by omega); (try rw [show ((0 : Int)).toNat = 0 from rfl] at hx216_0); (try rw [show 0 * 4 = 0 from rfl] at hx216_0); (try rw [Addr.add_zero'] at hx216_0); (try rw [show ((0 : Int)).toNat = 0 from rfl] at hx216_1); (try rw [show 0 * 4 = 0 from rfl] at hx216_1); (try rw [Addr.add_zero'] at hx216_1); (try rw [show ((0 : Int)).toNat = 0 from rfl] at hx216_2); (try rw [show 0 * 4 = 0 from rfl] at hx216_2); (try rw [Addr.add_zero'] at hx216_2); (try rw [show ((0 : Int)).toNat = 0 from rfl] at hx216_3); (try rw [show 0 * 4 = 0 from rfl] at hx216_3); (try rw [Addr.add_zero'] at hx216_3); replace hx216_0 := (HB.out.cell (World.block_lt_of_cell? w _ hx216_0)).trans hx216_0; replace hx216_1 := (HB.out.cell (World.block_lt_of_cell? w _ hx216_1)).trans hx216_1; replace hx216_2 := (HB.out.cell (World.block_lt_of_cell? w _ hx216_2)).trans hx216_2; replace hx216_3 := (HB.out.cell (World.block_lt_of_cell? w _ hx216_3)).trans hx216_3; have HR216_3 := zz_ hi216_3; have HC216_3 := zz_ hl216_3; clear hi216_3 hl216_3; replace p216 := eq_true p216; replace q216 := eq_true q216) | ((with_reducible refine zQ (f := 81) rfl ?_); refine goesL_ (some 35) rfl rfl Tryd.func81 (by kernel_rfl) rfl #[.agg #[.string ((zL l0_3 0).f0), .int .u16 ((zL l0_3 0).f1), .string ((zL l0_3 0).f2), .slice A216_3 ((zL l0_3 0).f3).length c216_3], .int .u16 a1, .slice A2 l2.length c2] rfl (by (try simp only [List.map_toArray, List.map_cons, List.map_nil]); first | done | rfl | (simp only [List.length_drop, List.length_take]; rfl)) ?_; (with_reducible refine (ih k (by omega) ((zL l0_3 0).f0) ((zL l0_3 0).f1) ((zL l0_3 0).f2) _ _ ((zL l0_3 0).f3) a1 _ _ l2 t217 t218 _ ?side1 ?side2 ?side3 ?side4 A15.out).mono ?_); (case side1 => repeat (first | exact (Kd.zV HR216_3.out HB.out) | (with_reducible refine Kd.C_alloc ?_ _) | (with_reducible refine Kd.C_drewN ?_ _) | (with_reducible refine Kd.C_drew ?_))); (case side2 => exact HC216_3.out); (case side3 => repeat (first | exact (Kd.zV HR2.out HB.out) | (with_reducible refine Kd.C_alloc ?_ _) | (with_reducible refine Kd.C_drewN ?_ _) | (with_reducible refine Kd.C_drew ?_))); (case side4 => exact HC2.out); rintro e w33 ⟨rfl, hb⟩; refine ⟨_, rfl, ?_⟩; have n0_ := zz_ (zK (g := gb213) (o := .cells #[.string a0_0, .int .u16 a0_1, .string a0_2, .slice (some ad216) l0_3.length c0_3] 50 (0, 0)) (by (with_reducible repeat (first | refine zH ?_ _ | refine zJ ?_ | refine zI ?_ _)); exact BK213.out) hb); have n1_ := zz_ (zG (by repeat (first | (with_reducible first | exact HB.out | apply zB | apply zA | apply zC | refine zF ?_ GE213.out) | exact HB.out)) hb); clear BK213; clear HB; have BK213 := n0_; have HB := n1_; clear n0_ n1_; (try clear hb); have hcz34_0 : w33.cell? ⟨gb213, 0, none⟩ = some (.string a0_0) := (zD BK213.out 0).trans rfl; have hcz34_1 : w33.cell? ⟨gb213, 1, none⟩ = some (.int .u16 a0_1) := (zD BK213.out 1).trans rfl; have hcz34_2 : w33.cell? ⟨gb213, 2, none⟩ = some (.string a0_2) := (zD BK213.out 2).trans rfl; have hcz34_3 : w33.cell? ⟨gb213, 3, none⟩ = some (.slice (some ad216) l0_3.length c0_3) := (zD BK213.out 3).trans rfl; have hfz34_0 := zE BK213.out 0; have hfz34_1 := zE BK213.out 1; have hfz34_2 := zE BK213.out 2; have hfz34_3 := zE BK213.out 3; have p219 : 0 ≤ (1 : Int) := (by omega); have q219 : 1 < (l0_3.length : Int) := of_decide_eq_true (by first | (with_reducible assumption) | assumption); obtain ⟨ad219, A219_3, c219_3, e219, hx219_0, hx219_1, hx219_2, hx219_3, hl219_3, hi219_3⟩ := at_T50 HR0_3.out 1 p219 q219; obtain rfl : ad216 = ad219 := (by injection e219); (try simp only [show (1 : Int).toNat = 1 from rfl, Nat.reduceMul, Nat.reduceEqDiff, Go.Addr.add, ↓reduceIte] at hx219_0); (try simp only [show (1 : Int).toNat = 1 from rfl, Nat.reduceMul, Nat.reduceEqDiff, Go.Addr.add, ↓reduceIte] at hx219_1); (try simp only [show (1 : Int).toNat = 1 from rfl, Nat.reduceMul, Nat.reduceEqDiff, Go.Addr.add, ↓reduceIte] at hx219_2); (try simp only [show (1 : Int).toNat = 1 from rfl, Nat.reduceMul, Nat.reduceEqDiff, Go.Addr.add, ↓reduceIte] at hx219_3); have qi219 : (1 < l0_3.length) = True := eq_true (by omega); (try rw [show ((1 : Int)).toNat = 1 from rfl] at hx219_0); (try rw [show 1 * 4 = 4 from rfl] at hx219_0); (try rw [show ((1 : Int)).toNat = 1 from rfl] at hx219_1); (try rw [show 1 * 4 = 4 from rfl] at hx219_1); (try rw [show ((1 : Int)).toNat = 1 from rfl] at hx219_2); (try rw [show 1 * 4 = 4 from rfl] at hx219_2); (try rw [show ((1 : Int)).toNat = 1 from rfl] at hx219_3); (try rw [show 1 * 4 = 4 from rfl] at hx219_3); replace hx219_0 := (HB.out.cell (World.block_lt_of_cell? w _ hx219_0)).trans hx219_0; replace hx219_1 := (HB.out.cell (World.block_lt_of_cell? w _ hx219_1)).trans hx219_1; replace hx219_2 := (HB.out.cell (World.block_lt_of_cell? w _ hx219_2)).trans hx219_2; replace hx219_3 := (HB.out.cell (World.block_lt_of_cell? w _ hx219_3)).trans hx219_3; have HR219_3 := zz_ hi219_3; have HC219_3 := zz_ hl219_3; clear hi219_3 hl219_3; replace p219 := eq_true p219; replace q219 := eq_true q219) | ((with_reducible refine zQ (f := 81) rfl ?_); refine goesL_ (some 61) rfl rfl Tryd.func81 (by kernel_rfl) rfl #[.agg #[.string ((zL l0_3 1).f0), .int .u16 ((zL l0_3 1).f1), .string ((zL l0_3 1).f2), .slice A219_3 ((zL l0_3 1).f3).length c219_3], .int .u16 a1, .slice A2 l2.length c2] rfl (by (try simp only [List.map_toArray, List.map_cons, List.map_nil]); first | done | rfl | (simp only [List.length_drop, List.length_take]; rfl)) ?_; (with_reducible refine (ih k (by omega) ((zL l0_3 1).f0) ((zL l0_3 1).f1) ((zL l0_3 1).f2) _ _ ((zL l0_3 1).f3) a1 _ _ l2 t220 t221 _ ?side1 ?side2 ?side3 ?side4 A28.out).mono ?_); (case side1 => repeat (first | exact (Kd.zV HR219_3.out HB.out) | (with_reducible refine Kd.C_alloc ?_ _) | (with_reducible refine Kd.C_drewN ?_ _) | (with_reducible refine Kd.C_drew ?_))); (case side2 => exact HC219_3.out); (case side3 => repeat (first | exact (Kd.zV HR2.out HB.out) | (with_reducible refine Kd.C_alloc ?_ _) | (with_reducible refine Kd.C_drewN ?_ _) | (with_reducible refine Kd.C_drew ?_))); (case side4 => exact HC2.out); rintro e w35 ⟨rfl, hb⟩; refine ⟨_, rfl, ?_⟩; have n0_ := zz_ (zK (g := gb213) (o := .cells #[.string a0_0, .int .u16 a0_1, .string a0_2, .slice (some ad216) l0_3.length c0_3] 50 (0, 0)) (by (with_reducible repeat (first | refine zH ?_ _ | refine zJ ?_ | refine zI ?_ _)); exact BK213.out) hb); have n1_ := zz_ (zG (by repeat (first | (with_reducible first | exact HB.out | apply zB | apply zA | apply zC | refine zF ?_ GE213.out) | exact HB.out)) hb); clear BK213; clear HB; have BK213 := n0_; have HB := n1_; clear n0_ n1_; (try clear hb); have hcz36_0 : w35.cell? ⟨gb213, 0, none⟩ = some (.string a0_0) := (zD BK213.out 0).trans rfl; have hcz36_1 : w35.cell? ⟨gb213, 1, none⟩ = some (.int .u16 a0_1) := (zD BK213.out 1).trans rfl; have hcz36_2 : w35.cell? ⟨gb213, 2, none⟩ = some (.string a0_2) := (zD BK213.out 2).trans rfl; have hcz36_3 : w35.cell? ⟨gb213, 3, none⟩ = some (.slice (some ad216) l0_3.length c0_3) := (zD BK213.out 3).trans rfl; have hfz36_0 := zE BK213.out 0; have hfz36_1 := zE BK213.out 1; have hfz36_2 := zE BK213.out 2; have hfz36_3 := zE BK213.out 3) | ((with_reducible refine zQ (f := 123) rfl ?_); refine goesL_ (some 71) rfl rfl Tryd.func123 (by kernel_rfl) rfl #[.string a0_0, .int .u16 t217, .int .u16 t220] rfl (by (try simp only [List.map_toArray, List.map_cons, List.map_nil]); first | done | rfl | (simp only [List.length_drop, List.length_take]; rfl)) ?_; (with_reducible refine (pidginref05_two.calls k a0_0 t217 t220 t222 t223 _ A30.out).mono ?_); rintro e w' ⟨rfl, ⟨nd, rfl⟩⟩; refine ⟨_, rfl, ?_⟩))
          go_ret2
          exact ⟨by first | rfl | (simp [zN, zM] <;> rfl) | (simp [*, zN, zM] <;> rfl), by repeat (first | (with_reducible first | exact HB.out | apply zB | apply zA | apply zC | refine zF ?_ GE213.out) | exact HB.out)⟩
         ·rw [if_neg c29] at H
          have c29b0 : (t221 == 0) = false := beq_eq_false_iff_ne.mpr c29
          have c29b1 : (t221 != 0) = true := bne_iff_ne.mpr c29
          simp only [Option.some.injEq, Prod.mk.injEq] at H
          obtain ⟨rfl, rfl⟩ := H
          go_enter Tryd.func81, Tryd.ntmps81
          go_wp2_with (first | ((with_reducible refine zS (N := 3) rfl ?_); refine zO ?hg (N := 3) ?hd (cs := #[.string a0_0, .int .u16 a0_1, .string a0_2, .slice A0_3 l0_3.length c0_3]) (t := 50) ?hr ?_; (case hd => rfl); (case hg => rfl); (case hr => first | (go_simp; done) | (go_simp; rfl)); intro gb213 hg w37 hbox hb; have n0_ := zz_ (zG (by repeat (first | (with_reducible first | exact HB.out | apply zB | apply zA | apply zC) | exact HB.out)) hb); have n1_ := zz_ (hbox); have n2_ := zz_ ((by rw [hg]; exact (zR (by repeat (first | (with_reducible first | exact HB.out | apply zB | apply zA | apply zC) | exact HB.out))) : w.heap.size ≤ gb213)); have n3_ := zz_ ((by rw [hg]; exact (zR (by repeat (first | (with_reducible first | exact HB.out | apply zB | apply zA | apply zC) | exact HB.out))) : w.heap.size ≤ gb213)); clear HB; have HB := n0_; have BK213 := n1_; have GW213 := n2_; have GE213 := n3_; clear n0_ n1_ n2_ n3_; clear hb hbox hg; have hcz38_0 : w37.cell? ⟨gb213, 0, none⟩ = some (.string a0_0) := (zD BK213.out 0).trans rfl; have hcz38_1 : w37.cell? ⟨gb213, 1, none⟩ = some (.int .u16 a0_1) := (zD BK213.out 1).trans rfl; have hcz38_2 : w37.cell? ⟨gb213, 2, none⟩ = some (.string a0_2) := (zD BK213.out 2).trans rfl; have hcz38_3 : w37.cell? ⟨gb213, 3, none⟩ = some (.slice A0_3 l0_3.length c0_3) := (zD BK213.out 3).trans rfl; have hfz38_0 := zE BK213.out 0; have hfz38_1 := zE BK213.out 1; have hfz38_2 := zE BK213.out 2; have hfz38_3 := zE BK213.out 3; have p216 : 0 ≤ (0 : Int) := (by omega); have q216 : 0 < (l0_3.length : Int) := of_decide_eq_true (by first | (with_reducible assumption) | assumption); obtain ⟨ad216, A216_3, c216_3, e216, hx216_0, hx216_1, hx216_2, hx216_3, hl216_3, hi216_3⟩ := at_T50 HR0_3.out 0 p216 q216; cases e216; have qi216 : (0 < l0_3.length) = True := eq_true (by omega); (try rw [show ((0 : Int)).toNat = 0 from rfl] at hx216_0); (try rw [show 0 * 4 = 0 from rfl] at hx216_0); (try rw [Addr.add_zero'] at hx216_0); (try rw [show ((0 : Int)).toNat = 0 from rfl] at hx216_1); (try rw [show 0 * 4 = 0 from rfl] at hx216_1); (try rw [Addr.add_zero'] at hx216_1); (try rw [show ((0 : Int)).toNat = 0 from rfl] at hx216_2); (try rw [show 0 * 4 = 0 from rfl] at hx216_2); (try rw [Addr.add_zero'] at hx216_2); (try rw [show ((0 : Int)).toNat = 0 from rfl] at hx216_3); (try rw [show 0 * 4 = 0 from rfl] at hx216_3); (try rw [Addr.add_zero'] at hx216_3); replace hx216_0 := (HB.out.cell (World.block_lt_of_cell? w _ hx216_0)).trans hx216_0; replace hx216_1 := (HB.out.cell (World.block_lt_of_cell? w _ hx216_1)).trans hx216_1; replace hx216_2 := (HB.out.cell (World.block_lt_of_cell? w _ hx216_2)).trans hx216_2; replace hx216_3 := (HB.out.cell (World.block_lt_of_cell? w _ hx216_3)).trans hx216_3; have HR216_3 := zz_ hi216_3; have HC216_3 := zz_ hl216_3; clear hi216_3 hl216_3; replace p216 := eq_true p216; replace q216 := eq_true q216) | ((with_reducible refine zQ (f := 81) rfl ?_); refine goesL_ (some 35) rfl rfl Tryd.func81 (by kernel_rfl) rfl #[.agg #[.string ((zL l0_3 0).f0), .int .u16 ((zL l0_3 0).f1), .string ((zL l0_3 0).f2), .slice A216_3 ((zL l0_3 0).f3).length c216_3], .int .u16 a1, .slice A2 l2.length c2] rfl (by (try simp only [List.map_toArray, List.map_cons, List.map_nil]); first | done | rfl | (simp only [List.length_drop, List.length_take]; rfl)) ?_; (with_reducible refine (ih k (by omega) ((zL l0_3 0).f0) ((zL l0_3 0).f1) ((zL l0_3 0).f2) _ _ ((zL l0_3 0).f3) a1 _ _ l2 t217 t218 _ ?side1 ?side2 ?side3 ?side4 A15.out).mono ?_); (case side1 => repeat (first | exact (Kd.zV HR216_3.out HB.out) | (with_reducible refine Kd.C_alloc ?_ _) | (with_reducible refine Kd.C_drewN ?_ _) | (with_reducible refine Kd.C_drew ?_))); (case side2 => exact HC216_3.out); (case side3 => repeat (first | exact (Kd.zV HR2.out HB.out) | (with_reducible refine Kd.C_alloc ?_ _) | (with_reducible refine Kd.C_drewN ?_ _) | (with_reducible refine Kd.C_drew ?_))); (case side4 => exact HC2.out); rintro e w39 ⟨rfl, hb⟩; refine ⟨_, rfl, ?_⟩; have n0_ := zz_ (zK (g := gb213) (o := .cells #[.string a0_0, .int .u16 a0_1, .string a0_2, .slice (some ad216) l0_3.length c0_3] 50 (0, 0)) (by (with_reducible repeat (first | refine zH ?_ _ | refine zJ ?_ | refine zI ?_ _)); exact BK213.out) hb); have n1_ := zz_ (zG (by repeat (first | (with_reducible first | exact HB.out | apply zB | apply zA | apply zC | refine zF ?_ GE213.out) | exact HB.out)) hb); clear BK213; clear HB; have BK213 := n0_; have HB := n1_; clear n0_ n1_; (try clear hb); have hcz40_0 : w39.cell? ⟨gb213, 0, none⟩ = some (.string a0_0) := (zD BK213.out 0).trans rfl; have hcz40_1 : w39.cell? ⟨gb213, 1, none⟩ = some (.int .u16 a0_1) := (zD BK213.out 1).trans rfl; have hcz40_2 : w39.cell? ⟨gb213, 2, none⟩ = some (.string a0_2) := (zD BK213.out 2).trans rfl; have hcz40_3 : w39.cell? ⟨gb213, 3, none⟩ = some (.slice (some ad216) l0_3.length c0_3) := (zD BK213.out 3).trans rfl; have hfz40_0 := zE BK213.out 0; have hfz40_1 := zE BK213.out 1; have hfz40_2 := zE BK213.out 2; have hfz40_3 := zE BK213.out 3; have p219 : 0 ≤ (1 : Int) := (by omega); have q219 : 1 < (l0_3.length : Int) := of_decide_eq_true (by first | (with_reducible assumption) | assumption); obtain ⟨ad219, A219_3, c219_3, e219, hx219_0, hx219_1, hx219_2, hx219_3, hl219_3, hi219_3⟩ := at_T50 HR0_3.out 1 p219 q219; obtain rfl : ad216 = ad219 := (by injection e219); (try simp only [show (1 : Int).toNat = 1 from rfl, Nat.reduceMul, Nat.reduceEqDiff, Go.Addr.add, ↓reduceIte] at hx219_0); (try simp only [show (1 : Int).toNat = 1 from rfl, Nat.reduceMul, Nat.reduceEqDiff, Go.Addr.add, ↓reduceIte] at hx219_1); (try simp only [show (1 : Int).toNat = 1 from rfl, Nat.reduceMul, Nat.reduceEqDiff, Go.Addr.add, ↓reduceIte] at hx219_2); (try simp only [show (1 : Int).toNat = 1 from rfl, Nat.reduceMul, Nat.reduceEqDiff, Go.Addr.add, ↓reduceIte] at hx219_3); have qi219 : (1 < l0_3.length) = True := eq_true (by omega); (try rw [show ((1 : Int)).toNat = 1 from rfl] at hx219_0); (try rw [show 1 * 4 = 4 from rfl] at hx219_0); (try rw [show ((1 : Int)).toNat = 1 from rfl] at hx219_1); (try rw [show 1 * 4 = 4 from rfl] at hx219_1); (try rw [show ((1 : Int)).toNat = 1 from rfl] at hx219_2); (try rw [show 1 * 4 = 4 from rfl] at hx219_2); (try rw [show ((1 : Int)).toNat = 1 from rfl] at hx219_3); (try rw [show 1 * 4 = 4 from rfl] at hx219_3); replace hx219_0 := (HB.out.cell (World.block_lt_of_cell? w _ hx219_0)).trans hx219_0; replace hx219_1 := (HB.out.cell (World.block_lt_of_cell? w _ hx219_1)).trans hx219_1; replace hx219_2 := (HB.out.cell (World.block_lt_of_cell? w _ hx219_2)).trans hx219_2; replace hx219_3 := (HB.out.cell (World.block_lt_of_cell? w _ hx219_3)).trans hx219_3; have HR219_3 := zz_ hi219_3; have HC219_3 := zz_ hl219_3; clear hi219_3 hl219_3; replace p219 := eq_true p219; replace q219 := eq_true q219) | ((with_reducible refine zQ (f := 81) rfl ?_); refine goesL_ (some 61) rfl rfl Tryd.func81 (by kernel_rfl) rfl #[.agg #[.string ((zL l0_3 1).f0), .int .u16 ((zL l0_3 1).f1), .string ((zL l0_3 1).f2), .slice A219_3 ((zL l0_3 1).f3).length c219_3], .int .u16 a1, .slice A2 l2.length c2] rfl (by (try simp only [List.map_toArray, List.map_cons, List.map_nil]); first | done | rfl | (simp only [List.length_drop, List.length_take]; rfl)) ?_; (with_reducible refine (ih k (by omega) ((zL l0_3 1).f0) ((zL l0_3 1).f1) ((zL l0_3 1).f2) _ _ ((zL l0_3 1).f3) a1 _ _ l2 t220 t221 _ ?side1 ?side2 ?side3 ?side4 A28.out).mono ?_); (case side1 => repeat (first | exact (Kd.zV HR219_3.out HB.out) | (with_reducible refine Kd.C_alloc ?_ _) | (with_reducible refine Kd.C_drewN ?_ _) | (with_reducible refine Kd.C_drew ?_))); (case side2 => exact HC219_3.out); (case side3 => repeat (first | exact (Kd.zV HR2.out HB.out) | (with_reducible refine Kd.C_alloc ?_ _) | (with_reducible refine Kd.C_drewN ?_ _) | (with_reducible refine Kd.C_drew ?_))); (case side4 => exact HC2.out); rintro e w41 ⟨rfl, hb⟩; refine ⟨_, rfl, ?_⟩; have n0_ := zz_ (zK (g := gb213) (o := .cells #[.string a0_0, .int .u16 a0_1, .string a0_2, .slice (some ad216) l0_3.length c0_3] 50 (0, 0)) (by (with_reducible repeat (first | refine zH ?_ _ | refine zJ ?_ | refine zI ?_ _)); exact BK213.out) hb); have n1_ := zz_ (zG (by repeat (first | (with_reducible first | exact HB.out | apply zB | apply zA | apply zC | refine zF ?_ GE213.out) | exact HB.out)) hb); clear BK213; clear HB; have BK213 := n0_; have HB := n1_; clear n0_ n1_; (try clear hb)))
          go_ret2
          exact ⟨by first | rfl | (simp [zN, zM] <;> rfl) | (simp [*, zN, zM] <;> rfl), by repeat (first | (with_reducible first | exact HB.out | apply zB | apply zA | apply zC | refine zF ?_ GE213.out) | exact HB.out)⟩
        ·rw [if_neg c27] at H
         exact absurd H (by simp)
     ·rw [if_neg c16] at H
      have c16b0 : (t218 == 0) = false := beq_eq_false_iff_ne.mpr c16
      have c16b1 : (t218 != 0) = true := bne_iff_ne.mpr c16
      simp only [Option.some.injEq, Prod.mk.injEq] at H
      obtain ⟨rfl, rfl⟩ := H
      go_enter Tryd.func81, Tryd.ntmps81
      go_wp2_with (first | ((with_reducible refine zS (N := 3) rfl ?_); refine zO ?hg (N := 3) ?hd (cs := #[.string a0_0, .int .u16 a0_1, .string a0_2, .slice A0_3 l0_3.length c0_3]) (t := 50) ?hr ?_; (case hd => rfl); (case hg => rfl); (case hr => first | (go_simp; done) | (go_simp; rfl)); intro gb213 hg w42 hbox hb; have n0_ := zz_ (zG (by repeat (first | (with_reducible first | exact HB.out | apply zB | apply zA | apply zC) | exact HB.out)) hb); have n1_ := zz_ (hbox); have n2_ := zz_ ((by rw [hg]; exact (zR (by repeat (first | (with_reducible first | exact HB.out | apply zB | apply zA | apply zC) | exact HB.out))) : w.heap.size ≤ gb213)); have n3_ := zz_ ((by rw [hg]; exact (zR (by repeat (first | (with_reducible first | exact HB.out | apply zB | apply zA | apply zC) | exact HB.out))) : w.heap.size ≤ gb213)); clear HB; have HB := n0_; have BK213 := n1_; have GW213 := n2_; have GE213 := n3_; clear n0_ n1_ n2_ n3_; clear hb hbox hg; have hcz43_0 : w42.cell? ⟨gb213, 0, none⟩ = some (.string a0_0) := (zD BK213.out 0).trans rfl; have hcz43_1 : w42.cell? ⟨gb213, 1, none⟩ = some (.int .u16 a0_1) := (zD BK213.out 1).trans rfl; have hcz43_2 : w42.cell? ⟨gb213, 2, none⟩ = some (.string a0_2) := (zD BK213.out 2).trans rfl; have hcz43_3 : w42.cell? ⟨gb213, 3, none⟩ = some (.slice A0_3 l0_3.length c0_3) := (zD BK213.out 3).trans rfl; have hfz43_0 := zE BK213.out 0; have hfz43_1 := zE BK213.out 1; have hfz43_2 := zE BK213.out 2; have hfz43_3 := zE BK213.out 3; have p216 : 0 ≤ (0 : Int) := (by omega); have q216 : 0 < (l0_3.length : Int) := of_decide_eq_true (by first | (with_reducible assumption) | assumption); obtain ⟨ad216, A216_3, c216_3, e216, hx216_0, hx216_1, hx216_2, hx216_3, hl216_3, hi216_3⟩ := at_T50 HR0_3.out 0 p216 q216; cases e216; have qi216 : (0 < l0_3.length) = True := eq_true (by omega); (try rw [show ((0 : Int)).toNat = 0 from rfl] at hx216_0); (try rw [show 0 * 4 = 0 from rfl] at hx216_0); (try rw [Addr.add_zero'] at hx216_0); (try rw [show ((0 : Int)).toNat = 0 from rfl] at hx216_1); (try rw [show 0 * 4 = 0 from rfl] at hx216_1); (try rw [Addr.add_zero'] at hx216_1); (try rw [show ((0 : Int)).toNat = 0 from rfl] at hx216_2); (try rw [show 0 * 4 = 0 from rfl] at hx216_2); (try rw [Addr.add_zero'] at hx216_2); (try rw [show ((0 : Int)).toNat = 0 from rfl] at hx216_3); (try rw [show 0 * 4 = 0 from rfl] at hx216_3); (try rw [Addr.add_zero'] at hx216_3); replace hx216_0 := (HB.out.cell (World.block_lt_of_cell? w _ hx216_0)).trans hx216_0; replace hx216_1 := (HB.out.cell (World.block_lt_of_cell? w _ hx216_1)).trans hx216_1; replace hx216_2 := (HB.out.cell (World.block_lt_of_cell? w _ hx216_2)).trans hx216_2; replace hx216_3 := (HB.out.cell (World.block_lt_of_cell? w _ hx216_3)).trans hx216_3; have HR216_3 := zz_ hi216_3; have HC216_3 := zz_ hl216_3; clear hi216_3 hl216_3; replace p216 := eq_true p216; replace q216 := eq_true q216) | ((with_reducible refine zQ (f := 81) rfl ?_); refine goesL_ (some 35) rfl rfl Tryd.func81 (by kernel_rfl) rfl #[.agg #[.string ((zL l0_3 0).f0), .int .u16 ((zL l0_3 0).f1), .string ((zL l0_3 0).f2), .slice A216_3 ((zL l0_3 0).f3).length c216_3], .int .u16 a1, .slice A2 l2.length c2] rfl (by (try simp only [List.map_toArray, List.map_cons, List.map_nil]); first | done | rfl | (simp only [List.length_drop, List.length_take]; rfl)) ?_; (with_reducible refine (ih k (by omega) ((zL l0_3 0).f0) ((zL l0_3 0).f1) ((zL l0_3 0).f2) _ _ ((zL l0_3 0).f3) a1 _ _ l2 t217 t218 _ ?side1 ?side2 ?side3 ?side4 A15.out).mono ?_); (case side1 => repeat (first | exact (Kd.zV HR216_3.out HB.out) | (with_reducible refine Kd.C_alloc ?_ _) | (with_reducible refine Kd.C_drewN ?_ _) | (with_reducible refine Kd.C_drew ?_))); (case side2 => exact HC216_3.out); (case side3 => repeat (first | exact (Kd.zV HR2.out HB.out) | (with_reducible refine Kd.C_alloc ?_ _) | (with_reducible refine Kd.C_drewN ?_ _) | (with_reducible refine Kd.C_drew ?_))); (case side4 => exact HC2.out); rintro e w44 ⟨rfl, hb⟩; refine ⟨_, rfl, ?_⟩; have n0_ := zz_ (zK (g := gb213) (o := .cells #[.string a0_0, .int .u16 a0_1, .string a0_2, .slice (some ad216) l0_3.length c0_3] 50 (0, 0)) (by (with_reducible repeat (first | refine zH ?_ _ | refine zJ ?_ | refine zI ?_ _)); exact BK213.out) hb); have n1_ := zz_ (zG (by repeat (first | (with_reducible first | exact HB.out | apply zB | apply zA | apply zC | refine zF ?_ GE213.out) | exact HB.out)) hb); clear BK213; clear HB; have BK213 := n0_; have HB := n1_; clear n0_ n1_; (try clear hb)))
      go_ret2
      exact ⟨by first | rfl | (simp [zN, zM] <;> rfl) | (simp [*, zN, zM] <;> rfl), by repeat (first | (with_reducible first | exact HB.out | apply zB | apply zA | apply zC | refine zF ?_ GE213.out) | exact HB.out)⟩
    ·rw [if_neg c14] at H
     exact absurd H (by simp)
def pidginref05_Eval.f (k : Nat) (a0_0 : ByteArray) (a0_1 : Int) (a0_2 : ByteArray) (l0_3 : List (S50)) (a1 : Int) (l2 : List (S98)) : Option (Int × Int) := (pidginref05_Right.f k a0_0 a0_1 a0_2 l0_3).bind fun t225 => (if t225 = 0 then ((pidginref05_eval.f k a0_0 a0_1 a0_2 l0_3 a1 l2).bind fun bt226 => (some (bt226.1, bt226.2))) else (some (0, t225)))
set_option maxHeartbeats 8000000 in
set_option maxRecDepth 100000 in
theorem pidginref05_Eval.calls (k : Nat) (a0_0 : ByteArray) (a0_1 : Int) (a0_2 : ByteArray) (A0_3 : Option Addr) (c0_3 : Nat) (l0_3 : List (S50)) (a1 : Int) (A2 : Option Addr) (c2 : Nat) (l2 : List (S98)) (r1 : Int) (r2 : Int) (w : World) (hr0_3 : Kd.C k50 w A0_3 l0_3.length l0_3) (hc0_3 : l0_3.length ≤ c0_3) (hr2 : Kd.C k98 w A2 l2.length l2) (hc2 : l2.length ≤ c2) (h : pidginref05_Eval.f k a0_0 a0_1 a0_2 l0_3 a1 l2 = some (r1, r2)) :
  Calls Tryd.prog 43 #[.agg #[.string a0_0, .int .u16 a0_1, .string a0_2, .slice A0_3 l0_3.length c0_3], .int .u16 a1, .slice A2 l2.length c2] w fun e w' => e = .returned (.tuple #[.int .u16 r1, .int .i64 r2]) ∧ Below w.heap.size w w' := by
 have hu50 := Tryd.underlying50
 have HR0_3 := zz_ hr0_3
 have HC0_3 := zz_ hc0_3
 clear hr0_3 hc0_3
 have HR2 := zz_ hr2
 have HC2 := zz_ hc2
 clear hr2 hc2
 have HB := zz_ (Below.refl w.heap.size w)
 have H : ((pidginref05_Right.f k a0_0 a0_1 a0_2 l0_3).bind fun t225 => (if t225 = 0 then ((pidginref05_eval.f k a0_0 a0_1 a0_2 l0_3 a1 l2).bind fun bt226 => (some (bt226.1, bt226.2))) else (some (0, t225)))) = some (r1, r2) := h
 clear h
 replace H := Option.bind_eq_some_iff.mp H
 obtain ⟨t225, A40, H⟩ := H
 replace H : (if t225 = 0 then ((pidginref05_eval.f k a0_0 a0_1 a0_2 l0_3 a1 l2).bind fun bt226 => (some (bt226.1, bt226.2))) else (some (0, t225))) = some (r1, r2) := H
 have A4 := zz_ A40
 clear A40
 by_cases c5 : t225 = 0
 ·rw [if_pos c5] at H
  have c5b0 : (t225 == 0) = true := beq_iff_eq.mpr c5
  have c5b1 : (t225 != 0) = false := bne_eq_false_iff_eq.mpr c5
  clear c5
  replace H := Option.bind_eq_some_iff.mp H
  obtain ⟨⟨t226, t227⟩, A60, H⟩ := H
  replace H : (some (t226, t227)) = some (r1, r2) := H
  have A6 := zz_ A60
  clear A60
  simp only [Option.some.injEq, Prod.mk.injEq] at H
  obtain ⟨rfl, rfl⟩ := H
  go_enter Tryd.func43, Tryd.ntmps43
  go_wp2_with (first | ((with_reducible refine zS (N := 3) rfl ?_); refine zO ?hg (N := 3) ?hd (cs := #[.string a0_0, .int .u16 a0_1, .string a0_2, .slice A0_3 l0_3.length c0_3]) (t := 50) ?hr ?_; (case hd => rfl); (case hg => rfl); (case hr => first | (go_simp; done) | (go_simp; rfl)); intro gb224 hg w7 hbox hb; have n0_ := zz_ (zG (by repeat (first | (with_reducible first | exact HB.out | apply zB | apply zA | apply zC) | exact HB.out)) hb); have n1_ := zz_ (hbox); have n2_ := zz_ ((by rw [hg]; exact (zR (by repeat (first | (with_reducible first | exact HB.out | apply zB | apply zA | apply zC) | exact HB.out))) : w.heap.size ≤ gb224)); have n3_ := zz_ ((by rw [hg]; exact (zR (by repeat (first | (with_reducible first | exact HB.out | apply zB | apply zA | apply zC) | exact HB.out))) : w.heap.size ≤ gb224)); clear HB; have HB := n0_; have BK224 := n1_; have GW224 := n2_; have GE224 := n3_; clear n0_ n1_ n2_ n3_; clear hb hbox hg; have hcz8_0 : w7.cell? ⟨gb224, 0, none⟩ = some (.string a0_0) := (zD BK224.out 0).trans rfl; have hcz8_1 : w7.cell? ⟨gb224, 1, none⟩ = some (.int .u16 a0_1) := (zD BK224.out 1).trans rfl; have hcz8_2 : w7.cell? ⟨gb224, 2, none⟩ = some (.string a0_2) := (zD BK224.out 2).trans rfl; have hcz8_3 : w7.cell? ⟨gb224, 3, none⟩ = some (.slice A0_3 l0_3.length c0_3) := (zD BK224.out 3).trans rfl; have hfz8_0 := zE BK224.out 0; have hfz8_1 := zE BK224.out 1; have hfz8_2 := zE BK224.out 2; have hfz8_3 := zE BK224.out 3) | ((with_reducible refine zQ (f := 80) rfl ?_); refine goesL_ (some 10) rfl rfl Tryd.func80 (by kernel_rfl) rfl #[.agg #[.string a0_0, .int .u16 a0_1, .string a0_2, .slice A0_3 l0_3.length c0_3]] rfl (by (try simp only [List.map_toArray, List.map_cons, List.map_nil]); first | done | rfl | (simp only [List.length_drop, List.length_take]; rfl)) ?_; (with_reducible refine (pidginref05_Right.calls k a0_0 a0_1 a0_2 _ _ l0_3 t225 _ ?side1 ?side2 A4.out).mono ?_); (case side1 => repeat (first | exact (Kd.zV HR0_3.out HB.out) | (with_reducible refine Kd.C_alloc ?_ _) | (with_reducible refine Kd.C_drewN ?_ _) | (with_reducible refine Kd.C_drew ?_))); (case side2 => exact HC0_3.out); rintro e w9 ⟨rfl, hb⟩; refine ⟨_, rfl, ?_⟩; have n0_ := zz_ (zK (g := gb224) (o := .cells #[.string a0_0, .int .u16 a0_1, .string a0_2, .slice A0_3 l0_3.length c0_3] 50 (0, 0)) (by (with_reducible repeat (first | refine zH ?_ _ | refine zJ ?_ | refine zI ?_ _)); exact BK224.out) hb); have n1_ := zz_ (zG (by repeat (first | (with_reducible first | exact HB.out | apply zB | apply zA | apply zC | refine zF ?_ GE224.out) | exact HB.out)) hb); clear BK224; clear HB; have BK224 := n0_; have HB := n1_; clear n0_ n1_; (try clear hb); have hcz10_0 : w9.cell? ⟨gb224, 0, none⟩ = some (.string a0_0) := (zD BK224.out 0).trans rfl; have hcz10_1 : w9.cell? ⟨gb224, 1, none⟩ = some (.int .u16 a0_1) := (zD BK224.out 1).trans rfl; have hcz10_2 : w9.cell? ⟨gb224, 2, none⟩ = some (.string a0_2) := (zD BK224.out 2).trans rfl; have hcz10_3 : w9.cell? ⟨gb224, 3, none⟩ = some (.slice A0_3 l0_3.length c0_3) := (zD BK224.out 3).trans rfl; have hfz10_0 := zE BK224.out 0; have hfz10_1 := zE BK224.out 1; have hfz10_2 := zE BK224.out 2; have hfz10_3 := zE BK224.out 3) | ((with_reducible refine zQ (f := 81) rfl ?_); refine goesL_ (some 17) rfl rfl Tryd.func81 (by kernel_rfl) rfl #[.agg #[.string a0_0, .int .u16 a0_1, .string a0_2, .slice A0_3 l0_3.length c0_3], .int .u16 a1, .slice A2 l2.length c2] rfl (by (try simp only [List.map_toArray, List.map_cons, List.map_nil]); first | done | rfl | (simp only [List.length_drop, List.length_take]; rfl)) ?_; (with_reducible refine (pidginref05_eval.calls k a0_0 a0_1 a0_2 _ _ l0_3 a1 _ _ l2 t226 t227 _ ?side1 ?side2 ?side3 ?side4 A6.out).mono ?_); (case side1 => repeat (first | exact (Kd.zV HR0_3.out HB.out) | (with_reducible refine Kd.C_alloc ?_ _) | (with_reducible refine Kd.C_drewN ?_ _) | (with_reducible refine Kd.C_drew ?_))); (case side2 => exact HC0_3.out); (case side3 => repeat (first | exact (Kd.zV HR2.out HB.out) | (with_reducible refine Kd.C_alloc ?_ _) | (with_reducible refine Kd.C_drewN ?_ _) | (with_reducible refine Kd.C_drew ?_))); (case side4 => exact HC2.out); rintro e w11 ⟨rfl, hb⟩; refine ⟨_, rfl, ?_⟩; have n0_ := zz_ (zK (g := gb224) (o := .cells #[.string a0_0, .int .u16 a0_1, .string a0_2, .slice A0_3 l0_3.length c0_3] 50 (0, 0)) (by (with_reducible repeat (first | refine zH ?_ _ | refine zJ ?_ | refine zI ?_ _)); exact BK224.out) hb); have n1_ := zz_ (zG (by repeat (first | (with_reducible first | exact HB.out | apply zB | apply zA | apply zC | refine zF ?_ GE224.out) | exact HB.out)) hb); clear BK224; clear HB; have BK224 := n0_; have HB := n1_; clear n0_ n1_; (try clear hb)))
  go_ret2
  exact ⟨by first | rfl | (simp [zN, zM] <;> rfl) | (simp [*, zN, zM] <;> rfl), by repeat (first | (with_reducible first | exact HB.out | apply zB | apply zA | apply zC | refine zF ?_ GE224.out) | exact HB.out)⟩
 ·rw [if_neg c5] at H
  have c5b0 : (t225 == 0) = false := beq_eq_false_iff_ne.mpr c5
  have c5b1 : (t225 != 0) = true := bne_iff_ne.mpr c5
  simp only [Option.some.injEq, Prod.mk.injEq] at H
  obtain ⟨rfl, rfl⟩ := H
  go_enter Tryd.func43, Tryd.ntmps43
  go_wp2_with (first | ((with_reducible refine zS (N := 3) rfl ?_); refine zO ?hg (N := 3) ?hd (cs := #[.string a0_0, .int .u16 a0_1, .string a0_2, .slice A0_3 l0_3.length c0_3]) (t := 50) ?hr ?_; (case hd => rfl); (case hg => rfl); (case hr => first | (go_simp; done) | (go_simp; rfl)); intro gb224 hg w12 hbox hb; have n0_ := zz_ (zG (by repeat (first | (with_reducible first | exact HB.out | apply zB | apply zA | apply zC) | exact HB.out)) hb); have n1_ := zz_ (hbox); have n2_ := zz_ ((by rw [hg]; exact (zR (by repeat (first | (with_reducible first | exact HB.out | apply zB | apply zA | apply zC) | exact HB.out))) : w.heap.size ≤ gb224)); have n3_ := zz_ ((by rw [hg]; exact (zR (by repeat (first | (with_reducible first | exact HB.out | apply zB | apply zA | apply zC) | exact HB.out))) : w.heap.size ≤ gb224)); clear HB; have HB := n0_; have BK224 := n1_; have GW224 := n2_; have GE224 := n3_; clear n0_ n1_ n2_ n3_; clear hb hbox hg; have hcz13_0 : w12.cell? ⟨gb224, 0, none⟩ = some (.string a0_0) := (zD BK224.out 0).trans rfl; have hcz13_1 : w12.cell? ⟨gb224, 1, none⟩ = some (.int .u16 a0_1) := (zD BK224.out 1).trans rfl; have hcz13_2 : w12.cell? ⟨gb224, 2, none⟩ = some (.string a0_2) := (zD BK224.out 2).trans rfl; have hcz13_3 : w12.cell? ⟨gb224, 3, none⟩ = some (.slice A0_3 l0_3.length c0_3) := (zD BK224.out 3).trans rfl; have hfz13_0 := zE BK224.out 0; have hfz13_1 := zE BK224.out 1; have hfz13_2 := zE BK224.out 2; have hfz13_3 := zE BK224.out 3) | ((with_reducible refine zQ (f := 80) rfl ?_); refine goesL_ (some 10) rfl rfl Tryd.func80 (by kernel_rfl) rfl #[.agg #[.string a0_0, .int .u16 a0_1, .string a0_2, .slice A0_3 l0_3.length c0_3]] rfl (by (try simp only [List.map_toArray, List.map_cons, List.map_nil]); first | done | rfl | (simp only [List.length_drop, List.length_take]; rfl)) ?_; (with_reducible refine (pidginref05_Right.calls k a0_0 a0_1 a0_2 _ _ l0_3 t225 _ ?side1 ?side2 A4.out).mono ?_); (case side1 => repeat (first | exact (Kd.zV HR0_3.out HB.out) | (with_reducible refine Kd.C_alloc ?_ _) | (with_reducible refine Kd.C_drewN ?_ _) | (with_reducible refine Kd.C_drew ?_))); (case side2 => exact HC0_3.out); rintro e w14 ⟨rfl, hb⟩; refine ⟨_, rfl, ?_⟩; have n0_ := zz_ (zK (g := gb224) (o := .cells #[.string a0_0, .int .u16 a0_1, .string a0_2, .slice A0_3 l0_3.length c0_3] 50 (0, 0)) (by (with_reducible repeat (first | refine zH ?_ _ | refine zJ ?_ | refine zI ?_ _)); exact BK224.out) hb); have n1_ := zz_ (zG (by repeat (first | (with_reducible first | exact HB.out | apply zB | apply zA | apply zC | refine zF ?_ GE224.out) | exact HB.out)) hb); clear BK224; clear HB; have BK224 := n0_; have HB := n1_; clear n0_ n1_; (try clear hb)))
  go_ret2
  exact ⟨by first | rfl | (simp [zN, zM] <;> rfl) | (simp [*, zN, zM] <;> rfl), by repeat (first | (with_reducible first | exact HB.out | apply zB | apply zA | apply zC | refine zF ?_ GE224.out) | exact HB.out)⟩
end Go.Proofs.YtejhagejjogbaaaDoor.Qa
