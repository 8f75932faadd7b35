import Derived.Test.YtejhagejjogbaaaDoorKeM6
import Derived.Test.YtejhagejjogbaaaDoorKeM3
namespace Go.Proofs.YtejhagejjogbaaaDoor.Qa
open Go.RowKit YtejhagejjogbaaaDoorW.PrintWords YtejhagejjogbaaaDoorW.PrintLast YtejhagejjogbaaaDoorW.PrintMore Given TokSpan TokJoin TokRep Pn Pa Pb Pc Pd Pe
attribute [local go_sem] max2_int min2_int max_two min_two max_three min_three max_four min_four   -- for this text's walks alone
set_option linter.unusedVariables false
set_option linter.unusedSimpArgs false
def expr_show.f : Nat → ByteArray → Int → ByteArray → List (S50) → Int → Option (ByteArray)
 | 0, _, _, _, _, _ => none
 | k + 1, a0_0, a0_1, a0_2, l0_3, a1 => (expr_binds.f k a0_0).bind fun bt122 => (if a0_0.toList = ([35] : List UInt8) then ((number_Show.f k a0_1).bind fun t124 => (some t124)) else (if a0_0.toList = ([110] : List UInt8) then (some a0_2) else (if bt122.2 = 0 then (some a0_0) else (if bt122.2 = 1 then ((strings_Replace.f a0_0 (⟨#[78, 69, 71]⟩ : ByteArray) (⟨#[45]⟩ : ByteArray) 1).bind fun t125 => (if 0 < (l0_3.length : Int) then ((expr_show.f k ((zL l0_3 0).f0) ((zL l0_3 0).f1) ((zL l0_3 0).f2) ((zL l0_3 0).f3) bt122.1).bind fun t127 => ((some (([t125, t127] : List ByteArray) : List ByteArray)).bind fun y128 => (if bt122.1 < a1 then ((some (([(⟨#[40]⟩ : ByteArray)] : List ByteArray) : List ByteArray)).bind fun y131 => (if y131.length + y128.length < 8796093022208 then ((some (y131 ++ y128 : List ByteArray)).bind fun y134 => (if y134.length < 8796093022208 then ((strings_Join.f (y134 ++ [(⟨#[41]⟩ : ByteArray)]) (⟨#[32]⟩ : ByteArray)).bind fun t140 => (some t140)) else (none))) else (none))) else ((strings_Join.f y128 (⟨#[32]⟩ : ByteArray)).bind fun t141 => (some t141))))) else (none))) else (if 0 < (l0_3.length : Int) then ((expr_show.f k ((zL l0_3 0).f0) ((zL l0_3 0).f1) ((zL l0_3 0).f2) ((zL l0_3 0).f3) bt122.1).bind fun t143 => (if 1 < (l0_3.length : Int) then ((expr_show.f k ((zL l0_3 1).f0) ((zL l0_3 1).f1) ((zL l0_3 1).f2) ((zL l0_3 1).f3) (wrap64 (bt122.1 + 1))).bind fun t145 => ((some (([t143, a0_0, t145] : List ByteArray) : List ByteArray)).bind fun y146 => (if bt122.1 < a1 then ((some (([(⟨#[40]⟩ : ByteArray)] : List ByteArray) : List ByteArray)).bind fun y149 => (if y149.length + y146.length < 8796093022208 then ((some (y149 ++ y146 : List ByteArray)).bind fun y152 => (if y152.length < 8796093022208 then ((strings_Join.f (y152 ++ [(⟨#[41]⟩ : ByteArray)]) (⟨#[32]⟩ : ByteArray)).bind fun t158 => (some t158)) else (none))) else (none))) else ((strings_Join.f y146 (⟨#[32]⟩ : ByteArray)).bind fun t159 => (some t159))))) else (none))) else (none))))))
def expr_show.T3 : Bool × List (List Nat × List Nat) := (true, [([], []), ([0], [0]), ([1], [1]), ([2], [2]), ([], []), ([3, 4], [3, 4]), ([], []), ([6], [6]), ([], []), ([8], [8]), ([9], [9]), ([10], [10]), ([], []), ([12], [12]), ([11, 13, 5], [11, 13]), ([5, 7, 14], [5, 7, 14]), ([15, 14, 0, 1, 2, 3, 4, 5, 6, 7, 8, 9, 10, 11, 12, 13, 14, 15], [15])])
def expr_show.B3 : List Nat := [0, 1, 3, 7, 0, 31, 0, 64, 0, 256, 768, 1792, 0, 4096, 16191, 32767, 65535]
theorem expr_show.tab3 : rtab .any (opsOf Tryd.f82 3) = expr_show.T3 := by kernel_rfl
theorem expr_show.bits3 : waitsOk expr_show.T3.2 expr_show.B3 = true := by kernel_rfl
def expr_show.T11 : Bool × List (List Nat × List Nat) := (true, [([], []), ([0], [0]), ([1], [1]), ([], []), ([3], [3]), ([4], [4]), ([5], [5]), ([], []), ([6, 7, 2], [6, 7]), ([2, 8], [2, 8]), ([9, 8, 0, 1, 2, 3, 4, 5, 6, 7, 8, 9], [9])])
def expr_show.B11 : List Nat := [0, 1, 3, 0, 8, 24, 56, 0, 255, 511, 1023]
theorem expr_show.tab11 : rtab .any (opsOf Tryd.f82 11) = expr_show.T11 := by kernel_rfl
theorem expr_show.bits11 : waitsOk expr_show.T11.2 expr_show.B11 = true := by kernel_rfl
set_option maxHeartbeats 8000000 in
set_option maxRecDepth 100000 in
theorem expr_show.calls (k : Nat) : ∀ (a0_0 : ByteArray) (a0_1 : Int) (a0_2 : ByteArray) (A0_3 : Option Addr) (c0_3 : Nat) (l0_3 : List (S50)) (a1 : Int) (r : ByteArray) (w : World) (hG : Aside0 (G0 w)) (hr0_3 : Kd.C k50 w A0_3 l0_3.length l0_3) (hc0_3 : l0_3.length ≤ c0_3) (h : expr_show.f k a0_0 a0_1 a0_2 l0_3 a1 = some r),
  Calls Tryd.prog 82 #[.agg #[.string a0_0, .int .u16 a0_1, .string a0_2, .slice A0_3 l0_3.length c0_3], .int .i64 a1] w fun e w' => e = .returned (.string r) ∧ Below w.heap.size w w' := by
 induction k using Nat.strongRecOn with
 | _ k ih =>
 intro a0_0 a0_1 a0_2 A0_3 c0_3 l0_3 a1 r w hG hr0_3 hc0_3 h
 cases k with
 | zero => exact absurd h (by simp [expr_show.f])
 | succ k =>
 simp only [expr_show.f] at h
 have hu50 := Tryd.underlying50
 have HR0_3 := zz_ hr0_3
 have HC0_3 := zz_ hc0_3
 clear hr0_3 hc0_3
 have HB := zz_ (Below.refl w.heap.size w)
 have H : ((expr_binds.f k a0_0).bind fun bt122 => (if a0_0.toList = ([35] : List UInt8) then ((number_Show.f k a0_1).bind fun t124 => (some t124)) else (if a0_0.toList = ([110] : List UInt8) then (some a0_2) else (if bt122.2 = 0 then (some a0_0) else (if bt122.2 = 1 then ((strings_Replace.f a0_0 (⟨#[78, 69, 71]⟩ : ByteArray) (⟨#[45]⟩ : ByteArray) 1).bind fun t125 => (if 0 < (l0_3.length : Int) then ((expr_show.f k ((zL l0_3 0).f0) ((zL l0_3 0).f1) ((zL l0_3 0).f2) ((zL l0_3 0).f3) bt122.1).bind fun t127 => ((some (([t125, t127] : List ByteArray) : List ByteArray)).bind fun y128 => (if bt122.1 < a1 then ((some (([(⟨#[40]⟩ : ByteArray)] : List ByteArray) : List ByteArray)).bind fun y131 => (if y131.length + y128.length < 8796093022208 then ((some (y131 ++ y128 : List ByteArray)).bind fun y134 => (if y134.length < 8796093022208 then ((strings_Join.f (y134 ++ [(⟨#[41]⟩ : ByteArray)]) (⟨#[32]⟩ : ByteArray)).bind fun t140 => (some t140)) else (none))) else (none))) else ((strings_Join.f y128 (⟨#[32]⟩ : ByteArray)).bind fun t141 => (some t141))))) else (none))) else (if 0 < (l0_3.length : Int) then ((expr_show.f k ((zL l0_3 0).f0) ((zL l0_3 0).f1) ((zL l0_3 0).f2) ((zL l0_3 0).f3) bt122.1).bind fun t143 => (if 1 < (l0_3.length : Int) then ((expr_show.f k ((zL l0_3 1).f0) ((zL l0_3 1).f1) ((zL l0_3 1).f2) ((zL l0_3 1).f3) (wrap64 (bt122.1 + 1))).bind fun t145 => ((some (([t143, a0_0, t145] : List ByteArray) : List ByteArray)).bind fun y146 => (if bt122.1 < a1 then ((some (([(⟨#[40]⟩ : ByteArray)] : List ByteArray) : List ByteArray)).bind fun y149 => (if y149.length + y146.length < 8796093022208 then ((some (y149 ++ y146 : List ByteArray)).bind fun y152 => (if y152.length < 8796093022208 then ((strings_Join.f (y152 ++ [(⟨#[41]⟩ : ByteArray)]) (⟨#[32]⟩ : ByteArray)).bind fun t158 => (some t158)) else (none))) else (none))) else ((strings_Join.f y146 (⟨#[32]⟩ : ByteArray)).bind fun t159 => (some t159))))) else (none))) else (none))))))) = some r := h
 clear h
 replace H := Option.bind_eq_some_iff.mp H
 obtain ⟨⟨t122, t123⟩, A30, H⟩ := H
 replace H : (if a0_0.toList = ([35] : List UInt8) then ((number_Show.f k a0_1).bind fun t124 => (some t124)) else (if a0_0.toList = ([110] : List UInt8) then (some a0_2) else (if t123 = 0 then (some a0_0) else (if t123 = 1 then ((strings_Replace.f a0_0 (⟨#[78, 69, 71]⟩ : ByteArray) (⟨#[45]⟩ : ByteArray) 1).bind fun t125 => (if 0 < (l0_3.length : Int) then ((expr_show.f k ((zL l0_3 0).f0) ((zL l0_3 0).f1) ((zL l0_3 0).f2) ((zL l0_3 0).f3) t122).bind fun t127 => ((some (([t125, t127] : List ByteArray) : List ByteArray)).bind fun y128 => (if t122 < a1 then ((some (([(⟨#[40]⟩ : ByteArray)] : List ByteArray) : List ByteArray)).bind fun y131 => (if y131.length + y128.length < 8796093022208 then ((some (y131 ++ y128 : List ByteArray)).bind fun y134 => (if y134.length < 8796093022208 then ((strings_Join.f (y134 ++ [(⟨#[41]⟩ : ByteArray)]) (⟨#[32]⟩ : ByteArray)).bind fun t140 => (some t140)) else (none))) else (none))) else ((strings_Join.f y128 (⟨#[32]⟩ : ByteArray)).bind fun t141 => (some t141))))) else (none))) else (if 0 < (l0_3.length : Int) then ((expr_show.f k ((zL l0_3 0).f0) ((zL l0_3 0).f1) ((zL l0_3 0).f2) ((zL l0_3 0).f3) t122).bind fun t143 => (if 1 < (l0_3.length : Int) then ((expr_show.f k ((zL l0_3 1).f0) ((zL l0_3 1).f1) ((zL l0_3 1).f2) ((zL l0_3 1).f3) (wrap64 (t122 + 1))).bind fun t145 => ((some (([t143, a0_0, t145] : List ByteArray) : List ByteArray)).bind fun y146 => (if t122 < a1 then ((some (([(⟨#[40]⟩ : ByteArray)] : List ByteArray) : List ByteArray)).bind fun y149 => (if y149.length + y146.length < 8796093022208 then ((some (y149 ++ y146 : List ByteArray)).bind fun y152 => (if y152.length < 8796093022208 then ((strings_Join.f (y152 ++ [(⟨#[41]⟩ : ByteArray)]) (⟨#[32]⟩ : ByteArray)).bind fun t158 => (some t158)) else (none))) else (none))) else ((strings_Join.f y146 (⟨#[32]⟩ : ByteArray)).bind fun t159 => (some t159))))) else (none))) else (none)))))) = some r := H
 have A3 := zz_ A30
 clear A30
 by_cases c4 : a0_0.toList = ([35] : List UInt8)
 ·rw [if_pos c4] at H
  have c4b0 : (a0_0.toList == ([35] : List UInt8)) = true := beq_iff_eq.mpr c4
  have c4b1 : (a0_0.toList != ([35] : List UInt8)) = false := bne_eq_false_iff_eq.mpr c4
  clear c4
  replace H := Option.bind_eq_some_iff.mp H
  obtain ⟨t124, A50, H⟩ := H
  replace H : (some t124) = some r := H
  have A5 := zz_ A50
  clear A50
  obtain rfl := Option.some.inj H
  go_enter Tryd.func82, Tryd.ntmps82
  go_wp2_with (first | ((with_reducible refine zS (N := 2) rfl ?_); refine zO ?hg (N := 2) ?hd (cs := #[.string a0_0, .int .u16 a0_1, .string a0_2, .slice A0_3 l0_3.length c0_3]) (t := 50) ?hr ?_; (case hd => rfl); (case hg => rfl); (case hr => first | (go_simp; done) | (go_simp; rfl)); intro gb121 hg w6 hbox hb; have n0_ := zz_ (zG (by repeat (first | (with_reducible first | exact HB.out | apply zB | apply zA | apply zC) | exact HB.out)) hb); have n1_ := zz_ (hbox); have n2_ := zz_ ((by rw [hg]; exact (zR (by repeat (first | (with_reducible first | exact HB.out | apply zB | apply zA | apply zC) | exact HB.out))) : w.heap.size ≤ gb121)); have n3_ := zz_ ((by rw [hg]; exact (zR (by repeat (first | (with_reducible first | exact HB.out | apply zB | apply zA | apply zC) | exact HB.out))) : w.heap.size ≤ gb121)); clear HB; have HB := n0_; have BK121 := n1_; have GW121 := n2_; have GE121 := n3_; clear n0_ n1_ n2_ n3_; clear hb hbox hg; have hcz7_0 : w6.cell? ⟨gb121, 0, none⟩ = some (.string a0_0) := (zD BK121.out 0).trans rfl; have hcz7_1 : w6.cell? ⟨gb121, 1, none⟩ = some (.int .u16 a0_1) := (zD BK121.out 1).trans rfl; have hcz7_2 : w6.cell? ⟨gb121, 2, none⟩ = some (.string a0_2) := (zD BK121.out 2).trans rfl; have hcz7_3 : w6.cell? ⟨gb121, 3, none⟩ = some (.slice A0_3 l0_3.length c0_3) := (zD BK121.out 3).trans rfl; have hfz7_0 := zE BK121.out 0; have hfz7_1 := zE BK121.out 1; have hfz7_2 := zE BK121.out 2; have hfz7_3 := zE BK121.out 3) | ((with_reducible refine zQ (f := 124) rfl ?_); refine goesL_ (some 11) rfl rfl Tryd.func124 (by kernel_rfl) rfl #[.string a0_0] rfl (by (try simp only [List.map_toArray, List.map_cons, List.map_nil]); first | done | rfl | (simp only [List.length_drop, List.length_take]; rfl)) ?_; (with_reducible refine (expr_binds.calls k a0_0 t122 t123 _ A3.out).mono ?_); rintro e w' ⟨rfl, ⟨nd, rfl⟩⟩; refine ⟨_, rfl, ?_⟩) | ((with_reducible refine zQ (f := 64) rfl ?_); refine goesL_ (some 36) rfl rfl Tryd.func64 (by kernel_rfl) rfl #[.int .u16 a0_1] rfl (by (try simp only [List.map_toArray, List.map_cons, List.map_nil]); first | done | rfl | (simp only [List.length_drop, List.length_take]; rfl)) ?_; (with_reducible refine (number_Show.calls k a0_1 t124 _ A5.out).mono ?_); rintro e w8 ⟨rfl, hb⟩; refine ⟨_, rfl, ?_⟩; have n0_ := zz_ (zK (g := gb121) (o := .cells #[.string a0_0, .int .u16 a0_1, .string a0_2, .slice A0_3 l0_3.length c0_3] 50 (0, 0)) (by (with_reducible repeat (first | refine zH ?_ _ | refine zJ ?_ | refine zI ?_ _)); exact BK121.out) hb); have n1_ := zz_ (zG (by repeat (first | (with_reducible first | exact HB.out | apply zB | apply zA | apply zC | refine zF ?_ GE121.out) | exact HB.out)) hb); clear BK121; clear HB; have BK121 := n0_; have HB := n1_; clear n0_ n1_; (try clear hb)))
  go_ret
  exact ⟨by first | rfl | (simp [zN, zM] <;> rfl) | (simp [*, zN, zM] <;> rfl), by repeat (first | (with_reducible first | exact HB.out | apply zB | apply zA | apply zC | refine zF ?_ GE121.out) | exact HB.out)⟩
 ·rw [if_neg c4] at H
  have c4b0 : (a0_0.toList == ([35] : List UInt8)) = false := beq_eq_false_iff_ne.mpr c4
  have c4b1 : (a0_0.toList != ([35] : List UInt8)) = true := bne_iff_ne.mpr c4
  by_cases c9 : a0_0.toList = ([110] : List UInt8)
  ·rw [if_pos c9] at H
   have c9b0 : (a0_0.toList == ([110] : List UInt8)) = true := beq_iff_eq.mpr c9
   have c9b1 : (a0_0.toList != ([110] : List UInt8)) = false := bne_eq_false_iff_eq.mpr c9
   clear c9
   obtain rfl := Option.some.inj H
   go_enter Tryd.func82, Tryd.ntmps82
   go_wp2_with (first | ((with_reducible refine zS (N := 2) rfl ?_); refine zO ?hg (N := 2) ?hd (cs := #[.string a0_0, .int .u16 a0_1, .string a0_2, .slice A0_3 l0_3.length c0_3]) (t := 50) ?hr ?_; (case hd => rfl); (case hg => rfl); (case hr => first | (go_simp; done) | (go_simp; rfl)); intro gb121 hg w10 hbox hb; have n0_ := zz_ (zG (by repeat (first | (with_reducible first | exact HB.out | apply zB | apply zA | apply zC) | exact HB.out)) hb); have n1_ := zz_ (hbox); have n2_ := zz_ ((by rw [hg]; exact (zR (by repeat (first | (with_reducible first | exact HB.out | apply zB | apply zA | apply zC) | exact HB.out))) : w.heap.size ≤ gb121)); have n3_ := zz_ ((by rw [hg]; exact (zR (by repeat (first | (with_reducible first | exact HB.out | apply zB | apply zA | apply zC) | exact HB.out))) : w.heap.size ≤ gb121)); clear HB; have HB := n0_; have BK121 := n1_; have GW121 := n2_; have GE121 := n3_; clear n0_ n1_ n2_ n3_; clear hb hbox hg; have hcz11_0 : w10.cell? ⟨gb121, 0, none⟩ = some (.string a0_0) := (zD BK121.out 0).trans rfl; have hcz11_1 : w10.cell? ⟨gb121, 1, none⟩ = some (.int .u16 a0_1) := (zD BK121.out 1).trans rfl; have hcz11_2 : w10.cell? ⟨gb121, 2, none⟩ = some (.string a0_2) := (zD BK121.out 2).trans rfl; have hcz11_3 : w10.cell? ⟨gb121, 3, none⟩ = some (.slice A0_3 l0_3.length c0_3) := (zD BK121.out 3).trans rfl; have hfz11_0 := zE BK121.out 0; have hfz11_1 := zE BK121.out 1; have hfz11_2 := zE BK121.out 2; have hfz11_3 := zE BK121.out 3) | ((with_reducible refine zQ (f := 124) rfl ?_); refine goesL_ (some 11) rfl rfl Tryd.func124 (by kernel_rfl) rfl #[.string a0_0] rfl (by (try simp only [List.map_toArray, List.map_cons, List.map_nil]); first | done | rfl | (simp only [List.length_drop, List.length_take]; rfl)) ?_; (with_reducible refine (expr_binds.calls k a0_0 t122 t123 _ A3.out).mono ?_); rintro e w' ⟨rfl, ⟨nd, rfl⟩⟩; refine ⟨_, rfl, ?_⟩))
   go_ret
   exact ⟨by first | rfl | (simp [zN, zM] <;> rfl) | (simp [*, zN, zM] <;> rfl), by repeat (first | (with_reducible first | exact HB.out | apply zB | apply zA | apply zC | refine zF ?_ GE121.out) | exact HB.out)⟩
  ·rw [if_neg c9] at H
   have c9b0 : (a0_0.toList == ([110] : List UInt8)) = false := beq_eq_false_iff_ne.mpr c9
   have c9b1 : (a0_0.toList != ([110] : List UInt8)) = true := bne_iff_ne.mpr c9
   by_cases c12 : t123 = 0
   ·rw [if_pos c12] at H
    have c12b0 : (t123 == 0) = true := beq_iff_eq.mpr c12
    have c12b1 : (t123 != 0) = false := bne_eq_false_iff_eq.mpr c12
    clear c12
    obtain rfl := Option.some.inj H
    go_enter Tryd.func82, Tryd.ntmps82
    go_wp2_with (first | ((with_reducible refine zS (N := 2) rfl ?_); refine zO ?hg (N := 2) ?hd (cs := #[.string a0_0, .int .u16 a0_1, .string a0_2, .slice A0_3 l0_3.length c0_3]) (t := 50) ?hr ?_; (case hd => rfl); (case hg => rfl); (case hr => first | (go_simp; done) | (go_simp; rfl)); intro gb121 hg w13 hbox hb; have n0_ := zz_ (zG (by repeat (first | (with_reducible first | exact HB.out | apply zB | apply zA | apply zC) | exact HB.out)) hb); have n1_ := zz_ (hbox); have n2_ := zz_ ((by rw [hg]; exact (zR (by repeat (first | (with_reducible first | exact HB.out | apply zB | apply zA | apply zC) | exact HB.out))) : w.heap.size ≤ gb121)); have n3_ := zz_ ((by rw [hg]; exact (zR (by repeat (first | (with_reducible first | exact HB.out | apply zB | apply zA | apply zC) | exact HB.out))) : w.heap.size ≤ gb121)); clear HB; have HB := n0_; have BK121 := n1_; have GW121 := n2_; have GE121 := n3_; clear n0_ n1_ n2_ n3_; clear hb hbox hg; have hcz14_0 : w13.cell? ⟨gb121, 0, none⟩ = some (.string a0_0) := (zD BK121.out 0).trans rfl; have hcz14_1 : w13.cell? ⟨gb121, 1, none⟩ = some (.int .u16 a0_1) := (zD BK121.out 1).trans rfl; have hcz14_2 : w13.cell? ⟨gb121, 2, none⟩ = some (.string a0_2) := (zD BK121.out 2).trans rfl; have hcz14_3 : w13.cell? ⟨gb121, 3, none⟩ = some (.slice A0_3 l0_3.length c0_3) := (zD BK121.out 3).trans rfl; have hfz14_0 := zE BK121.out 0; have hfz14_1 := zE BK121.out 1; have hfz14_2 := zE BK121.out 2; have hfz14_3 := zE BK121.out 3) | ((with_reducible refine zQ (f := 124) rfl ?_); refine goesL_ (some 11) rfl rfl Tryd.func124 (by kernel_rfl) rfl #[.string a0_0] rfl (by (try simp only [List.map_toArray, List.map_cons, List.map_nil]); first | done | rfl | (simp only [List.length_drop, List.length_take]; rfl)) ?_; (with_reducible refine (expr_binds.calls k a0_0 t122 t123 _ A3.out).mono ?_); rintro e w' ⟨rfl, ⟨nd, rfl⟩⟩; refine ⟨_, rfl, ?_⟩))
    go_ret
    exact ⟨by first | rfl | (simp [zN, zM] <;> rfl) | (simp [*, zN, zM] <;> rfl), by repeat (first | (with_reducible first | exact HB.out | apply zB | apply zA | apply zC | refine zF ?_ GE121.out) | exact HB.out)⟩
   ·rw [if_neg c12] at H
    have c12b0 : (t123 == 0) = false := beq_eq_false_iff_ne.mpr c12
    have c12b1 : (t123 != 0) = true := bne_iff_ne.mpr c12
    by_cases c15 : t123 = 1
    ·rw [if_pos c15] at H
     have c15b0 : (t123 == 1) = true := beq_iff_eq.mpr c15
     have c15b1 : (t123 != 1) = false := bne_eq_false_iff_eq.mpr c15
     clear c15
     replace H := Option.bind_eq_some_iff.mp H
     obtain ⟨t125, A160, H⟩ := H
     replace H : (if 0 < (l0_3.length : Int) then ((expr_show.f k ((zL l0_3 0).f0) ((zL l0_3 0).f1) ((zL l0_3 0).f2) ((zL l0_3 0).f3) t122).bind fun t127 => ((some (([t125, t127] : List ByteArray) : List ByteArray)).bind fun y128 => (if t122 < a1 then ((some (([(⟨#[40]⟩ : ByteArray)] : List ByteArray) : List ByteArray)).bind fun y131 => (if y131.length + y128.length < 8796093022208 then ((some (y131 ++ y128 : List ByteArray)).bind fun y134 => (if y134.length < 8796093022208 then ((strings_Join.f (y134 ++ [(⟨#[41]⟩ : ByteArray)]) (⟨#[32]⟩ : ByteArray)).bind fun t140 => (some t140)) else (none))) else (none))) else ((strings_Join.f y128 (⟨#[32]⟩ : ByteArray)).bind fun t141 => (some t141))))) else (none)) = some r := H
     have A16 := zz_ A160
     clear A160
     by_cases c17 : 0 < (l0_3.length : Int)
     ·rw [if_pos c17] at H
      have c17b0 : decide (0 < (l0_3.length : Int)) = true := decide_eq_true c17
      have c17b1 : decide (0 < l0_3.length) = true := decide_eq_true (by omega)
      clear c17
      replace H := Option.bind_eq_some_iff.mp H
      obtain ⟨t127, A180, H⟩ := H
      replace H : ((some (([t125, t127] : List ByteArray) : List ByteArray)).bind fun y128 => (if t122 < a1 then ((some (([(⟨#[40]⟩ : ByteArray)] : List ByteArray) : List ByteArray)).bind fun y131 => (if y131.length + y128.length < 8796093022208 then ((some (y131 ++ y128 : List ByteArray)).bind fun y134 => (if y134.length < 8796093022208 then ((strings_Join.f (y134 ++ [(⟨#[41]⟩ : ByteArray)]) (⟨#[32]⟩ : ByteArray)).bind fun t140 => (some t140)) else (none))) else (none))) else ((strings_Join.f y128 (⟨#[32]⟩ : ByteArray)).bind fun t141 => (some t141)))) = some r := H
      have A18 := zz_ A180
      clear A180
      obtain ⟨y128, hy128⟩ : ∃ y_ : List ByteArray, y_ = (([t125, t127] : List ByteArray)) := ⟨_, rfl⟩
      replace H : (if t122 < a1 then ((some (([(⟨#[40]⟩ : ByteArray)] : List ByteArray) : List ByteArray)).bind fun y131 => (if y131.length + y128.length < 8796093022208 then ((some (y131 ++ y128 : List ByteArray)).bind fun y134 => (if y134.length < 8796093022208 then ((strings_Join.f (y134 ++ [(⟨#[41]⟩ : ByteArray)]) (⟨#[32]⟩ : ByteArray)).bind fun t140 => (some t140)) else (none))) else (none))) else ((strings_Join.f y128 (⟨#[32]⟩ : ByteArray)).bind fun t141 => (some t141))) = some r := by first | (rw [hy128]; with_reducible exact H) | (have H2_ := (Option.bind_some _ _).symm.trans H; rw [hy128]; with_reducible exact H2_) | (have H2_ := (Option.bind_some _ _).symm.trans H; with_reducible exact H2_) | with_reducible exact H | (rw [hy128]; exact H) | exact H
      have Ny128 := zz_ hy128
      clear hy128
      by_cases c19 : t122 < a1
      ·rw [if_pos c19] at H
       have c19b0 : decide (t122 < a1) = true := decide_eq_true c19
       clear c19
       obtain ⟨y131, hy131⟩ : ∃ y_ : List ByteArray, y_ = (([(⟨#[40]⟩ : ByteArray)] : List ByteArray)) := ⟨_, rfl⟩
       replace H : (if y131.length + y128.length < 8796093022208 then ((some (y131 ++ y128 : List ByteArray)).bind fun y134 => (if y134.length < 8796093022208 then ((strings_Join.f (y134 ++ [(⟨#[41]⟩ : ByteArray)]) (⟨#[32]⟩ : ByteArray)).bind fun t140 => (some t140)) else (none))) else (none)) = some r := by first | (rw [hy131]; with_reducible exact H) | (have H2_ := (Option.bind_some _ _).symm.trans H; rw [hy131]; with_reducible exact H2_) | (have H2_ := (Option.bind_some _ _).symm.trans H; with_reducible exact H2_) | with_reducible exact H | (rw [hy131]; exact H) | exact H
       have Ny131 := zz_ hy131
       clear hy131
       by_cases c20 : y131.length + y128.length < 8796093022208
       ·rw [if_pos c20] at H
        have LMc20 := zz_ c20
        clear c20
        obtain ⟨y134, hy134⟩ : ∃ y_ : List ByteArray, y_ = (y131 ++ y128) := ⟨_, rfl⟩
        replace H : (if y134.length < 8796093022208 then ((strings_Join.f (y134 ++ [(⟨#[41]⟩ : ByteArray)]) (⟨#[32]⟩ : ByteArray)).bind fun t140 => (some t140)) else (none)) = some r := by first | (rw [hy134]; with_reducible exact H) | (have H2_ := (Option.bind_some _ _).symm.trans H; rw [hy134]; with_reducible exact H2_) | (have H2_ := (Option.bind_some _ _).symm.trans H; with_reducible exact H2_) | with_reducible exact H | (rw [hy134]; exact H) | exact H
        have Ny134 := zz_ hy134
        clear hy134
        by_cases c21 : y134.length < 8796093022208
        ·rw [if_pos c21] at H
         have LMc21 := zz_ c21
         clear c21
         obtain ⟨y137, hy137⟩ : ∃ y_ : List ByteArray, y_ = (y134 ++ [(⟨#[41]⟩ : ByteArray)]) := ⟨_, rfl⟩
         replace H : ((strings_Join.f y137 (⟨#[32]⟩ : ByteArray)).bind fun t140 => (some t140)) = some r := by first | (rw [hy137]; with_reducible exact H) | (have H2_ := (Option.bind_some _ _).symm.trans H; rw [hy137]; with_reducible exact H2_) | (have H2_ := (Option.bind_some _ _).symm.trans H; with_reducible exact H2_) | with_reducible exact H | (rw [hy137]; exact H) | exact H
         have Ny137 := zz_ hy137
         clear hy137
         replace H := Option.bind_eq_some_iff.mp H
         obtain ⟨t140, A220, H⟩ := H
         replace H : (some t140) = some r := H
         have A22 := zz_ A220
         clear A220
         obtain rfl := Option.some.inj H
         go_enter Tryd.func82, Tryd.ntmps82
         try go_wp2_with (first | ((with_reducible refine zS (N := 2) rfl ?_); refine zO ?hg (N := 2) ?hd (cs := #[.string a0_0, .int .u16 a0_1, .string a0_2, .slice A0_3 l0_3.length c0_3]) (t := 50) ?hr ?_; (case hd => rfl); (case hg => rfl); (case hr => first | (go_simp; done) | (go_simp; rfl)); intro gb121 hg w23 hbox hb; have n0_ := zz_ (zG (by repeat (first | (with_reducible first | exact HB.out | apply zB | apply zA | apply zC) | exact HB.out)) hb); have n1_ := zz_ (hbox); have n2_ := zz_ ((by rw [hg]; exact (zR (by repeat (first | (with_reducible first | exact HB.out | apply zB | apply zA | apply zC) | exact HB.out))) : w.heap.size ≤ gb121)); have n3_ := zz_ ((by rw [hg]; exact (zR (by repeat (first | (with_reducible first | exact HB.out | apply zB | apply zA | apply zC) | exact HB.out))) : w.heap.size ≤ gb121)); clear HB; have HB := n0_; have BK121 := n1_; have GW121 := n2_; have GE121 := n3_; clear n0_ n1_ n2_ n3_; clear hb hbox hg; have hcz24_0 : w23.cell? ⟨gb121, 0, none⟩ = some (.string a0_0) := (zD BK121.out 0).trans rfl; have hcz24_1 : w23.cell? ⟨gb121, 1, none⟩ = some (.int .u16 a0_1) := (zD BK121.out 1).trans rfl; have hcz24_2 : w23.cell? ⟨gb121, 2, none⟩ = some (.string a0_2) := (zD BK121.out 2).trans rfl; have hcz24_3 : w23.cell? ⟨gb121, 3, none⟩ = some (.slice A0_3 l0_3.length c0_3) := (zD BK121.out 3).trans rfl; have hfz24_0 := zE BK121.out 0; have hfz24_1 := zE BK121.out 1; have hfz24_2 := zE BK121.out 2; have hfz24_3 := zE BK121.out 3) | ((with_reducible refine zQ (f := 124) rfl ?_); refine goesL_ (some 11) rfl rfl Tryd.func124 (by kernel_rfl) rfl #[.string a0_0] rfl (by (try simp only [List.map_toArray, List.map_cons, List.map_nil]); first | done | rfl | (simp only [List.length_drop, List.length_take]; rfl)) ?_; (with_reducible refine (expr_binds.calls k a0_0 t122 t123 _ A3.out).mono ?_); rintro e w' ⟨rfl, ⟨nd, rfl⟩⟩; refine ⟨_, rfl, ?_⟩))
         (try (rw [drewN_self w23]; generalize hq_ : World.drewN w23 _ = w23; have n0_ : Aside0 (w23.heap[gb121]? = some (.cells #[.string a0_0, .int .u16 a0_1, .string a0_2, .slice A0_3 l0_3.length c0_3] 50 (0, 0))) := ⟨by rw [← hq_]; exact (by (with_reducible repeat (first | refine zH ?_ _ | refine zJ ?_ | refine zI ?_ _)); exact BK121.out)⟩; have n1_ : Aside0 (Below w.heap.size w w23) := ⟨by rw [← hq_]; exact (by repeat (first | (with_reducible first | exact HB.out | apply zB | apply zA | apply zC | refine zF ?_ GE121.out) | exact HB.out))⟩; clear BK121 HB hq_; have BK121 := n0_; have HB := n1_; clear n0_ n1_))
         have n0_ := zz_ (zJ BK121.out)
         have n1_ := zz_ (zC HB.out)
         clear BK121
         clear HB
         have BK121 := n0_
         have HB := n1_
         clear n0_ n1_
         have p126 : 0 ≤ (0 : Int) := (by omega)
         have q126 : 0 < (l0_3.length : Int) := of_decide_eq_true (by first | (with_reducible assumption) | assumption)
         obtain ⟨ad126, A126_3, c126_3, e126, hx126_0, hx126_1, hx126_2, hx126_3, hl126_3, hi126_3⟩ := at_T50 HR0_3.out 0 p126 q126
         have hw126_3 := hx126_3
         (try rw [show ((0 : Int)).toNat = 0 from rfl] at hw126_3)
         (try rw [show 0 * 4 = 0 from rfl] at hw126_3)
         (try rw [Addr.add_zero'] at hw126_3)
         have hw126_2 := hx126_2
         (try rw [show ((0 : Int)).toNat = 0 from rfl] at hw126_2)
         (try rw [show 0 * 4 = 0 from rfl] at hw126_2)
         (try rw [Addr.add_zero'] at hw126_2)
         have hw126_1 := hx126_1
         (try rw [show ((0 : Int)).toNat = 0 from rfl] at hw126_1)
         (try rw [show 0 * 4 = 0 from rfl] at hw126_1)
         (try rw [Addr.add_zero'] at hw126_1)
         have hw126_0 := hx126_0
         (try rw [show ((0 : Int)).toNat = 0 from rfl] at hw126_0)
         (try rw [show 0 * 4 = 0 from rfl] at hw126_0)
         (try rw [Addr.add_zero'] at hw126_0)
         cases e126
         have qi126 : (0 < l0_3.length) = True := eq_true (by omega)
         (try rw [show ((0 : Int)).toNat = 0 from rfl] at hx126_0)
         (try rw [show 0 * 4 = 0 from rfl] at hx126_0)
         (try rw [Addr.add_zero'] at hx126_0)
         (try rw [show ((0 : Int)).toNat = 0 from rfl] at hx126_1)
         (try rw [show 0 * 4 = 0 from rfl] at hx126_1)
         (try rw [Addr.add_zero'] at hx126_1)
         (try rw [show ((0 : Int)).toNat = 0 from rfl] at hx126_2)
         (try rw [show 0 * 4 = 0 from rfl] at hx126_2)
         (try rw [Addr.add_zero'] at hx126_2)
         (try rw [show ((0 : Int)).toNat = 0 from rfl] at hx126_3)
         (try rw [show 0 * 4 = 0 from rfl] at hx126_3)
         (try rw [Addr.add_zero'] at hx126_3)
         replace hx126_0 := (HB.out.cell (World.block_lt_of_cell? w _ hx126_0)).trans hx126_0
         replace hx126_1 := (HB.out.cell (World.block_lt_of_cell? w _ hx126_1)).trans hx126_1
         replace hx126_2 := (HB.out.cell (World.block_lt_of_cell? w _ hx126_2)).trans hx126_2
         replace hx126_3 := (HB.out.cell (World.block_lt_of_cell? w _ hx126_3)).trans hx126_3
         have HR126_3 := zz_ hi126_3
         have HC126_3 := zz_ hl126_3
         clear hi126_3 hl126_3
         replace p126 := eq_true p126
         replace q126 := eq_true q126
         refine start_ (n := 11) (S := fun w' => w'.cell? ⟨gb121, 0, none⟩ = some (.string a0_0) ∧ w'.cell? ⟨gb121, 1, none⟩ = some (.int .u16 a0_1) ∧ w'.cell? ⟨gb121, 2, none⟩ = some (.string a0_2) ∧ w'.cell? ⟨gb121, 3, none⟩ = some (.slice (some ad126) l0_3.length c0_3) ∧ w'.cell? ad126 = some (.string ((zL l0_3 0).f0)) ∧ w'.cell? ⟨ad126.block, ad126.off + 1, none⟩ = some (.int .u16 ((zL l0_3 0).f1)) ∧ w'.cell? ⟨ad126.block, ad126.off + 2, none⟩ = some (.string ((zL l0_3 0).f2)) ∧ w'.cell? ⟨ad126.block, ad126.off + 3, none⟩ = some (.slice A126_3 ((zL l0_3 0).f3).length c126_3)) (ds := []) #[false, false, false, false, false, false, false, false, false, false, false] (by kernel_rfl) rfl rfl ⟨(zD BK121.out 0).trans rfl, (zD BK121.out 1).trans rfl, (zD BK121.out 2).trans rfl, (zD BK121.out 3).trans rfl, ((HB.out.cell (World.block_lt_of_cell? w _ hw126_0)).trans hw126_0), ((HB.out.cell (World.block_lt_of_cell? w _ hw126_1)).trans hw126_1), ((HB.out.cell (World.block_lt_of_cell? w _ hw126_2)).trans hw126_2), ((HB.out.cell (World.block_lt_of_cell? w _ hw126_3)).trans hw126_3)⟩ (fun hHeld => ?_); refine with_tabW expr_show.tab11 expr_show.bits11 (fun HT_ HW_ => ?_)
         generalize w23.drew = w25 at BK121 HB HR126_3 hx126_0 hx126_1 hx126_2 hx126_3 hHeld ⊢
         refine pure_ (i := 0) (N := some 51) (v := ?_) (a' := ?_) #[true, false, false, false, false, false, false, false, false, false, false] rfl rfl (zT HT_.out (by kernel_rfl)) (fun _ _ _ h => h) (Or.inl ⟨by rfl, ?_⟩) ?_ ?_
         rotate_left
         ·intro w'
          go_simp
          with_reducible rfl
         rotate_left
         ·simp only [Act.put, List.setIfInBounds_toArray, List.set_cons_zero, List.set_cons_succ, i64_w, i32_w]
          rfl
         refine pure_ (i := 3) (N := some 54) (v := ?_) (a' := ?_) #[true, false, false, true, false, false, false, false, false, false, false] rfl rfl (zT HT_.out (by kernel_rfl)) (fun _ _ _ h => h) (Or.inl ⟨by rfl, ?_⟩) ?_ ?_
         rotate_left
         ·intro w'
          go_simp
          with_reducible rfl
         rotate_left
         ·simp only [Act.put, List.setIfInBounds_toArray, List.set_cons_zero, List.set_cons_succ, i64_w, i32_w]
          rfl
         refine pure_ (i := 7) (N := some 58) (v := ?_) (a' := ?_) #[true, false, false, true, false, false, false, true, false, false, false] rfl rfl (zT HT_.out (by kernel_rfl)) (fun _ _ _ h => h) (Or.inl ⟨by rfl, ?_⟩) ?_ ?_
         rotate_left
         ·intro w'
          go_simp
          with_reducible rfl
         rotate_left
         ·simp only [Act.put, List.setIfInBounds_toArray, List.set_cons_zero, List.set_cons_succ, i64_w, i32_w]
          rfl
         refine take_ (i := 1) (N := some 52) (v := ?_) (a' := ?_) #[true, true, false, true, false, false, false, true, false, false, false] rfl rfl (take_ofW HT_.out HW_.out (by kernel_rfl)) (fun _ _ _ h => h) (Or.inl ⟨by rfl, ?_⟩) hHeld ?_ ?_
         rotate_left
         ·rintro w' ⟨s0, s1, s2, s3, s4, s5, s6, s7⟩
          go_simp
          with_reducible rfl
         rotate_left
         ·simp only [Act.put, List.setIfInBounds_toArray, List.set_cons_zero, List.set_cons_succ, i64_w, i32_w]
          rfl
         refine take_ (i := 4) (N := some 55) (v := ?_) (a' := ?_) #[true, true, false, true, true, false, false, true, false, false, false] rfl rfl (take_ofW HT_.out HW_.out (by kernel_rfl)) (fun _ _ _ h => h) (Or.inl ⟨by rfl, ?_⟩) hHeld ?_ ?_
         rotate_left
         ·rintro w' ⟨s0, s1, s2, s3, s4, s5, s6, s7⟩
          go_simp
          with_reducible rfl
         rotate_left
         ·simp only [Act.put, List.setIfInBounds_toArray, List.set_cons_zero, List.set_cons_succ, i64_w, i32_w]
          rfl
         refine pure_ (i := 5) (N := some 56) (v := ?_) (a' := ?_) #[true, true, false, true, true, true, false, true, false, false, false] rfl rfl (zT HT_.out (by kernel_rfl)) (fun _ _ _ h => h) (Or.inl ⟨by rfl, ?_⟩) ?_ ?_
         rotate_left
         ·intro w'
          go_simp
          with_reducible rfl
         rotate_left
         ·simp only [Act.put, List.setIfInBounds_toArray, List.set_cons_zero, List.set_cons_succ, i64_w, i32_w]
          rfl
         refine take_ (i := 6) (N := some 57) (v := ?_) (a' := ?_) #[true, true, false, true, true, true, true, true, false, false, false] rfl rfl (take_ofW HT_.out HW_.out (by kernel_rfl)) (fun _ _ _ h => h) (Or.inl ⟨by rfl, ?_⟩) hHeld ?_ ?_
         rotate_left
         ·rintro w' ⟨s0, s1, s2, s3, s4, s5, s6, s7⟩
          go_simp
          with_reducible rfl
         rotate_left
         ·simp only [Act.put, List.setIfInBounds_toArray, List.set_cons_zero, List.set_cons_succ, i64_w, i32_w]
          rfl
         refine one_ (i := 2) (N := some 53) #[true, true, true, true, true, true, true, true, false, false, false] rfl rfl (one_of HT_.out (by kernel_rfl)) (by decide) (fun K hK => ?_)
         refine goes_ Tryd.func86 (by kernel_rfl) rfl #[.string a0_0, .string (⟨#[78, 69, 71]⟩ : ByteArray), .string (⟨#[45]⟩ : ByteArray), .int .i64 1] (by rfl) rfl rfl (by (try simp only [List.map_toArray, List.map_cons, List.map_nil]); first | done | rfl | (simp only [List.length_drop, List.length_take]; rfl)) ?_
         with_reducible refine (strings_Replace.calls a0_0 (⟨#[78, 69, 71]⟩ : ByteArray) (⟨#[45]⟩ : ByteArray) 1 t125 _ ?side1 A16.out).mono ?_
         (case side1 => exact ⟨G0.below hG.out (by repeat (first | (with_reducible first | exact HB.out | apply zB | apply zA | apply zC | refine zF ?_ GE121.out) | exact HB.out))⟩)
         rintro e w26 ⟨rfl, hb⟩
         refine ⟨_, rfl, ?_⟩
         have n0_ := zz_ (zK (g := gb121) (o := .cells #[.string a0_0, .int .u16 a0_1, .string a0_2, .slice (some ad126) l0_3.length c0_3] 50 (0, 0)) (by (with_reducible repeat (first | refine zH ?_ _ | refine zJ ?_ | refine zI ?_ _)); exact BK121.out) hb)
         have n1_ := zz_ (zG (by repeat (first | (with_reducible first | exact HB.out | apply zB | apply zA | apply zC | refine zF ?_ GE121.out) | exact HB.out)) hb)
         clear BK121
         clear HB
         have BK121 := n0_
         have HB := n1_
         clear n0_ n1_
         (try clear hb)
         (try clear hb2)
         (try clear hk)
         (try clear hi)
         refine hK.out _ _ ⟨(zD BK121.out 0).trans rfl, (zD BK121.out 1).trans rfl, (zD BK121.out 2).trans rfl, (zD BK121.out 3).trans rfl, ((HB.out.cell (World.block_lt_of_cell? w _ hw126_0)).trans hw126_0), ((HB.out.cell (World.block_lt_of_cell? w _ hw126_1)).trans hw126_1), ((HB.out.cell (World.block_lt_of_cell? w _ hw126_2)).trans hw126_2), ((HB.out.cell (World.block_lt_of_cell? w _ hw126_3)).trans hw126_3)⟩ (fun hHeld => ?_)
         clear hK K
         refine norm_ (a' := ?_) ?_ ?_
         rotate_left
         ·show Act.put _ (some 53) _ = _
          simp only [Act.put, List.setIfInBounds_toArray, List.set_cons_zero, List.set_cons_succ, i64_w, i32_w]
          rfl
         refine one_ (i := 8) (N := some 59) #[true, true, true, true, true, true, true, true, true, false, false] rfl rfl (one_of HT_.out (by kernel_rfl)) (by decide) (fun K hK => ?_)
         refine goes_ Tryd.func82 (by kernel_rfl) rfl #[.agg #[.string ((zL l0_3 0).f0), .int .u16 ((zL l0_3 0).f1), .string ((zL l0_3 0).f2), .slice A126_3 ((zL l0_3 0).f3).length c126_3], .int .i64 t122] (by rfl) rfl rfl (by (try simp only [List.map_toArray, List.map_cons, List.map_nil]); first | done | rfl | (simp only [List.length_drop, List.length_take]; rfl)) ?_
         with_reducible refine (ih k (by omega) ((zL l0_3 0).f0) ((zL l0_3 0).f1) ((zL l0_3 0).f2) _ _ ((zL l0_3 0).f3) t122 t127 _ ?side1 ?side2 ?side3 A18.out).mono ?_
         (case side1 => exact ⟨G0.below hG.out (by repeat (first | (with_reducible first | exact HB.out | apply zB | apply zA | apply zC | refine zF ?_ GE121.out) | exact HB.out))⟩)
         (case side2 => repeat (first | exact (Kd.zV HR126_3.out HB.out) | (with_reducible refine Kd.C_alloc ?_ _) | (with_reducible refine Kd.C_drewN ?_ _) | (with_reducible refine Kd.C_drew ?_)))
         (case side3 => exact HC126_3.out)
         rintro e w27 ⟨rfl, hb⟩
         refine ⟨_, rfl, ?_⟩
         have n0_ := zz_ (zK (g := gb121) (o := .cells #[.string a0_0, .int .u16 a0_1, .string a0_2, .slice (some ad126) l0_3.length c0_3] 50 (0, 0)) (by (with_reducible repeat (first | refine zH ?_ _ | refine zJ ?_ | refine zI ?_ _)); exact BK121.out) hb)
         have n1_ := zz_ (zG (by repeat (first | (with_reducible first | exact HB.out | apply zB | apply zA | apply zC | refine zF ?_ GE121.out) | exact HB.out)) hb)
         clear BK121
         clear HB
         have BK121 := n0_
         have HB := n1_
         clear n0_ n1_
         (try clear hb)
         (try clear hb2)
         (try clear hk)
         (try clear hi)
         refine hK.out _ _ ⟨(zD BK121.out 0).trans rfl, (zD BK121.out 1).trans rfl, (zD BK121.out 2).trans rfl, (zD BK121.out 3).trans rfl, ((HB.out.cell (World.block_lt_of_cell? w _ hw126_0)).trans hw126_0), ((HB.out.cell (World.block_lt_of_cell? w _ hw126_1)).trans hw126_1), ((HB.out.cell (World.block_lt_of_cell? w _ hw126_2)).trans hw126_2), ((HB.out.cell (World.block_lt_of_cell? w _ hw126_3)).trans hw126_3)⟩ (fun hHeld => ?_)
         clear hK K
         refine norm_ (a' := ?_) ?_ ?_
         rotate_left
         ·show Act.put _ (some 59) _ = _
          simp only [Act.put, List.setIfInBounds_toArray, List.set_cons_zero, List.set_cons_succ, i64_w, i32_w]
          rfl
         refine one_ (i := 9) (N := some 60) #[true, true, true, true, true, true, true, true, true, true, false] rfl rfl (one_of HT_.out (by kernel_rfl)) (by decide) (fun K hK => ?_)
         refine Kd.R_lit_step Kd.string _ 9 ?hg (N := 60) ?hd (xs := ([t125, t127] : List ByteArray)) (inner := [.string t125, .string t127]) (ok := fun _ => True) (okp := fun _ => True) ?hr ?hp (fun _ hk => hk) trivial (Below.refl _ _) (Nat.le_refl _) (by simp) ?_; (case hd => rfl); (case hg => rfl); (case hr => first | (go_simp; done) | (go_simp; rfl)); (case hp => exact (Reps.one (show Kd.M Kd.string _ _ _ t125 [.string t125] from rfl) (Reps.one (show Kd.M Kd.string _ _ _ t127 [.string t127] from rfl) (Reps.none _ _))))
         intro v129 w28 ho29 hb hg_ hnew_
         clear hg_ hnew_
         (first | rw [← Ny128.out] at ho29 | (simp only [Int.reduceToNat] at ho29; rw [← Ny128.out] at ho29))
         have n0_ := zz_ (Kd.R_lower ho29 (zR (by repeat (first | (with_reducible first | exact HB.out | apply zB | apply zA | apply zC | refine zF ?_ GE121.out) | exact HB.out))))
         have n1_ := zz_ (zK (g := gb121) (o := .cells #[.string a0_0, .int .u16 a0_1, .string a0_2, .slice (some ad126) l0_3.length c0_3] 50 (0, 0)) (by (with_reducible repeat (first | refine zH ?_ _ | refine zJ ?_ | refine zI ?_ _)); exact BK121.out) hb)
         have n2_ := zz_ (zG (by repeat (first | (with_reducible first | exact HB.out | apply zB | apply zA | apply zC | refine zF ?_ GE121.out) | exact HB.out)) hb)
         clear BK121
         clear HB
         have HO130 := n0_
         have BK121 := n1_
         have HB := n2_
         clear n0_ n1_ n2_
         clear hb ho29
         refine hK.out _ _ ⟨(zD BK121.out 0).trans rfl, (zD BK121.out 1).trans rfl, (zD BK121.out 2).trans rfl, (zD BK121.out 3).trans rfl, ((HB.out.cell (World.block_lt_of_cell? w _ hw126_0)).trans hw126_0), ((HB.out.cell (World.block_lt_of_cell? w _ hw126_1)).trans hw126_1), ((HB.out.cell (World.block_lt_of_cell? w _ hw126_2)).trans hw126_2), ((HB.out.cell (World.block_lt_of_cell? w _ hw126_3)).trans hw126_3)⟩ (fun hHeld => ?_)
         clear hK K
         refine norm_ (a' := ?_) ?_ ?_
         rotate_left
         ·show Act.put _ (some 60) _ = _
          simp only [Act.put, List.setIfInBounds_toArray, List.set_cons_zero, List.set_cons_succ, i64_w, i32_w]
          rfl
         refine pure_ (i := 10) (N := some 7) (v := ?_) (a' := ?_) #[true, true, true, true, true, true, true, true, true, true, true] rfl rfl (zT HT_.out (by kernel_rfl)) (fun _ _ _ h => h) (Or.inl ⟨by rfl, ?_⟩) ?_ ?_
         rotate_left
         ·intro w'
          go_simp
          with_reducible rfl
         rotate_left
         ·simp only [Act.put, List.setIfInBounds_toArray, List.set_cons_zero, List.set_cons_succ, i64_w, i32_w]
          rfl
         refine done_ (done_of HT_.out (by kernel_rfl)) ?_
         try go_wp2_with (first | ((with_reducible refine zS (N := 64) rfl ?_); refine Kd.R_lit Kd.string _ 9 ?hg (N := 64) ?hd (xs := ([(⟨#[40]⟩ : ByteArray)] : List ByteArray)) (inner := [.string (⟨#[40]⟩ : ByteArray)]) (ok := fun _ => True) (okp := fun _ => True) ?hr ?hp (fun _ hk => hk) trivial (Below.refl _ _) (Nat.le_refl _) (by simp) ?_; (case hd => rfl); (case hg => rfl); (case hr => first | (go_simp; done) | (go_simp; rfl)); (case hp => exact (Reps.one (show Kd.M Kd.string _ _ _ (⟨#[40]⟩ : ByteArray) [.string (⟨#[40]⟩ : ByteArray)] from rfl) (Reps.none _ _))); intro v132 w30 ho31 hb hg_ hnew_; clear hg_ hnew_; (first | rw [← Ny131.out] at ho31 | (simp only [Int.reduceToNat] at ho31; rw [← Ny131.out] at ho31)); have n0_ := zz_ (Kd.R_elder' (by (with_reducible repeat (first | apply Kd.R_alloc | apply Kd.R_drewN | apply Kd.R_drew)); exact HO130.out) (Kd.R_base ho31) hb); have n1_ := zz_ (Kd.R_lower (Kd.R_new' ho31 (Kd.R_lt (by (with_reducible repeat (first | apply Kd.R_alloc | apply Kd.R_drewN | apply Kd.R_drew)); exact HO130.out))) (zR (by repeat (first | (with_reducible first | exact HB.out | apply zB | apply zA | apply zC | refine zF ?_ GE121.out) | exact HB.out)))); have n2_ := zz_ (zK (g := gb121) (o := .cells #[.string a0_0, .int .u16 a0_1, .string a0_2, .slice (some ad126) l0_3.length c0_3] 50 (0, 0)) (by (with_reducible repeat (first | refine zH ?_ _ | refine zJ ?_ | refine zI ?_ _)); exact BK121.out) hb); have n3_ := zz_ (zG (by repeat (first | (with_reducible first | exact HB.out | apply zB | apply zA | apply zC | refine zF ?_ GE121.out) | exact HB.out)) hb); clear HO130; clear BK121; clear HB; have HO130 := n0_; have HO133 := n1_; have BK121 := n2_; have HB := n3_; clear n0_ n1_ n2_ n3_; clear hb ho31; obtain ⟨Ao33, co33, eo33⟩ := Kd.R_slice HO130.out; subst eo33) | ((with_reducible refine gate_builtin (b := .append) (xs := #[.tmp 64, .tmp 65]) rfl ?_); at_builtin; refine Kd.R_append_rows Kd.string (w0 := w) w.heap.size rfl (.tmp 64) (.tmp 65) 89 9 (.string ⟨#[]⟩) 16 rfl Tryd.underlying89 info9 rfl (by decide) (by omega) v132 y131 y128 _ _ _ (fun k_ => some k_ ≠ (.slice Ao33 y128.length co33 : Value).ownBlock) (fun _ => False) rfl rfl ?aO ?aR (fun _ _ h => h) (fun _ h => h.elim) ?aF ?aB ?aS ?aL ?_; (case aR => repeat (first | exact (Kd.R_reads' HO130.out).2.2 | (with_reducible refine Kd.C_alloc ?_ _) | (with_reducible refine Kd.C_drewN ?_ _) | (with_reducible refine Kd.C_drew ?_))); (case aB => exact (by repeat (first | (with_reducible first | exact HB.out | apply zB | apply zA | apply zC | refine zF ?_ GE121.out) | exact HB.out))); (case aF => exact (fun k_ hk => Kd.fresh' (Kd.R_lt (by (with_reducible repeat (first | apply Kd.R_alloc | apply Kd.R_drewN | apply Kd.R_drew)); exact HO130.out)) k_ hk)); (case aO => exact (by (with_reducible repeat (first | apply Kd.R_alloc | apply Kd.R_drewN | apply Kd.R_drew)); exact Kd.R_mono HO133.out (fun _ hk => hk.2))); (case aS => exact (zR (by repeat (first | (with_reducible first | exact HB.out | apply zB | apply zA | apply zC | refine zF ?_ GE121.out) | exact HB.out)))); (case aL => have := LMc20.out; omega); intro v135 w32 ho hb hg hat; rw [← Ny134.out] at ho; have n0_ := zz_ (blk_grown (g := gb121) (o := .cells #[.string a0_0, .int .u16 a0_1, .string a0_2, .slice (some ad126) l0_3.length c0_3] 50 (0, 0)) (by (with_reducible repeat (first | refine zH ?_ _ | refine zJ ?_ | refine zI ?_ _)); exact BK121.out) hg (Kd.R_ne HO133.out BK121.out (by decide))); have n1_ := zz_ (Kd.R_after (ok := (fun _ => True)) (by (with_reducible repeat (first | apply Kd.R_alloc | apply Kd.R_drewN | apply Kd.R_drew)); exact HO130.out) hg hat); have n2_ := zz_ (hb); have n3_ := zz_ (ho); clear BK121; clear HO130; clear HB; clear HO133; have BK121 := n0_; have HO130 := n1_; have HB := n2_; have HO136 := n3_; clear n0_ n1_ n2_ n3_; clear ho hb hg hat) | ((with_reducible refine gate_builtin (b := .append) (xs := #[.tmp 66, .tmp 67]) rfl ?_); at_builtin; refine Kd.R_append Kd.string (w0 := w) w.heap.size rfl (.tmp 66) (.tmp 67) 89 9 (.string ⟨#[]⟩) 16 rfl Tryd.underlying89 info9 rfl (by decide) (by omega) v135 y134 (⟨#[41]⟩ : ByteArray) [.string (⟨#[41]⟩ : ByteArray)] (fun k_ => some k_ ≠ (.slice Ao33 y128.length co33 : Value).ownBlock) (fun _ => False) rfl rfl ?aP (fun _ hk => hk.elim) ?aF ?aO ?aB ?aS ?aL ?_; (case aP => exact rfl); (case aB => exact (by repeat (first | (with_reducible first | exact HB.out | apply zB | apply zA | apply zC | refine zF ?_ GE121.out) | exact HB.out))); (case aF => exact (fun k_ hk => Kd.fresh' (Kd.R_lt (by (with_reducible repeat (first | apply Kd.R_alloc | apply Kd.R_drewN | apply Kd.R_drew)); exact HO130.out)) k_ hk)); (case aO => exact (by (with_reducible repeat (first | apply Kd.R_alloc | apply Kd.R_drewN | apply Kd.R_drew)); exact HO136.out)); (case aS => exact (zR (by repeat (first | (with_reducible first | exact HB.out | apply zB | apply zA | apply zC | refine zF ?_ GE121.out) | exact HB.out)))); (case aL => have := LMc21.out; omega); intro v138 w34 ho hb hg hat; rw [← Ny137.out] at ho; have n0_ := zz_ (blk_grown (g := gb121) (o := .cells #[.string a0_0, .int .u16 a0_1, .string a0_2, .slice (some ad126) l0_3.length c0_3] 50 (0, 0)) (by (with_reducible repeat (first | refine zH ?_ _ | refine zJ ?_ | refine zI ?_ _)); exact BK121.out) hg (Kd.R_ne HO136.out BK121.out (by decide))); have n1_ := zz_ (Kd.R_after (ok := (fun _ => True)) (by (with_reducible repeat (first | apply Kd.R_alloc | apply Kd.R_drewN | apply Kd.R_drew)); exact HO130.out) hg hat); have n2_ := zz_ (hb); have n3_ := zz_ (ho); clear BK121; clear HO130; clear HB; clear HO136; have BK121 := n0_; have HO130 := n1_; have HB := n2_; have HO139 := n3_; clear n0_ n1_ n2_ n3_; clear ho hb hg hat; obtain ⟨Ao35, co35, eo35⟩ := Kd.R_slice HO139.out; subst eo35) | ((with_reducible refine zQ (f := 72) rfl ?_); refine goesL_ (some 70) rfl rfl Tryd.func72 (by kernel_rfl) rfl #[.slice Ao35 y137.length co35, .string (⟨#[32]⟩ : ByteArray)] rfl (by (try simp only [List.map_toArray, List.map_cons, List.map_nil]); first | done | rfl | (simp only [List.length_drop, List.length_take]; rfl)) ?_; (with_reducible refine (strings_Join.calls _ _ y137 (⟨#[32]⟩ : ByteArray) t140 _ ?side1 ?side2 A22.out).mono ?_); (case side1 => repeat (first | exact (Kd.R_reads' HO139.out).2.2 | (with_reducible refine Kd.C_alloc ?_ _) | (with_reducible refine Kd.C_drewN ?_ _) | (with_reducible refine Kd.C_drew ?_))); (case side2 => exact (Kd.R_reads' HO139.out).2.1); rintro e w36 ⟨rfl, hb⟩; refine ⟨_, rfl, ?_⟩; have n0_ := zz_ (Kd.R_below (by (with_reducible repeat (first | apply Kd.R_alloc | apply Kd.R_drewN | apply Kd.R_drew)); exact HO130.out) hb); have n1_ := zz_ (Kd.R_below (by (with_reducible repeat (first | apply Kd.R_alloc | apply Kd.R_drewN | apply Kd.R_drew)); exact HO139.out) hb); have n2_ := zz_ (zK (g := gb121) (o := .cells #[.string a0_0, .int .u16 a0_1, .string a0_2, .slice (some ad126) l0_3.length c0_3] 50 (0, 0)) (by (with_reducible repeat (first | refine zH ?_ _ | refine zJ ?_ | refine zI ?_ _)); exact BK121.out) hb); have n3_ := zz_ (zG (by repeat (first | (with_reducible first | exact HB.out | apply zB | apply zA | apply zC | refine zF ?_ GE121.out) | exact HB.out)) hb); clear HO130; clear HO139; clear BK121; clear HB; have HO130 := n0_; have HO139 := n1_; have BK121 := n2_; have HB := n3_; clear n0_ n1_ n2_ n3_; (try clear hb)))
         go_ret
         exact ⟨by first | rfl | (simp [zN, zM] <;> rfl) | (simp [*, zN, zM] <;> rfl), by repeat (first | (with_reducible first | exact HB.out | apply zB | apply zA | apply zC | refine zF ?_ GE121.out) | exact HB.out)⟩
        ·rw [if_neg c21] at H
         exact absurd H (by simp)
       ·rw [if_neg c20] at H
        exact absurd H (by simp)
      ·rw [if_neg c19] at H
       have c19b0 : decide (t122 < a1) = false := decide_eq_false c19
       clear c19
       replace H := Option.bind_eq_some_iff.mp H
       obtain ⟨t141, A370, H⟩ := H
       replace H : (some t141) = some r := H
       have A37 := zz_ A370
       clear A370
       obtain rfl := Option.some.inj H
       go_enter Tryd.func82, Tryd.ntmps82
       try go_wp2_with (first | ((with_reducible refine zS (N := 2) rfl ?_); refine zO ?hg (N := 2) ?hd (cs := #[.string a0_0, .int .u16 a0_1, .string a0_2, .slice A0_3 l0_3.length c0_3]) (t := 50) ?hr ?_; (case hd => rfl); (case hg => rfl); (case hr => first | (go_simp; done) | (go_simp; rfl)); intro gb121 hg w38 hbox hb; have n0_ := zz_ (zG (by repeat (first | (with_reducible first | exact HB.out | apply zB | apply zA | apply zC) | exact HB.out)) hb); have n1_ := zz_ (hbox); have n2_ := zz_ ((by rw [hg]; exact (zR (by repeat (first | (with_reducible first | exact HB.out | apply zB | apply zA | apply zC) | exact HB.out))) : w.heap.size ≤ gb121)); have n3_ := zz_ ((by rw [hg]; exact (zR (by repeat (first | (with_reducible first | exact HB.out | apply zB | apply zA | apply zC) | exact HB.out))) : w.heap.size ≤ gb121)); clear HB; have HB := n0_; have BK121 := n1_; have GW121 := n2_; have GE121 := n3_; clear n0_ n1_ n2_ n3_; clear hb hbox hg; have hcz39_0 : w38.cell? ⟨gb121, 0, none⟩ = some (.string a0_0) := (zD BK121.out 0).trans rfl; have hcz39_1 : w38.cell? ⟨gb121, 1, none⟩ = some (.int .u16 a0_1) := (zD BK121.out 1).trans rfl; have hcz39_2 : w38.cell? ⟨gb121, 2, none⟩ = some (.string a0_2) := (zD BK121.out 2).trans rfl; have hcz39_3 : w38.cell? ⟨gb121, 3, none⟩ = some (.slice A0_3 l0_3.length c0_3) := (zD BK121.out 3).trans rfl; have hfz39_0 := zE BK121.out 0; have hfz39_1 := zE BK121.out 1; have hfz39_2 := zE BK121.out 2; have hfz39_3 := zE BK121.out 3) | ((with_reducible refine zQ (f := 124) rfl ?_); refine goesL_ (some 11) rfl rfl Tryd.func124 (by kernel_rfl) rfl #[.string a0_0] rfl (by (try simp only [List.map_toArray, List.map_cons, List.map_nil]); first | done | rfl | (simp only [List.length_drop, List.length_take]; rfl)) ?_; (with_reducible refine (expr_binds.calls k a0_0 t122 t123 _ A3.out).mono ?_); rintro e w' ⟨rfl, ⟨nd, rfl⟩⟩; refine ⟨_, rfl, ?_⟩))
       (try (rw [drewN_self w38]; generalize hq_ : World.drewN w38 _ = w38; have n0_ : Aside0 (w38.heap[gb121]? = some (.cells #[.string a0_0, .int .u16 a0_1, .string a0_2, .slice A0_3 l0_3.length c0_3] 50 (0, 0))) := ⟨by rw [← hq_]; exact (by (with_reducible repeat (first | refine zH ?_ _ | refine zJ ?_ | refine zI ?_ _)); exact BK121.out)⟩; have n1_ : Aside0 (Below w.heap.size w w38) := ⟨by rw [← hq_]; exact (by repeat (first | (with_reducible first | exact HB.out | apply zB | apply zA | apply zC | refine zF ?_ GE121.out) | exact HB.out))⟩; clear BK121 HB hq_; have BK121 := n0_; have HB := n1_; clear n0_ n1_))
       have n0_ := zz_ (zJ BK121.out)
       have n1_ := zz_ (zC HB.out)
       clear BK121
       clear HB
       have BK121 := n0_
       have HB := n1_
       clear n0_ n1_
       have p126 : 0 ≤ (0 : Int) := (by omega)
       have q126 : 0 < (l0_3.length : Int) := of_decide_eq_true (by first | (with_reducible assumption) | assumption)
       obtain ⟨ad126, A126_3, c126_3, e126, hx126_0, hx126_1, hx126_2, hx126_3, hl126_3, hi126_3⟩ := at_T50 HR0_3.out 0 p126 q126
       have hw126_3 := hx126_3
       (try rw [show ((0 : Int)).toNat = 0 from rfl] at hw126_3)
       (try rw [show 0 * 4 = 0 from rfl] at hw126_3)
       (try rw [Addr.add_zero'] at hw126_3)
       have hw126_2 := hx126_2
       (try rw [show ((0 : Int)).toNat = 0 from rfl] at hw126_2)
       (try rw [show 0 * 4 = 0 from rfl] at hw126_2)
       (try rw [Addr.add_zero'] at hw126_2)
       have hw126_1 := hx126_1
       (try rw [show ((0 : Int)).toNat = 0 from rfl] at hw126_1)
       (try rw [show 0 * 4 = 0 from rfl] at hw126_1)
       (try rw [Addr.add_zero'] at hw126_1)
       have hw126_0 := hx126_0
       (try rw [show ((0 : Int)).toNat = 0 from rfl] at hw126_0)
       (try rw [show 0 * 4 = 0 from rfl] at hw126_0)
       (try rw [Addr.add_zero'] at hw126_0)
       cases e126
       have qi126 : (0 < l0_3.length) = True := eq_true (by omega)
       (try rw [show ((0 : Int)).toNat = 0 from rfl] at hx126_0)
       (try rw [show 0 * 4 = 0 from rfl] at hx126_0)
       (try rw [Addr.add_zero'] at hx126_0)
       (try rw [show ((0 : Int)).toNat = 0 from rfl] at hx126_1)
       (try rw [show 0 * 4 = 0 from rfl] at hx126_1)
       (try rw [Addr.add_zero'] at hx126_1)
       (try rw [show ((0 : Int)).toNat = 0 from rfl] at hx126_2)
       (try rw [show 0 * 4 = 0 from rfl] at hx126_2)
       (try rw [Addr.add_zero'] at hx126_2)
       (try rw [show ((0 : Int)).toNat = 0 from rfl] at hx126_3)
       (try rw [show 0 * 4 = 0 from rfl] at hx126_3)
       (try rw [Addr.add_zero'] at hx126_3)
       replace hx126_0 := (HB.out.cell (World.block_lt_of_cell? w _ hx126_0)).trans hx126_0
       replace hx126_1 := (HB.out.cell (World.block_lt_of_cell? w _ hx126_1)).trans hx126_1
       replace hx126_2 := (HB.out.cell (World.block_lt_of_cell? w _ hx126_2)).trans hx126_2
       replace hx126_3 := (HB.out.cell (World.block_lt_of_cell? w _ hx126_3)).trans hx126_3
       have HR126_3 := zz_ hi126_3
       have HC126_3 := zz_ hl126_3
       clear hi126_3 hl126_3
       replace p126 := eq_true p126
       replace q126 := eq_true q126
       refine start_ (n := 11) (S := fun w' => w'.cell? ⟨gb121, 0, none⟩ = some (.string a0_0) ∧ w'.cell? ⟨gb121, 1, none⟩ = some (.int .u16 a0_1) ∧ w'.cell? ⟨gb121, 2, none⟩ = some (.string a0_2) ∧ w'.cell? ⟨gb121, 3, none⟩ = some (.slice (some ad126) l0_3.length c0_3) ∧ w'.cell? ad126 = some (.string ((zL l0_3 0).f0)) ∧ w'.cell? ⟨ad126.block, ad126.off + 1, none⟩ = some (.int .u16 ((zL l0_3 0).f1)) ∧ w'.cell? ⟨ad126.block, ad126.off + 2, none⟩ = some (.string ((zL l0_3 0).f2)) ∧ w'.cell? ⟨ad126.block, ad126.off + 3, none⟩ = some (.slice A126_3 ((zL l0_3 0).f3).length c126_3)) (ds := []) #[false, false, false, false, false, false, false, false, false, false, false] (by kernel_rfl) rfl rfl ⟨(zD BK121.out 0).trans rfl, (zD BK121.out 1).trans rfl, (zD BK121.out 2).trans rfl, (zD BK121.out 3).trans rfl, ((HB.out.cell (World.block_lt_of_cell? w _ hw126_0)).trans hw126_0), ((HB.out.cell (World.block_lt_of_cell? w _ hw126_1)).trans hw126_1), ((HB.out.cell (World.block_lt_of_cell? w _ hw126_2)).trans hw126_2), ((HB.out.cell (World.block_lt_of_cell? w _ hw126_3)).trans hw126_3)⟩ (fun hHeld => ?_); refine with_tabW expr_show.tab11 expr_show.bits11 (fun HT_ HW_ => ?_)
       generalize w38.drew = w40 at BK121 HB HR126_3 hx126_0 hx126_1 hx126_2 hx126_3 hHeld ⊢
       refine pure_ (i := 0) (N := some 51) (v := ?_) (a' := ?_) #[true, false, false, false, false, false, false, false, false, false, false] rfl rfl (zT HT_.out (by kernel_rfl)) (fun _ _ _ h => h) (Or.inl ⟨by rfl, ?_⟩) ?_ ?_
       rotate_left
       ·intro w'
        go_simp
        with_reducible rfl
       rotate_left
       ·simp only [Act.put, List.setIfInBounds_toArray, List.set_cons_zero, List.set_cons_succ, i64_w, i32_w]
        rfl
       refine pure_ (i := 3) (N := some 54) (v := ?_) (a' := ?_) #[true, false, false, true, false, false, false, false, false, false, false] rfl rfl (zT HT_.out (by kernel_rfl)) (fun _ _ _ h => h) (Or.inl ⟨by rfl, ?_⟩) ?_ ?_
       rotate_left
       ·intro w'
        go_simp
        with_reducible rfl
       rotate_left
       ·simp only [Act.put, List.setIfInBounds_toArray, List.set_cons_zero, List.set_cons_succ, i64_w, i32_w]
        rfl
       refine pure_ (i := 7) (N := some 58) (v := ?_) (a' := ?_) #[true, false, false, true, false, false, false, true, false, false, false] rfl rfl (zT HT_.out (by kernel_rfl)) (fun _ _ _ h => h) (Or.inl ⟨by rfl, ?_⟩) ?_ ?_
       rotate_left
       ·intro w'
        go_simp
        with_reducible rfl
       rotate_left
       ·simp only [Act.put, List.setIfInBounds_toArray, List.set_cons_zero, List.set_cons_succ, i64_w, i32_w]
        rfl
       refine take_ (i := 1) (N := some 52) (v := ?_) (a' := ?_) #[true, true, false, true, false, false, false, true, false, false, false] rfl rfl (take_ofW HT_.out HW_.out (by kernel_rfl)) (fun _ _ _ h => h) (Or.inl ⟨by rfl, ?_⟩) hHeld ?_ ?_
       rotate_left
       ·rintro w' ⟨s0, s1, s2, s3, s4, s5, s6, s7⟩
        go_simp
        with_reducible rfl
       rotate_left
       ·simp only [Act.put, List.setIfInBounds_toArray, List.set_cons_zero, List.set_cons_succ, i64_w, i32_w]
        rfl
       refine take_ (i := 4) (N := some 55) (v := ?_) (a' := ?_) #[true, true, false, true, true, false, false, true, false, false, false] rfl rfl (take_ofW HT_.out HW_.out (by kernel_rfl)) (fun _ _ _ h => h) (Or.inl ⟨by rfl, ?_⟩) hHeld ?_ ?_
       rotate_left
       ·rintro w' ⟨s0, s1, s2, s3, s4, s5, s6, s7⟩
        go_simp
        with_reducible rfl
       rotate_left
       ·simp only [Act.put, List.setIfInBounds_toArray, List.set_cons_zero, List.set_cons_succ, i64_w, i32_w]
        rfl
       refine pure_ (i := 5) (N := some 56) (v := ?_) (a' := ?_) #[true, true, false, true, true, true, false, true, false, false, false] rfl rfl (zT HT_.out (by kernel_rfl)) (fun _ _ _ h => h) (Or.inl ⟨by rfl, ?_⟩) ?_ ?_
       rotate_left
       ·intro w'
        go_simp
        with_reducible rfl
       rotate_left
       ·simp only [Act.put, List.setIfInBounds_toArray, List.set_cons_zero, List.set_cons_succ, i64_w, i32_w]
        rfl
       refine take_ (i := 6) (N := some 57) (v := ?_) (a' := ?_) #[true, true, false, true, true, true, true, true, false, false, false] rfl rfl (take_ofW HT_.out HW_.out (by kernel_rfl)) (fun _ _ _ h => h) (Or.inl ⟨by rfl, ?_⟩) hHeld ?_ ?_
       rotate_left
       ·rintro w' ⟨s0, s1, s2, s3, s4, s5, s6, s7⟩
        go_simp
        with_reducible rfl
       rotate_left
       ·simp only [Act.put, List.setIfInBounds_toArray, List.set_cons_zero, List.set_cons_succ, i64_w, i32_w]
        rfl
       refine one_ (i := 2) (N := some 53) #[true, true, true, true, true, true, true, true, false, false, false] rfl rfl (one_of HT_.out (by kernel_rfl)) (by decide) (fun K hK => ?_)
       refine goes_ Tryd.func86 (by kernel_rfl) rfl #[.string a0_0, .string (⟨#[78, 69, 71]⟩ : ByteArray), .string (⟨#[45]⟩ : ByteArray), .int .i64 1] (by rfl) rfl rfl (by (try simp only [List.map_toArray, List.map_cons, List.map_nil]); first | done | rfl | (simp only [List.length_drop, List.length_take]; rfl)) ?_
       with_reducible refine (strings_Replace.calls a0_0 (⟨#[78, 69, 71]⟩ : ByteArray) (⟨#[45]⟩ : ByteArray) 1 t125 _ ?side1 A16.out).mono ?_
       (case side1 => exact ⟨G0.below hG.out (by repeat (first | (with_reducible first | exact HB.out | apply zB | apply zA | apply zC | refine zF ?_ GE121.out) | exact HB.out))⟩)
       rintro e w41 ⟨rfl, hb⟩
       refine ⟨_, rfl, ?_⟩
       have n0_ := zz_ (zK (g := gb121) (o := .cells #[.string a0_0, .int .u16 a0_1, .string a0_2, .slice (some ad126) l0_3.length c0_3] 50 (0, 0)) (by (with_reducible repeat (first | refine zH ?_ _ | refine zJ ?_ | refine zI ?_ _)); exact BK121.out) hb)
       have n1_ := zz_ (zG (by repeat (first | (with_reducible first | exact HB.out | apply zB | apply zA | apply zC | refine zF ?_ GE121.out) | exact HB.out)) hb)
       clear BK121
       clear HB
       have BK121 := n0_
       have HB := n1_
       clear n0_ n1_
       (try clear hb)
       (try clear hb2)
       (try clear hk)
       (try clear hi)
       refine hK.out _ _ ⟨(zD BK121.out 0).trans rfl, (zD BK121.out 1).trans rfl, (zD BK121.out 2).trans rfl, (zD BK121.out 3).trans rfl, ((HB.out.cell (World.block_lt_of_cell? w _ hw126_0)).trans hw126_0), ((HB.out.cell (World.block_lt_of_cell? w _ hw126_1)).trans hw126_1), ((HB.out.cell (World.block_lt_of_cell? w _ hw126_2)).trans hw126_2), ((HB.out.cell (World.block_lt_of_cell? w _ hw126_3)).trans hw126_3)⟩ (fun hHeld => ?_)
       clear hK K
       refine norm_ (a' := ?_) ?_ ?_
       rotate_left
       ·show Act.put _ (some 53) _ = _
        simp only [Act.put, List.setIfInBounds_toArray, List.set_cons_zero, List.set_cons_succ, i64_w, i32_w]
        rfl
       refine one_ (i := 8) (N := some 59) #[true, true, true, true, true, true, true, true, true, false, false] rfl rfl (one_of HT_.out (by kernel_rfl)) (by decide) (fun K hK => ?_)
       refine goes_ Tryd.func82 (by kernel_rfl) rfl #[.agg #[.string ((zL l0_3 0).f0), .int .u16 ((zL l0_3 0).f1), .string ((zL l0_3 0).f2), .slice A126_3 ((zL l0_3 0).f3).length c126_3], .int .i64 t122] (by rfl) rfl rfl (by (try simp only [List.map_toArray, List.map_cons, List.map_nil]); first | done | rfl | (simp only [List.length_drop, List.length_take]; rfl)) ?_
       with_reducible refine (ih k (by omega) ((zL l0_3 0).f0) ((zL l0_3 0).f1) ((zL l0_3 0).f2) _ _ ((zL l0_3 0).f3) t122 t127 _ ?side1 ?side2 ?side3 A18.out).mono ?_
       (case side1 => exact ⟨G0.below hG.out (by repeat (first | (with_reducible first | exact HB.out | apply zB | apply zA | apply zC | refine zF ?_ GE121.out) | exact HB.out))⟩)
       (case side2 => repeat (first | exact (Kd.zV HR126_3.out HB.out) | (with_reducible refine Kd.C_alloc ?_ _) | (with_reducible refine Kd.C_drewN ?_ _) | (with_reducible refine Kd.C_drew ?_)))
       (case side3 => exact HC126_3.out)
       rintro e w42 ⟨rfl, hb⟩
       refine ⟨_, rfl, ?_⟩
       have n0_ := zz_ (zK (g := gb121) (o := .cells #[.string a0_0, .int .u16 a0_1, .string a0_2, .slice (some ad126) l0_3.length c0_3] 50 (0, 0)) (by (with_reducible repeat (first | refine zH ?_ _ | refine zJ ?_ | refine zI ?_ _)); exact BK121.out) hb)
       have n1_ := zz_ (zG (by repeat (first | (with_reducible first | exact HB.out | apply zB | apply zA | apply zC | refine zF ?_ GE121.out) | exact HB.out)) hb)
       clear BK121
       clear HB
       have BK121 := n0_
       have HB := n1_
       clear n0_ n1_
       (try clear hb)
       (try clear hb2)
       (try clear hk)
       (try clear hi)
       refine hK.out _ _ ⟨(zD BK121.out 0).trans rfl, (zD BK121.out 1).trans rfl, (zD BK121.out 2).trans rfl, (zD BK121.out 3).trans rfl, ((HB.out.cell (World.block_lt_of_cell? w _ hw126_0)).trans hw126_0), ((HB.out.cell (World.block_lt_of_cell? w _ hw126_1)).trans hw126_1), ((HB.out.cell (World.block_lt_of_cell? w _ hw126_2)).trans hw126_2), ((HB.out.cell (World.block_lt_of_cell? w _ hw126_3)).trans hw126_3)⟩ (fun hHeld => ?_)
       clear hK K
       refine norm_ (a' := ?_) ?_ ?_
       rotate_left
       ·show Act.put _ (some 59) _ = _
        simp only [Act.put, List.setIfInBounds_toArray, List.set_cons_zero, List.set_cons_succ, i64_w, i32_w]
        rfl
       refine one_ (i := 9) (N := some 60) #[true, true, true, true, true, true, true, true, true, true, false] rfl rfl (one_of HT_.out (by kernel_rfl)) (by decide) (fun K hK => ?_)
       refine Kd.R_lit_step Kd.string _ 9 ?hg (N := 60) ?hd (xs := ([t125, t127] : List ByteArray)) (inner := [.string t125, .string t127]) (ok := fun _ => True) (okp := fun _ => True) ?hr ?hp (fun _ hk => hk) trivial (Below.refl _ _) (Nat.le_refl _) (by simp) ?_; (case hd => rfl); (case hg => rfl); (case hr => first | (go_simp; done) | (go_simp; rfl)); (case hp => exact (Reps.one (show Kd.M Kd.string _ _ _ t125 [.string t125] from rfl) (Reps.one (show Kd.M Kd.string _ _ _ t127 [.string t127] from rfl) (Reps.none _ _))))
       intro v129 w43 ho44 hb hg_ hnew_
       clear hg_ hnew_
       (first | rw [← Ny128.out] at ho44 | (simp only [Int.reduceToNat] at ho44; rw [← Ny128.out] at ho44))
       have n0_ := zz_ (Kd.R_lower ho44 (zR (by repeat (first | (with_reducible first | exact HB.out | apply zB | apply zA | apply zC | refine zF ?_ GE121.out) | exact HB.out))))
       have n1_ := zz_ (zK (g := gb121) (o := .cells #[.string a0_0, .int .u16 a0_1, .string a0_2, .slice (some ad126) l0_3.length c0_3] 50 (0, 0)) (by (with_reducible repeat (first | refine zH ?_ _ | refine zJ ?_ | refine zI ?_ _)); exact BK121.out) hb)
       have n2_ := zz_ (zG (by repeat (first | (with_reducible first | exact HB.out | apply zB | apply zA | apply zC | refine zF ?_ GE121.out) | exact HB.out)) hb)
       clear BK121
       clear HB
       have HO130 := n0_
       have BK121 := n1_
       have HB := n2_
       clear n0_ n1_ n2_
       clear hb ho44
       refine hK.out _ _ ⟨(zD BK121.out 0).trans rfl, (zD BK121.out 1).trans rfl, (zD BK121.out 2).trans rfl, (zD BK121.out 3).trans rfl, ((HB.out.cell (World.block_lt_of_cell? w _ hw126_0)).trans hw126_0), ((HB.out.cell (World.block_lt_of_cell? w _ hw126_1)).trans hw126_1), ((HB.out.cell (World.block_lt_of_cell? w _ hw126_2)).trans hw126_2), ((HB.out.cell (World.block_lt_of_cell? w _ hw126_3)).trans hw126_3)⟩ (fun hHeld => ?_)
       clear hK K
       refine norm_ (a' := ?_) ?_ ?_
       rotate_left
       ·show Act.put _ (some 60) _ = _
        simp only [Act.put, List.setIfInBounds_toArray, List.set_cons_zero, List.set_cons_succ, i64_w, i32_w]
        rfl
       refine pure_ (i := 10) (N := some 7) (v := ?_) (a' := ?_) #[true, true, true, true, true, true, true, true, true, true, true] rfl rfl (zT HT_.out (by kernel_rfl)) (fun _ _ _ h => h) (Or.inl ⟨by rfl, ?_⟩) ?_ ?_
       rotate_left
       ·intro w'
        go_simp
        with_reducible rfl
       rotate_left
       ·simp only [Act.put, List.setIfInBounds_toArray, List.set_cons_zero, List.set_cons_succ, i64_w, i32_w]
        rfl
       refine done_ (done_of HT_.out (by kernel_rfl)) ?_
       obtain ⟨Ao45, co45, eo45⟩ := Kd.R_slice HO130.out
       subst eo45
       try go_wp2_with (first | ((with_reducible refine zQ (f := 72) rfl ?_); refine goesL_ (some 70) rfl rfl Tryd.func72 (by kernel_rfl) rfl #[.slice Ao45 y128.length co45, .string (⟨#[32]⟩ : ByteArray)] rfl (by (try simp only [List.map_toArray, List.map_cons, List.map_nil]); first | done | rfl | (simp only [List.length_drop, List.length_take]; rfl)) ?_; (with_reducible refine (strings_Join.calls _ _ y128 (⟨#[32]⟩ : ByteArray) t141 _ ?side1 ?side2 A37.out).mono ?_); (case side1 => repeat (first | exact (Kd.R_reads' HO130.out).2.2 | (with_reducible refine Kd.C_alloc ?_ _) | (with_reducible refine Kd.C_drewN ?_ _) | (with_reducible refine Kd.C_drew ?_))); (case side2 => exact (Kd.R_reads' HO130.out).2.1); rintro e w46 ⟨rfl, hb⟩; refine ⟨_, rfl, ?_⟩; have n0_ := zz_ (Kd.R_below (by (with_reducible repeat (first | apply Kd.R_alloc | apply Kd.R_drewN | apply Kd.R_drew)); exact HO130.out) hb); have n1_ := zz_ (zK (g := gb121) (o := .cells #[.string a0_0, .int .u16 a0_1, .string a0_2, .slice (some ad126) l0_3.length c0_3] 50 (0, 0)) (by (with_reducible repeat (first | refine zH ?_ _ | refine zJ ?_ | refine zI ?_ _)); exact BK121.out) hb); have n2_ := zz_ (zG (by repeat (first | (with_reducible first | exact HB.out | apply zB | apply zA | apply zC | refine zF ?_ GE121.out) | exact HB.out)) hb); clear HO130; clear BK121; clear HB; have HO130 := n0_; have BK121 := n1_; have HB := n2_; clear n0_ n1_ n2_; (try clear hb)))
       go_ret
       exact ⟨by first | rfl | (simp [zN, zM] <;> rfl) | (simp [*, zN, zM] <;> rfl), by repeat (first | (with_reducible first | exact HB.out | apply zB | apply zA | apply zC | refine zF ?_ GE121.out) | exact HB.out)⟩
     ·rw [if_neg c17] at H
      exact absurd H (by simp)
    ·rw [if_neg c15] at H
     have c15b0 : (t123 == 1) = false := beq_eq_false_iff_ne.mpr c15
     have c15b1 : (t123 != 1) = true := bne_iff_ne.mpr c15
     by_cases c47 : 0 < (l0_3.length : Int)
     ·rw [if_pos c47] at H
      have c47b0 : decide (0 < (l0_3.length : Int)) = true := decide_eq_true c47
      have c47b1 : decide (0 < l0_3.length) = true := decide_eq_true (by omega)
      clear c47
      replace H := Option.bind_eq_some_iff.mp H
      obtain ⟨t143, A480, H⟩ := H
      replace H : (if 1 < (l0_3.length : Int) then ((expr_show.f k ((zL l0_3 1).f0) ((zL l0_3 1).f1) ((zL l0_3 1).f2) ((zL l0_3 1).f3) (wrap64 (t122 + 1))).bind fun t145 => ((some (([t143, a0_0, t145] : List ByteArray) : List ByteArray)).bind fun y146 => (if t122 < a1 then ((some (([(⟨#[40]⟩ : ByteArray)] : List ByteArray) : List ByteArray)).bind fun y149 => (if y149.length + y146.length < 8796093022208 then ((some (y149 ++ y146 : List ByteArray)).bind fun y152 => (if y152.length < 8796093022208 then ((strings_Join.f (y152 ++ [(⟨#[41]⟩ : ByteArray)]) (⟨#[32]⟩ : ByteArray)).bind fun t158 => (some t158)) else (none))) else (none))) else ((strings_Join.f y146 (⟨#[32]⟩ : ByteArray)).bind fun t159 => (some t159))))) else (none)) = some r := H
      have A48 := zz_ A480
      clear A480
      by_cases c49 : 1 < (l0_3.length : Int)
      ·rw [if_pos c49] at H
       have c49b0 : decide (1 < (l0_3.length : Int)) = true := decide_eq_true c49
       have c49b1 : decide (1 < l0_3.length) = true := decide_eq_true (by omega)
       clear c49
       replace H := Option.bind_eq_some_iff.mp H
       obtain ⟨t145, A500, H⟩ := H
       replace H : ((some (([t143, a0_0, t145] : List ByteArray) : List ByteArray)).bind fun y146 => (if t122 < a1 then ((some (([(⟨#[40]⟩ : ByteArray)] : List ByteArray) : List ByteArray)).bind fun y149 => (if y149.length + y146.length < 8796093022208 then ((some (y149 ++ y146 : List ByteArray)).bind fun y152 => (if y152.length < 8796093022208 then ((strings_Join.f (y152 ++ [(⟨#[41]⟩ : ByteArray)]) (⟨#[32]⟩ : ByteArray)).bind fun t158 => (some t158)) else (none))) else (none))) else ((strings_Join.f y146 (⟨#[32]⟩ : ByteArray)).bind fun t159 => (some t159)))) = some r := H
       have A50 := zz_ A500
       clear A500
       obtain ⟨y146, hy146⟩ : ∃ y_ : List ByteArray, y_ = (([t143, a0_0, t145] : List ByteArray)) := ⟨_, rfl⟩
       replace H : (if t122 < a1 then ((some (([(⟨#[40]⟩ : ByteArray)] : List ByteArray) : List ByteArray)).bind fun y149 => (if y149.length + y146.length < 8796093022208 then ((some (y149 ++ y146 : List ByteArray)).bind fun y152 => (if y152.length < 8796093022208 then ((strings_Join.f (y152 ++ [(⟨#[41]⟩ : ByteArray)]) (⟨#[32]⟩ : ByteArray)).bind fun t158 => (some t158)) else (none))) else (none))) else ((strings_Join.f y146 (⟨#[32]⟩ : ByteArray)).bind fun t159 => (some t159))) = some r := by first | (rw [hy146]; with_reducible exact H) | (have H2_ := (Option.bind_some _ _).symm.trans H; rw [hy146]; with_reducible exact H2_) | (have H2_ := (Option.bind_some _ _).symm.trans H; with_reducible exact H2_) | with_reducible exact H | (rw [hy146]; exact H) | exact H
       have Ny146 := zz_ hy146
       clear hy146
       by_cases c51 : t122 < a1
       ·rw [if_pos c51] at H
        have c51b0 : decide (t122 < a1) = true := decide_eq_true c51
        clear c51
        obtain ⟨y149, hy149⟩ : ∃ y_ : List ByteArray, y_ = (([(⟨#[40]⟩ : ByteArray)] : List ByteArray)) := ⟨_, rfl⟩
        replace H : (if y149.length + y146.length < 8796093022208 then ((some (y149 ++ y146 : List ByteArray)).bind fun y152 => (if y152.length < 8796093022208 then ((strings_Join.f (y152 ++ [(⟨#[41]⟩ : ByteArray)]) (⟨#[32]⟩ : ByteArray)).bind fun t158 => (some t158)) else (none))) else (none)) = some r := by first | (rw [hy149]; with_reducible exact H) | (have H2_ := (Option.bind_some _ _).symm.trans H; rw [hy149]; with_reducible exact H2_) | (have H2_ := (Option.bind_some _ _).symm.trans H; with_reducible exact H2_) | with_reducible exact H | (rw [hy149]; exact H) | exact H
        have Ny149 := zz_ hy149
        clear hy149
        by_cases c52 : y149.length + y146.length < 8796093022208
        ·rw [if_pos c52] at H
         have LMc52 := zz_ c52
         clear c52
         obtain ⟨y152, hy152⟩ : ∃ y_ : List ByteArray, y_ = (y149 ++ y146) := ⟨_, rfl⟩
         replace H : (if y152.length < 8796093022208 then ((strings_Join.f (y152 ++ [(⟨#[41]⟩ : ByteArray)]) (⟨#[32]⟩ : ByteArray)).bind fun t158 => (some t158)) else (none)) = some r := by first | (rw [hy152]; with_reducible exact H) | (have H2_ := (Option.bind_some _ _).symm.trans H; rw [hy152]; with_reducible exact H2_) | (have H2_ := (Option.bind_some _ _).symm.trans H; with_reducible exact H2_) | with_reducible exact H | (rw [hy152]; exact H) | exact H
         have Ny152 := zz_ hy152
         clear hy152
         by_cases c53 : y152.length < 8796093022208
         ·rw [if_pos c53] at H
          have LMc53 := zz_ c53
          clear c53
          obtain ⟨y155, hy155⟩ : ∃ y_ : List ByteArray, y_ = (y152 ++ [(⟨#[41]⟩ : ByteArray)]) := ⟨_, rfl⟩
          replace H : ((strings_Join.f y155 (⟨#[32]⟩ : ByteArray)).bind fun t158 => (some t158)) = some r := by first | (rw [hy155]; with_reducible exact H) | (have H2_ := (Option.bind_some _ _).symm.trans H; rw [hy155]; with_reducible exact H2_) | (have H2_ := (Option.bind_some _ _).symm.trans H; with_reducible exact H2_) | with_reducible exact H | (rw [hy155]; exact H) | exact H
          have Ny155 := zz_ hy155
          clear hy155
          replace H := Option.bind_eq_some_iff.mp H
          obtain ⟨t158, A540, H⟩ := H
          replace H : (some t158) = some r := H
          have A54 := zz_ A540
          clear A540
          obtain rfl := Option.some.inj H
          go_enter Tryd.func82, Tryd.ntmps82
          try go_wp2_with (first | ((with_reducible refine zS (N := 2) rfl ?_); refine zO ?hg (N := 2) ?hd (cs := #[.string a0_0, .int .u16 a0_1, .string a0_2, .slice A0_3 l0_3.length c0_3]) (t := 50) ?hr ?_; (case hd => rfl); (case hg => rfl); (case hr => first | (go_simp; done) | (go_simp; rfl)); intro gb121 hg w55 hbox hb; have n0_ := zz_ (zG (by repeat (first | (with_reducible first | exact HB.out | apply zB | apply zA | apply zC) | exact HB.out)) hb); have n1_ := zz_ (hbox); have n2_ := zz_ ((by rw [hg]; exact (zR (by repeat (first | (with_reducible first | exact HB.out | apply zB | apply zA | apply zC) | exact HB.out))) : w.heap.size ≤ gb121)); have n3_ := zz_ ((by rw [hg]; exact (zR (by repeat (first | (with_reducible first | exact HB.out | apply zB | apply zA | apply zC) | exact HB.out))) : w.heap.size ≤ gb121)); clear HB; have HB := n0_; have BK121 := n1_; have GW121 := n2_; have GE121 := n3_; clear n0_ n1_ n2_ n3_; clear hb hbox hg; have hcz56_0 : w55.cell? ⟨gb121, 0, none⟩ = some (.string a0_0) := (zD BK121.out 0).trans rfl; have hcz56_1 : w55.cell? ⟨gb121, 1, none⟩ = some (.int .u16 a0_1) := (zD BK121.out 1).trans rfl; have hcz56_2 : w55.cell? ⟨gb121, 2, none⟩ = some (.string a0_2) := (zD BK121.out 2).trans rfl; have hcz56_3 : w55.cell? ⟨gb121, 3, none⟩ = some (.slice A0_3 l0_3.length c0_3) := (zD BK121.out 3).trans rfl; have hfz56_0 := zE BK121.out 0; have hfz56_1 := zE BK121.out 1; have hfz56_2 := zE BK121.out 2; have hfz56_3 := zE BK121.out 3) | ((with_reducible refine zQ (f := 124) rfl ?_); refine goesL_ (some 11) rfl rfl Tryd.func124 (by kernel_rfl) rfl #[.string a0_0] rfl (by (try simp only [List.map_toArray, List.map_cons, List.map_nil]); first | done | rfl | (simp only [List.length_drop, List.length_take]; rfl)) ?_; (with_reducible refine (expr_binds.calls k a0_0 t122 t123 _ A3.out).mono ?_); rintro e w' ⟨rfl, ⟨nd, rfl⟩⟩; refine ⟨_, rfl, ?_⟩))
          (try (rw [drewN_self w55]; generalize hq_ : World.drewN w55 _ = w55; have n0_ : Aside0 (w55.heap[gb121]? = some (.cells #[.string a0_0, .int .u16 a0_1, .string a0_2, .slice A0_3 l0_3.length c0_3] 50 (0, 0))) := ⟨by rw [← hq_]; exact (by (with_reducible repeat (first | refine zH ?_ _ | refine zJ ?_ | refine zI ?_ _)); exact BK121.out)⟩; have n1_ : Aside0 (Below w.heap.size w w55) := ⟨by rw [← hq_]; exact (by repeat (first | (with_reducible first | exact HB.out | apply zB | apply zA | apply zC | refine zF ?_ GE121.out) | exact HB.out))⟩; clear BK121 HB hq_; have BK121 := n0_; have HB := n1_; clear n0_ n1_))
          have n0_ := zz_ (zJ BK121.out)
          have n1_ := zz_ (zC HB.out)
          clear BK121
          clear HB
          have BK121 := n0_
          have HB := n1_
          clear n0_ n1_
          have p142 : 0 ≤ (0 : Int) := (by omega)
          have q142 : 0 < (l0_3.length : Int) := of_decide_eq_true (by first | (with_reducible assumption) | assumption)
          obtain ⟨ad142, A142_3, c142_3, e142, hx142_0, hx142_1, hx142_2, hx142_3, hl142_3, hi142_3⟩ := at_T50 HR0_3.out 0 p142 q142
          have hw142_3 := hx142_3
          (try rw [show ((0 : Int)).toNat = 0 from rfl] at hw142_3)
          (try rw [show 0 * 4 = 0 from rfl] at hw142_3)
          (try rw [Addr.add_zero'] at hw142_3)
          have hw142_2 := hx142_2
          (try rw [show ((0 : Int)).toNat = 0 from rfl] at hw142_2)
          (try rw [show 0 * 4 = 0 from rfl] at hw142_2)
          (try rw [Addr.add_zero'] at hw142_2)
          have hw142_1 := hx142_1
          (try rw [show ((0 : Int)).toNat = 0 from rfl] at hw142_1)
          (try rw [show 0 * 4 = 0 from rfl] at hw142_1)
          (try rw [Addr.add_zero'] at hw142_1)
          have hw142_0 := hx142_0
          (try rw [show ((0 : Int)).toNat = 0 from rfl] at hw142_0)
          (try rw [show 0 * 4 = 0 from rfl] at hw142_0)
          (try rw [Addr.add_zero'] at hw142_0)
          cases e142
          have qi142 : (0 < l0_3.length) = True := eq_true (by omega)
          (try rw [show ((0 : Int)).toNat = 0 from rfl] at hx142_0)
          (try rw [show 0 * 4 = 0 from rfl] at hx142_0)
          (try rw [Addr.add_zero'] at hx142_0)
          (try rw [show ((0 : Int)).toNat = 0 from rfl] at hx142_1)
          (try rw [show 0 * 4 = 0 from rfl] at hx142_1)
          (try rw [Addr.add_zero'] at hx142_1)
          (try rw [show ((0 : Int)).toNat = 0 from rfl] at hx142_2)
          (try rw [show 0 * 4 = 0 from rfl] at hx142_2)
          (try rw [Addr.add_zero'] at hx142_2)
          (try rw [show ((0 : Int)).toNat = 0 from rfl] at hx142_3)
          (try rw [show 0 * 4 = 0 from rfl] at hx142_3)
          (try rw [Addr.add_zero'] at hx142_3)
          replace hx142_0 := (HB.out.cell (World.block_lt_of_cell? w _ hx142_0)).trans hx142_0
          replace hx142_1 := (HB.out.cell (World.block_lt_of_cell? w _ hx142_1)).trans hx142_1
          replace hx142_2 := (HB.out.cell (World.block_lt_of_cell? w _ hx142_2)).trans hx142_2
          replace hx142_3 := (HB.out.cell (World.block_lt_of_cell? w _ hx142_3)).trans hx142_3
          have HR142_3 := zz_ hi142_3
          have HC142_3 := zz_ hl142_3
          clear hi142_3 hl142_3
          replace p142 := eq_true p142
          replace q142 := eq_true q142
          have p144 : 0 ≤ (1 : Int) := (by omega)
          have q144 : 1 < (l0_3.length : Int) := of_decide_eq_true (by first | (with_reducible assumption) | assumption)
          obtain ⟨ad144, A144_3, c144_3, e144, hx144_0, hx144_1, hx144_2, hx144_3, hl144_3, hi144_3⟩ := at_T50 HR0_3.out 1 p144 q144
          have hw144_3 := hx144_3
          (try rw [show ((1 : Int)).toNat = 1 from rfl] at hw144_3)
          (try rw [show 1 * 4 = 4 from rfl] at hw144_3)
          (try simp only [Nat.reduceMul, Nat.reduceEqDiff, Go.Addr.add, ↓reduceIte] at hw144_3)
          have hw144_2 := hx144_2
          (try rw [show ((1 : Int)).toNat = 1 from rfl] at hw144_2)
          (try rw [show 1 * 4 = 4 from rfl] at hw144_2)
          (try simp only [Nat.reduceMul, Nat.reduceEqDiff, Go.Addr.add, ↓reduceIte] at hw144_2)
          have hw144_1 := hx144_1
          (try rw [show ((1 : Int)).toNat = 1 from rfl] at hw144_1)
          (try rw [show 1 * 4 = 4 from rfl] at hw144_1)
          (try simp only [Nat.reduceMul, Nat.reduceEqDiff, Go.Addr.add, ↓reduceIte] at hw144_1)
          have hw144_0 := hx144_0
          (try rw [show ((1 : Int)).toNat = 1 from rfl] at hw144_0)
          (try rw [show 1 * 4 = 4 from rfl] at hw144_0)
          (try simp only [Nat.reduceMul, Nat.reduceEqDiff, Go.Addr.add, ↓reduceIte] at hw144_0)
          obtain rfl : ad142 = ad144 := (by injection e144)
          (try simp only [show (1 : Int).toNat = 1 from rfl, Nat.reduceMul, Nat.reduceEqDiff, Go.Addr.add, ↓reduceIte] at hx144_0)
          (try simp only [show (1 : Int).toNat = 1 from rfl, Nat.reduceMul, Nat.reduceEqDiff, Go.Addr.add, ↓reduceIte] at hx144_1)
          (try simp only [show (1 : Int).toNat = 1 from rfl, Nat.reduceMul, Nat.reduceEqDiff, Go.Addr.add, ↓reduceIte] at hx144_2)
          (try simp only [show (1 : Int).toNat = 1 from rfl, Nat.reduceMul, Nat.reduceEqDiff, Go.Addr.add, ↓reduceIte] at hx144_3)
          have qi144 : (1 < l0_3.length) = True := eq_true (by omega)
          (try rw [show ((1 : Int)).toNat = 1 from rfl] at hx144_0)
          (try rw [show 1 * 4 = 4 from rfl] at hx144_0)
          (try rw [show ((1 : Int)).toNat = 1 from rfl] at hx144_1)
          (try rw [show 1 * 4 = 4 from rfl] at hx144_1)
          (try rw [show ((1 : Int)).toNat = 1 from rfl] at hx144_2)
          (try rw [show 1 * 4 = 4 from rfl] at hx144_2)
          (try rw [show ((1 : Int)).toNat = 1 from rfl] at hx144_3)
          (try rw [show 1 * 4 = 4 from rfl] at hx144_3)
          replace hx144_0 := (HB.out.cell (World.block_lt_of_cell? w _ hx144_0)).trans hx144_0
          replace hx144_1 := (HB.out.cell (World.block_lt_of_cell? w _ hx144_1)).trans hx144_1
          replace hx144_2 := (HB.out.cell (World.block_lt_of_cell? w _ hx144_2)).trans hx144_2
          replace hx144_3 := (HB.out.cell (World.block_lt_of_cell? w _ hx144_3)).trans hx144_3
          have HR144_3 := zz_ hi144_3
          have HC144_3 := zz_ hl144_3
          clear hi144_3 hl144_3
          replace p144 := eq_true p144
          replace q144 := eq_true q144
          refine start_ (n := 17) (S := fun w' => w'.cell? ⟨gb121, 0, none⟩ = some (.string a0_0) ∧ w'.cell? ⟨gb121, 1, none⟩ = some (.int .u16 a0_1) ∧ w'.cell? ⟨gb121, 2, none⟩ = some (.string a0_2) ∧ w'.cell? ⟨gb121, 3, none⟩ = some (.slice (some ad142) l0_3.length c0_3) ∧ w'.cell? ad142 = some (.string ((zL l0_3 0).f0)) ∧ w'.cell? ⟨ad142.block, ad142.off + 1, none⟩ = some (.int .u16 ((zL l0_3 0).f1)) ∧ w'.cell? ⟨ad142.block, ad142.off + 2, none⟩ = some (.string ((zL l0_3 0).f2)) ∧ w'.cell? ⟨ad142.block, ad142.off + 3, none⟩ = some (.slice A142_3 ((zL l0_3 0).f3).length c142_3) ∧ w'.cell? ⟨ad142.block, ad142.off + 4, none⟩ = some (.string ((zL l0_3 1).f0)) ∧ w'.cell? ⟨ad142.block, ad142.off + 4 + 1, none⟩ = some (.int .u16 ((zL l0_3 1).f1)) ∧ w'.cell? ⟨ad142.block, ad142.off + 4 + 2, none⟩ = some (.string ((zL l0_3 1).f2)) ∧ w'.cell? ⟨ad142.block, ad142.off + 4 + 3, none⟩ = some (.slice A144_3 ((zL l0_3 1).f3).length c144_3)) (ds := []) #[false, false, false, false, false, false, false, false, false, false, false, false, false, false, false, false, false] (by kernel_rfl) rfl rfl ⟨(zD BK121.out 0).trans rfl, (zD BK121.out 1).trans rfl, (zD BK121.out 2).trans rfl, (zD BK121.out 3).trans rfl, ((HB.out.cell (World.block_lt_of_cell? w _ hw142_0)).trans hw142_0), ((HB.out.cell (World.block_lt_of_cell? w _ hw142_1)).trans hw142_1), ((HB.out.cell (World.block_lt_of_cell? w _ hw142_2)).trans hw142_2), ((HB.out.cell (World.block_lt_of_cell? w _ hw142_3)).trans hw142_3), ((HB.out.cell (World.block_lt_of_cell? w _ hw144_0)).trans hw144_0), ((HB.out.cell (World.block_lt_of_cell? w _ hw144_1)).trans hw144_1), ((HB.out.cell (World.block_lt_of_cell? w _ hw144_2)).trans hw144_2), ((HB.out.cell (World.block_lt_of_cell? w _ hw144_3)).trans hw144_3)⟩ (fun hHeld => ?_); refine with_tabW expr_show.tab3 expr_show.bits3 (fun HT_ HW_ => ?_)
          generalize w55.drew = w57 at BK121 HB HR142_3 HR144_3 hx142_0 hx142_1 hx142_2 hx142_3 hx144_0 hx144_1 hx144_2 hx144_3 hHeld ⊢
          refine pure_ (i := 0) (N := some 14) (v := ?_) (a' := ?_) #[true, false, false, false, false, false, false, false, false, false, false, false, false, false, false, false, false] rfl rfl (zT HT_.out (by kernel_rfl)) (fun _ _ _ h => h) (Or.inl ⟨by rfl, ?_⟩) ?_ ?_
          rotate_left
          ·intro w'
           go_simp
           with_reducible rfl
          rotate_left
          ·simp only [Act.put, List.setIfInBounds_toArray, List.set_cons_zero, List.set_cons_succ, i64_w, i32_w]
           rfl
          refine pure_ (i := 4) (N := some 18) (v := ?_) (a' := ?_) #[true, false, false, false, true, false, false, false, false, false, false, false, false, false, false, false, false] rfl rfl (zT HT_.out (by kernel_rfl)) (fun _ _ _ h => h) (Or.inl ⟨by rfl, ?_⟩) ?_ ?_
          rotate_left
          ·intro w'
           go_simp
           with_reducible rfl
          rotate_left
          ·simp only [Act.put, List.setIfInBounds_toArray, List.set_cons_zero, List.set_cons_succ, i64_w, i32_w]
           rfl
          refine pure_ (i := 6) (N := some 20) (v := ?_) (a' := ?_) #[true, false, false, false, true, false, true, false, false, false, false, false, false, false, false, false, false] rfl rfl (zT HT_.out (by kernel_rfl)) (fun _ _ _ h => h) (Or.inl ⟨by rfl, ?_⟩) ?_ ?_
          rotate_left
          ·intro w'
           go_simp
           with_reducible rfl
          rotate_left
          ·simp only [Act.put, List.setIfInBounds_toArray, List.set_cons_zero, List.set_cons_succ, i64_w, i32_w]
           rfl
          refine pure_ (i := 8) (N := some 22) (v := ?_) (a' := ?_) #[true, false, false, false, true, false, true, false, true, false, false, false, false, false, false, false, false] rfl rfl (zT HT_.out (by kernel_rfl)) (fun _ _ _ h => h) (Or.inl ⟨by rfl, ?_⟩) ?_ ?_
          rotate_left
          ·intro w'
           go_simp
           with_reducible rfl
          rotate_left
          ·simp only [Act.put, List.setIfInBounds_toArray, List.set_cons_zero, List.set_cons_succ, i64_w, i32_w]
           rfl
          refine pure_ (i := 12) (N := some 26) (v := ?_) (a' := ?_) #[true, false, false, false, true, false, true, false, true, false, false, false, true, false, false, false, false] rfl rfl (zT HT_.out (by kernel_rfl)) (fun _ _ _ h => h) (Or.inl ⟨by rfl, ?_⟩) ?_ ?_
          rotate_left
          ·intro w'
           go_simp
           with_reducible rfl
          rotate_left
          ·simp only [Act.put, List.setIfInBounds_toArray, List.set_cons_zero, List.set_cons_succ, i64_w, i32_w]
           rfl
          refine pure_ (i := 13) (N := some 27) (v := ?_) (a' := ?_) #[true, false, false, false, true, false, true, false, true, false, false, false, true, true, false, false, false] rfl rfl (zT HT_.out (by kernel_rfl)) (fun _ _ _ h => h) (Or.inl ⟨by rfl, ?_⟩) ?_ ?_
          rotate_left
          ·intro w'
           go_simp
           with_reducible rfl
          rotate_left
          ·simp only [Act.put, List.setIfInBounds_toArray, List.set_cons_zero, List.set_cons_succ, i64_w, i32_w]
           rfl
          refine take_ (i := 1) (N := some 15) (v := ?_) (a' := ?_) #[true, true, false, false, true, false, true, false, true, false, false, false, true, true, false, false, false] rfl rfl (take_ofW HT_.out HW_.out (by kernel_rfl)) (fun _ _ _ h => h) (Or.inl ⟨by rfl, ?_⟩) hHeld ?_ ?_
          rotate_left
          ·rintro w' ⟨s0, s1, s2, s3, s4, s5, s6, s7, s8, s9, s10, s11⟩
           go_simp
           with_reducible rfl
          rotate_left
          ·simp only [Act.put, List.setIfInBounds_toArray, List.set_cons_zero, List.set_cons_succ, i64_w, i32_w]
           rfl
          refine pure_ (i := 2) (N := some 16) (v := ?_) (a' := ?_) #[true, true, true, false, true, false, true, false, true, false, false, false, true, true, false, false, false] rfl rfl (zT HT_.out (by kernel_rfl)) (fun _ _ _ h => h) (Or.inl ⟨by rfl, ?_⟩) ?_ ?_
          rotate_left
          ·intro w'
           go_simp
           with_reducible rfl
          rotate_left
          ·simp only [Act.put, List.setIfInBounds_toArray, List.set_cons_zero, List.set_cons_succ, i64_w, i32_w]
           rfl
          refine take_ (i := 3) (N := some 17) (v := ?_) (a' := ?_) #[true, true, true, true, true, false, true, false, true, false, false, false, true, true, false, false, false] rfl rfl (take_ofW HT_.out HW_.out (by kernel_rfl)) (fun _ _ _ h => h) (Or.inl ⟨by rfl, ?_⟩) hHeld ?_ ?_
          rotate_left
          ·rintro w' ⟨s0, s1, s2, s3, s4, s5, s6, s7, s8, s9, s10, s11⟩
           go_simp
           with_reducible rfl
          rotate_left
          ·simp only [Act.put, List.setIfInBounds_toArray, List.set_cons_zero, List.set_cons_succ, i64_w, i32_w]
           rfl
          refine take_ (i := 7) (N := some 21) (v := ?_) (a' := ?_) #[true, true, true, true, true, false, true, true, true, false, false, false, true, true, false, false, false] rfl rfl (take_ofW HT_.out HW_.out (by kernel_rfl)) (fun _ _ _ h => h) (Or.inl ⟨by rfl, ?_⟩) hHeld ?_ ?_
          rotate_left
          ·rintro w' ⟨s0, s1, s2, s3, s4, s5, s6, s7, s8, s9, s10, s11⟩
           go_simp
           with_reducible rfl
          rotate_left
          ·simp only [Act.put, List.setIfInBounds_toArray, List.set_cons_zero, List.set_cons_succ, i64_w, i32_w]
           rfl
          refine take_ (i := 9) (N := some 23) (v := ?_) (a' := ?_) #[true, true, true, true, true, false, true, true, true, true, false, false, true, true, false, false, false] rfl rfl (take_ofW HT_.out HW_.out (by kernel_rfl)) (fun _ _ _ h => h) (Or.inl ⟨by rfl, ?_⟩) hHeld ?_ ?_
          rotate_left
          ·rintro w' ⟨s0, s1, s2, s3, s4, s5, s6, s7, s8, s9, s10, s11⟩
           go_simp
           with_reducible rfl
          rotate_left
          ·simp only [Act.put, List.setIfInBounds_toArray, List.set_cons_zero, List.set_cons_succ, i64_w, i32_w]
           rfl
          refine pure_ (i := 10) (N := some 24) (v := ?_) (a' := ?_) #[true, true, true, true, true, false, true, true, true, true, true, false, true, true, false, false, false] rfl rfl (zT HT_.out (by kernel_rfl)) (fun _ _ _ h => h) (Or.inl ⟨by rfl, ?_⟩) ?_ ?_
          rotate_left
          ·intro w'
           go_simp
           with_reducible rfl
          rotate_left
          ·simp only [Act.put, List.setIfInBounds_toArray, List.set_cons_zero, List.set_cons_succ, i64_w, i32_w]
           rfl
          refine take_ (i := 11) (N := some 25) (v := ?_) (a' := ?_) #[true, true, true, true, true, false, true, true, true, true, true, true, true, true, false, false, false] rfl rfl (take_ofW HT_.out HW_.out (by kernel_rfl)) (fun _ _ _ h => h) (Or.inl ⟨by rfl, ?_⟩) hHeld ?_ ?_
          rotate_left
          ·rintro w' ⟨s0, s1, s2, s3, s4, s5, s6, s7, s8, s9, s10, s11⟩
           go_simp
           with_reducible rfl
          rotate_left
          ·simp only [Act.put, List.setIfInBounds_toArray, List.set_cons_zero, List.set_cons_succ, i64_w, i32_w]
           rfl
          refine one_ (i := 5) (N := some 19) #[true, true, true, true, true, true, true, true, true, true, true, true, true, true, false, false, false] rfl rfl (one_of HT_.out (by kernel_rfl)) (by decide) (fun K hK => ?_)
          refine goes_ Tryd.func82 (by kernel_rfl) rfl #[.agg #[.string ((zL l0_3 0).f0), .int .u16 ((zL l0_3 0).f1), .string ((zL l0_3 0).f2), .slice A142_3 ((zL l0_3 0).f3).length c142_3], .int .i64 t122] (by rfl) rfl rfl (by (try simp only [List.map_toArray, List.map_cons, List.map_nil]); first | done | rfl | (simp only [List.length_drop, List.length_take]; rfl)) ?_
          with_reducible refine (ih k (by omega) ((zL l0_3 0).f0) ((zL l0_3 0).f1) ((zL l0_3 0).f2) _ _ ((zL l0_3 0).f3) t122 t143 _ ?side1 ?side2 ?side3 A48.out).mono ?_
          (case side1 => exact ⟨G0.below hG.out (by repeat (first | (with_reducible first | exact HB.out | apply zB | apply zA | apply zC | refine zF ?_ GE121.out) | exact HB.out))⟩)
          (case side2 => repeat (first | exact (Kd.zV HR142_3.out HB.out) | (with_reducible refine Kd.C_alloc ?_ _) | (with_reducible refine Kd.C_drewN ?_ _) | (with_reducible refine Kd.C_drew ?_)))
          (case side3 => exact HC142_3.out)
          rintro e w58 ⟨rfl, hb⟩
          refine ⟨_, rfl, ?_⟩
          have n0_ := zz_ (zK (g := gb121) (o := .cells #[.string a0_0, .int .u16 a0_1, .string a0_2, .slice (some ad142) l0_3.length c0_3] 50 (0, 0)) (by (with_reducible repeat (first | refine zH ?_ _ | refine zJ ?_ | refine zI ?_ _)); exact BK121.out) hb)
          have n1_ := zz_ (zG (by repeat (first | (with_reducible first | exact HB.out | apply zB | apply zA | apply zC | refine zF ?_ GE121.out) | exact HB.out)) hb)
          clear BK121
          clear HB
          have BK121 := n0_
          have HB := n1_
          clear n0_ n1_
          (try clear hb)
          (try clear hb2)
          (try clear hk)
          (try clear hi)
          refine hK.out _ _ ⟨(zD BK121.out 0).trans rfl, (zD BK121.out 1).trans rfl, (zD BK121.out 2).trans rfl, (zD BK121.out 3).trans rfl, ((HB.out.cell (World.block_lt_of_cell? w _ hw142_0)).trans hw142_0), ((HB.out.cell (World.block_lt_of_cell? w _ hw142_1)).trans hw142_1), ((HB.out.cell (World.block_lt_of_cell? w _ hw142_2)).trans hw142_2), ((HB.out.cell (World.block_lt_of_cell? w _ hw142_3)).trans hw142_3), ((HB.out.cell (World.block_lt_of_cell? w _ hw144_0)).trans hw144_0), ((HB.out.cell (World.block_lt_of_cell? w _ hw144_1)).trans hw144_1), ((HB.out.cell (World.block_lt_of_cell? w _ hw144_2)).trans hw144_2), ((HB.out.cell (World.block_lt_of_cell? w _ hw144_3)).trans hw144_3)⟩ (fun hHeld => ?_)
          clear hK K
          refine norm_ (a' := ?_) ?_ ?_
          rotate_left
          ·show Act.put _ (some 19) _ = _
           simp only [Act.put, List.setIfInBounds_toArray, List.set_cons_zero, List.set_cons_succ, i64_w, i32_w]
           rfl
          refine one_ (i := 14) (N := some 28) #[true, true, true, true, true, true, true, true, true, true, true, true, true, true, true, false, false] rfl rfl (one_of HT_.out (by kernel_rfl)) (by decide) (fun K hK => ?_)
          refine goes_ Tryd.func82 (by kernel_rfl) rfl #[.agg #[.string ((zL l0_3 1).f0), .int .u16 ((zL l0_3 1).f1), .string ((zL l0_3 1).f2), .slice A144_3 ((zL l0_3 1).f3).length c144_3], .int .i64 (wrap64 (t122 + 1))] (by rfl) rfl rfl (by (try simp only [List.map_toArray, List.map_cons, List.map_nil]); first | done | rfl | (simp only [List.length_drop, List.length_take]; rfl)) ?_
          with_reducible refine (ih k (by omega) ((zL l0_3 1).f0) ((zL l0_3 1).f1) ((zL l0_3 1).f2) _ _ ((zL l0_3 1).f3) (wrap64 (t122 + 1)) t145 _ ?side1 ?side2 ?side3 A50.out).mono ?_
          (case side1 => exact ⟨G0.below hG.out (by repeat (first | (with_reducible first | exact HB.out | apply zB | apply zA | apply zC | refine zF ?_ GE121.out) | exact HB.out))⟩)
          (case side2 => repeat (first | exact (Kd.zV HR144_3.out HB.out) | (with_reducible refine Kd.C_alloc ?_ _) | (with_reducible refine Kd.C_drewN ?_ _) | (with_reducible refine Kd.C_drew ?_)))
          (case side3 => exact HC144_3.out)
          rintro e w59 ⟨rfl, hb⟩
          refine ⟨_, rfl, ?_⟩
          have n0_ := zz_ (zK (g := gb121) (o := .cells #[.string a0_0, .int .u16 a0_1, .string a0_2, .slice (some ad142) l0_3.length c0_3] 50 (0, 0)) (by (with_reducible repeat (first | refine zH ?_ _ | refine zJ ?_ | refine zI ?_ _)); exact BK121.out) hb)
          have n1_ := zz_ (zG (by repeat (first | (with_reducible first | exact HB.out | apply zB | apply zA | apply zC | refine zF ?_ GE121.out) | exact HB.out)) hb)
          clear BK121
          clear HB
          have BK121 := n0_
          have HB := n1_
          clear n0_ n1_
          (try clear hb)
          (try clear hb2)
          (try clear hk)
          (try clear hi)
          refine hK.out _ _ ⟨(zD BK121.out 0).trans rfl, (zD BK121.out 1).trans rfl, (zD BK121.out 2).trans rfl, (zD BK121.out 3).trans rfl, ((HB.out.cell (World.block_lt_of_cell? w _ hw142_0)).trans hw142_0), ((HB.out.cell (World.block_lt_of_cell? w _ hw142_1)).trans hw142_1), ((HB.out.cell (World.block_lt_of_cell? w _ hw142_2)).trans hw142_2), ((HB.out.cell (World.block_lt_of_cell? w _ hw142_3)).trans hw142_3), ((HB.out.cell (World.block_lt_of_cell? w _ hw144_0)).trans hw144_0), ((HB.out.cell (World.block_lt_of_cell? w _ hw144_1)).trans hw144_1), ((HB.out.cell (World.block_lt_of_cell? w _ hw144_2)).trans hw144_2), ((HB.out.cell (World.block_lt_of_cell? w _ hw144_3)).trans hw144_3)⟩ (fun hHeld => ?_)
          clear hK K
          refine norm_ (a' := ?_) ?_ ?_
          rotate_left
          ·show Act.put _ (some 28) _ = _
           simp only [Act.put, List.setIfInBounds_toArray, List.set_cons_zero, List.set_cons_succ, i64_w, i32_w]
           rfl
          refine one_ (i := 15) (N := some 29) #[true, true, true, true, true, true, true, true, true, true, true, true, true, true, true, true, false] rfl rfl (one_of HT_.out (by kernel_rfl)) (by decide) (fun K hK => ?_)
          refine Kd.R_lit_step Kd.string _ 9 ?hg (N := 29) ?hd (xs := ([t143, a0_0, t145] : List ByteArray)) (inner := [.string t143, .string a0_0, .string t145]) (ok := fun _ => True) (okp := fun _ => True) ?hr ?hp (fun _ hk => hk) trivial (Below.refl _ _) (Nat.le_refl _) (by simp) ?_; (case hd => rfl); (case hg => rfl); (case hr => first | (go_simp; done) | (go_simp; rfl)); (case hp => exact (Reps.one (show Kd.M Kd.string _ _ _ t143 [.string t143] from rfl) (Reps.one (show Kd.M Kd.string _ _ _ a0_0 [.string a0_0] from rfl) (Reps.one (show Kd.M Kd.string _ _ _ t145 [.string t145] from rfl) (Reps.none _ _)))))
          intro v147 w60 ho61 hb hg_ hnew_
          clear hg_ hnew_
          (first | rw [← Ny146.out] at ho61 | (simp only [Int.reduceToNat] at ho61; rw [← Ny146.out] at ho61))
          have n0_ := zz_ (Kd.R_lower ho61 (zR (by repeat (first | (with_reducible first | exact HB.out | apply zB | apply zA | apply zC | refine zF ?_ GE121.out) | exact HB.out))))
          have n1_ := zz_ (zK (g := gb121) (o := .cells #[.string a0_0, .int .u16 a0_1, .string a0_2, .slice (some ad142) l0_3.length c0_3] 50 (0, 0)) (by (with_reducible repeat (first | refine zH ?_ _ | refine zJ ?_ | refine zI ?_ _)); exact BK121.out) hb)
          have n2_ := zz_ (zG (by repeat (first | (with_reducible first | exact HB.out | apply zB | apply zA | apply zC | refine zF ?_ GE121.out) | exact HB.out)) hb)
          clear BK121
          clear HB
          have HO148 := n0_
          have BK121 := n1_
          have HB := n2_
          clear n0_ n1_ n2_
          clear hb ho61
          refine hK.out _ _ ⟨(zD BK121.out 0).trans rfl, (zD BK121.out 1).trans rfl, (zD BK121.out 2).trans rfl, (zD BK121.out 3).trans rfl, ((HB.out.cell (World.block_lt_of_cell? w _ hw142_0)).trans hw142_0), ((HB.out.cell (World.block_lt_of_cell? w _ hw142_1)).trans hw142_1), ((HB.out.cell (World.block_lt_of_cell? w _ hw142_2)).trans hw142_2), ((HB.out.cell (World.block_lt_of_cell? w _ hw142_3)).trans hw142_3), ((HB.out.cell (World.block_lt_of_cell? w _ hw144_0)).trans hw144_0), ((HB.out.cell (World.block_lt_of_cell? w _ hw144_1)).trans hw144_1), ((HB.out.cell (World.block_lt_of_cell? w _ hw144_2)).trans hw144_2), ((HB.out.cell (World.block_lt_of_cell? w _ hw144_3)).trans hw144_3)⟩ (fun hHeld => ?_)
          clear hK K
          refine norm_ (a' := ?_) ?_ ?_
          rotate_left
          ·show Act.put _ (some 29) _ = _
           simp only [Act.put, List.setIfInBounds_toArray, List.set_cons_zero, List.set_cons_succ, i64_w, i32_w]
           rfl
          refine pure_ (i := 16) (N := some 7) (v := ?_) (a' := ?_) #[true, true, true, true, true, true, true, true, true, true, true, true, true, true, true, true, true] rfl rfl (zT HT_.out (by kernel_rfl)) (fun _ _ _ h => h) (Or.inl ⟨by rfl, ?_⟩) ?_ ?_
          rotate_left
          ·intro w'
           go_simp
           with_reducible rfl
          rotate_left
          ·simp only [Act.put, List.setIfInBounds_toArray, List.set_cons_zero, List.set_cons_succ, i64_w, i32_w]
           rfl
          refine done_ (done_of HT_.out (by kernel_rfl)) ?_
          try go_wp2_with (first | ((with_reducible refine zS (N := 64) rfl ?_); refine Kd.R_lit Kd.string _ 9 ?hg (N := 64) ?hd (xs := ([(⟨#[40]⟩ : ByteArray)] : List ByteArray)) (inner := [.string (⟨#[40]⟩ : ByteArray)]) (ok := fun _ => True) (okp := fun _ => True) ?hr ?hp (fun _ hk => hk) trivial (Below.refl _ _) (Nat.le_refl _) (by simp) ?_; (case hd => rfl); (case hg => rfl); (case hr => first | (go_simp; done) | (go_simp; rfl)); (case hp => exact (Reps.one (show Kd.M Kd.string _ _ _ (⟨#[40]⟩ : ByteArray) [.string (⟨#[40]⟩ : ByteArray)] from rfl) (Reps.none _ _))); intro v150 w62 ho63 hb hg_ hnew_; clear hg_ hnew_; (first | rw [← Ny149.out] at ho63 | (simp only [Int.reduceToNat] at ho63; rw [← Ny149.out] at ho63)); have n0_ := zz_ (Kd.R_elder' (by (with_reducible repeat (first | apply Kd.R_alloc | apply Kd.R_drewN | apply Kd.R_drew)); exact HO148.out) (Kd.R_base ho63) hb); have n1_ := zz_ (Kd.R_lower (Kd.R_new' ho63 (Kd.R_lt (by (with_reducible repeat (first | apply Kd.R_alloc | apply Kd.R_drewN | apply Kd.R_drew)); exact HO148.out))) (zR (by repeat (first | (with_reducible first | exact HB.out | apply zB | apply zA | apply zC | refine zF ?_ GE121.out) | exact HB.out)))); have n2_ := zz_ (zK (g := gb121) (o := .cells #[.string a0_0, .int .u16 a0_1, .string a0_2, .slice (some ad142) l0_3.length c0_3] 50 (0, 0)) (by (with_reducible repeat (first | refine zH ?_ _ | refine zJ ?_ | refine zI ?_ _)); exact BK121.out) hb); have n3_ := zz_ (zG (by repeat (first | (with_reducible first | exact HB.out | apply zB | apply zA | apply zC | refine zF ?_ GE121.out) | exact HB.out)) hb); clear HO148; clear BK121; clear HB; have HO148 := n0_; have HO151 := n1_; have BK121 := n2_; have HB := n3_; clear n0_ n1_ n2_ n3_; clear hb ho63; obtain ⟨Ao65, co65, eo65⟩ := Kd.R_slice HO148.out; subst eo65) | ((with_reducible refine gate_builtin (b := .append) (xs := #[.tmp 64, .tmp 65]) rfl ?_); at_builtin; refine Kd.R_append_rows Kd.string (w0 := w) w.heap.size rfl (.tmp 64) (.tmp 65) 89 9 (.string ⟨#[]⟩) 16 rfl Tryd.underlying89 info9 rfl (by decide) (by omega) v150 y149 y146 _ _ _ (fun k_ => some k_ ≠ (.slice Ao65 y146.length co65 : Value).ownBlock) (fun _ => False) rfl rfl ?aO ?aR (fun _ _ h => h) (fun _ h => h.elim) ?aF ?aB ?aS ?aL ?_; (case aR => repeat (first | exact (Kd.R_reads' HO148.out).2.2 | (with_reducible refine Kd.C_alloc ?_ _) | (with_reducible refine Kd.C_drewN ?_ _) | (with_reducible refine Kd.C_drew ?_))); (case aB => exact (by repeat (first | (with_reducible first | exact HB.out | apply zB | apply zA | apply zC | refine zF ?_ GE121.out) | exact HB.out))); (case aF => exact (fun k_ hk => Kd.fresh' (Kd.R_lt (by (with_reducible repeat (first | apply Kd.R_alloc | apply Kd.R_drewN | apply Kd.R_drew)); exact HO148.out)) k_ hk)); (case aO => exact (by (with_reducible repeat (first | apply Kd.R_alloc | apply Kd.R_drewN | apply Kd.R_drew)); exact Kd.R_mono HO151.out (fun _ hk => hk.2))); (case aS => exact (zR (by repeat (first | (with_reducible first | exact HB.out | apply zB | apply zA | apply zC | refine zF ?_ GE121.out) | exact HB.out)))); (case aL => have := LMc52.out; omega); intro v153 w64 ho hb hg hat; rw [← Ny152.out] at ho; have n0_ := zz_ (blk_grown (g := gb121) (o := .cells #[.string a0_0, .int .u16 a0_1, .string a0_2, .slice (some ad142) l0_3.length c0_3] 50 (0, 0)) (by (with_reducible repeat (first | refine zH ?_ _ | refine zJ ?_ | refine zI ?_ _)); exact BK121.out) hg (Kd.R_ne HO151.out BK121.out (by decide))); have n1_ := zz_ (Kd.R_after (ok := (fun _ => True)) (by (with_reducible repeat (first | apply Kd.R_alloc | apply Kd.R_drewN | apply Kd.R_drew)); exact HO148.out) hg hat); have n2_ := zz_ (hb); have n3_ := zz_ (ho); clear BK121; clear HO148; clear HB; clear HO151; have BK121 := n0_; have HO148 := n1_; have HB := n2_; have HO154 := n3_; clear n0_ n1_ n2_ n3_; clear ho hb hg hat) | ((with_reducible refine gate_builtin (b := .append) (xs := #[.tmp 66, .tmp 67]) rfl ?_); at_builtin; refine Kd.R_append Kd.string (w0 := w) w.heap.size rfl (.tmp 66) (.tmp 67) 89 9 (.string ⟨#[]⟩) 16 rfl Tryd.underlying89 info9 rfl (by decide) (by omega) v153 y152 (⟨#[41]⟩ : ByteArray) [.string (⟨#[41]⟩ : ByteArray)] (fun k_ => some k_ ≠ (.slice Ao65 y146.length co65 : Value).ownBlock) (fun _ => False) rfl rfl ?aP (fun _ hk => hk.elim) ?aF ?aO ?aB ?aS ?aL ?_; (case aP => exact rfl); (case aB => exact (by repeat (first | (with_reducible first | exact HB.out | apply zB | apply zA | apply zC | refine zF ?_ GE121.out) | exact HB.out))); (case aF => exact (fun k_ hk => Kd.fresh' (Kd.R_lt (by (with_reducible repeat (first | apply Kd.R_alloc | apply Kd.R_drewN | apply Kd.R_drew)); exact HO148.out)) k_ hk)); (case aO => exact (by (with_reducible repeat (first | apply Kd.R_alloc | apply Kd.R_drewN | apply Kd.R_drew)); exact HO154.out)); (case aS => exact (zR (by repeat (first | (with_reducible first | exact HB.out | apply zB | apply zA | apply zC | refine zF ?_ GE121.out) | exact HB.out)))); (case aL => have := LMc53.out; omega); intro v156 w66 ho hb hg hat; rw [← Ny155.out] at ho; have n0_ := zz_ (blk_grown (g := gb121) (o := .cells #[.string a0_0, .int .u16 a0_1, .string a0_2, .slice (some ad142) l0_3.length c0_3] 50 (0, 0)) (by (with_reducible repeat (first | refine zH ?_ _ | refine zJ ?_ | refine zI ?_ _)); exact BK121.out) hg (Kd.R_ne HO154.out BK121.out (by decide))); have n1_ := zz_ (Kd.R_after (ok := (fun _ => True)) (by (with_reducible repeat (first | apply Kd.R_alloc | apply Kd.R_drewN | apply Kd.R_drew)); exact HO148.out) hg hat); have n2_ := zz_ (hb); have n3_ := zz_ (ho); clear BK121; clear HO148; clear HB; clear HO154; have BK121 := n0_; have HO148 := n1_; have HB := n2_; have HO157 := n3_; clear n0_ n1_ n2_ n3_; clear ho hb hg hat; obtain ⟨Ao67, co67, eo67⟩ := Kd.R_slice HO157.out; subst eo67) | ((with_reducible refine zQ (f := 72) rfl ?_); refine goesL_ (some 70) rfl rfl Tryd.func72 (by kernel_rfl) rfl #[.slice Ao67 y155.length co67, .string (⟨#[32]⟩ : ByteArray)] rfl (by (try simp only [List.map_toArray, List.map_cons, List.map_nil]); first | done | rfl | (simp only [List.length_drop, List.length_take]; rfl)) ?_; (with_reducible refine (strings_Join.calls _ _ y155 (⟨#[32]⟩ : ByteArray) t158 _ ?side1 ?side2 A54.out).mono ?_); (case side1 => repeat (first | exact (Kd.R_reads' HO157.out).2.2 | (with_reducible refine Kd.C_alloc ?_ _) | (with_reducible refine Kd.C_drewN ?_ _) | (with_reducible refine Kd.C_drew ?_))); (case side2 => exact (Kd.R_reads' HO157.out).2.1); rintro e w68 ⟨rfl, hb⟩; refine ⟨_, rfl, ?_⟩; have n0_ := zz_ (Kd.R_below (by (with_reducible repeat (first | apply Kd.R_alloc | apply Kd.R_drewN | apply Kd.R_drew)); exact HO148.out) hb); have n1_ := zz_ (Kd.R_below (by (with_reducible repeat (first | apply Kd.R_alloc | apply Kd.R_drewN | apply Kd.R_drew)); exact HO157.out) hb); have n2_ := zz_ (zK (g := gb121) (o := .cells #[.string a0_0, .int .u16 a0_1, .string a0_2, .slice (some ad142) l0_3.length c0_3] 50 (0, 0)) (by (with_reducible repeat (first | refine zH ?_ _ | refine zJ ?_ | refine zI ?_ _)); exact BK121.out) hb); have n3_ := zz_ (zG (by repeat (first | (with_reducible first | exact HB.out | apply zB | apply zA | apply zC | refine zF ?_ GE121.out) | exact HB.out)) hb); clear HO148; clear HO157; clear BK121; clear HB; have HO148 := n0_; have HO157 := n1_; have BK121 := n2_; have HB := n3_; clear n0_ n1_ n2_ n3_; (try clear hb)))
          go_ret
          exact ⟨by first | rfl | (simp [zN, zM] <;> rfl) | (simp [*, zN, zM] <;> rfl), by repeat (first | (with_reducible first | exact HB.out | apply zB | apply zA | apply zC | refine zF ?_ GE121.out) | exact HB.out)⟩
         ·rw [if_neg c53] at H
          exact absurd H (by simp)
        ·rw [if_neg c52] at H
         exact absurd H (by simp)
       ·rw [if_neg c51] at H
        have c51b0 : decide (t122 < a1) = false := decide_eq_false c51
        clear c51
        replace H := Option.bind_eq_some_iff.mp H
        obtain ⟨t159, A690, H⟩ := H
        replace H : (some t159) = some r := H
        have A69 := zz_ A690
        clear A690
        obtain rfl := Option.some.inj H
        go_enter Tryd.func82, Tryd.ntmps82
        try go_wp2_with (first | ((with_reducible refine zS (N := 2) rfl ?_); refine zO ?hg (N := 2) ?hd (cs := #[.string a0_0, .int .u16 a0_1, .string a0_2, .slice A0_3 l0_3.length c0_3]) (t := 50) ?hr ?_; (case hd => rfl); (case hg => rfl); (case hr => first | (go_simp; done) | (go_simp; rfl)); intro gb121 hg w70 hbox hb; have n0_ := zz_ (zG (by repeat (first | (with_reducible first | exact HB.out | apply zB | apply zA | apply zC) | exact HB.out)) hb); have n1_ := zz_ (hbox); have n2_ := zz_ ((by rw [hg]; exact (zR (by repeat (first | (with_reducible first | exact HB.out | apply zB | apply zA | apply zC) | exact HB.out))) : w.heap.size ≤ gb121)); have n3_ := zz_ ((by rw [hg]; exact (zR (by repeat (first | (with_reducible first | exact HB.out | apply zB | apply zA | apply zC) | exact HB.out))) : w.heap.size ≤ gb121)); clear HB; have HB := n0_; have BK121 := n1_; have GW121 := n2_; have GE121 := n3_; clear n0_ n1_ n2_ n3_; clear hb hbox hg; have hcz71_0 : w70.cell? ⟨gb121, 0, none⟩ = some (.string a0_0) := (zD BK121.out 0).trans rfl; have hcz71_1 : w70.cell? ⟨gb121, 1, none⟩ = some (.int .u16 a0_1) := (zD BK121.out 1).trans rfl; have hcz71_2 : w70.cell? ⟨gb121, 2, none⟩ = some (.string a0_2) := (zD BK121.out 2).trans rfl; have hcz71_3 : w70.cell? ⟨gb121, 3, none⟩ = some (.slice A0_3 l0_3.length c0_3) := (zD BK121.out 3).trans rfl; have hfz71_0 := zE BK121.out 0; have hfz71_1 := zE BK121.out 1; have hfz71_2 := zE BK121.out 2; have hfz71_3 := zE BK121.out 3) | ((with_reducible refine zQ (f := 124) rfl ?_); refine goesL_ (some 11) rfl rfl Tryd.func124 (by kernel_rfl) rfl #[.string a0_0] rfl (by (try simp only [List.map_toArray, List.map_cons, List.map_nil]); first | done | rfl | (simp only [List.length_drop, List.length_take]; rfl)) ?_; (with_reducible refine (expr_binds.calls k a0_0 t122 t123 _ A3.out).mono ?_); rintro e w' ⟨rfl, ⟨nd, rfl⟩⟩; refine ⟨_, rfl, ?_⟩))
        (try (rw [drewN_self w70]; generalize hq_ : World.drewN w70 _ = w70; have n0_ : Aside0 (w70.heap[gb121]? = some (.cells #[.string a0_0, .int .u16 a0_1, .string a0_2, .slice A0_3 l0_3.length c0_3] 50 (0, 0))) := ⟨by rw [← hq_]; exact (by (with_reducible repeat (first | refine zH ?_ _ | refine zJ ?_ | refine zI ?_ _)); exact BK121.out)⟩; have n1_ : Aside0 (Below w.heap.size w w70) := ⟨by rw [← hq_]; exact (by repeat (first | (with_reducible first | exact HB.out | apply zB | apply zA | apply zC | refine zF ?_ GE121.out) | exact HB.out))⟩; clear BK121 HB hq_; have BK121 := n0_; have HB := n1_; clear n0_ n1_))
        have n0_ := zz_ (zJ BK121.out)
        have n1_ := zz_ (zC HB.out)
        clear BK121
        clear HB
        have BK121 := n0_
        have HB := n1_
        clear n0_ n1_
        have p142 : 0 ≤ (0 : Int) := (by omega)
        have q142 : 0 < (l0_3.length : Int) := of_decide_eq_true (by first | (with_reducible assumption) | assumption)
        obtain ⟨ad142, A142_3, c142_3, e142, hx142_0, hx142_1, hx142_2, hx142_3, hl142_3, hi142_3⟩ := at_T50 HR0_3.out 0 p142 q142
        have hw142_3 := hx142_3
        (try rw [show ((0 : Int)).toNat = 0 from rfl] at hw142_3)
        (try rw [show 0 * 4 = 0 from rfl] at hw142_3)
        (try rw [Addr.add_zero'] at hw142_3)
        have hw142_2 := hx142_2
        (try rw [show ((0 : Int)).toNat = 0 from rfl] at hw142_2)
        (try rw [show 0 * 4 = 0 from rfl] at hw142_2)
        (try rw [Addr.add_zero'] at hw142_2)
        have hw142_1 := hx142_1
        (try rw [show ((0 : Int)).toNat = 0 from rfl] at hw142_1)
        (try rw [show 0 * 4 = 0 from rfl] at hw142_1)
        (try rw [Addr.add_zero'] at hw142_1)
        have hw142_0 := hx142_0
        (try rw [show ((0 : Int)).toNat = 0 from rfl] at hw142_0)
        (try rw [show 0 * 4 = 0 from rfl] at hw142_0)
        (try rw [Addr.add_zero'] at hw142_0)
        cases e142
        have qi142 : (0 < l0_3.length) = True := eq_true (by omega)
        (try rw [show ((0 : Int)).toNat = 0 from rfl] at hx142_0)
        (try rw [show 0 * 4 = 0 from rfl] at hx142_0)
        (try rw [Addr.add_zero'] at hx142_0)
        (try rw [show ((0 : Int)).toNat = 0 from rfl] at hx142_1)
        (try rw [show 0 * 4 = 0 from rfl] at hx142_1)
        (try rw [Addr.add_zero'] at hx142_1)
        (try rw [show ((0 : Int)).toNat = 0 from rfl] at hx142_2)
        (try rw [show 0 * 4 = 0 from rfl] at hx142_2)
        (try rw [Addr.add_zero'] at hx142_2)
        (try rw [show ((0 : Int)).toNat = 0 from rfl] at hx142_3)
        (try rw [show 0 * 4 = 0 from rfl] at hx142_3)
        (try rw [Addr.add_zero'] at hx142_3)
        replace hx142_0 := (HB.out.cell (World.block_lt_of_cell? w _ hx142_0)).trans hx142_0
        replace hx142_1 := (HB.out.cell (World.block_lt_of_cell? w _ hx142_1)).trans hx142_1
        replace hx142_2 := (HB.out.cell (World.block_lt_of_cell? w _ hx142_2)).trans hx142_2
        replace hx142_3 := (HB.out.cell (World.block_lt_of_cell? w _ hx142_3)).trans hx142_3
        have HR142_3 := zz_ hi142_3
        have HC142_3 := zz_ hl142_3
        clear hi142_3 hl142_3
        replace p142 := eq_true p142
        replace q142 := eq_true q142
        have p144 : 0 ≤ (1 : Int) := (by omega)
        have q144 : 1 < (l0_3.length : Int) := of_decide_eq_true (by first | (with_reducible assumption) | assumption)
        obtain ⟨ad144, A144_3, c144_3, e144, hx144_0, hx144_1, hx144_2, hx144_3, hl144_3, hi144_3⟩ := at_T50 HR0_3.out 1 p144 q144
        have hw144_3 := hx144_3
        (try rw [show ((1 : Int)).toNat = 1 from rfl] at hw144_3)
        (try rw [show 1 * 4 = 4 from rfl] at hw144_3)
        (try simp only [Nat.reduceMul, Nat.reduceEqDiff, Go.Addr.add, ↓reduceIte] at hw144_3)
        have hw144_2 := hx144_2
        (try rw [show ((1 : Int)).toNat = 1 from rfl] at hw144_2)
        (try rw [show 1 * 4 = 4 from rfl] at hw144_2)
        (try simp only [Nat.reduceMul, Nat.reduceEqDiff, Go.Addr.add, ↓reduceIte] at hw144_2)
        have hw144_1 := hx144_1
        (try rw [show ((1 : Int)).toNat = 1 from rfl] at hw144_1)
        (try rw [show 1 * 4 = 4 from rfl] at hw144_1)
        (try simp only [Nat.reduceMul, Nat.reduceEqDiff, Go.Addr.add, ↓reduceIte] at hw144_1)
        have hw144_0 := hx144_0
        (try rw [show ((1 : Int)).toNat = 1 from rfl] at hw144_0)
        (try rw [show 1 * 4 = 4 from rfl] at hw144_0)
        (try simp only [Nat.reduceMul, Nat.reduceEqDiff, Go.Addr.add, ↓reduceIte] at hw144_0)
        obtain rfl : ad142 = ad144 := (by injection e144)
        (try simp only [show (1 : Int).toNat = 1 from rfl, Nat.reduceMul, Nat.reduceEqDiff, Go.Addr.add, ↓reduceIte] at hx144_0)
        (try simp only [show (1 : Int).toNat = 1 from rfl, Nat.reduceMul, Nat.reduceEqDiff, Go.Addr.add, ↓reduceIte] at hx144_1)
        (try simp only [show (1 : Int).toNat = 1 from rfl, Nat.reduceMul, Nat.reduceEqDiff, Go.Addr.add, ↓reduceIte] at hx144_2)
        (try simp only [show (1 : Int).toNat = 1 from rfl, Nat.reduceMul, Nat.reduceEqDiff, Go.Addr.add, ↓reduceIte] at hx144_3)
        have qi144 : (1 < l0_3.length) = True := eq_true (by omega)
        (try rw [show ((1 : Int)).toNat = 1 from rfl] at hx144_0)
        (try rw [show 1 * 4 = 4 from rfl] at hx144_0)
        (try rw [show ((1 : Int)).toNat = 1 from rfl] at hx144_1)
        (try rw [show 1 * 4 = 4 from rfl] at hx144_1)
        (try rw [show ((1 : Int)).toNat = 1 from rfl] at hx144_2)
        (try rw [show 1 * 4 = 4 from rfl] at hx144_2)
        (try rw [show ((1 : Int)).toNat = 1 from rfl] at hx144_3)
        (try rw [show 1 * 4 = 4 from rfl] at hx144_3)
        replace hx144_0 := (HB.out.cell (World.block_lt_of_cell? w _ hx144_0)).trans hx144_0
        replace hx144_1 := (HB.out.cell (World.block_lt_of_cell? w _ hx144_1)).trans hx144_1
        replace hx144_2 := (HB.out.cell (World.block_lt_of_cell? w _ hx144_2)).trans hx144_2
        replace hx144_3 := (HB.out.cell (World.block_lt_of_cell? w _ hx144_3)).trans hx144_3
        have HR144_3 := zz_ hi144_3
        have HC144_3 := zz_ hl144_3
        clear hi144_3 hl144_3
        replace p144 := eq_true p144
        replace q144 := eq_true q144
        refine start_ (n := 17) (S := fun w' => w'.cell? ⟨gb121, 0, none⟩ = some (.string a0_0) ∧ w'.cell? ⟨gb121, 1, none⟩ = some (.int .u16 a0_1) ∧ w'.cell? ⟨gb121, 2, none⟩ = some (.string a0_2) ∧ w'.cell? ⟨gb121, 3, none⟩ = some (.slice (some ad142) l0_3.length c0_3) ∧ w'.cell? ad142 = some (.string ((zL l0_3 0).f0)) ∧ w'.cell? ⟨ad142.block, ad142.off + 1, none⟩ = some (.int .u16 ((zL l0_3 0).f1)) ∧ w'.cell? ⟨ad142.block, ad142.off + 2, none⟩ = some (.string ((zL l0_3 0).f2)) ∧ w'.cell? ⟨ad142.block, ad142.off + 3, none⟩ = some (.slice A142_3 ((zL l0_3 0).f3).length c142_3) ∧ w'.cell? ⟨ad142.block, ad142.off + 4, none⟩ = some (.string ((zL l0_3 1).f0)) ∧ w'.cell? ⟨ad142.block, ad142.off + 4 + 1, none⟩ = some (.int .u16 ((zL l0_3 1).f1)) ∧ w'.cell? ⟨ad142.block, ad142.off + 4 + 2, none⟩ = some (.string ((zL l0_3 1).f2)) ∧ w'.cell? ⟨ad142.block, ad142.off + 4 + 3, none⟩ = some (.slice A144_3 ((zL l0_3 1).f3).length c144_3)) (ds := []) #[false, false, false, false, false, false, false, false, false, false, false, false, false, false, false, false, false] (by kernel_rfl) rfl rfl ⟨(zD BK121.out 0).trans rfl, (zD BK121.out 1).trans rfl, (zD BK121.out 2).trans rfl, (zD BK121.out 3).trans rfl, ((HB.out.cell (World.block_lt_of_cell? w _ hw142_0)).trans hw142_0), ((HB.out.cell (World.block_lt_of_cell? w _ hw142_1)).trans hw142_1), ((HB.out.cell (World.block_lt_of_cell? w _ hw142_2)).trans hw142_2), ((HB.out.cell (World.block_lt_of_cell? w _ hw142_3)).trans hw142_3), ((HB.out.cell (World.block_lt_of_cell? w _ hw144_0)).trans hw144_0), ((HB.out.cell (World.block_lt_of_cell? w _ hw144_1)).trans hw144_1), ((HB.out.cell (World.block_lt_of_cell? w _ hw144_2)).trans hw144_2), ((HB.out.cell (World.block_lt_of_cell? w _ hw144_3)).trans hw144_3)⟩ (fun hHeld => ?_); refine with_tabW expr_show.tab3 expr_show.bits3 (fun HT_ HW_ => ?_)
        generalize w70.drew = w72 at BK121 HB HR142_3 HR144_3 hx142_0 hx142_1 hx142_2 hx142_3 hx144_0 hx144_1 hx144_2 hx144_3 hHeld ⊢
        refine pure_ (i := 0) (N := some 14) (v := ?_) (a' := ?_) #[true, false, false, false, false, false, false, false, false, false, false, false, false, false, false, false, false] rfl rfl (zT HT_.out (by kernel_rfl)) (fun _ _ _ h => h) (Or.inl ⟨by rfl, ?_⟩) ?_ ?_
        rotate_left
        ·intro w'
         go_simp
         with_reducible rfl
        rotate_left
        ·simp only [Act.put, List.setIfInBounds_toArray, List.set_cons_zero, List.set_cons_succ, i64_w, i32_w]
         rfl
        refine pure_ (i := 4) (N := some 18) (v := ?_) (a' := ?_) #[true, false, false, false, true, false, false, false, false, false, false, false, false, false, false, false, false] rfl rfl (zT HT_.out (by kernel_rfl)) (fun _ _ _ h => h) (Or.inl ⟨by rfl, ?_⟩) ?_ ?_
        rotate_left
        ·intro w'
         go_simp
         with_reducible rfl
        rotate_left
        ·simp only [Act.put, List.setIfInBounds_toArray, List.set_cons_zero, List.set_cons_succ, i64_w, i32_w]
         rfl
        refine pure_ (i := 6) (N := some 20) (v := ?_) (a' := ?_) #[true, false, false, false, true, false, true, false, false, false, false, false, false, false, false, false, false] rfl rfl (zT HT_.out (by kernel_rfl)) (fun _ _ _ h => h) (Or.inl ⟨by rfl, ?_⟩) ?_ ?_
        rotate_left
        ·intro w'
         go_simp
         with_reducible rfl
        rotate_left
        ·simp only [Act.put, List.setIfInBounds_toArray, List.set_cons_zero, List.set_cons_succ, i64_w, i32_w]
         rfl
        refine pure_ (i := 8) (N := some 22) (v := ?_) (a' := ?_) #[true, false, false, false, true, false, true, false, true, false, false, false, false, false, false, false, false] rfl rfl (zT HT_.out (by kernel_rfl)) (fun _ _ _ h => h) (Or.inl ⟨by rfl, ?_⟩) ?_ ?_
        rotate_left
        ·intro w'
         go_simp
         with_reducible rfl
        rotate_left
        ·simp only [Act.put, List.setIfInBounds_toArray, List.set_cons_zero, List.set_cons_succ, i64_w, i32_w]
         rfl
        refine pure_ (i := 12) (N := some 26) (v := ?_) (a' := ?_) #[true, false, false, false, true, false, true, false, true, false, false, false, true, false, false, false, false] rfl rfl (zT HT_.out (by kernel_rfl)) (fun _ _ _ h => h) (Or.inl ⟨by rfl, ?_⟩) ?_ ?_
        rotate_left
        ·intro w'
         go_simp
         with_reducible rfl
        rotate_left
        ·simp only [Act.put, List.setIfInBounds_toArray, List.set_cons_zero, List.set_cons_succ, i64_w, i32_w]
         rfl
        refine pure_ (i := 13) (N := some 27) (v := ?_) (a' := ?_) #[true, false, false, false, true, false, true, false, true, false, false, false, true, true, false, false, false] rfl rfl (zT HT_.out (by kernel_rfl)) (fun _ _ _ h => h) (Or.inl ⟨by rfl, ?_⟩) ?_ ?_
        rotate_left
        ·intro w'
         go_simp
         with_reducible rfl
        rotate_left
        ·simp only [Act.put, List.setIfInBounds_toArray, List.set_cons_zero, List.set_cons_succ, i64_w, i32_w]
         rfl
        refine take_ (i := 1) (N := some 15) (v := ?_) (a' := ?_) #[true, true, false, false, true, false, true, false, true, false, false, false, true, true, false, false, false] rfl rfl (take_ofW HT_.out HW_.out (by kernel_rfl)) (fun _ _ _ h => h) (Or.inl ⟨by rfl, ?_⟩) hHeld ?_ ?_
        rotate_left
        ·rintro w' ⟨s0, s1, s2, s3, s4, s5, s6, s7, s8, s9, s10, s11⟩
         go_simp
         with_reducible rfl
        rotate_left
        ·simp only [Act.put, List.setIfInBounds_toArray, List.set_cons_zero, List.set_cons_succ, i64_w, i32_w]
         rfl
        refine pure_ (i := 2) (N := some 16) (v := ?_) (a' := ?_) #[true, true, true, false, true, false, true, false, true, false, false, false, true, true, false, false, false] rfl rfl (zT HT_.out (by kernel_rfl)) (fun _ _ _ h => h) (Or.inl ⟨by rfl, ?_⟩) ?_ ?_
        rotate_left
        ·intro w'
         go_simp
         with_reducible rfl
        rotate_left
        ·simp only [Act.put, List.setIfInBounds_toArray, List.set_cons_zero, List.set_cons_succ, i64_w, i32_w]
         rfl
        refine take_ (i := 3) (N := some 17) (v := ?_) (a' := ?_) #[true, true, true, true, true, false, true, false, true, false, false, false, true, true, false, false, false] rfl rfl (take_ofW HT_.out HW_.out (by kernel_rfl)) (fun _ _ _ h => h) (Or.inl ⟨by rfl, ?_⟩) hHeld ?_ ?_
        rotate_left
        ·rintro w' ⟨s0, s1, s2, s3, s4, s5, s6, s7, s8, s9, s10, s11⟩
         go_simp
         with_reducible rfl
        rotate_left
        ·simp only [Act.put, List.setIfInBounds_toArray, List.set_cons_zero, List.set_cons_succ, i64_w, i32_w]
         rfl
        refine take_ (i := 7) (N := some 21) (v := ?_) (a' := ?_) #[true, true, true, true, true, false, true, true, true, false, false, false, true, true, false, false, false] rfl rfl (take_ofW HT_.out HW_.out (by kernel_rfl)) (fun _ _ _ h => h) (Or.inl ⟨by rfl, ?_⟩) hHeld ?_ ?_
        rotate_left
        ·rintro w' ⟨s0, s1, s2, s3, s4, s5, s6, s7, s8, s9, s10, s11⟩
         go_simp
         with_reducible rfl
        rotate_left
        ·simp only [Act.put, List.setIfInBounds_toArray, List.set_cons_zero, List.set_cons_succ, i64_w, i32_w]
         rfl
        refine take_ (i := 9) (N := some 23) (v := ?_) (a' := ?_) #[true, true, true, true, true, false, true, true, true, true, false, false, true, true, false, false, false] rfl rfl (take_ofW HT_.out HW_.out (by kernel_rfl)) (fun _ _ _ h => h) (Or.inl ⟨by rfl, ?_⟩) hHeld ?_ ?_
        rotate_left
        ·rintro w' ⟨s0, s1, s2, s3, s4, s5, s6, s7, s8, s9, s10, s11⟩
         go_simp
         with_reducible rfl
        rotate_left
        ·simp only [Act.put, List.setIfInBounds_toArray, List.set_cons_zero, List.set_cons_succ, i64_w, i32_w]
         rfl
        refine pure_ (i := 10) (N := some 24) (v := ?_) (a' := ?_) #[true, true, true, true, true, false, true, true, true, true, true, false, true, true, false, false, false] rfl rfl (zT HT_.out (by kernel_rfl)) (fun _ _ _ h => h) (Or.inl ⟨by rfl, ?_⟩) ?_ ?_
        rotate_left
        ·intro w'
         go_simp
         with_reducible rfl
        rotate_left
        ·simp only [Act.put, List.setIfInBounds_toArray, List.set_cons_zero, List.set_cons_succ, i64_w, i32_w]
         rfl
        refine take_ (i := 11) (N := some 25) (v := ?_) (a' := ?_) #[true, true, true, true, true, false, true, true, true, true, true, true, true, true, false, false, false] rfl rfl (take_ofW HT_.out HW_.out (by kernel_rfl)) (fun _ _ _ h => h) (Or.inl ⟨by rfl, ?_⟩) hHeld ?_ ?_
        rotate_left
        ·rintro w' ⟨s0, s1, s2, s3, s4, s5, s6, s7, s8, s9, s10, s11⟩
         go_simp
         with_reducible rfl
        rotate_left
        ·simp only [Act.put, List.setIfInBounds_toArray, List.set_cons_zero, List.set_cons_succ, i64_w, i32_w]
         rfl
        refine one_ (i := 5) (N := some 19) #[true, true, true, true, true, true, true, true, true, true, true, true, true, true, false, false, false] rfl rfl (one_of HT_.out (by kernel_rfl)) (by decide) (fun K hK => ?_)
        refine goes_ Tryd.func82 (by kernel_rfl) rfl #[.agg #[.string ((zL l0_3 0).f0), .int .u16 ((zL l0_3 0).f1), .string ((zL l0_3 0).f2), .slice A142_3 ((zL l0_3 0).f3).length c142_3], .int .i64 t122] (by rfl) rfl rfl (by (try simp only [List.map_toArray, List.map_cons, List.map_nil]); first | done | rfl | (simp only [List.length_drop, List.length_take]; rfl)) ?_
        with_reducible refine (ih k (by omega) ((zL l0_3 0).f0) ((zL l0_3 0).f1) ((zL l0_3 0).f2) _ _ ((zL l0_3 0).f3) t122 t143 _ ?side1 ?side2 ?side3 A48.out).mono ?_
        (case side1 => exact ⟨G0.below hG.out (by repeat (first | (with_reducible first | exact HB.out | apply zB | apply zA | apply zC | refine zF ?_ GE121.out) | exact HB.out))⟩)
        (case side2 => repeat (first | exact (Kd.zV HR142_3.out HB.out) | (with_reducible refine Kd.C_alloc ?_ _) | (with_reducible refine Kd.C_drewN ?_ _) | (with_reducible refine Kd.C_drew ?_)))
        (case side3 => exact HC142_3.out)
        rintro e w73 ⟨rfl, hb⟩
        refine ⟨_, rfl, ?_⟩
        have n0_ := zz_ (zK (g := gb121) (o := .cells #[.string a0_0, .int .u16 a0_1, .string a0_2, .slice (some ad142) l0_3.length c0_3] 50 (0, 0)) (by (with_reducible repeat (first | refine zH ?_ _ | refine zJ ?_ | refine zI ?_ _)); exact BK121.out) hb)
        have n1_ := zz_ (zG (by repeat (first | (with_reducible first | exact HB.out | apply zB | apply zA | apply zC | refine zF ?_ GE121.out) | exact HB.out)) hb)
        clear BK121
        clear HB
        have BK121 := n0_
        have HB := n1_
        clear n0_ n1_
        (try clear hb)
        (try clear hb2)
        (try clear hk)
        (try clear hi)
        refine hK.out _ _ ⟨(zD BK121.out 0).trans rfl, (zD BK121.out 1).trans rfl, (zD BK121.out 2).trans rfl, (zD BK121.out 3).trans rfl, ((HB.out.cell (World.block_lt_of_cell? w _ hw142_0)).trans hw142_0), ((HB.out.cell (World.block_lt_of_cell? w _ hw142_1)).trans hw142_1), ((HB.out.cell (World.block_lt_of_cell? w _ hw142_2)).trans hw142_2), ((HB.out.cell (World.block_lt_of_cell? w _ hw142_3)).trans hw142_3), ((HB.out.cell (World.block_lt_of_cell? w _ hw144_0)).trans hw144_0), ((HB.out.cell (World.block_lt_of_cell? w _ hw144_1)).trans hw144_1), ((HB.out.cell (World.block_lt_of_cell? w _ hw144_2)).trans hw144_2), ((HB.out.cell (World.block_lt_of_cell? w _ hw144_3)).trans hw144_3)⟩ (fun hHeld => ?_)
        clear hK K
        refine norm_ (a' := ?_) ?_ ?_
        rotate_left
        ·show Act.put _ (some 19) _ = _
         simp only [Act.put, List.setIfInBounds_toArray, List.set_cons_zero, List.set_cons_succ, i64_w, i32_w]
         rfl
        refine one_ (i := 14) (N := some 28) #[true, true, true, true, true, true, true, true, true, true, true, true, true, true, true, false, false] rfl rfl (one_of HT_.out (by kernel_rfl)) (by decide) (fun K hK => ?_)
        refine goes_ Tryd.func82 (by kernel_rfl) rfl #[.agg #[.string ((zL l0_3 1).f0), .int .u16 ((zL l0_3 1).f1), .string ((zL l0_3 1).f2), .slice A144_3 ((zL l0_3 1).f3).length c144_3], .int .i64 (wrap64 (t122 + 1))] (by rfl) rfl rfl (by (try simp only [List.map_toArray, List.map_cons, List.map_nil]); first | done | rfl | (simp only [List.length_drop, List.length_take]; rfl)) ?_
        with_reducible refine (ih k (by omega) ((zL l0_3 1).f0) ((zL l0_3 1).f1) ((zL l0_3 1).f2) _ _ ((zL l0_3 1).f3) (wrap64 (t122 + 1)) t145 _ ?side1 ?side2 ?side3 A50.out).mono ?_
        (case side1 => exact ⟨G0.below hG.out (by repeat (first | (with_reducible first | exact HB.out | apply zB | apply zA | apply zC | refine zF ?_ GE121.out) | exact HB.out))⟩)
        (case side2 => repeat (first | exact (Kd.zV HR144_3.out HB.out) | (with_reducible refine Kd.C_alloc ?_ _) | (with_reducible refine Kd.C_drewN ?_ _) | (with_reducible refine Kd.C_drew ?_)))
        (case side3 => exact HC144_3.out)
        rintro e w74 ⟨rfl, hb⟩
        refine ⟨_, rfl, ?_⟩
        have n0_ := zz_ (zK (g := gb121) (o := .cells #[.string a0_0, .int .u16 a0_1, .string a0_2, .slice (some ad142) l0_3.length c0_3] 50 (0, 0)) (by (with_reducible repeat (first | refine zH ?_ _ | refine zJ ?_ | refine zI ?_ _)); exact BK121.out) hb)
        have n1_ := zz_ (zG (by repeat (first | (with_reducible first | exact HB.out | apply zB | apply zA | apply zC | refine zF ?_ GE121.out) | exact HB.out)) hb)
        clear BK121
        clear HB
        have BK121 := n0_
        have HB := n1_
        clear n0_ n1_
        (try clear hb)
        (try clear hb2)
        (try clear hk)
        (try clear hi)
        refine hK.out _ _ ⟨(zD BK121.out 0).trans rfl, (zD BK121.out 1).trans rfl, (zD BK121.out 2).trans rfl, (zD BK121.out 3).trans rfl, ((HB.out.cell (World.block_lt_of_cell? w _ hw142_0)).trans hw142_0), ((HB.out.cell (World.block_lt_of_cell? w _ hw142_1)).trans hw142_1), ((HB.out.cell (World.block_lt_of_cell? w _ hw142_2)).trans hw142_2), ((HB.out.cell (World.block_lt_of_cell? w _ hw142_3)).trans hw142_3), ((HB.out.cell (World.block_lt_of_cell? w _ hw144_0)).trans hw144_0), ((HB.out.cell (World.block_lt_of_cell? w _ hw144_1)).trans hw144_1), ((HB.out.cell (World.block_lt_of_cell? w _ hw144_2)).trans hw144_2), ((HB.out.cell (World.block_lt_of_cell? w _ hw144_3)).trans hw144_3)⟩ (fun hHeld => ?_)
        clear hK K
        refine norm_ (a' := ?_) ?_ ?_
        rotate_left
        ·show Act.put _ (some 28) _ = _
         simp only [Act.put, List.setIfInBounds_toArray, List.set_cons_zero, List.set_cons_succ, i64_w, i32_w]
         rfl
        refine one_ (i := 15) (N := some 29) #[true, true, true, true, true, true, true, true, true, true, true, true, true, true, true, true, false] rfl rfl (one_of HT_.out (by kernel_rfl)) (by decide) (fun K hK => ?_)
        refine Kd.R_lit_step Kd.string _ 9 ?hg (N := 29) ?hd (xs := ([t143, a0_0, t145] : List ByteArray)) (inner := [.string t143, .string a0_0, .string t145]) (ok := fun _ => True) (okp := fun _ => True) ?hr ?hp (fun _ hk => hk) trivial (Below.refl _ _) (Nat.le_refl _) (by simp) ?_; (case hd => rfl); (case hg => rfl); (case hr => first | (go_simp; done) | (go_simp; rfl)); (case hp => exact (Reps.one (show Kd.M Kd.string _ _ _ t143 [.string t143] from rfl) (Reps.one (show Kd.M Kd.string _ _ _ a0_0 [.string a0_0] from rfl) (Reps.one (show Kd.M Kd.string _ _ _ t145 [.string t145] from rfl) (Reps.none _ _)))))
        intro v147 w75 ho76 hb hg_ hnew_
        clear hg_ hnew_
        (first | rw [← Ny146.out] at ho76 | (simp only [Int.reduceToNat] at ho76; rw [← Ny146.out] at ho76))
        have n0_ := zz_ (Kd.R_lower ho76 (zR (by repeat (first | (with_reducible first | exact HB.out | apply zB | apply zA | apply zC | refine zF ?_ GE121.out) | exact HB.out))))
        have n1_ := zz_ (zK (g := gb121) (o := .cells #[.string a0_0, .int .u16 a0_1, .string a0_2, .slice (some ad142) l0_3.length c0_3] 50 (0, 0)) (by (with_reducible repeat (first | refine zH ?_ _ | refine zJ ?_ | refine zI ?_ _)); exact BK121.out) hb)
        have n2_ := zz_ (zG (by repeat (first | (with_reducible first | exact HB.out | apply zB | apply zA | apply zC | refine zF ?_ GE121.out) | exact HB.out)) hb)
        clear BK121
        clear HB
        have HO148 := n0_
        have BK121 := n1_
        have HB := n2_
        clear n0_ n1_ n2_
        clear hb ho76
        refine hK.out _ _ ⟨(zD BK121.out 0).trans rfl, (zD BK121.out 1).trans rfl, (zD BK121.out 2).trans rfl, (zD BK121.out 3).trans rfl, ((HB.out.cell (World.block_lt_of_cell? w _ hw142_0)).trans hw142_0), ((HB.out.cell (World.block_lt_of_cell? w _ hw142_1)).trans hw142_1), ((HB.out.cell (World.block_lt_of_cell? w _ hw142_2)).trans hw142_2), ((HB.out.cell (World.block_lt_of_cell? w _ hw142_3)).trans hw142_3), ((HB.out.cell (World.block_lt_of_cell? w _ hw144_0)).trans hw144_0), ((HB.out.cell (World.block_lt_of_cell? w _ hw144_1)).trans hw144_1), ((HB.out.cell (World.block_lt_of_cell? w _ hw144_2)).trans hw144_2), ((HB.out.cell (World.block_lt_of_cell? w _ hw144_3)).trans hw144_3)⟩ (fun hHeld => ?_)
        clear hK K
        refine norm_ (a' := ?_) ?_ ?_
        rotate_left
        ·show Act.put _ (some 29) _ = _
         simp only [Act.put, List.setIfInBounds_toArray, List.set_cons_zero, List.set_cons_succ, i64_w, i32_w]
         rfl
        refine pure_ (i := 16) (N := some 7) (v := ?_) (a' := ?_) #[true, true, true, true, true, true, true, true, true, true, true, true, true, true, true, true, true] rfl rfl (zT HT_.out (by kernel_rfl)) (fun _ _ _ h => h) (Or.inl ⟨by rfl, ?_⟩) ?_ ?_
        rotate_left
        ·intro w'
         go_simp
         with_reducible rfl
        rotate_left
        ·simp only [Act.put, List.setIfInBounds_toArray, List.set_cons_zero, List.set_cons_succ, i64_w, i32_w]
         rfl
        refine done_ (done_of HT_.out (by kernel_rfl)) ?_
        obtain ⟨Ao77, co77, eo77⟩ := Kd.R_slice HO148.out
        subst eo77
        try go_wp2_with (first | ((with_reducible refine zQ (f := 72) rfl ?_); refine goesL_ (some 70) rfl rfl Tryd.func72 (by kernel_rfl) rfl #[.slice Ao77 y146.length co77, .string (⟨#[32]⟩ : ByteArray)] rfl (by (try simp only [List.map_toArray, List.map_cons, List.map_nil]); first | done | rfl | (simp only [List.length_drop, List.length_take]; rfl)) ?_; (with_reducible refine (strings_Join.calls _ _ y146 (⟨#[32]⟩ : ByteArray) t159 _ ?side1 ?side2 A69.out).mono ?_); (case side1 => repeat (first | exact (Kd.R_reads' HO148.out).2.2 | (with_reducible refine Kd.C_alloc ?_ _) | (with_reducible refine Kd.C_drewN ?_ _) | (with_reducible refine Kd.C_drew ?_))); (case side2 => exact (Kd.R_reads' HO148.out).2.1); rintro e w78 ⟨rfl, hb⟩; refine ⟨_, rfl, ?_⟩; have n0_ := zz_ (Kd.R_below (by (with_reducible repeat (first | apply Kd.R_alloc | apply Kd.R_drewN | apply Kd.R_drew)); exact HO148.out) hb); have n1_ := zz_ (zK (g := gb121) (o := .cells #[.string a0_0, .int .u16 a0_1, .string a0_2, .slice (some ad142) l0_3.length c0_3] 50 (0, 0)) (by (with_reducible repeat (first | refine zH ?_ _ | refine zJ ?_ | refine zI ?_ _)); exact BK121.out) hb); have n2_ := zz_ (zG (by repeat (first | (with_reducible first | exact HB.out | apply zB | apply zA | apply zC | refine zF ?_ GE121.out) | exact HB.out)) hb); clear HO148; clear BK121; clear HB; have HO148 := n0_; have BK121 := n1_; have HB := n2_; clear n0_ n1_ n2_; (try clear hb)))
        go_ret
        exact ⟨by first | rfl | (simp [zN, zM] <;> rfl) | (simp [*, zN, zM] <;> rfl), by repeat (first | (with_reducible first | exact HB.out | apply zB | apply zA | apply zC | refine zF ?_ GE121.out) | exact HB.out)⟩
      ·rw [if_neg c49] at H
       exact absurd H (by simp)
     ·rw [if_neg c47] at H
      exact absurd H (by simp)
end Go.Proofs.YtejhagejjogbaaaDoor.Qa
