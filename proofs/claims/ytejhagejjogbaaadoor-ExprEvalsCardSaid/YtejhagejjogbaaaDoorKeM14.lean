import Derived.Test.YtejhagejjogbaaaDoorKeM13
section
namespace Go.Proofs.YtejhagejjogbaaaDoor.Qf
open Go.RowKit YtejhagejjogbaaaDoorW.PrintWords YtejhagejjogbaaaDoorW.PrintLast YtejhagejjogbaaaDoorW.PrintMore Given TokSpan TokJoin TokRep Right.R Pn Pa Pb Pc Pd Pe Qa
attribute [local go_sem] max2_int min2_int max_two min_two max_three min_three max_four min_four   -- for this text's walks alone
set_option linter.unusedVariables false
set_option linter.unusedSimpArgs false
def expr_two.f (a0 : ByteArray) (a1 : Int) (a2 : Int) : Option (Int × Int) := if a0.toList = ([79, 82] : List UInt8) then (some (Go.bits .or .u16 a1 a2, 0)) else (if a0.toList = ([88, 79, 82] : List UInt8) then (some (Go.bits .xor .u16 a1 a2, 0)) else (if a0.toList = ([65, 78, 68] : List UInt8) then (some (Go.bits .and .u16 a1 a2, 0)) else (if a0.toList = ([43] : List UInt8) then (some (IntKind.u16.wrap (a1 + a2), 0)) else (if a0.toList = ([45] : List UInt8) then (some (IntKind.u16.wrap (a1 - a2), 0)) else (if a0.toList = ([42] : List UInt8) then (some (IntKind.u16.wrap (a1 * a2), 0)) else (if a0.toList = ([83, 72, 76] : List UInt8) then (if 0 ≤ a2 then (some (shl .u16 a1 a2, 0)) else (none)) else (if a0.toList = ([83, 72, 82] : List UInt8) then (if 0 ≤ a2 then (some (shr .u16 a1 a2, 0)) else (none)) else (if a2 = 0 then (some (0, 5)) else (if a0.toList = ([47] : List UInt8) then (some (IntKind.u16.wrap (Int.tdiv a1 a2), 0)) else (some (Int.tmod a1 a2, 0)))))))))))
set_option maxHeartbeats 8000000 in
set_option maxRecDepth 100000 in
theorem expr_two.calls (a0 : ByteArray) (a1 : Int) (a2 : Int) (r1 : Int) (r2 : Int) (w : World) (h : expr_two.f a0 a1 a2 = some (r1, r2)) :
  Calls Tryd.prog 79 #[.string a0, .int .u16 a1, .int .u16 a2] w fun e w' => e = .returned (.tuple #[.int .u16 r1, .int .i64 r2]) ∧ Drawn0 w w' := by
 have H : (if a0.toList = ([79, 82] : List UInt8) then (some (Go.bits .or .u16 a1 a2, 0)) else (if a0.toList = ([88, 79, 82] : List UInt8) then (some (Go.bits .xor .u16 a1 a2, 0)) else (if a0.toList = ([65, 78, 68] : List UInt8) then (some (Go.bits .and .u16 a1 a2, 0)) else (if a0.toList = ([43] : List UInt8) then (some (IntKind.u16.wrap (a1 + a2), 0)) else (if a0.toList = ([45] : List UInt8) then (some (IntKind.u16.wrap (a1 - a2), 0)) else (if a0.toList = ([42] : List UInt8) then (some (IntKind.u16.wrap (a1 * a2), 0)) else (if a0.toList = ([83, 72, 76] : List UInt8) then (if 0 ≤ a2 then (some (shl .u16 a1 a2, 0)) else (none)) else (if a0.toList = ([83, 72, 82] : List UInt8) then (if 0 ≤ a2 then (some (shr .u16 a1 a2, 0)) else (none)) else (if a2 = 0 then (some (0, 5)) else (if a0.toList = ([47] : List UInt8) then (some (IntKind.u16.wrap (Int.tdiv a1 a2), 0)) else (some (Int.tmod a1 a2, 0)))))))))))) = some (r1, r2) := h
 clear h
 by_cases c4 : a0.toList = ([79, 82] : List UInt8)
 ·rw [if_pos c4] at H
  have c4b0 : (a0.toList == ([79, 82] : List UInt8)) = true := beq_iff_eq.mpr c4
  have c4b1 : (a0.toList != ([79, 82] : List UInt8)) = false := bne_eq_false_iff_eq.mpr c4
  clear c4
  simp only [Option.some.injEq, Prod.mk.injEq] at H
  obtain ⟨rfl, rfl⟩ := H
  go_enter Tryd.func79, Tryd.ntmps79
  go_wp2
  go_ret2
  exact ⟨by first | rfl | (simp; done) | (simp [*]; done), by repeat (first | exact Drawn0.refl _ | apply Drawn0.step)⟩
 ·rw [if_neg c4] at H
  have c4b0 : (a0.toList == ([79, 82] : List UInt8)) = false := beq_eq_false_iff_ne.mpr c4
  have c4b1 : (a0.toList != ([79, 82] : List UInt8)) = true := bne_iff_ne.mpr c4
  by_cases c5 : a0.toList = ([88, 79, 82] : List UInt8)
  ·rw [if_pos c5] at H
   have c5b0 : (a0.toList == ([88, 79, 82] : List UInt8)) = true := beq_iff_eq.mpr c5
   have c5b1 : (a0.toList != ([88, 79, 82] : List UInt8)) = false := bne_eq_false_iff_eq.mpr c5
   clear c5
   simp only [Option.some.injEq, Prod.mk.injEq] at H
   obtain ⟨rfl, rfl⟩ := H
   go_enter Tryd.func79, Tryd.ntmps79
   go_wp2
   go_ret2
   exact ⟨by first | rfl | (simp; done) | (simp [*]; done), by repeat (first | exact Drawn0.refl _ | apply Drawn0.step)⟩
  ·rw [if_neg c5] at H
   have c5b0 : (a0.toList == ([88, 79, 82] : List UInt8)) = false := beq_eq_false_iff_ne.mpr c5
   have c5b1 : (a0.toList != ([88, 79, 82] : List UInt8)) = true := bne_iff_ne.mpr c5
   by_cases c6 : a0.toList = ([65, 78, 68] : List UInt8)
   ·rw [if_pos c6] at H
    have c6b0 : (a0.toList == ([65, 78, 68] : List UInt8)) = true := beq_iff_eq.mpr c6
    have c6b1 : (a0.toList != ([65, 78, 68] : List UInt8)) = false := bne_eq_false_iff_eq.mpr c6
    clear c6
    simp only [Option.some.injEq, Prod.mk.injEq] at H
    obtain ⟨rfl, rfl⟩ := H
    go_enter Tryd.func79, Tryd.ntmps79
    go_wp2
    go_ret2
    exact ⟨by first | rfl | (simp; done) | (simp [*]; done), by repeat (first | exact Drawn0.refl _ | apply Drawn0.step)⟩
   ·rw [if_neg c6] at H
    have c6b0 : (a0.toList == ([65, 78, 68] : List UInt8)) = false := beq_eq_false_iff_ne.mpr c6
    have c6b1 : (a0.toList != ([65, 78, 68] : List UInt8)) = true := bne_iff_ne.mpr c6
    by_cases c7 : a0.toList = ([43] : List UInt8)
    ·rw [if_pos c7] at H
     have c7b0 : (a0.toList == ([43] : List UInt8)) = true := beq_iff_eq.mpr c7
     have c7b1 : (a0.toList != ([43] : List UInt8)) = false := bne_eq_false_iff_eq.mpr c7
     clear c7
     simp only [Option.some.injEq, Prod.mk.injEq] at H
     obtain ⟨rfl, rfl⟩ := H
     go_enter Tryd.func79, Tryd.ntmps79
     go_wp2
     go_ret2
     exact ⟨by first | rfl | (simp; done) | (simp [*]; done), by repeat (first | exact Drawn0.refl _ | apply Drawn0.step)⟩
    ·rw [if_neg c7] at H
     have c7b0 : (a0.toList == ([43] : List UInt8)) = false := beq_eq_false_iff_ne.mpr c7
     have c7b1 : (a0.toList != ([43] : List UInt8)) = true := bne_iff_ne.mpr c7
     by_cases c8 : a0.toList = ([45] : List UInt8)
     ·rw [if_pos c8] at H
      have c8b0 : (a0.toList == ([45] : List UInt8)) = true := beq_iff_eq.mpr c8
      have c8b1 : (a0.toList != ([45] : List UInt8)) = false := bne_eq_false_iff_eq.mpr c8
      clear c8
      simp only [Option.some.injEq, Prod.mk.injEq] at H
      obtain ⟨rfl, rfl⟩ := H
      go_enter Tryd.func79, Tryd.ntmps79
      go_wp2
      go_ret2
      exact ⟨by first | rfl | (simp; done) | (simp [*]; done), by repeat (first | exact Drawn0.refl _ | apply Drawn0.step)⟩
     ·rw [if_neg c8] at H
      have c8b0 : (a0.toList == ([45] : List UInt8)) = false := beq_eq_false_iff_ne.mpr c8
      have c8b1 : (a0.toList != ([45] : List UInt8)) = true := bne_iff_ne.mpr c8
      by_cases c9 : a0.toList = ([42] : List UInt8)
      ·rw [if_pos c9] at H
       have c9b0 : (a0.toList == ([42] : List UInt8)) = true := beq_iff_eq.mpr c9
       have c9b1 : (a0.toList != ([42] : List UInt8)) = false := bne_eq_false_iff_eq.mpr c9
       clear c9
       simp only [Option.some.injEq, Prod.mk.injEq] at H
       obtain ⟨rfl, rfl⟩ := H
       go_enter Tryd.func79, Tryd.ntmps79
       go_wp2
       go_ret2
       exact ⟨by first | rfl | (simp; done) | (simp [*]; done), by repeat (first | exact Drawn0.refl _ | apply Drawn0.step)⟩
      ·rw [if_neg c9] at H
       have c9b0 : (a0.toList == ([42] : List UInt8)) = false := beq_eq_false_iff_ne.mpr c9
       have c9b1 : (a0.toList != ([42] : List UInt8)) = true := bne_iff_ne.mpr c9
       by_cases c10 : a0.toList = ([83, 72, 76] : List UInt8)
       ·rw [if_pos c10] at H
        have c10b0 : (a0.toList == ([83, 72, 76] : List UInt8)) = true := beq_iff_eq.mpr c10
        have c10b1 : (a0.toList != ([83, 72, 76] : List UInt8)) = false := bne_eq_false_iff_eq.mpr c10
        clear c10
        by_cases c11 : 0 ≤ a2
        ·rw [if_pos c11] at H
         have c11b0 := eq_true c11
         have c11b1 : decide (0 ≤ a2) = true := decide_eq_true c11
         clear c11
         obtain ⟨ji12, hji12⟩ : ∃ j_ : Int, (shl .u16 a1 a2) = j_ := ⟨_, rfl⟩
         replace H : (some (ji12, 0)) = some (r1, r2) := by first | (rw [hji12] at H; exact H) | (simp only [hji12] at H ⊢; exact H)
         have hji12_ : (IntKind.u16.wrap (a1 * 2 ^ min a2.toNat 16)) = ji12 := hji12
         have hji12z : a2 ≤ 16 → (IntKind.u16.wrap (a1 * 2 ^ a2.toNat)) = ji12 := shl_small hji12
         simp only [Option.some.injEq, Prod.mk.injEq] at H
         obtain ⟨rfl, rfl⟩ := H
         go_enter Tryd.func79, Tryd.ntmps79
         go_wp2
         go_ret2
         exact ⟨by first | rfl | (simp; done) | (simp only [← hji12] <;> (first | rfl | (simp; done) | (simp [*]; done))) | (simp [*]; done), by repeat (first | exact Drawn0.refl _ | apply Drawn0.step)⟩
        ·rw [if_neg c11] at H
         exact absurd H (by simp)
       ·rw [if_neg c10] at H
        have c10b0 : (a0.toList == ([83, 72, 76] : List UInt8)) = false := beq_eq_false_iff_ne.mpr c10
        have c10b1 : (a0.toList != ([83, 72, 76] : List UInt8)) = true := bne_iff_ne.mpr c10
        by_cases c13 : a0.toList = ([83, 72, 82] : List UInt8)
        ·rw [if_pos c13] at H
         have c13b0 : (a0.toList == ([83, 72, 82] : List UInt8)) = true := beq_iff_eq.mpr c13
         have c13b1 : (a0.toList != ([83, 72, 82] : List UInt8)) = false := bne_eq_false_iff_eq.mpr c13
         clear c13
         by_cases c14 : 0 ≤ a2
         ·rw [if_pos c14] at H
          have c14b0 := eq_true c14
          have c14b1 : decide (0 ≤ a2) = true := decide_eq_true c14
          clear c14
          obtain ⟨ji15, hji15⟩ : ∃ j_ : Int, (shr .u16 a1 a2) = j_ := ⟨_, rfl⟩
          replace H : (some (ji15, 0)) = some (r1, r2) := by first | (rw [hji15] at H; exact H) | (simp only [hji15] at H ⊢; exact H)
          have hji15_ : (a1 / 2 ^ min a2.toNat 16) = ji15 := hji15
          have hji15z : a2 ≤ 16 → (a1 / 2 ^ a2.toNat) = ji15 := shr_small hji15
          simp only [Option.some.injEq, Prod.mk.injEq] at H
          obtain ⟨rfl, rfl⟩ := H
          go_enter Tryd.func79, Tryd.ntmps79
          go_wp2
          go_ret2
          exact ⟨by first | rfl | (simp; done) | (simp only [← hji15] <;> (first | rfl | (simp; done) | (simp [*]; done))) | (simp [*]; done), by repeat (first | exact Drawn0.refl _ | apply Drawn0.step)⟩
         ·rw [if_neg c14] at H
          exact absurd H (by simp)
        ·rw [if_neg c13] at H
         have c13b0 : (a0.toList == ([83, 72, 82] : List UInt8)) = false := beq_eq_false_iff_ne.mpr c13
         have c13b1 : (a0.toList != ([83, 72, 82] : List UInt8)) = true := bne_iff_ne.mpr c13
         by_cases c16 : a2 = 0
         ·rw [if_pos c16] at H
          have c16b0 : (a2 == 0) = true := beq_iff_eq.mpr c16
          have c16b1 : (a2 != 0) = false := bne_eq_false_iff_eq.mpr c16
          clear c16
          simp only [Option.some.injEq, Prod.mk.injEq] at H
          obtain ⟨rfl, rfl⟩ := H
          go_enter Tryd.func79, Tryd.ntmps79
          go_wp2
          go_ret2
          exact ⟨by first | rfl | (simp; done) | (simp [*]; done), by repeat (first | exact Drawn0.refl _ | apply Drawn0.step)⟩
         ·rw [if_neg c16] at H
          have c16b0 : (a2 == 0) = false := beq_eq_false_iff_ne.mpr c16
          have c16b1 : (a2 != 0) = true := bne_iff_ne.mpr c16
          by_cases c17 : a0.toList = ([47] : List UInt8)
          ·rw [if_pos c17] at H
           have c17b0 : (a0.toList == ([47] : List UInt8)) = true := beq_iff_eq.mpr c17
           have c17b1 : (a0.toList != ([47] : List UInt8)) = false := bne_eq_false_iff_eq.mpr c17
           clear c17
           simp only [Option.some.injEq, Prod.mk.injEq] at H
           obtain ⟨rfl, rfl⟩ := H
           go_enter Tryd.func79, Tryd.ntmps79
           go_wp2
           go_ret2
           exact ⟨by first | rfl | (simp; done) | (simp [*]; done), by repeat (first | exact Drawn0.refl _ | apply Drawn0.step)⟩
          ·rw [if_neg c17] at H
           have c17b0 : (a0.toList == ([47] : List UInt8)) = false := beq_eq_false_iff_ne.mpr c17
           have c17b1 : (a0.toList != ([47] : List UInt8)) = true := bne_iff_ne.mpr c17
           simp only [Option.some.injEq, Prod.mk.injEq] at H
           obtain ⟨rfl, rfl⟩ := H
           go_enter Tryd.func79, Tryd.ntmps79
           go_wp2
           go_ret2
           exact ⟨by first | rfl | (simp; done) | (simp [*]; done), by repeat (first | exact Drawn0.refl _ | apply Drawn0.step)⟩
end Go.Proofs.YtejhagejjogbaaaDoor.Qf
end
section
namespace Go.Proofs.YtejhagejjogbaaaDoor.EvA
open Go.RowKit YtejhagejjogbaaaDoorW.PrintWords YtejhagejjogbaaaDoorW.PrintLast YtejhagejjogbaaaDoorW.PrintMore
set_option linter.unusedVariables false
set_option linter.unusedSimpArgs false
section
variable {P : Program} {ops : Array Oper} {Q : Exit → Act → World → Prop}
theorem enterF {oi : Oper} {a : Act} {w : World} {f : FuncId} {fn : Func} {xs : Array Operand} {ts : Array TypeId} {p : Operand} {caps : Array Value} (hf : P.funcs[f]? = some fn) (hname : (fn.name == "runtime.NumGoroutine") = false) (hb : fn.body.isSome = true) (args : Array Value)
    (hop : oi.op = .call { callee := .value p, args := xs, argTypes := ts }) (hv : a.eval p = .func (.func f) #[] caps) (hargs : xs.map a.eval = args) : (execOp a.eval oi).run P w = .ok (.enter f (args ++ caps)) w := by
  have he := enters_ hf hname hb (args ++ caps) w
  unfold execOp
  simp [hop, resolve, Deferred.ofValue, invoke, hv, hargs, he]
end
end Go.Proofs.YtejhagejjogbaaaDoor.EvA
end
section
namespace Go.Proofs.YtejhagejjogbaaaDoor.PsrH
open Go.RowKit YtejhagejjogbaaaDoorW.PrintWords YtejhagejjogbaaaDoorW.PrintLast YtejhagejjogbaaaDoorW.PrintMore Given Pn Pa Qa Par Num AnyNot PsrA PsrB PsrC PsrD PsrE PsrF PsrG
set_option linter.unusedVariables false
set_option linter.unusedSimpArgs false
structure AI (w0 w w' : World) (g b q : Nat) (t : S41) (s : PS) : Prop where
  kb : w'.heap[b]? = some (.cells #[.string (⟨#[]⟩ : ByteArray), .int .u16 0, .string (⟨#[]⟩ : ByteArray), .slice none 0 0] 50 (0, 0))
  kq : w'.heap[q]? = some (.cells #[.int .i64 t.f0, .string t.f1, .int .u16 t.f2] 41 (0, 0))
  st : St w0 w' g s.l s.k s.o
  kp : zU w w' g none
section
variable {w0 w w' W : World} {g b q : Nat} {t : S41} {s : PS}
theorem AI.below (h : AI w0 w w' g b q t s) (hb : Below w'.heap.size w' W) : AI w0 w W g b q t s :=
  ⟨zK h.kb hb, zK h.kq hb, h.st.below hb, h.kp.trans (zU.of_below hb g none) (.inl rfl)⟩
theorem AI.keep {u : PS} (h : AI w0 w w' g b q t s) (hk : zU w' W g none) (hs : St w0 W g u.l u.k u.o) (n1 : b ≠ g) (n2 : q ≠ g) : AI w0 w W g b q t u :=
  ⟨hk.blk h.kb n1 (by simp), hk.blk h.kq n2 (by simp), hs, h.kp.trans hk (.inl rfl)⟩
theorem blk41 {a0 a1 a2 : Value} (h : W.heap[b]? = some (.cells #[a0, a1, a2] 41 (0, 0))) :
    (W.cell? ⟨b, 0, none⟩ = some a0 ∧ W.cell? ⟨b, 1, none⟩ = some a1 ∧ W.cell? ⟨b, 2, none⟩ = some a2) ∧ (W.frozen? ⟨b, 0, none⟩ = false ∧ W.frozen? ⟨b, 1, none⟩ = false ∧ W.frozen? ⟨b, 2, none⟩ = false) :=
  ⟨⟨(zD h 0).trans rfl, (zD h 1).trans rfl, (zD h 2).trans rfl⟩, ⟨zE h 0, zE h 1, zE h 2⟩⟩
abbrev put41 (W : World) (b : Nat) (x0 x1 x2 : Value) : World := ((W.setCell ⟨b, 0, none⟩ x0).setCell ⟨b, 1, none⟩ x1).setCell ⟨b, 2, none⟩ x2
theorem put41_blk {z0 z1 z2 x0 x1 x2 : Value} (h : W.heap[b]? = some (.cells #[z0, z1, z2] 41 (0, 0))) : (put41 W b x0 x1 x2).heap[b]? = some (.cells #[x0, x1, x2] 41 (0, 0)) := by
  refine blk_put (cs := #[x0, x1, z2]) ?_ 2 _ rfl
  refine blk_put (cs := #[x0, z1, z2]) ?_ 1 _ rfl
  exact blk_put (cs := #[z0, z1, z2]) h 0 _ rfl
theorem below_put41 {W1 : World} {x0 x1 x2 : Value} (h : Below W.heap.size W W1) (hb : W.heap.size ≤ b) : Below W.heap.size W (put41 W1 b x0 x1 x2) :=
  zF (zF (zF h hb) hb) hb
theorem post_leaf {e : S50} {u : PS} (hS : St w0 W g u.l u.k u.o) (hK : zU w W g none) (hne : g ≠ b) (hwb : w.heap.size ≤ b) (hw0 : w0.heap.size ≤ w.heap.size) (he : e.f3 = []) :
    Post w0 w g e u (.returned (.agg #[.string e.f0, .int .u16 e.f1, .string e.f2, .slice none 0 0])) (put50 W b (.string e.f0) (.int .u16 e.f1) (.string e.f2) (.slice none 0 0)) := by
  have := post_put (e := e) (t := u) (base := w.heap.size) (A := none) (c := 0) hS hK hne hwb hw0 (by rw [he]; exact re_nil _ _ _) (Nat.le_refl _)
  unfold agg50 at this
  rw [he] at this
  exact this
end
theorem word_calls (a : ByteArray) (w : World) : Calls Tryd.prog 144 #[.string a] w fun e w' => e = .returned (.bool (wordL a.data.toList)) ∧ Drawn0 w w' := expr_word.calls a _ w (Right.word_at a)
theorem value_calls (a : ByteArray) (w : World) : Calls Tryd.prog 24 #[.string a] w fun e w' => e = .returned (.tuple #[.int .u16 (valP a).1, .int .i64 (valP a).2]) ∧ Below w.heap.size w w' := by
  refine number_Value.calls a _ _ w ?_
  unfold number_Value.f valP
  split <;> rfl
theorem streq {a : ByteArray} {l : List UInt8} (h : a.data.toList = l) : (a.toList == l) = true ∧ (a.toList != l) = false := by
  have : a.toList = l := (Lib.toList_data a).trans h
  exact ⟨beq_iff_eq.mpr this, bne_eq_false_iff_eq.mpr this⟩
theorem strne {a : ByteArray} {l : List UInt8} (h : ¬ a.data.toList = l) : (a.toList == l) = false ∧ (a.toList != l) = true := by
  have : ¬ a.toList = l := fun e => h ((Lib.toList_data a).symm.trans e)
  exact ⟨beq_eq_false_iff_ne.mpr this, bne_iff_ne.mpr this⟩
set_option maxHeartbeats 32000000 in
set_option maxRecDepth 100000 in
theorem atom_calls (n : Nat) (IW : WithinAt n) : AtomAt (n + 1) := by
  intro s e u w0 w g h hS
  obtain ⟨l, k, o⟩ := s
  rw [atomP] at h
  have hu50 := Tryd.underlying50
  have hu41 := Tryd.underlying41
  have HS := zz_ hS
  have IW' := zz_ IW
  have hglt := hS.lt
  have hw0 := hS.base.size
  clear hS IW
  simp only at h HS
  cases l with
  | nil =>
    simp only at h
    obtain ⟨he, ht⟩ := Prod.mk.inj (Option.some.inj h)
    obtain rfl : e0 = e := he
    have HT := zz_ ht.symm
    clear ht h
    go_enter Tryd.func173, Tryd.ntmps173
    go_wp2_with (first
      | ((with_reducible refine zS (N := 2) rfl ?_); refine zO ?hg (N := 2) ?hd (cs := #[.string (⟨#[]⟩ : ByteArray), .int .u16 0, .string (⟨#[]⟩ : ByteArray), .slice none 0 0]) (t := 50) ?hr ?_; (case hd => rfl); (case hg => rfl); (case hr => first | (go_simp; done) | (go_simp; rfl)); intro b hg w1 hbox hb; have HWb := zz_ hb; have BKb := zz_ hbox; have HEb := zz_ hg; obtain ⟨⟨x0, x1, x2, x3⟩, ⟨f0, f1, f2, f3⟩⟩ := blk50 hbox; have HS1 := zz_ (HS.out.below hb); have n1 : g ≠ b := (by omega); have n2 : b ≠ g := (by omega); obtain ⟨Az, cz, zl, zk, zo, gl, gk, go⟩ := St_cells HS1.out; clear hb hbox hg)
      | (go_at_call 192; refine (fail_calls' HS1.out 2).mono ?_; rintro e' w5 ⟨A2, c2, rfl, hR, hS5, hK5⟩; have BK5 := zz_ (hK5.blk BKb.out n2 (by simp)); have HS5 := zz_ hS5; have HK5 := zz_ hK5; have HR5 := zz_ hR; obtain ⟨⟨z0, z1, z2, z3⟩, ⟨p0, p1, p2, p3⟩⟩ := blk50 BK5.out; clear hS5 hK5 hR))
    rw [HT.out]
    exact bodyPost_ret (results_cell_row rfl _ _ b 50 #[.string e0.f0, .int .u16 e0.f1, .string e0.f2, .slice A2 e0.f3.length c2] (0, 0) _ rfl (put50_blk BK5.out) Tryd.underlying50 rfl (by kernel_rfl)) rfl (post_new (e := e0) (base := w1.heap.size) HS5.out ((zU.of_below HWb.out g none).trans HK5.out (.inl rfl)) n1 (by have := HEb.out; omega) hw0 HR5.out (blk_lt BKb.out))
  | cons t l =>
    simp only at h
    by_cases h1 : t.f0 = 1
    · rw [if_pos h1] at h
      have d1 : (t.f0 == 1) = true := beq_iff_eq.mpr h1
      cases hw : wordL t.f1.data.toList with
      | true =>
        rw [hw, if_pos rfl] at h
        (obtain ⟨he, ht⟩ := Prod.mk.inj (Option.some.inj h); obtain rfl : e0 = e := he; have HT := zz_ (show u = ⟨l, if k = 0 then 2 else k, o⟩ from ht.symm); clear ht h)
        have HX := zz_ hw
        clear hw h1
        go_enter Tryd.func173, Tryd.ntmps173
        go_wp2_with (first | ((with_reducible refine zS (N := 2) rfl ?_); refine zO ?hg (N := 2) ?hd (cs := #[.string (⟨#[]⟩ : ByteArray), .int .u16 0, .string (⟨#[]⟩ : ByteArray), .slice none 0 0]) (t := 50) ?hr ?_; (case hd => rfl); (case hg => rfl); (case hr => first | (go_simp; done) | (go_simp; rfl)); intro b hg w1 hbox hb; have HWb := zz_ hb; have BKb := zz_ hbox; have HEb := zz_ hg; obtain ⟨⟨x0, x1, x2, x3⟩, ⟨f0, f1, f2, f3⟩⟩ := blk50 hbox; have HS1 := zz_ (HS.out.below hb); have n1 : g ≠ b := (by omega); have n2 : b ≠ g := (by omega); obtain ⟨Az, cz, zl, zk, zo, gl, gk, go⟩ := St_cells HS1.out; clear hb hbox hg) | (go_at_call 154; refine (skip_calls HS1.out).mono ?_; rintro e' w2 ⟨rfl, hS2, hK2⟩; have BK2 := zz_ (hK2.blk BKb.out n2 (by simp)); have HS2 := zz_ hS2; have HK2 := zz_ hK2; have hlt2 := blk_lt BK2.out; have hglt2 := hS2.lt; clear hS2 hK2 zl zk zo gl gk go x0 x1 x2 x3 f0 f1 f2 f3) | ((with_reducible refine zS (N := 3) rfl ?_); refine zO ?hg (N := 3) ?hd (cs := #[.int .i64 0, .string (⟨#[]⟩ : ByteArray), .int .u16 0]) (t := 41) ?hr ?_; (case hd => rfl); (case hg => rfl); (case hr => first | (go_simp; done) | (go_simp; rfl)); intro q hq w3 hbox hb; have HW3 := zz_ hb; have BQ3 := zz_ hbox; have HE3 := zz_ hq; have n3 : g ≠ q := (by omega); have n4 : q ≠ g := (by omega); have n5 : b ≠ q := (by omega); have n6 : q ≠ b := (by omega); obtain ⟨⟨x0, x1, x2⟩, ⟨f0, f1, f2⟩⟩ := blk41 hbox; clear hb hbox hq) | ((with_reducible refine gate_store (t := 41) (p := 3) rfl ?_); refine store_event (t := 41) (p := 3) (v := ?vo) ?hg ?ho ?hN (w1 := put41 w3 q (.int .i64 t.f0) (.string t.f1) (.int .u16 t.f2)) ?hr ?_; (case ho => rfl); (case hg => rfl); (case hN => rfl); (case hr => first | (go_simp; done) | (go_simp; rfl)); intro w4 hw4; have hb4 := (show Below w2.heap.size w2 w4 from (by rw [hw4]; exact below_put41 HW3.out (by have := HE3.out; omega))); have AI4 := zz_ (show AI w0 w w4 g b q t ⟨l, k, o⟩ from ⟨zK BK2.out hb4, (by rw [hw4]; exact put41_blk BQ3.out), HS2.out.below hb4, ((zU.of_below HWb.out g none).trans HK2.out (.inl rfl)).trans (zU.of_below hb4 g none) (.inl rfl)⟩); obtain ⟨⟨y0, y1, y2⟩, _⟩ := blk41 AI4.out.kq; obtain ⟨⟨z0, z1, z2, z3⟩, ⟨p0, p1, p2, p3⟩⟩ := blk50 AI4.out.kb; clear hb4 hw4 x0 x1 x2 f0 f1 f2) | (go_at_call 144; refine (word_calls t.f1 w4).mono ?_; rintro e' w5 ⟨rfl, ⟨nd, rfl⟩⟩; rw [HX.out]) | (go_at_call 192; refine (fail_calls' (St.below AI4.out.st (by first | exact Below.refl _ _ | exact zA (Below.refl _ _) _)) 2).mono ?_; rintro e' w6 ⟨A2, c2, rfl, hR, hS6, hK6⟩; have AI6 := zz_ ((AI4.out.below (by first | exact Below.refl _ _ | exact zA (Below.refl _ _) _)).keep (u := ⟨l, if k = 0 then 2 else k, o⟩) hK6 hS6 n2 n4); have HR6 := zz_ hR; have HL6 := zz_ (show b < _ from blk_lt (AI4.out.below (by first | exact Below.refl _ _ | exact zA (Below.refl _ _) _)).kb); clear hS6 hK6 hR z0 z1 z2 z3 p0 p1 p2 p3; obtain ⟨⟨z0, z1, z2, z3⟩, ⟨p0, p1, p2, p3⟩⟩ := blk50 AI6.out.kb))
        rw [HT.out]; exact bodyPost_ret (results_cell_row rfl _ _ b 50 #[.string e0.f0, .int .u16 e0.f1, .string e0.f2, .slice A2 e0.f3.length c2] (0, 0) _ rfl (put50_blk AI6.out.kb) Tryd.underlying50 rfl (by kernel_rfl)) rfl (post_new (e := e0) (base := _) AI6.out.st AI6.out.kp n1 (by have := HEb.out; omega) hw0 HR6.out HL6.out)
      | false =>
        rw [hw, if_neg (by decide)] at h
        obtain ⟨rfl, rfl⟩ := Prod.mk.inj (Option.some.inj h)
        have HX := zz_ hw
        clear hw h1 h
        go_enter Tryd.func173, Tryd.ntmps173
        go_wp2_with (first | ((with_reducible refine zS (N := 2) rfl ?_); refine zO ?hg (N := 2) ?hd (cs := #[.string (⟨#[]⟩ : ByteArray), .int .u16 0, .string (⟨#[]⟩ : ByteArray), .slice none 0 0]) (t := 50) ?hr ?_; (case hd => rfl); (case hg => rfl); (case hr => first | (go_simp; done) | (go_simp; rfl)); intro b hg w1 hbox hb; have HWb := zz_ hb; have BKb := zz_ hbox; have HEb := zz_ hg; obtain ⟨⟨x0, x1, x2, x3⟩, ⟨f0, f1, f2, f3⟩⟩ := blk50 hbox; have HS1 := zz_ (HS.out.below hb); have n1 : g ≠ b := (by omega); have n2 : b ≠ g := (by omega); obtain ⟨Az, cz, zl, zk, zo, gl, gk, go⟩ := St_cells HS1.out; clear hb hbox hg) | (go_at_call 154; refine (skip_calls HS1.out).mono ?_; rintro e' w2 ⟨rfl, hS2, hK2⟩; have BK2 := zz_ (hK2.blk BKb.out n2 (by simp)); have HS2 := zz_ hS2; have HK2 := zz_ hK2; have hlt2 := blk_lt BK2.out; have hglt2 := hS2.lt; clear hS2 hK2 zl zk zo gl gk go x0 x1 x2 x3 f0 f1 f2 f3) | ((with_reducible refine zS (N := 3) rfl ?_); refine zO ?hg (N := 3) ?hd (cs := #[.int .i64 0, .string (⟨#[]⟩ : ByteArray), .int .u16 0]) (t := 41) ?hr ?_; (case hd => rfl); (case hg => rfl); (case hr => first | (go_simp; done) | (go_simp; rfl)); intro q hq w3 hbox hb; have HW3 := zz_ hb; have BQ3 := zz_ hbox; have HE3 := zz_ hq; have n3 : g ≠ q := (by omega); have n4 : q ≠ g := (by omega); have n5 : b ≠ q := (by omega); have n6 : q ≠ b := (by omega); obtain ⟨⟨x0, x1, x2⟩, ⟨f0, f1, f2⟩⟩ := blk41 hbox; clear hb hbox hq) | ((with_reducible refine gate_store (t := 41) (p := 3) rfl ?_); refine store_event (t := 41) (p := 3) (v := ?vo) ?hg ?ho ?hN (w1 := put41 w3 q (.int .i64 t.f0) (.string t.f1) (.int .u16 t.f2)) ?hr ?_; (case ho => rfl); (case hg => rfl); (case hN => rfl); (case hr => first | (go_simp; done) | (go_simp; rfl)); intro w4 hw4; have hb4 := (show Below w2.heap.size w2 w4 from (by rw [hw4]; exact below_put41 HW3.out (by have := HE3.out; omega))); have AI4 := zz_ (show AI w0 w w4 g b q t ⟨l, k, o⟩ from ⟨zK BK2.out hb4, (by rw [hw4]; exact put41_blk BQ3.out), HS2.out.below hb4, ((zU.of_below HWb.out g none).trans HK2.out (.inl rfl)).trans (zU.of_below hb4 g none) (.inl rfl)⟩); obtain ⟨⟨y0, y1, y2⟩, _⟩ := blk41 AI4.out.kq; obtain ⟨⟨z0, z1, z2, z3⟩, ⟨p0, p1, p2, p3⟩⟩ := blk50 AI4.out.kb; clear hb4 hw4 x0 x1 x2 f0 f1 f2) | (go_at_call 144; refine (word_calls t.f1 w4).mono ?_; rintro e' w5 ⟨rfl, ⟨nd, rfl⟩⟩; rw [HX.out]))
        exact bodyPost_ret (results_cell_row rfl _ _ b 50 #[.string (⟨⟨#[110]⟩, 0, t.f1, []⟩ : S50).f0, .int .u16 (⟨⟨#[110]⟩, 0, t.f1, []⟩ : S50).f1, .string (⟨⟨#[110]⟩, 0, t.f1, []⟩ : S50).f2, .slice none 0 0] (0, 0) _ rfl (put50_blk (zK AI4.out.kb (by first | exact Below.refl _ _ | exact zA (Below.refl _ _) _))) Tryd.underlying50 rfl (by kernel_rfl)) rfl (post_leaf (e := ⟨⟨#[110]⟩, 0, t.f1, []⟩) (St.below AI4.out.st (by first | exact Below.refl _ _ | exact zA (Below.refl _ _) _)) (AI4.out.below (by first | exact Below.refl _ _ | exact zA (Below.refl _ _) _)).kp n1 (by have := HEb.out; omega) hw0 rfl)
    rw [if_neg h1] at h
    have d1 : (t.f0 == 1) = false := beq_eq_false_iff_ne.mpr h1
    by_cases h2 : t.f0 = 2
    · rw [if_pos h2] at h
      have d2 : (t.f0 == 2) = true := beq_iff_eq.mpr h2
      obtain ⟨rfl, rfl⟩ := Prod.mk.inj (Option.some.inj h)
      clear h1 h2 h
      go_enter Tryd.func173, Tryd.ntmps173
      go_wp2_with (first | ((with_reducible refine zS (N := 2) rfl ?_); refine zO ?hg (N := 2) ?hd (cs := #[.string (⟨#[]⟩ : ByteArray), .int .u16 0, .string (⟨#[]⟩ : ByteArray), .slice none 0 0]) (t := 50) ?hr ?_; (case hd => rfl); (case hg => rfl); (case hr => first | (go_simp; done) | (go_simp; rfl)); intro b hg w1 hbox hb; have HWb := zz_ hb; have BKb := zz_ hbox; have HEb := zz_ hg; obtain ⟨⟨x0, x1, x2, x3⟩, ⟨f0, f1, f2, f3⟩⟩ := blk50 hbox; have HS1 := zz_ (HS.out.below hb); have n1 : g ≠ b := (by omega); have n2 : b ≠ g := (by omega); obtain ⟨Az, cz, zl, zk, zo, gl, gk, go⟩ := St_cells HS1.out; clear hb hbox hg) | (go_at_call 154; refine (skip_calls HS1.out).mono ?_; rintro e' w2 ⟨rfl, hS2, hK2⟩; have BK2 := zz_ (hK2.blk BKb.out n2 (by simp)); have HS2 := zz_ hS2; have HK2 := zz_ hK2; have hlt2 := blk_lt BK2.out; have hglt2 := hS2.lt; clear hS2 hK2 zl zk zo gl gk go x0 x1 x2 x3 f0 f1 f2 f3) | ((with_reducible refine zS (N := 3) rfl ?_); refine zO ?hg (N := 3) ?hd (cs := #[.int .i64 0, .string (⟨#[]⟩ : ByteArray), .int .u16 0]) (t := 41) ?hr ?_; (case hd => rfl); (case hg => rfl); (case hr => first | (go_simp; done) | (go_simp; rfl)); intro q hq w3 hbox hb; have HW3 := zz_ hb; have BQ3 := zz_ hbox; have HE3 := zz_ hq; have n3 : g ≠ q := (by omega); have n4 : q ≠ g := (by omega); have n5 : b ≠ q := (by omega); have n6 : q ≠ b := (by omega); obtain ⟨⟨x0, x1, x2⟩, ⟨f0, f1, f2⟩⟩ := blk41 hbox; clear hb hbox hq) | ((with_reducible refine gate_store (t := 41) (p := 3) rfl ?_); refine store_event (t := 41) (p := 3) (v := ?vo) ?hg ?ho ?hN (w1 := put41 w3 q (.int .i64 t.f0) (.string t.f1) (.int .u16 t.f2)) ?hr ?_; (case ho => rfl); (case hg => rfl); (case hN => rfl); (case hr => first | (go_simp; done) | (go_simp; rfl)); intro w4 hw4; have hb4 := (show Below w2.heap.size w2 w4 from (by rw [hw4]; exact below_put41 HW3.out (by have := HE3.out; omega))); have AI4 := zz_ (show AI w0 w w4 g b q t ⟨l, k, o⟩ from ⟨zK BK2.out hb4, (by rw [hw4]; exact put41_blk BQ3.out), HS2.out.below hb4, ((zU.of_below HWb.out g none).trans HK2.out (.inl rfl)).trans (zU.of_below hb4 g none) (.inl rfl)⟩); obtain ⟨⟨y0, y1, y2⟩, _⟩ := blk41 AI4.out.kq; obtain ⟨⟨z0, z1, z2, z3⟩, ⟨p0, p1, p2, p3⟩⟩ := blk50 AI4.out.kb; clear hb4 hw4 x0 x1 x2 f0 f1 f2))
      exact bodyPost_ret (results_cell_row rfl _ _ b 50 #[.string (⟨⟨#[35]⟩, t.f2, ⟨#[]⟩, []⟩ : S50).f0, .int .u16 (⟨⟨#[35]⟩, t.f2, ⟨#[]⟩, []⟩ : S50).f1, .string (⟨⟨#[35]⟩, t.f2, ⟨#[]⟩, []⟩ : S50).f2, .slice none 0 0] (0, 0) _ rfl (put50_blk (zK AI4.out.kb (by first | exact Below.refl _ _ | exact zA (Below.refl _ _) _))) Tryd.underlying50 rfl (by kernel_rfl)) rfl (post_leaf (e := ⟨⟨#[35]⟩, t.f2, ⟨#[]⟩, []⟩) (St.below AI4.out.st (by first | exact Below.refl _ _ | exact zA (Below.refl _ _) _)) (AI4.out.below (by first | exact Below.refl _ _ | exact zA (Below.refl _ _) _)).kp n1 (by have := HEb.out; omega) hw0 rfl)
    rw [if_neg h2] at h
    have d2 : (t.f0 == 2) = false := beq_eq_false_iff_ne.mpr h2
    by_cases h3 : t.f0 = 3
    · rw [if_pos h3] at h
      have d3 : (t.f0 == 3) = true := beq_iff_eq.mpr h3
      by_cases hv : (valP t.f1).2 = 0
      · rw [if_pos hv] at h
        obtain ⟨rfl, rfl⟩ := Prod.mk.inj (Option.some.inj h)
        have HX := zz_ hv
        clear h1 h2 h3 h hv
        go_enter Tryd.func173, Tryd.ntmps173
        go_wp2_with (first | ((with_reducible refine zS (N := 2) rfl ?_); refine zO ?hg (N := 2) ?hd (cs := #[.string (⟨#[]⟩ : ByteArray), .int .u16 0, .string (⟨#[]⟩ : ByteArray), .slice none 0 0]) (t := 50) ?hr ?_; (case hd => rfl); (case hg => rfl); (case hr => first | (go_simp; done) | (go_simp; rfl)); intro b hg w1 hbox hb; have HWb := zz_ hb; have BKb := zz_ hbox; have HEb := zz_ hg; obtain ⟨⟨x0, x1, x2, x3⟩, ⟨f0, f1, f2, f3⟩⟩ := blk50 hbox; have HS1 := zz_ (HS.out.below hb); have n1 : g ≠ b := (by omega); have n2 : b ≠ g := (by omega); obtain ⟨Az, cz, zl, zk, zo, gl, gk, go⟩ := St_cells HS1.out; clear hb hbox hg) | (go_at_call 154; refine (skip_calls HS1.out).mono ?_; rintro e' w2 ⟨rfl, hS2, hK2⟩; have BK2 := zz_ (hK2.blk BKb.out n2 (by simp)); have HS2 := zz_ hS2; have HK2 := zz_ hK2; have hlt2 := blk_lt BK2.out; have hglt2 := hS2.lt; clear hS2 hK2 zl zk zo gl gk go x0 x1 x2 x3 f0 f1 f2 f3) | ((with_reducible refine zS (N := 3) rfl ?_); refine zO ?hg (N := 3) ?hd (cs := #[.int .i64 0, .string (⟨#[]⟩ : ByteArray), .int .u16 0]) (t := 41) ?hr ?_; (case hd => rfl); (case hg => rfl); (case hr => first | (go_simp; done) | (go_simp; rfl)); intro q hq w3 hbox hb; have HW3 := zz_ hb; have BQ3 := zz_ hbox; have HE3 := zz_ hq; have n3 : g ≠ q := (by omega); have n4 : q ≠ g := (by omega); have n5 : b ≠ q := (by omega); have n6 : q ≠ b := (by omega); obtain ⟨⟨x0, x1, x2⟩, ⟨f0, f1, f2⟩⟩ := blk41 hbox; clear hb hbox hq) | ((with_reducible refine gate_store (t := 41) (p := 3) rfl ?_); refine store_event (t := 41) (p := 3) (v := ?vo) ?hg ?ho ?hN (w1 := put41 w3 q (.int .i64 t.f0) (.string t.f1) (.int .u16 t.f2)) ?hr ?_; (case ho => rfl); (case hg => rfl); (case hN => rfl); (case hr => first | (go_simp; done) | (go_simp; rfl)); intro w4 hw4; have hb4 := (show Below w2.heap.size w2 w4 from (by rw [hw4]; exact below_put41 HW3.out (by have := HE3.out; omega))); have AI4 := zz_ (show AI w0 w w4 g b q t ⟨l, k, o⟩ from ⟨zK BK2.out hb4, (by rw [hw4]; exact put41_blk BQ3.out), HS2.out.below hb4, ((zU.of_below HWb.out g none).trans HK2.out (.inl rfl)).trans (zU.of_below hb4 g none) (.inl rfl)⟩); obtain ⟨⟨y0, y1, y2⟩, _⟩ := blk41 AI4.out.kq; obtain ⟨⟨z0, z1, z2, z3⟩, ⟨p0, p1, p2, p3⟩⟩ := blk50 AI4.out.kb; clear hb4 hw4 x0 x1 x2 f0 f1 f2) | (go_at_call 24; refine (value_calls t.f1 w4).mono ?_; rintro e' w5 ⟨rfl, hb5⟩; rw [HX.out]; have AI5 := zz_ (AI4.out.below hb5); clear hb5 y0 y1 y2 z0 z1 z2 z3 p0 p1 p2 p3 AI4; have AI4 := AI5; clear AI5; obtain ⟨⟨z0, z1, z2, z3⟩, ⟨p0, p1, p2, p3⟩⟩ := blk50 AI4.out.kb))
        exact bodyPost_ret (results_cell_row rfl _ _ b 50 #[.string (⟨⟨#[35]⟩, (valP t.f1).1, ⟨#[]⟩, []⟩ : S50).f0, .int .u16 (⟨⟨#[35]⟩, (valP t.f1).1, ⟨#[]⟩, []⟩ : S50).f1, .string (⟨⟨#[35]⟩, (valP t.f1).1, ⟨#[]⟩, []⟩ : S50).f2, .slice none 0 0] (0, 0) _ rfl (put50_blk (zK AI4.out.kb (by first | exact Below.refl _ _ | exact zA (Below.refl _ _) _))) Tryd.underlying50 rfl (by kernel_rfl)) rfl (post_leaf (e := ⟨⟨#[35]⟩, (valP t.f1).1, ⟨#[]⟩, []⟩) (St.below AI4.out.st (by first | exact Below.refl _ _ | exact zA (Below.refl _ _) _)) (AI4.out.below (by first | exact Below.refl _ _ | exact zA (Below.refl _ _) _)).kp n1 (by have := HEb.out; omega) hw0 rfl)
      · rw [if_neg hv] at h
        obtain ⟨vk, hvk⟩ : ∃ x, (valP t.f1).2 = x := ⟨_, rfl⟩
        rw [hvk] at h hv
        have HX := zz_ hvk
        have dv : (vk != 0) = true := bne_iff_ne.mpr hv
        (obtain ⟨he, ht⟩ := Prod.mk.inj (Option.some.inj h); obtain rfl : e0 = e := he; have HT := zz_ (show u = ⟨l, if k = 0 then vk else k, o⟩ from ht.symm); clear ht h)
        clear h1 h2 h3 hv hvk
        go_enter Tryd.func173, Tryd.ntmps173
        go_wp2_with (first | ((with_reducible refine zS (N := 2) rfl ?_); refine zO ?hg (N := 2) ?hd (cs := #[.string (⟨#[]⟩ : ByteArray), .int .u16 0, .string (⟨#[]⟩ : ByteArray), .slice none 0 0]) (t := 50) ?hr ?_; (case hd => rfl); (case hg => rfl); (case hr => first | (go_simp; done) | (go_simp; rfl)); intro b hg w1 hbox hb; have HWb := zz_ hb; have BKb := zz_ hbox; have HEb := zz_ hg; obtain ⟨⟨x0, x1, x2, x3⟩, ⟨f0, f1, f2, f3⟩⟩ := blk50 hbox; have HS1 := zz_ (HS.out.below hb); have n1 : g ≠ b := (by omega); have n2 : b ≠ g := (by omega); obtain ⟨Az, cz, zl, zk, zo, gl, gk, go⟩ := St_cells HS1.out; clear hb hbox hg) | (go_at_call 154; refine (skip_calls HS1.out).mono ?_; rintro e' w2 ⟨rfl, hS2, hK2⟩; have BK2 := zz_ (hK2.blk BKb.out n2 (by simp)); have HS2 := zz_ hS2; have HK2 := zz_ hK2; have hlt2 := blk_lt BK2.out; have hglt2 := hS2.lt; clear hS2 hK2 zl zk zo gl gk go x0 x1 x2 x3 f0 f1 f2 f3) | ((with_reducible refine zS (N := 3) rfl ?_); refine zO ?hg (N := 3) ?hd (cs := #[.int .i64 0, .string (⟨#[]⟩ : ByteArray), .int .u16 0]) (t := 41) ?hr ?_; (case hd => rfl); (case hg => rfl); (case hr => first | (go_simp; done) | (go_simp; rfl)); intro q hq w3 hbox hb; have HW3 := zz_ hb; have BQ3 := zz_ hbox; have HE3 := zz_ hq; have n3 : g ≠ q := (by omega); have n4 : q ≠ g := (by omega); have n5 : b ≠ q := (by omega); have n6 : q ≠ b := (by omega); obtain ⟨⟨x0, x1, x2⟩, ⟨f0, f1, f2⟩⟩ := blk41 hbox; clear hb hbox hq) | ((with_reducible refine gate_store (t := 41) (p := 3) rfl ?_); refine store_event (t := 41) (p := 3) (v := ?vo) ?hg ?ho ?hN (w1 := put41 w3 q (.int .i64 t.f0) (.string t.f1) (.int .u16 t.f2)) ?hr ?_; (case ho => rfl); (case hg => rfl); (case hN => rfl); (case hr => first | (go_simp; done) | (go_simp; rfl)); intro w4 hw4; have hb4 := (show Below w2.heap.size w2 w4 from (by rw [hw4]; exact below_put41 HW3.out (by have := HE3.out; omega))); have AI4 := zz_ (show AI w0 w w4 g b q t ⟨l, k, o⟩ from ⟨zK BK2.out hb4, (by rw [hw4]; exact put41_blk BQ3.out), HS2.out.below hb4, ((zU.of_below HWb.out g none).trans HK2.out (.inl rfl)).trans (zU.of_below hb4 g none) (.inl rfl)⟩); obtain ⟨⟨y0, y1, y2⟩, _⟩ := blk41 AI4.out.kq; obtain ⟨⟨z0, z1, z2, z3⟩, ⟨p0, p1, p2, p3⟩⟩ := blk50 AI4.out.kb; clear hb4 hw4 x0 x1 x2 f0 f1 f2) | (go_at_call 24; refine (value_calls t.f1 w4).mono ?_; rintro e' w5 ⟨rfl, hb5⟩; rw [HX.out]; have AI5 := zz_ (AI4.out.below hb5); clear hb5 y0 y1 y2 z0 z1 z2 z3 p0 p1 p2 p3 AI4; have AI4 := AI5; clear AI5; obtain ⟨⟨z0, z1, z2, z3⟩, ⟨p0, p1, p2, p3⟩⟩ := blk50 AI4.out.kb) | (go_at_call 192; refine (fail_calls' (St.below AI4.out.st (by first | exact Below.refl _ _ | exact zA (Below.refl _ _) _)) vk).mono ?_; rintro e' w6 ⟨A2, c2, rfl, hR, hS6, hK6⟩; have AI6 := zz_ ((AI4.out.below (by first | exact Below.refl _ _ | exact zA (Below.refl _ _) _)).keep (u := ⟨l, if k = 0 then vk else k, o⟩) hK6 hS6 n2 n4); have HR6 := zz_ hR; have HL6 := zz_ (show b < _ from blk_lt (AI4.out.below (by first | exact Below.refl _ _ | exact zA (Below.refl _ _) _)).kb); clear hS6 hK6 hR z0 z1 z2 z3 p0 p1 p2 p3; obtain ⟨⟨z0, z1, z2, z3⟩, ⟨p0, p1, p2, p3⟩⟩ := blk50 AI6.out.kb))
        rw [HT.out]; exact bodyPost_ret (results_cell_row rfl _ _ b 50 #[.string e0.f0, .int .u16 e0.f1, .string e0.f2, .slice A2 e0.f3.length c2] (0, 0) _ rfl (put50_blk AI6.out.kb) Tryd.underlying50 rfl (by kernel_rfl)) rfl (post_new (e := e0) (base := _) AI6.out.st AI6.out.kp n1 (by have := HEb.out; omega) hw0 HR6.out HL6.out)
    rw [if_neg h3] at h
    have d3 : (t.f0 == 3) = false := beq_eq_false_iff_ne.mpr h3
    by_cases h4 : t.f0 = 4
    · rw [if_pos h4] at h
      have d4 : (t.f0 == 4) = true := beq_iff_eq.mpr h4
      by_cases hd : t.f1.data.toList = [36]
      · rw [if_pos hd] at h
        obtain ⟨rfl, rfl⟩ := Prod.mk.inj (Option.some.inj h)
        obtain ⟨q1, q2⟩ := streq hd
        clear h1 h2 h3 h4 h hd
        go_enter Tryd.func173, Tryd.ntmps173
        go_wp2_with (first | ((with_reducible refine zS (N := 2) rfl ?_); refine zO ?hg (N := 2) ?hd (cs := #[.string (⟨#[]⟩ : ByteArray), .int .u16 0, .string (⟨#[]⟩ : ByteArray), .slice none 0 0]) (t := 50) ?hr ?_; (case hd => rfl); (case hg => rfl); (case hr => first | (go_simp; done) | (go_simp; rfl)); intro b hg w1 hbox hb; have HWb := zz_ hb; have BKb := zz_ hbox; have HEb := zz_ hg; obtain ⟨⟨x0, x1, x2, x3⟩, ⟨f0, f1, f2, f3⟩⟩ := blk50 hbox; have HS1 := zz_ (HS.out.below hb); have n1 : g ≠ b := (by omega); have n2 : b ≠ g := (by omega); obtain ⟨Az, cz, zl, zk, zo, gl, gk, go⟩ := St_cells HS1.out; clear hb hbox hg) | (go_at_call 154; refine (skip_calls HS1.out).mono ?_; rintro e' w2 ⟨rfl, hS2, hK2⟩; have BK2 := zz_ (hK2.blk BKb.out n2 (by simp)); have HS2 := zz_ hS2; have HK2 := zz_ hK2; have hlt2 := blk_lt BK2.out; have hglt2 := hS2.lt; clear hS2 hK2 zl zk zo gl gk go x0 x1 x2 x3 f0 f1 f2 f3) | ((with_reducible refine zS (N := 3) rfl ?_); refine zO ?hg (N := 3) ?hd (cs := #[.int .i64 0, .string (⟨#[]⟩ : ByteArray), .int .u16 0]) (t := 41) ?hr ?_; (case hd => rfl); (case hg => rfl); (case hr => first | (go_simp; done) | (go_simp; rfl)); intro q hq w3 hbox hb; have HW3 := zz_ hb; have BQ3 := zz_ hbox; have HE3 := zz_ hq; have n3 : g ≠ q := (by omega); have n4 : q ≠ g := (by omega); have n5 : b ≠ q := (by omega); have n6 : q ≠ b := (by omega); obtain ⟨⟨x0, x1, x2⟩, ⟨f0, f1, f2⟩⟩ := blk41 hbox; clear hb hbox hq) | ((with_reducible refine gate_store (t := 41) (p := 3) rfl ?_); refine store_event (t := 41) (p := 3) (v := ?vo) ?hg ?ho ?hN (w1 := put41 w3 q (.int .i64 t.f0) (.string t.f1) (.int .u16 t.f2)) ?hr ?_; (case ho => rfl); (case hg => rfl); (case hN => rfl); (case hr => first | (go_simp; done) | (go_simp; rfl)); intro w4 hw4; have hb4 := (show Below w2.heap.size w2 w4 from (by rw [hw4]; exact below_put41 HW3.out (by have := HE3.out; omega))); have AI4 := zz_ (show AI w0 w w4 g b q t ⟨l, k, o⟩ from ⟨zK BK2.out hb4, (by rw [hw4]; exact put41_blk BQ3.out), HS2.out.below hb4, ((zU.of_below HWb.out g none).trans HK2.out (.inl rfl)).trans (zU.of_below hb4 g none) (.inl rfl)⟩); obtain ⟨⟨y0, y1, y2⟩, _⟩ := blk41 AI4.out.kq; obtain ⟨⟨z0, z1, z2, z3⟩, ⟨p0, p1, p2, p3⟩⟩ := blk50 AI4.out.kb; clear hb4 hw4 x0 x1 x2 f0 f1 f2))
        exact bodyPost_ret (results_cell_row rfl _ _ b 50 #[.string (⟨⟨#[36]⟩, 0, ⟨#[]⟩, []⟩ : S50).f0, .int .u16 (⟨⟨#[36]⟩, 0, ⟨#[]⟩, []⟩ : S50).f1, .string (⟨⟨#[36]⟩, 0, ⟨#[]⟩, []⟩ : S50).f2, .slice none 0 0] (0, 0) _ rfl (put50_blk (zK AI4.out.kb (by first | exact Below.refl _ _ | exact zA (Below.refl _ _) _))) Tryd.underlying50 rfl (by kernel_rfl)) rfl (post_leaf (e := ⟨⟨#[36]⟩, 0, ⟨#[]⟩, []⟩) (St.below AI4.out.st (by first | exact Below.refl _ _ | exact zA (Below.refl _ _) _)) (AI4.out.below (by first | exact Below.refl _ _ | exact zA (Below.refl _ _) _)).kp n1 (by have := HEb.out; omega) hw0 rfl)
      rw [if_neg hd] at h
      obtain ⟨q1, q2⟩ := strne hd
      by_cases hp : t.f1.data.toList = [40]
      · rw [if_pos hp] at h
        obtain ⟨q3, q4⟩ := streq hp
        cases hb : withinP n 1 ⟨l, k, o⟩ with
        | none => rw [hb] at h; cases h
        | some y =>
          obtain ⟨e5, l5, k5, o5⟩ := y
          rw [hb] at h
          simp only at h
          have HB := zz_ hb
          cases ha : atP l5 4 [[41]] with
          | some s5 =>
            obtain ⟨t6, l6, rfl⟩ := at_some ha
            rw [ha, if_pos (show (some s5).isSome = true from rfl), List.drop_one, List.tail_cons] at h
            obtain ⟨rfl, rfl⟩ := Prod.mk.inj (Option.some.inj h)
            have HA := zz_ (show atP (t6 :: l6) 4 (([⟨#[41]⟩] : List ByteArray).map (·.data.toList)) = some s5 from ha)
            clear h1 h2 h3 h4 hd hp h hb ha
            go_enter Tryd.func173, Tryd.ntmps173
            go_wp2_with (first | ((with_reducible refine zS (N := 2) rfl ?_); refine zO ?hg (N := 2) ?hd (cs := #[.string (⟨#[]⟩ : ByteArray), .int .u16 0, .string (⟨#[]⟩ : ByteArray), .slice none 0 0]) (t := 50) ?hr ?_; (case hd => rfl); (case hg => rfl); (case hr => first | (go_simp; done) | (go_simp; rfl)); intro b hg w1 hbox hb; have HWb := zz_ hb; have BKb := zz_ hbox; have HEb := zz_ hg; obtain ⟨⟨x0, x1, x2, x3⟩, ⟨f0, f1, f2, f3⟩⟩ := blk50 hbox; have HS1 := zz_ (HS.out.below hb); have n1 : g ≠ b := (by omega); have n2 : b ≠ g := (by omega); obtain ⟨Az, cz, zl, zk, zo, gl, gk, go⟩ := St_cells HS1.out; clear hb hbox hg) | (go_at_call 154; refine (skip_calls HS1.out).mono ?_; rintro e' w2 ⟨rfl, hS2, hK2⟩; have BK2 := zz_ (hK2.blk BKb.out n2 (by simp)); have HS2 := zz_ hS2; have HK2 := zz_ hK2; have hlt2 := blk_lt BK2.out; have hglt2 := hS2.lt; clear hS2 hK2 zl zk zo gl gk go x0 x1 x2 x3 f0 f1 f2 f3) | ((with_reducible refine zS (N := 3) rfl ?_); refine zO ?hg (N := 3) ?hd (cs := #[.int .i64 0, .string (⟨#[]⟩ : ByteArray), .int .u16 0]) (t := 41) ?hr ?_; (case hd => rfl); (case hg => rfl); (case hr => first | (go_simp; done) | (go_simp; rfl)); intro q hq w3 hbox hb; have HW3 := zz_ hb; have BQ3 := zz_ hbox; have HE3 := zz_ hq; have n3 : g ≠ q := (by omega); have n4 : q ≠ g := (by omega); have n5 : b ≠ q := (by omega); have n6 : q ≠ b := (by omega); obtain ⟨⟨x0, x1, x2⟩, ⟨f0, f1, f2⟩⟩ := blk41 hbox; clear hb hbox hq) | ((with_reducible refine gate_store (t := 41) (p := 3) rfl ?_); refine store_event (t := 41) (p := 3) (v := ?vo) ?hg ?ho ?hN (w1 := put41 w3 q (.int .i64 t.f0) (.string t.f1) (.int .u16 t.f2)) ?hr ?_; (case ho => rfl); (case hg => rfl); (case hN => rfl); (case hr => first | (go_simp; done) | (go_simp; rfl)); intro w4 hw4; have hb4 := (show Below w2.heap.size w2 w4 from (by rw [hw4]; exact below_put41 HW3.out (by have := HE3.out; omega))); have AI4 := zz_ (show AI w0 w w4 g b q t ⟨l, k, o⟩ from ⟨zK BK2.out hb4, (by rw [hw4]; exact put41_blk BQ3.out), HS2.out.below hb4, ((zU.of_below HWb.out g none).trans HK2.out (.inl rfl)).trans (zU.of_below hb4 g none) (.inl rfl)⟩); obtain ⟨⟨y0, y1, y2⟩, _⟩ := blk41 AI4.out.kq; obtain ⟨⟨z0, z1, z2, z3⟩, ⟨p0, p1, p2, p3⟩⟩ := blk50 AI4.out.kb; clear hb4 hw4 x0 x1 x2 f0 f1 f2) | (go_at_call 172; refine (IW'.out 1 ⟨l, k, o⟩ _ _ w0 _ g HB.out AI4.out.st).mono ?_; rintro e' w5 ⟨A5, c5, rfl, hR, hS5, hK5⟩; have AI5 := zz_ (AI4.out.keep (u := ⟨(t6 :: l6), k5, o5⟩) hK5 hS5 n2 n4); have HR5 := zz_ hR; have hlt5 := blk_lt AI5.out.kb; have hglt5 := AI5.out.st.lt; have HZ5 := zz_ (show b < w4.heap.size ∧ g < w4.heap.size ∧ w.heap.size ≤ w4.heap.size from ⟨blk_lt AI4.out.kb, AI4.out.st.lt, AI4.out.kp.1⟩); clear hS5 hK5 hR y0 y1 y2 z0 z1 z2 z3 p0 p1 p2 p3) | ((with_reducible refine zS (N := 6) rfl ?_); refine zO ?hg (N := 6) ?hd (cs := #[.string (⟨#[]⟩ : ByteArray), .int .u16 0, .string (⟨#[]⟩ : ByteArray), .slice none 0 0]) (t := 50) ?hr ?_; (case hd => rfl); (case hg => rfl); (case hr => first | (go_simp; done) | (go_simp; rfl)); intro d hg w6 hbox hb; have HWd := zz_ hb; have BKd := zz_ hbox; have HEd := zz_ hg; obtain ⟨⟨x0, x1, x2, x3⟩, ⟨f0, f1, f2, f3⟩⟩ := blk50 hbox; have m3 : g ≠ d := (by omega); have m4 : d ≠ g := (by omega); have m5 : b ≠ d := (by omega); have m6 : d ≠ b := (by omega); clear hb hbox hg) | ((with_reducible refine gate_store (t := 50) (p := 6) rfl ?_); refine store_event (t := 50) (p := 6) (v := ?vo2) ?hg ?ho ?hN (w1 := put50 w6 d (.string e5.f0) (.int .u16 e5.f1) (.string e5.f2) (.slice A5 e5.f3.length c5)) ?hr ?_; (case ho => rfl); (case hg => rfl); (case hN => rfl); (case hr => first | (go_simp; done) | (go_simp; rfl)); intro w7 hw7; have hb7 := (show Below w5.heap.size w5 w7 from (by rw [hw7]; exact below_put HWd.out (by have := HEd.out; omega))); have LI7 := zz_ (show LI w0 w w7 g b d A5 c5 e5 ⟨(t6 :: l6), k5, o5⟩ from ⟨zK AI5.out.kb hb7, (by rw [hw7]; exact put50_blk BKd.out), (Kd.R_lower (Kd.R_below (Kd.R_mono (Kd.R_bound HR5.out) (fun k hk => (by have h1 := hk.2.1; have h2 := hk.2.2.1; have h3 := HEd.out; have h4 := HZ5.out; exact ⟨by omega, by omega, by omega⟩))) hb7) HZ5.out.2.2), AI5.out.st.below hb7, AI5.out.kp.trans (zU.of_below hb7 g none) (.inl rfl)⟩); clear hb7 hw7 x0 x1 x2 x3 f0 f1 f2 f3) | (go_at_call 171; refine (at_calls (w0 := w0) (g := g) (l := (t6 :: l6)) (k := k5) (o := o5) 4 _ 1 [⟨#[41]⟩] (St.is (LI7.out.st.below (zB (Below.refl _ _) _))) (LI7.out.st.below (zB (Below.refl _ _) _)).base (lit_C _ [⟨#[41]⟩] _ rfl (by decide)) (by decide) (by decide)).mono ?_; rintro e' w8 ⟨rfl, hd8⟩; rw [HA.out]; have LI8 := zz_ (LI7.out.below (zG (zB (Below.refl _ _) _) hd8.below)); obtain ⟨⟨x0, x1, x2, x3⟩, ⟨f0, f1, f2, f3⟩⟩ := blk50 LI8.out.kb; obtain ⟨⟨u0, u1, u2, u3⟩, ⟨v0, v1, v2, v3⟩⟩ := blk50 LI8.out.kd; clear hd8) | (go_at_call 154; refine (skip_calls LI8.out.st).mono ?_; rintro e' w9 ⟨rfl, hS9, hK9⟩; have LI9 := zz_ (LI.keep (t := ⟨l6, k5, o5⟩) LI8.out hK9 hS9 n2 m4); clear hS9 hK9 x0 x1 x2 x3 f0 f1 f2 f3 u0 u1 u2 u3 v0 v1 v2 v3; obtain ⟨⟨x0, x1, x2, x3⟩, ⟨f0, f1, f2, f3⟩⟩ := blk50 LI9.out.kb; obtain ⟨⟨u0, u1, u2, u3⟩, ⟨v0, v1, v2, v3⟩⟩ := blk50 LI9.out.kd))
            exact bodyPost_ret (results_cell_row rfl _ _ b 50 #[.string e5.f0, .int .u16 e5.f1, .string e5.f2, .slice A5 e5.f3.length c5] (0, 0) _ rfl (put50_blk LI9.out.kb) Tryd.underlying50 rfl (by kernel_rfl)) rfl (post_put (e := e5) (t := ⟨l6, k5, o5⟩) (base := w.heap.size) LI9.out.st LI9.out.kp n1 (by have := HEb.out; omega) hw0 (Kd.R_mono LI9.out.re (fun _ h => h.2.1)) (Nat.le_refl _))
          | none =>
            rw [ha, if_neg (by simp)] at h
            obtain ⟨he, ht⟩ := Prod.mk.inj (Option.some.inj h)
            obtain rfl : e0 = e := he
            have HT := zz_ (show u = ⟨l5, if k5 = 0 then 2 else k5, o5⟩ from ht.symm)
            have HA := zz_ (show atP l5 4 (([⟨#[41]⟩] : List ByteArray).map (·.data.toList)) = none from ha)
            clear h1 h2 h3 h4 hd hp h hb ha ht
            go_enter Tryd.func173, Tryd.ntmps173
            go_wp2_with (first | ((with_reducible refine zS (N := 2) rfl ?_); refine zO ?hg (N := 2) ?hd (cs := #[.string (⟨#[]⟩ : ByteArray), .int .u16 0, .string (⟨#[]⟩ : ByteArray), .slice none 0 0]) (t := 50) ?hr ?_; (case hd => rfl); (case hg => rfl); (case hr => first | (go_simp; done) | (go_simp; rfl)); intro b hg w1 hbox hb; have HWb := zz_ hb; have BKb := zz_ hbox; have HEb := zz_ hg; obtain ⟨⟨x0, x1, x2, x3⟩, ⟨f0, f1, f2, f3⟩⟩ := blk50 hbox; have HS1 := zz_ (HS.out.below hb); have n1 : g ≠ b := (by omega); have n2 : b ≠ g := (by omega); obtain ⟨Az, cz, zl, zk, zo, gl, gk, go⟩ := St_cells HS1.out; clear hb hbox hg) | (go_at_call 154; refine (skip_calls HS1.out).mono ?_; rintro e' w2 ⟨rfl, hS2, hK2⟩; have BK2 := zz_ (hK2.blk BKb.out n2 (by simp)); have HS2 := zz_ hS2; have HK2 := zz_ hK2; have hlt2 := blk_lt BK2.out; have hglt2 := hS2.lt; clear hS2 hK2 zl zk zo gl gk go x0 x1 x2 x3 f0 f1 f2 f3) | ((with_reducible refine zS (N := 3) rfl ?_); refine zO ?hg (N := 3) ?hd (cs := #[.int .i64 0, .string (⟨#[]⟩ : ByteArray), .int .u16 0]) (t := 41) ?hr ?_; (case hd => rfl); (case hg => rfl); (case hr => first | (go_simp; done) | (go_simp; rfl)); intro q hq w3 hbox hb; have HW3 := zz_ hb; have BQ3 := zz_ hbox; have HE3 := zz_ hq; have n3 : g ≠ q := (by omega); have n4 : q ≠ g := (by omega); have n5 : b ≠ q := (by omega); have n6 : q ≠ b := (by omega); obtain ⟨⟨x0, x1, x2⟩, ⟨f0, f1, f2⟩⟩ := blk41 hbox; clear hb hbox hq) | ((with_reducible refine gate_store (t := 41) (p := 3) rfl ?_); refine store_event (t := 41) (p := 3) (v := ?vo) ?hg ?ho ?hN (w1 := put41 w3 q (.int .i64 t.f0) (.string t.f1) (.int .u16 t.f2)) ?hr ?_; (case ho => rfl); (case hg => rfl); (case hN => rfl); (case hr => first | (go_simp; done) | (go_simp; rfl)); intro w4 hw4; have hb4 := (show Below w2.heap.size w2 w4 from (by rw [hw4]; exact below_put41 HW3.out (by have := HE3.out; omega))); have AI4 := zz_ (show AI w0 w w4 g b q t ⟨l, k, o⟩ from ⟨zK BK2.out hb4, (by rw [hw4]; exact put41_blk BQ3.out), HS2.out.below hb4, ((zU.of_below HWb.out g none).trans HK2.out (.inl rfl)).trans (zU.of_below hb4 g none) (.inl rfl)⟩); obtain ⟨⟨y0, y1, y2⟩, _⟩ := blk41 AI4.out.kq; obtain ⟨⟨z0, z1, z2, z3⟩, ⟨p0, p1, p2, p3⟩⟩ := blk50 AI4.out.kb; clear hb4 hw4 x0 x1 x2 f0 f1 f2) | (go_at_call 172; refine (IW'.out 1 ⟨l, k, o⟩ _ _ w0 _ g HB.out AI4.out.st).mono ?_; rintro e' w5 ⟨A5, c5, rfl, hR, hS5, hK5⟩; have AI5 := zz_ (AI4.out.keep (u := ⟨(l5), k5, o5⟩) hK5 hS5 n2 n4); have HR5 := zz_ hR; have hlt5 := blk_lt AI5.out.kb; have hglt5 := AI5.out.st.lt; have HZ5 := zz_ (show b < w4.heap.size ∧ g < w4.heap.size ∧ w.heap.size ≤ w4.heap.size from ⟨blk_lt AI4.out.kb, AI4.out.st.lt, AI4.out.kp.1⟩); clear hS5 hK5 hR y0 y1 y2 z0 z1 z2 z3 p0 p1 p2 p3) | ((with_reducible refine zS (N := 6) rfl ?_); refine zO ?hg (N := 6) ?hd (cs := #[.string (⟨#[]⟩ : ByteArray), .int .u16 0, .string (⟨#[]⟩ : ByteArray), .slice none 0 0]) (t := 50) ?hr ?_; (case hd => rfl); (case hg => rfl); (case hr => first | (go_simp; done) | (go_simp; rfl)); intro d hg w6 hbox hb; have HWd := zz_ hb; have BKd := zz_ hbox; have HEd := zz_ hg; obtain ⟨⟨x0, x1, x2, x3⟩, ⟨f0, f1, f2, f3⟩⟩ := blk50 hbox; have m3 : g ≠ d := (by omega); have m4 : d ≠ g := (by omega); have m5 : b ≠ d := (by omega); have m6 : d ≠ b := (by omega); clear hb hbox hg) | ((with_reducible refine gate_store (t := 50) (p := 6) rfl ?_); refine store_event (t := 50) (p := 6) (v := ?vo2) ?hg ?ho ?hN (w1 := put50 w6 d (.string e5.f0) (.int .u16 e5.f1) (.string e5.f2) (.slice A5 e5.f3.length c5)) ?hr ?_; (case ho => rfl); (case hg => rfl); (case hN => rfl); (case hr => first | (go_simp; done) | (go_simp; rfl)); intro w7 hw7; have hb7 := (show Below w5.heap.size w5 w7 from (by rw [hw7]; exact below_put HWd.out (by have := HEd.out; omega))); have LI7 := zz_ (show LI w0 w w7 g b d A5 c5 e5 ⟨(l5), k5, o5⟩ from ⟨zK AI5.out.kb hb7, (by rw [hw7]; exact put50_blk BKd.out), (Kd.R_lower (Kd.R_below (Kd.R_mono (Kd.R_bound HR5.out) (fun k hk => (by have h1 := hk.2.1; have h2 := hk.2.2.1; have h3 := HEd.out; have h4 := HZ5.out; exact ⟨by omega, by omega, by omega⟩))) hb7) HZ5.out.2.2), AI5.out.st.below hb7, AI5.out.kp.trans (zU.of_below hb7 g none) (.inl rfl)⟩); clear hb7 hw7 x0 x1 x2 x3 f0 f1 f2 f3) | (go_at_call 171; refine (at_calls (w0 := w0) (g := g) (l := (l5)) (k := k5) (o := o5) 4 _ 1 [⟨#[41]⟩] (St.is (LI7.out.st.below (zB (Below.refl _ _) _))) (LI7.out.st.below (zB (Below.refl _ _) _)).base (lit_C _ [⟨#[41]⟩] _ rfl (by decide)) (by decide) (by decide)).mono ?_; rintro e' w8 ⟨rfl, hd8⟩; rw [HA.out]; have LI8 := zz_ (LI7.out.below (zG (zB (Below.refl _ _) _) hd8.below)); obtain ⟨⟨x0, x1, x2, x3⟩, ⟨f0, f1, f2, f3⟩⟩ := blk50 LI8.out.kb; obtain ⟨⟨u0, u1, u2, u3⟩, ⟨v0, v1, v2, v3⟩⟩ := blk50 LI8.out.kd; clear hd8) | (go_at_call 192; refine (fail_calls' LI8.out.st 2).mono ?_; rintro e' w9 ⟨A2, c2, rfl, hR, hS9, hK9⟩; have HL9 := zz_ (show b < _ from blk_lt LI8.out.kb); have LI9 := zz_ (LI.keep (t := ⟨l5, if k5 = 0 then 2 else k5, o5⟩) LI8.out hK9 hS9 n2 m4); have HR9 := zz_ hR; clear hS9 hK9 hR x0 x1 x2 x3 f0 f1 f2 f3 u0 u1 u2 u3 v0 v1 v2 v3; obtain ⟨⟨x0, x1, x2, x3⟩, ⟨f0, f1, f2, f3⟩⟩ := blk50 LI9.out.kb))
            rw [HT.out]
            exact bodyPost_ret (results_cell_row rfl _ _ b 50 #[.string e0.f0, .int .u16 e0.f1, .string e0.f2, .slice A2 e0.f3.length c2] (0, 0) _ rfl (put50_blk LI9.out.kb) Tryd.underlying50 rfl (by kernel_rfl)) rfl (post_new (e := e0) (base := _) LI9.out.st LI9.out.kp n1 (by have := HEb.out; omega) hw0 HR9.out HL9.out)
      · rw [if_neg hp] at h
        obtain ⟨q3, q4⟩ := strne hp
        (obtain ⟨he, ht⟩ := Prod.mk.inj (Option.some.inj h); obtain rfl : e0 = e := he; have HT := zz_ (show u = ⟨l, if k = 0 then 2 else k, o⟩ from ht.symm); clear ht h)
        clear h1 h2 h3 h4 hd hp
        go_enter Tryd.func173, Tryd.ntmps173
        go_wp2_with (first | ((with_reducible refine zS (N := 2) rfl ?_); refine zO ?hg (N := 2) ?hd (cs := #[.string (⟨#[]⟩ : ByteArray), .int .u16 0, .string (⟨#[]⟩ : ByteArray), .slice none 0 0]) (t := 50) ?hr ?_; (case hd => rfl); (case hg => rfl); (case hr => first | (go_simp; done) | (go_simp; rfl)); intro b hg w1 hbox hb; have HWb := zz_ hb; have BKb := zz_ hbox; have HEb := zz_ hg; obtain ⟨⟨x0, x1, x2, x3⟩, ⟨f0, f1, f2, f3⟩⟩ := blk50 hbox; have HS1 := zz_ (HS.out.below hb); have n1 : g ≠ b := (by omega); have n2 : b ≠ g := (by omega); obtain ⟨Az, cz, zl, zk, zo, gl, gk, go⟩ := St_cells HS1.out; clear hb hbox hg) | (go_at_call 154; refine (skip_calls HS1.out).mono ?_; rintro e' w2 ⟨rfl, hS2, hK2⟩; have BK2 := zz_ (hK2.blk BKb.out n2 (by simp)); have HS2 := zz_ hS2; have HK2 := zz_ hK2; have hlt2 := blk_lt BK2.out; have hglt2 := hS2.lt; clear hS2 hK2 zl zk zo gl gk go x0 x1 x2 x3 f0 f1 f2 f3) | ((with_reducible refine zS (N := 3) rfl ?_); refine zO ?hg (N := 3) ?hd (cs := #[.int .i64 0, .string (⟨#[]⟩ : ByteArray), .int .u16 0]) (t := 41) ?hr ?_; (case hd => rfl); (case hg => rfl); (case hr => first | (go_simp; done) | (go_simp; rfl)); intro q hq w3 hbox hb; have HW3 := zz_ hb; have BQ3 := zz_ hbox; have HE3 := zz_ hq; have n3 : g ≠ q := (by omega); have n4 : q ≠ g := (by omega); have n5 : b ≠ q := (by omega); have n6 : q ≠ b := (by omega); obtain ⟨⟨x0, x1, x2⟩, ⟨f0, f1, f2⟩⟩ := blk41 hbox; clear hb hbox hq) | ((with_reducible refine gate_store (t := 41) (p := 3) rfl ?_); refine store_event (t := 41) (p := 3) (v := ?vo) ?hg ?ho ?hN (w1 := put41 w3 q (.int .i64 t.f0) (.string t.f1) (.int .u16 t.f2)) ?hr ?_; (case ho => rfl); (case hg => rfl); (case hN => rfl); (case hr => first | (go_simp; done) | (go_simp; rfl)); intro w4 hw4; have hb4 := (show Below w2.heap.size w2 w4 from (by rw [hw4]; exact below_put41 HW3.out (by have := HE3.out; omega))); have AI4 := zz_ (show AI w0 w w4 g b q t ⟨l, k, o⟩ from ⟨zK BK2.out hb4, (by rw [hw4]; exact put41_blk BQ3.out), HS2.out.below hb4, ((zU.of_below HWb.out g none).trans HK2.out (.inl rfl)).trans (zU.of_below hb4 g none) (.inl rfl)⟩); obtain ⟨⟨y0, y1, y2⟩, _⟩ := blk41 AI4.out.kq; obtain ⟨⟨z0, z1, z2, z3⟩, ⟨p0, p1, p2, p3⟩⟩ := blk50 AI4.out.kb; clear hb4 hw4 x0 x1 x2 f0 f1 f2) | (go_at_call 192; refine (fail_calls' (St.below AI4.out.st (by first | exact Below.refl _ _ | exact zA (Below.refl _ _) _)) 2).mono ?_; rintro e' w6 ⟨A2, c2, rfl, hR, hS6, hK6⟩; have AI6 := zz_ ((AI4.out.below (by first | exact Below.refl _ _ | exact zA (Below.refl _ _) _)).keep (u := ⟨l, if k = 0 then 2 else k, o⟩) hK6 hS6 n2 n4); have HR6 := zz_ hR; have HL6 := zz_ (show b < _ from blk_lt (AI4.out.below (by first | exact Below.refl _ _ | exact zA (Below.refl _ _) _)).kb); clear hS6 hK6 hR z0 z1 z2 z3 p0 p1 p2 p3; obtain ⟨⟨z0, z1, z2, z3⟩, ⟨p0, p1, p2, p3⟩⟩ := blk50 AI6.out.kb))
        rw [HT.out]; exact bodyPost_ret (results_cell_row rfl _ _ b 50 #[.string e0.f0, .int .u16 e0.f1, .string e0.f2, .slice A2 e0.f3.length c2] (0, 0) _ rfl (put50_blk AI6.out.kb) Tryd.underlying50 rfl (by kernel_rfl)) rfl (post_new (e := e0) (base := _) AI6.out.st AI6.out.kp n1 (by have := HEb.out; omega) hw0 HR6.out HL6.out)
    · rw [if_neg h4] at h
      have d4 : (t.f0 == 4) = false := beq_eq_false_iff_ne.mpr h4
      (obtain ⟨he, ht⟩ := Prod.mk.inj (Option.some.inj h); obtain rfl : e0 = e := he; have HT := zz_ (show u = ⟨l, if k = 0 then 2 else k, o⟩ from ht.symm); clear ht h)
      clear h1 h2 h3 h4
      go_enter Tryd.func173, Tryd.ntmps173
      go_wp2_with (first | ((with_reducible refine zS (N := 2) rfl ?_); refine zO ?hg (N := 2) ?hd (cs := #[.string (⟨#[]⟩ : ByteArray), .int .u16 0, .string (⟨#[]⟩ : ByteArray), .slice none 0 0]) (t := 50) ?hr ?_; (case hd => rfl); (case hg => rfl); (case hr => first | (go_simp; done) | (go_simp; rfl)); intro b hg w1 hbox hb; have HWb := zz_ hb; have BKb := zz_ hbox; have HEb := zz_ hg; obtain ⟨⟨x0, x1, x2, x3⟩, ⟨f0, f1, f2, f3⟩⟩ := blk50 hbox; have HS1 := zz_ (HS.out.below hb); have n1 : g ≠ b := (by omega); have n2 : b ≠ g := (by omega); obtain ⟨Az, cz, zl, zk, zo, gl, gk, go⟩ := St_cells HS1.out; clear hb hbox hg) | (go_at_call 154; refine (skip_calls HS1.out).mono ?_; rintro e' w2 ⟨rfl, hS2, hK2⟩; have BK2 := zz_ (hK2.blk BKb.out n2 (by simp)); have HS2 := zz_ hS2; have HK2 := zz_ hK2; have hlt2 := blk_lt BK2.out; have hglt2 := hS2.lt; clear hS2 hK2 zl zk zo gl gk go x0 x1 x2 x3 f0 f1 f2 f3) | ((with_reducible refine zS (N := 3) rfl ?_); refine zO ?hg (N := 3) ?hd (cs := #[.int .i64 0, .string (⟨#[]⟩ : ByteArray), .int .u16 0]) (t := 41) ?hr ?_; (case hd => rfl); (case hg => rfl); (case hr => first | (go_simp; done) | (go_simp; rfl)); intro q hq w3 hbox hb; have HW3 := zz_ hb; have BQ3 := zz_ hbox; have HE3 := zz_ hq; have n3 : g ≠ q := (by omega); have n4 : q ≠ g := (by omega); have n5 : b ≠ q := (by omega); have n6 : q ≠ b := (by omega); obtain ⟨⟨x0, x1, x2⟩, ⟨f0, f1, f2⟩⟩ := blk41 hbox; clear hb hbox hq) | ((with_reducible refine gate_store (t := 41) (p := 3) rfl ?_); refine store_event (t := 41) (p := 3) (v := ?vo) ?hg ?ho ?hN (w1 := put41 w3 q (.int .i64 t.f0) (.string t.f1) (.int .u16 t.f2)) ?hr ?_; (case ho => rfl); (case hg => rfl); (case hN => rfl); (case hr => first | (go_simp; done) | (go_simp; rfl)); intro w4 hw4; have hb4 := (show Below w2.heap.size w2 w4 from (by rw [hw4]; exact below_put41 HW3.out (by have := HE3.out; omega))); have AI4 := zz_ (show AI w0 w w4 g b q t ⟨l, k, o⟩ from ⟨zK BK2.out hb4, (by rw [hw4]; exact put41_blk BQ3.out), HS2.out.below hb4, ((zU.of_below HWb.out g none).trans HK2.out (.inl rfl)).trans (zU.of_below hb4 g none) (.inl rfl)⟩); obtain ⟨⟨y0, y1, y2⟩, _⟩ := blk41 AI4.out.kq; obtain ⟨⟨z0, z1, z2, z3⟩, ⟨p0, p1, p2, p3⟩⟩ := blk50 AI4.out.kb; clear hb4 hw4 x0 x1 x2 f0 f1 f2) | (go_at_call 192; refine (fail_calls' (St.below AI4.out.st (by first | exact Below.refl _ _ | exact zA (Below.refl _ _) _)) 2).mono ?_; rintro e' w6 ⟨A2, c2, rfl, hR, hS6, hK6⟩; have AI6 := zz_ ((AI4.out.below (by first | exact Below.refl _ _ | exact zA (Below.refl _ _) _)).keep (u := ⟨l, if k = 0 then 2 else k, o⟩) hK6 hS6 n2 n4); have HR6 := zz_ hR; have HL6 := zz_ (show b < _ from blk_lt (AI4.out.below (by first | exact Below.refl _ _ | exact zA (Below.refl _ _) _)).kb); clear hS6 hK6 hR z0 z1 z2 z3 p0 p1 p2 p3; obtain ⟨⟨z0, z1, z2, z3⟩, ⟨p0, p1, p2, p3⟩⟩ := blk50 AI6.out.kb))
      rw [HT.out]; exact bodyPost_ret (results_cell_row rfl _ _ b 50 #[.string e0.f0, .int .u16 e0.f1, .string e0.f2, .slice A2 e0.f3.length c2] (0, 0) _ rfl (put50_blk AI6.out.kb) Tryd.underlying50 rfl (by kernel_rfl)) rfl (post_new (e := e0) (base := _) AI6.out.st AI6.out.kp n1 (by have := HEb.out; omega) hw0 HR6.out HL6.out)
theorem all_calls (n : Nat) : (∀ m, m ≤ n → WithinAt m) ∧ (∀ m, m ≤ n → AtomAt m) ∧ (∀ m, m ≤ n → UnaryAt m) ∧ (∀ m, m ≤ n → BinAt m) := by
  induction n with
  | zero =>
    refine ⟨fun m hm => ?_, fun m hm => ?_, fun m hm => ?_, fun m hm => ?_⟩ <;> obtain rfl : m = 0 := by omega
    · intro r s e t w0 w g h; rw [withinP] at h; cases h
    · intro s e t w0 w g h; rw [atomP] at h; cases h
    · intro r s e t w0 w g h; rw [unaryP] at h; cases h
    · intro r s e t w0 w g h; rw [binP] at h; cases h
  | succ n ih =>
    obtain ⟨iw, ia, iu, ib⟩ := ih
    refine ⟨fun m hm => ?_, fun m hm => ?_, fun m hm => ?_, fun m hm => ?_⟩
    · rcases Nat.lt_or_ge m (n + 1) with h | h
      · exact iw m (by omega)
      · obtain rfl : m = n + 1 := by omega
        exact within_calls n (ib n (Nat.le_refl _))
    · rcases Nat.lt_or_ge m (n + 1) with h | h
      · exact ia m (by omega)
      · obtain rfl : m = n + 1 := by omega
        exact atom_calls n (iw n (Nat.le_refl _))
    · rcases Nat.lt_or_ge m (n + 1) with h | h
      · exact iu m (by omega)
      · obtain rfl : m = n + 1 := by omega
        exact unary_calls n (iw n (Nat.le_refl _)) (ia n (Nat.le_refl _)) (ib n (Nat.le_refl _))
    · rcases Nat.lt_or_ge m (n + 1) with h | h
      · exact ib m (by omega)
      · obtain rfl : m = n + 1 := by omega
        exact binary_calls n (iu n (Nat.le_refl _)) ib
theorem bin_all (n : Nat) : BinAt n := (all_calls n).2.2.2 n (Nat.le_refl _)
end Go.Proofs.YtejhagejjogbaaaDoor.PsrH
end
