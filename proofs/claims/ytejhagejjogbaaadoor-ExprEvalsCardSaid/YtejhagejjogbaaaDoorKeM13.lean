import Derived.Test.YtejhagejjogbaaaDoorKeM11
import Derived.Test.YtejhagejjogbaaaDoorKeM12
import Derived.Test.YtejhagejjogbaaaDoorProg
import Derived.Below
import Derived.Deep.Draws
import Derived.Deep.AppendLies
import Derived.Maps.AppendAt
import Derived.OwnWalk
import Derived.Laws.BytesArg
import Derived.Laws.MakeOwn
import Derived.Laws.OwnMore
import Derived.Deep.OwnRows
import Derived.Tactics
import Derived.Lib.ConvBytes
import Derived.Laws.Slices
import Derived.WalkKit
import Derived.KernelRfl
import Derived.RowKit3
import Derived.Deep.LoopGhost
import Derived.Deep.QuietTactic
import Derived.BigQuiet
import Derived.WideLaws
import Derived.Deep.DeepCutAuto
import Derived.Deep.CutBlock
import Derived.Deep.RegionHeld3
import Derived.Laws.Rows
import Derived.Lib.AppendStr
import Derived.ArgAppend
import Derived.Laws.IdiomCopy
import Derived.OrdersHeld
import Derived.Laws.BitsLemmas
import Derived.RowKit
import Derived.Test.YtejhagejjogbaaaDoorKeM2
import Derived.Test.YtejhagejjogbaaaDoorKeM3
import Derived.Test.YtejhagejjogbaaaDoorKeM4
import Derived.Test.YtejhagejjogbaaaDoorKeM5
import Derived.Test.YtejhagejjogbaaaDoorKeM6
import Derived.Test.YtejhagejjogbaaaDoorKeM7
import Derived.Test.YtejhagejjogbaaaDoorKeM8
import Derived.Test.YtejhagejjogbaaaDoorKeM9
import Derived.Test.YtejhagejjogbaaaDoorKeM10
import Derived.Test.YtejhagejjogbaaaDoorKeM1
section
namespace Go.Proofs.YtejhagejjogbaaaDoor.Right
open Go.RowKit YtejhagejjogbaaaDoorW.PrintWords YtejhagejjogbaaaDoorW.PrintLast YtejhagejjogbaaaDoorW.PrintMore Given Pn Pa Qa Qb AnyNot Num
set_option linter.unusedVariables false
set_option linter.unusedSimpArgs false
theorem binds_at (a : ByteArray) : expr_binds.f 3 a = some (bindsL a.data.toList) := by
  simp only [expr_binds.f, expr_binds.j0, expr_binds.j1, expr_binds.j2, Lib.toList_data]
  generalize a.data.toList = l
  by_cases h0 : l = [35]
  · subst h0; rfl
  by_cases h1 : l = [110]
  · subst h1; rfl
  by_cases h2 : l = [36]
  · subst h2; rfl
  by_cases h3 : l = [78, 69, 71]
  · subst h3; rfl
  by_cases h4 : l = [42]
  · subst h4; rfl
  by_cases h5 : l = [47]
  · subst h5; rfl
  by_cases h6 : l = [77, 79, 68]
  · subst h6; rfl
  by_cases h7 : l = [83, 72, 76]
  · subst h7; rfl
  by_cases h8 : l = [83, 72, 82]
  · subst h8; rfl
  by_cases h9 : l = [43]
  · subst h9; rfl
  by_cases h10 : l = [45]
  · subst h10; rfl
  by_cases h11 : l = [78, 79, 84]
  · subst h11; rfl
  by_cases h12 : l = [65, 78, 68]
  · subst h12; rfl
  by_cases h13 : l = [79, 82]
  · subst h13; rfl
  by_cases h14 : l = [88, 79, 82]
  · subst h14; rfl
  simp [bindsL, h0, h1, h2, h3, h4, h5, h6, h7, h8, h9, h10, h11, h12, h13, h14]
theorem binds_ev (a : ByteArray) : Ev (fun k => expr_binds.f k a) (bindsL a.data.toList) := Ev.of (expr_binds.mono a) (binds_at a)
theorem word_at (a : ByteArray) : expr_word.f a = some (wordL a.data.toList) := by
  simp only [expr_word.f, Lib.toList_data]
  generalize a.data.toList = l
  by_cases h0 : l = [79, 82]
  · subst h0; rfl
  by_cases h1 : l = [88, 79, 82]
  · subst h1; rfl
  by_cases h2 : l = [65, 78, 68]
  · subst h2; rfl
  by_cases h3 : l = [78, 79, 84]
  · subst h3; rfl
  by_cases h4 : l = [77, 79, 68]
  · subst h4; rfl
  by_cases h5 : l = [83, 72, 76]
  · subst h5; rfl
  by_cases h6 : l = [83, 72, 82]
  · subst h6; rfl
  simp [wordL, h0, h1, h2, h3, h4, h5, h6]
theorem nameQ_eq (l : List UInt8) : nameQ l = nameL l := rfl
theorem j2_ev (e : S50) (n : Nat) (hn : n + 1 ≤ 1000) (hok : e.f3.all (okB n) = true) (b x : Bool) (hx : x = (decide (e.f0.data.toList = [110]) && !b)) (r : Bool)
    (hr : r = ((if e.f0.data.toList = [110] then b else e.f2.data.toList == []) && e.f3.all (rightN n))) :
    Ev (fun k => expr_right.j2 k x e.f0 e.f1 e.f2 e.f3 ((n + 1 : Nat) : Int)) r := by
  refine Ev.step (fun k => rfl) ?_
  have ha : expr_anyNot.f e.f3 ((n + 1 : Nat) : Int) = some (e.f3.any fun e => !rightN n e) := by
    unfold expr_anyNot.f
    have e1 : (((n + 1 : Nat) : Int) - 1).toNat = n := by omega
    rw [e1, if_pos ⟨by omega, by omega, hok⟩]
  have hall : (!(e.f3.any fun e => !rightN n e)) = e.f3.all (rightN n) := by
    rw [List.all_eq_not_any_not]
  simp only [expr_right.j2, ha, Option.bind_some, hall, Lib.toList_data]
  subst hx hr
  by_cases h : e.f0.data.toList = [110]
  · simp only [h, if_true, decide_true, Bool.true_and]
    cases b
    · simp only [Bool.not_false, if_true, Bool.false_and]; exact Ev.now _
    · simp only [Bool.not_true, Bool.false_eq_true, if_false, Bool.true_and]; exact Ev.now _
  · simp only [h, if_false, decide_false, Bool.false_and, Bool.false_eq_true]
    by_cases h2 : e.f2.data.toList = []
    · simp only [h2, if_true, beq_self_eq_true, Bool.true_and]; exact Ev.now _
    · have h3 : (e.f2.data.toList == []) = false := beq_eq_false_iff_ne.mpr h2
      simp only [h2, if_false, h3, Bool.false_and]; exact Ev.now _
theorem j1_ev (e : S50) (m : Int) (b x : Bool) (r : Bool) (h1 : x = true → r = false)
    (h2 : x = false → ∃ n : Nat, m = ((n + 1 : Nat) : Int) ∧ n + 1 ≤ 1000 ∧ e.f3.all (okB n) = true ∧ r = ((if e.f0.data.toList = [110] then b else e.f2.data.toList == []) && e.f3.all (rightN n))) :
    Ev (fun k => expr_right.j1 k b x e.f0 e.f1 e.f2 e.f3 m) r := by
  refine Ev.step (fun k => rfl) ?_
  simp only [expr_right.j1, Lib.toList_data]
  cases x with
  | true => simp only [if_true]; rw [h1 rfl]; exact Ev.now _
  | false =>
    obtain ⟨n, rfl, hn, hok, hr⟩ := h2 rfl
    simp only [Bool.false_eq_true, if_false]
    by_cases h : e.f0.data.toList = [110]
    · simp only [if_pos h]
      exact j2_ev e n hn hok b _ (by simp [h]) r hr
    · simp only [if_neg h]
      exact j2_ev e n hn hok b _ (by simp [h]) r hr
theorem j0_ev (e : S50) (m : Nat) (hm : m ≤ 1000) (hok : okB m e = true) (b : Bool) (hb : e.f0.data.toList = [110] → b = namedL e.f2.data.toList) :
    Ev (fun k => expr_right.j0 k (bindsL e.f0.data.toList).1 (bindsL e.f0.data.toList).2 b e.f0 e.f1 e.f2 e.f3 (m : Int)) (rightN m e) := by
  refine Ev.step (fun k => rfl) ?_
  simp only [expr_right.j0, Lib.toList_data]
  cases m with
  | zero =>
    simp only [if_pos (show ((0 : Nat) : Int) = 0 from rfl)]
    exact j1_ev e _ b _ _ (fun _ => rfl) (fun h => by simp at h)
  | succ n =>
    simp only [okB, Bool.and_eq_true] at hok
    simp only [if_neg (show ¬ (((n + 1 : Nat) : Int) = 0) by omega)]
    have last (hc : condR e = (if e.f0.data.toList = [110] then b else e.f2.data.toList == [])) : ∃ n' : Nat, ((n + 1 : Nat) : Int) = ((n' + 1 : Nat) : Int) ∧ n' + 1 ≤ 1000 ∧ e.f3.all (okB n') = true ∧ rightN (n + 1) e = ((if e.f0.data.toList = [110] then b else e.f2.data.toList == []) && e.f3.all (rightN n')) :=
      ⟨n, rfl, hm, hok.2, by rw [rightN, hc]⟩
    have hbn : (if e.f0.data.toList = [110] then b else e.f2.data.toList == []) = (if e.f0.data.toList = [110] then namedL e.f2.data.toList else e.f2.data.toList == []) := by
      by_cases h : e.f0.data.toList = [110]
      · rw [if_pos h, if_pos h, hb h]
      · rw [if_neg h, if_neg h]
    by_cases h0 : (bindsL e.f0.data.toList).1 = 0
    · simp only [if_pos h0]
      refine j1_ev e _ b _ _ (fun _ => ?_) (fun h => by rw [h0] at h; simp at h)
      simp [rightN, condR, h0]
    · simp only [if_neg h0]
      by_cases hl : (e.f3.length : Int) = (bindsL e.f0.data.toList).2
      · simp only [if_pos hl]
        by_cases hN : e.f1 = 0
        · simp only [if_pos hN]
          refine j1_ev e _ b _ _ (fun h => by cases h) (fun _ => last ?_)
          rw [hbn]
          simp [condR, h0, hl, hN]
        · simp only [if_neg hN]
          by_cases ho : e.f0.data.toList = [35]
          · refine j1_ev e _ b _ _ (fun h => by rw [ho] at h; simp at h) (fun _ => last ?_)
            rw [hbn]
            have h3 : (e.f0.data.toList == [35]) = true := beq_iff_eq.mpr ho
            simp only [condR, decide_eq_true (show (bindsL e.f0.data.toList).1 ≠ 0 from h0), decide_eq_true hl, h3, Bool.or_true, Bool.true_and]
          · refine j1_ev e _ b _ _ (fun _ => ?_) (fun h => by simp at h; exact absurd h ho)
            have h3 : (e.f0.data.toList == [35]) = false := beq_eq_false_iff_ne.mpr ho
            simp [rightN, condR, hN, h3]
      · simp only [if_neg hl]
        refine j1_ev e _ b _ _ (fun _ => ?_) (fun h => by simp at h; exact absurd h hl)
        simp [rightN, condR, hl]
theorem ok_size {m : Nat} {e : S50} (h : okB m e = true) : e.f2.size ≤ 1000 := by
  cases m <;> simp [okB] at h
  · exact h
  · exact h.1
theorem right_ev (e : S50) (m : Nat) (hm : m ≤ 1000) (hok : okB m e = true) : Ev (fun k => expr_right.f k e.f0 e.f1 e.f2 e.f3 (m : Int)) (rightN m e) := by
  have hz := ok_size hok
  unfold expr_right.f
  refine Ev.bind (binds_ev e.f0) ?_
  simp only [Lib.toList_data]
  by_cases h : e.f0.data.toList = [110]
  · simp only [if_pos h]
    refine Ev.bind (num_name e.f2 (by omega)) ?_
    have hu : L e.f2 = e.f2.data.toList := rfl
    rw [hu, ← nameQ_eq]
    have j (b : Bool) (hb : b = namedL e.f2.data.toList) := j0_ev e m hm hok b (fun _ => hb)
    cases hn : nameQ e.f2.data.toList with
    | false =>
      simp only [Bool.false_eq_true, if_false]
      exact j false (by simp [namedL, hn])
    | true =>
      simp only [if_true, num_upper e.f2 (by omega), Option.bind_some, Lib.toList_data]
      have hup : (upB e.f2).data.toList = e.f2.data.toList.map up1 := L_up e.f2
      rw [hup]
      by_cases he : e.f2.data.toList.map up1 = e.f2.data.toList
      · simp only [if_pos he, word_at, Option.bind_some]
        exact j _ (by simp [namedL, hn, he])
      · simp only [if_neg he]
        have h3 : (e.f2.data.toList.map up1 == e.f2.data.toList) = false := beq_eq_false_iff_ne.mpr he
        exact j false (by simp [namedL, hn, h3])
  · simp only [if_neg h]
    exact j0_ev e m hm hok false (fun h' => absurd h' h)
theorem right_all (m : Nat) : m ≤ 1000 → RightAt m := by
  induction m using Nat.strongRecOn with
  | _ m ih =>
    intro hm e A c w hr hc hok
    obtain ⟨k, hk⟩ := right_ev e m hm hok
    exact expr_right.calls k e.f0 e.f1 e.f2 A c e.f3 (m : Int) (rightN m e) w ⟨fun n hn => ih n (by omega) (by omega)⟩ hr hc (hk k (Nat.le_refl _))
namespace R
def expr_right.f (a0_0 : ByteArray) (a0_1 : Int) (a0_2 : ByteArray) (l0_3 : List S50) (a1 : Int) : Option Bool :=
  if 0 ≤ a1 ∧ a1 ≤ 1000 ∧ okB a1.toNat ⟨a0_0, a0_1, a0_2, l0_3⟩ = true then some (rightN a1.toNat ⟨a0_0, a0_1, a0_2, l0_3⟩) else none
theorem expr_right.calls (a0_0 : ByteArray) (a0_1 : Int) (a0_2 : ByteArray) (A0_3 : Option Addr) (c0_3 : Nat) (l0_3 : List S50) (a1 : Int) (r : Bool) (w : World) (hr0_3 : Kd.C k50 w A0_3 l0_3.length l0_3) (hc0_3 : l0_3.length ≤ c0_3) (h : expr_right.f a0_0 a0_1 a0_2 l0_3 a1 = some r) :
    Calls Tryd.prog 121 #[.agg #[.string a0_0, .int .u16 a0_1, .string a0_2, .slice A0_3 l0_3.length c0_3], .int .i64 a1] w fun e w' => e = .returned (.bool r) ∧ Below w.heap.size w w' := by
  unfold expr_right.f at h
  by_cases hs : 0 ≤ a1 ∧ a1 ≤ 1000 ∧ okB a1.toNat ⟨a0_0, a0_1, a0_2, l0_3⟩ = true
  · rw [if_pos hs] at h
    obtain rfl := Option.some.inj h
    obtain ⟨n, rfl⟩ : ∃ n : Nat, a1 = (n : Int) := ⟨a1.toNat, by omega⟩
    exact right_all n (by omega) ⟨a0_0, a0_1, a0_2, l0_3⟩ A0_3 c0_3 w hr0_3 hc0_3 hs.2.2
  · rw [if_neg hs] at h; cases h
end R
end Go.Proofs.YtejhagejjogbaaaDoor.Right
end
section
namespace Go.Proofs.YtejhagejjogbaaaDoor.Qc
open Go.RowKit YtejhagejjogbaaaDoorW.PrintWords YtejhagejjogbaaaDoorW.PrintLast YtejhagejjogbaaaDoorW.PrintMore Given TokSpan TokJoin TokRep Right.R Pn Pa Pb Pc Pd Pe Qa
attribute [local go_sem] max2_int min2_int max_two min_two max_three min_three max_four min_four   -- for this text's walks alone
set_option linter.unusedVariables false
set_option linter.unusedSimpArgs false
def errW : Option Int → Value
 | none => .nilIface
 | some c => .iface 0 (.int .i64 c)
theorem zN : errW none = .nilIface := rfl
theorem zM (c : Int) : errW (some c) = .iface 0 (.int .i64 c) := rfl
end Go.Proofs.YtejhagejjogbaaaDoor.Qc
end
section
namespace Go.Proofs.YtejhagejjogbaaaDoor.Qc
open Go.RowKit YtejhagejjogbaaaDoorW.PrintWords YtejhagejjogbaaaDoorW.PrintLast YtejhagejjogbaaaDoorW.PrintMore Given TokSpan TokJoin TokRep Right.R Pn Pa Pb Pc Pd Pe Qa
attribute [local go_sem] max2_int min2_int max_two min_two max_three min_three max_four min_four   -- for this text's walks alone
set_option linter.unusedVariables false
set_option linter.unusedSimpArgs false
def expr_Right.f (a0_0 : ByteArray) (a0_1 : Int) (a0_2 : ByteArray) (l0_3 : List (S50)) : Option (Int) := (expr_right.f a0_0 a0_1 a0_2 l0_3 24).bind fun t102 => (if t102 = true then (some 0) else (some 2))
set_option maxHeartbeats 8000000 in
set_option maxRecDepth 100000 in
theorem expr_Right.calls (a0_0 : ByteArray) (a0_1 : Int) (a0_2 : ByteArray) (A0_3 : Option Addr) (c0_3 : Nat) (l0_3 : List (S50)) (r : Int) (w : World) (hr0_3 : Kd.C k50 w A0_3 l0_3.length l0_3) (hc0_3 : l0_3.length ≤ c0_3) (h : expr_Right.f a0_0 a0_1 a0_2 l0_3 = some r) :
  Calls Tryd.prog 76 #[.agg #[.string a0_0, .int .u16 a0_1, .string a0_2, .slice A0_3 l0_3.length c0_3]] w fun e w' => e = .returned (.int .i64 r) ∧ Below w.heap.size w w' := by
 have hu50 := Tryd.underlying50
 have HR0_3 := zz_ hr0_3
 have HC0_3 := zz_ hc0_3
 clear hr0_3 hc0_3
 have HB := zz_ (Below.refl w.heap.size w)
 have H : ((expr_right.f a0_0 a0_1 a0_2 l0_3 24).bind fun t102 => (if t102 = true then (some 0) else (some 2))) = some r := h
 clear h
 replace H := Option.bind_eq_some_iff.mp H
 obtain ⟨t102, A20, H⟩ := H
 replace H : (if t102 = true then (some 0) else (some 2)) = some r := H
 have A2 := zz_ A20
 clear A20
 by_cases c3 : t102 = true
 ·subst c3
  have H1 : (some 0) = some r := by rw [if_pos rfl] at H; exact H
  clear H
  have H := H1
  clear H1
  obtain rfl := Option.some.inj H
  go_enter Tryd.func76, Tryd.ntmps76
  go_wp2_with (first | ((with_reducible refine zS (N := 1) rfl ?_); refine zO ?hg (N := 1) ?hd (cs := #[.string a0_0, .int .u16 a0_1, .string a0_2, .slice A0_3 l0_3.length c0_3]) (t := 50) ?hr ?_; (case hd => rfl); (case hg => rfl); (case hr => first | (go_simp; done) | (go_simp; rfl)); intro gb101 hg w4 hbox hb; have n0_ := zz_ (zG (by repeat (first | (with_reducible first | exact HB.out | apply zB | apply zA | apply zC) | exact HB.out)) hb); have n1_ := zz_ (hbox); have n2_ := zz_ ((by rw [hg]; exact (zR (by repeat (first | (with_reducible first | exact HB.out | apply zB | apply zA | apply zC) | exact HB.out))) : w.heap.size ≤ gb101)); have n3_ := zz_ ((by rw [hg]; exact (zR (by repeat (first | (with_reducible first | exact HB.out | apply zB | apply zA | apply zC) | exact HB.out))) : w.heap.size ≤ gb101)); clear HB; have HB := n0_; have BK101 := n1_; have GW101 := n2_; have GE101 := n3_; clear n0_ n1_ n2_ n3_; clear hb hbox hg; have hcz5_0 : w4.cell? ⟨gb101, 0, none⟩ = some (.string a0_0) := (zD BK101.out 0).trans rfl; have hcz5_1 : w4.cell? ⟨gb101, 1, none⟩ = some (.int .u16 a0_1) := (zD BK101.out 1).trans rfl; have hcz5_2 : w4.cell? ⟨gb101, 2, none⟩ = some (.string a0_2) := (zD BK101.out 2).trans rfl; have hcz5_3 : w4.cell? ⟨gb101, 3, none⟩ = some (.slice A0_3 l0_3.length c0_3) := (zD BK101.out 3).trans rfl; have hfz5_0 := zE BK101.out 0; have hfz5_1 := zE BK101.out 1; have hfz5_2 := zE BK101.out 2; have hfz5_3 := zE BK101.out 3) | ((with_reducible refine zQ (f := 121) rfl ?_); refine goesL_ (some 4) rfl rfl Tryd.func121 (by kernel_rfl) rfl #[.agg #[.string a0_0, .int .u16 a0_1, .string a0_2, .slice A0_3 l0_3.length c0_3], .int .i64 24] rfl (by (try simp only [List.map_toArray, List.map_cons, List.map_nil]); first | done | rfl | (simp only [List.length_drop, List.length_take]; rfl)) ?_; (with_reducible refine (expr_right.calls a0_0 a0_1 a0_2 _ _ l0_3 24 true _ ?side1 ?side2 A2.out).mono ?_); (case side1 => repeat (first | exact (Kd.zV HR0_3.out HB.out) | (with_reducible refine Kd.C_alloc ?_ _) | (with_reducible refine Kd.C_drewN ?_ _) | (with_reducible refine Kd.C_drew ?_))); (case side2 => exact HC0_3.out); rintro e w6 ⟨rfl, hb⟩; refine ⟨_, rfl, ?_⟩; have n0_ := zz_ (zK (g := gb101) (o := .cells #[.string a0_0, .int .u16 a0_1, .string a0_2, .slice A0_3 l0_3.length c0_3] 50 (0, 0)) (by (with_reducible repeat (first | refine zH ?_ _ | refine zJ ?_ | refine zI ?_ _)); exact BK101.out) hb); have n1_ := zz_ (zG (by repeat (first | (with_reducible first | exact HB.out | apply zB | apply zA | apply zC | refine zF ?_ GE101.out) | exact HB.out)) hb); clear BK101; clear HB; have BK101 := n0_; have HB := n1_; clear n0_ n1_; (try clear hb)))
  go_ret
  exact ⟨by first | rfl | (simp [zN, zM] <;> rfl) | (simp [*, zN, zM] <;> rfl), by repeat (first | (with_reducible first | exact HB.out | apply zB | apply zA | apply zC | refine zF ?_ GE101.out) | exact HB.out)⟩
 ·replace c3 := Bool.eq_false_iff.mpr c3
  subst c3
  have H1 : (some 2) = some r := by rw [if_neg (show ¬ (false = true) by decide)] at H; exact H
  clear H
  have H := H1
  clear H1
  obtain rfl := Option.some.inj H
  go_enter Tryd.func76, Tryd.ntmps76
  go_wp2_with (first | ((with_reducible refine zS (N := 1) rfl ?_); refine zO ?hg (N := 1) ?hd (cs := #[.string a0_0, .int .u16 a0_1, .string a0_2, .slice A0_3 l0_3.length c0_3]) (t := 50) ?hr ?_; (case hd => rfl); (case hg => rfl); (case hr => first | (go_simp; done) | (go_simp; rfl)); intro gb101 hg w7 hbox hb; have n0_ := zz_ (zG (by repeat (first | (with_reducible first | exact HB.out | apply zB | apply zA | apply zC) | exact HB.out)) hb); have n1_ := zz_ (hbox); have n2_ := zz_ ((by rw [hg]; exact (zR (by repeat (first | (with_reducible first | exact HB.out | apply zB | apply zA | apply zC) | exact HB.out))) : w.heap.size ≤ gb101)); have n3_ := zz_ ((by rw [hg]; exact (zR (by repeat (first | (with_reducible first | exact HB.out | apply zB | apply zA | apply zC) | exact HB.out))) : w.heap.size ≤ gb101)); clear HB; have HB := n0_; have BK101 := n1_; have GW101 := n2_; have GE101 := n3_; clear n0_ n1_ n2_ n3_; clear hb hbox hg; have hcz8_0 : w7.cell? ⟨gb101, 0, none⟩ = some (.string a0_0) := (zD BK101.out 0).trans rfl; have hcz8_1 : w7.cell? ⟨gb101, 1, none⟩ = some (.int .u16 a0_1) := (zD BK101.out 1).trans rfl; have hcz8_2 : w7.cell? ⟨gb101, 2, none⟩ = some (.string a0_2) := (zD BK101.out 2).trans rfl; have hcz8_3 : w7.cell? ⟨gb101, 3, none⟩ = some (.slice A0_3 l0_3.length c0_3) := (zD BK101.out 3).trans rfl; have hfz8_0 := zE BK101.out 0; have hfz8_1 := zE BK101.out 1; have hfz8_2 := zE BK101.out 2; have hfz8_3 := zE BK101.out 3) | ((with_reducible refine zQ (f := 121) rfl ?_); refine goesL_ (some 4) rfl rfl Tryd.func121 (by kernel_rfl) rfl #[.agg #[.string a0_0, .int .u16 a0_1, .string a0_2, .slice A0_3 l0_3.length c0_3], .int .i64 24] rfl (by (try simp only [List.map_toArray, List.map_cons, List.map_nil]); first | done | rfl | (simp only [List.length_drop, List.length_take]; rfl)) ?_; (with_reducible refine (expr_right.calls a0_0 a0_1 a0_2 _ _ l0_3 24 false _ ?side1 ?side2 A2.out).mono ?_); (case side1 => repeat (first | exact (Kd.zV HR0_3.out HB.out) | (with_reducible refine Kd.C_alloc ?_ _) | (with_reducible refine Kd.C_drewN ?_ _) | (with_reducible refine Kd.C_drew ?_))); (case side2 => exact HC0_3.out); rintro e w9 ⟨rfl, hb⟩; refine ⟨_, rfl, ?_⟩; have n0_ := zz_ (zK (g := gb101) (o := .cells #[.string a0_0, .int .u16 a0_1, .string a0_2, .slice A0_3 l0_3.length c0_3] 50 (0, 0)) (by (with_reducible repeat (first | refine zH ?_ _ | refine zJ ?_ | refine zI ?_ _)); exact BK101.out) hb); have n1_ := zz_ (zG (by repeat (first | (with_reducible first | exact HB.out | apply zB | apply zA | apply zC | refine zF ?_ GE101.out) | exact HB.out)) hb); clear BK101; clear HB; have BK101 := n0_; have HB := n1_; clear n0_ n1_; (try clear hb)))
  go_ret
  exact ⟨by first | rfl | (simp [zN, zM] <;> rfl) | (simp [*, zN, zM] <;> rfl), by repeat (first | (with_reducible first | exact HB.out | apply zB | apply zA | apply zC | refine zF ?_ GE101.out) | exact HB.out)⟩
def expr_Show.f (k : Nat) (a0_0 : ByteArray) (a0_1 : Int) (a0_2 : ByteArray) (l0_3 : List (S50)) : Option (ByteArray × Int) := (expr_Right.f a0_0 a0_1 a0_2 l0_3).bind fun t104 => (if t104 = 0 then ((expr_show.f k a0_0 a0_1 a0_2 l0_3 1).bind fun t105 => (some (t105, 0))) else (some ((⟨#[]⟩ : ByteArray), t104)))
set_option maxHeartbeats 8000000 in
set_option maxRecDepth 100000 in
theorem expr_Show.calls (k : Nat) (a0_0 : ByteArray) (a0_1 : Int) (a0_2 : ByteArray) (A0_3 : Option Addr) (c0_3 : Nat) (l0_3 : List (S50)) (r1 : ByteArray) (r2 : Int) (w : World) (hG : Aside0 (G0 w)) (hr0_3 : Kd.C k50 w A0_3 l0_3.length l0_3) (hc0_3 : l0_3.length ≤ c0_3) (h : expr_Show.f k a0_0 a0_1 a0_2 l0_3 = some (r1, r2)) :
  Calls Tryd.prog 44 #[.agg #[.string a0_0, .int .u16 a0_1, .string a0_2, .slice A0_3 l0_3.length c0_3]] w fun e w' => e = .returned (.tuple #[.string r1, .int .i64 r2]) ∧ Below w.heap.size w w' := by
 have hu50 := Tryd.underlying50
 have HR0_3 := zz_ hr0_3
 have HC0_3 := zz_ hc0_3
 clear hr0_3 hc0_3
 have HB := zz_ (Below.refl w.heap.size w)
 have H : ((expr_Right.f a0_0 a0_1 a0_2 l0_3).bind fun t104 => (if t104 = 0 then ((expr_show.f k a0_0 a0_1 a0_2 l0_3 1).bind fun t105 => (some (t105, 0))) else (some ((⟨#[]⟩ : ByteArray), t104)))) = some (r1, r2) := h
 clear h
 replace H := Option.bind_eq_some_iff.mp H
 obtain ⟨t104, A20, H⟩ := H
 replace H : (if t104 = 0 then ((expr_show.f k a0_0 a0_1 a0_2 l0_3 1).bind fun t105 => (some (t105, 0))) else (some ((⟨#[]⟩ : ByteArray), t104))) = some (r1, r2) := H
 have A2 := zz_ A20
 clear A20
 by_cases c3 : t104 = 0
 ·rw [if_pos c3] at H
  have c3b0 : (t104 == 0) = true := beq_iff_eq.mpr c3
  have c3b1 : (t104 != 0) = false := bne_eq_false_iff_eq.mpr c3
  clear c3
  replace H := Option.bind_eq_some_iff.mp H
  obtain ⟨t105, A40, H⟩ := H
  replace H : (some (t105, 0)) = some (r1, r2) := H
  have A4 := zz_ A40
  clear A40
  simp only [Option.some.injEq, Prod.mk.injEq] at H
  obtain ⟨rfl, rfl⟩ := H
  go_enter Tryd.func44, Tryd.ntmps44
  go_wp2_with (first | ((with_reducible refine zS (N := 1) rfl ?_); refine zO ?hg (N := 1) ?hd (cs := #[.string a0_0, .int .u16 a0_1, .string a0_2, .slice A0_3 l0_3.length c0_3]) (t := 50) ?hr ?_; (case hd => rfl); (case hg => rfl); (case hr => first | (go_simp; done) | (go_simp; rfl)); intro gb103 hg w5 hbox hb; have n0_ := zz_ (zG (by repeat (first | (with_reducible first | exact HB.out | apply zB | apply zA | apply zC) | exact HB.out)) hb); have n1_ := zz_ (hbox); have n2_ := zz_ ((by rw [hg]; exact (zR (by repeat (first | (with_reducible first | exact HB.out | apply zB | apply zA | apply zC) | exact HB.out))) : w.heap.size ≤ gb103)); have n3_ := zz_ ((by rw [hg]; exact (zR (by repeat (first | (with_reducible first | exact HB.out | apply zB | apply zA | apply zC) | exact HB.out))) : w.heap.size ≤ gb103)); clear HB; have HB := n0_; have BK103 := n1_; have GW103 := n2_; have GE103 := n3_; clear n0_ n1_ n2_ n3_; clear hb hbox hg; have hcz6_0 : w5.cell? ⟨gb103, 0, none⟩ = some (.string a0_0) := (zD BK103.out 0).trans rfl; have hcz6_1 : w5.cell? ⟨gb103, 1, none⟩ = some (.int .u16 a0_1) := (zD BK103.out 1).trans rfl; have hcz6_2 : w5.cell? ⟨gb103, 2, none⟩ = some (.string a0_2) := (zD BK103.out 2).trans rfl; have hcz6_3 : w5.cell? ⟨gb103, 3, none⟩ = some (.slice A0_3 l0_3.length c0_3) := (zD BK103.out 3).trans rfl; have hfz6_0 := zE BK103.out 0; have hfz6_1 := zE BK103.out 1; have hfz6_2 := zE BK103.out 2; have hfz6_3 := zE BK103.out 3) | ((with_reducible refine zQ (f := 76) rfl ?_); refine goesL_ (some 6) rfl rfl Tryd.func76 (by kernel_rfl) rfl #[.agg #[.string a0_0, .int .u16 a0_1, .string a0_2, .slice A0_3 l0_3.length c0_3]] rfl (by (try simp only [List.map_toArray, List.map_cons, List.map_nil]); first | done | rfl | (simp only [List.length_drop, List.length_take]; rfl)) ?_; (with_reducible refine (expr_Right.calls a0_0 a0_1 a0_2 _ _ l0_3 t104 _ ?side1 ?side2 A2.out).mono ?_); (case side1 => repeat (first | exact (Kd.zV HR0_3.out HB.out) | (with_reducible refine Kd.C_alloc ?_ _) | (with_reducible refine Kd.C_drewN ?_ _) | (with_reducible refine Kd.C_drew ?_))); (case side2 => exact HC0_3.out); rintro e w7 ⟨rfl, hb⟩; refine ⟨_, rfl, ?_⟩; have n0_ := zz_ (zK (g := gb103) (o := .cells #[.string a0_0, .int .u16 a0_1, .string a0_2, .slice A0_3 l0_3.length c0_3] 50 (0, 0)) (by (with_reducible repeat (first | refine zH ?_ _ | refine zJ ?_ | refine zI ?_ _)); exact BK103.out) hb); have n1_ := zz_ (zG (by repeat (first | (with_reducible first | exact HB.out | apply zB | apply zA | apply zC | refine zF ?_ GE103.out) | exact HB.out)) hb); clear BK103; clear HB; have BK103 := n0_; have HB := n1_; clear n0_ n1_; (try clear hb); have hcz8_0 : w7.cell? ⟨gb103, 0, none⟩ = some (.string a0_0) := (zD BK103.out 0).trans rfl; have hcz8_1 : w7.cell? ⟨gb103, 1, none⟩ = some (.int .u16 a0_1) := (zD BK103.out 1).trans rfl; have hcz8_2 : w7.cell? ⟨gb103, 2, none⟩ = some (.string a0_2) := (zD BK103.out 2).trans rfl; have hcz8_3 : w7.cell? ⟨gb103, 3, none⟩ = some (.slice A0_3 l0_3.length c0_3) := (zD BK103.out 3).trans rfl; have hfz8_0 := zE BK103.out 0; have hfz8_1 := zE BK103.out 1; have hfz8_2 := zE BK103.out 2; have hfz8_3 := zE BK103.out 3) | ((with_reducible refine zQ (f := 82) rfl ?_); refine goesL_ (some 11) rfl rfl Tryd.func82 (by kernel_rfl) rfl #[.agg #[.string a0_0, .int .u16 a0_1, .string a0_2, .slice A0_3 l0_3.length c0_3], .int .i64 1] rfl (by (try simp only [List.map_toArray, List.map_cons, List.map_nil]); first | done | rfl | (simp only [List.length_drop, List.length_take]; rfl)) ?_; (with_reducible refine (expr_show.calls k a0_0 a0_1 a0_2 _ _ l0_3 1 t105 _ ?side1 ?side2 ?side3 A4.out).mono ?_); (case side1 => exact ⟨G0.below hG.out (by repeat (first | (with_reducible first | exact HB.out | apply zB | apply zA | apply zC | refine zF ?_ GE103.out) | exact HB.out))⟩); (case side2 => repeat (first | exact (Kd.zV HR0_3.out HB.out) | (with_reducible refine Kd.C_alloc ?_ _) | (with_reducible refine Kd.C_drewN ?_ _) | (with_reducible refine Kd.C_drew ?_))); (case side3 => exact HC0_3.out); rintro e w9 ⟨rfl, hb⟩; refine ⟨_, rfl, ?_⟩; have n0_ := zz_ (zK (g := gb103) (o := .cells #[.string a0_0, .int .u16 a0_1, .string a0_2, .slice A0_3 l0_3.length c0_3] 50 (0, 0)) (by (with_reducible repeat (first | refine zH ?_ _ | refine zJ ?_ | refine zI ?_ _)); exact BK103.out) hb); have n1_ := zz_ (zG (by repeat (first | (with_reducible first | exact HB.out | apply zB | apply zA | apply zC | refine zF ?_ GE103.out) | exact HB.out)) hb); clear BK103; clear HB; have BK103 := n0_; have HB := n1_; clear n0_ n1_; (try clear hb)))
  go_ret2
  exact ⟨by first | rfl | (simp [zN, zM] <;> rfl) | (simp [*, zN, zM] <;> rfl), by repeat (first | (with_reducible first | exact HB.out | apply zB | apply zA | apply zC | refine zF ?_ GE103.out) | exact HB.out)⟩
 ·rw [if_neg c3] at H
  have c3b0 : (t104 == 0) = false := beq_eq_false_iff_ne.mpr c3
  have c3b1 : (t104 != 0) = true := bne_iff_ne.mpr c3
  simp only [Option.some.injEq, Prod.mk.injEq] at H
  obtain ⟨rfl, rfl⟩ := H
  go_enter Tryd.func44, Tryd.ntmps44
  go_wp2_with (first | ((with_reducible refine zS (N := 1) rfl ?_); refine zO ?hg (N := 1) ?hd (cs := #[.string a0_0, .int .u16 a0_1, .string a0_2, .slice A0_3 l0_3.length c0_3]) (t := 50) ?hr ?_; (case hd => rfl); (case hg => rfl); (case hr => first | (go_simp; done) | (go_simp; rfl)); intro gb103 hg w10 hbox hb; have n0_ := zz_ (zG (by repeat (first | (with_reducible first | exact HB.out | apply zB | apply zA | apply zC) | exact HB.out)) hb); have n1_ := zz_ (hbox); have n2_ := zz_ ((by rw [hg]; exact (zR (by repeat (first | (with_reducible first | exact HB.out | apply zB | apply zA | apply zC) | exact HB.out))) : w.heap.size ≤ gb103)); have n3_ := zz_ ((by rw [hg]; exact (zR (by repeat (first | (with_reducible first | exact HB.out | apply zB | apply zA | apply zC) | exact HB.out))) : w.heap.size ≤ gb103)); clear HB; have HB := n0_; have BK103 := n1_; have GW103 := n2_; have GE103 := n3_; clear n0_ n1_ n2_ n3_; clear hb hbox hg; have hcz11_0 : w10.cell? ⟨gb103, 0, none⟩ = some (.string a0_0) := (zD BK103.out 0).trans rfl; have hcz11_1 : w10.cell? ⟨gb103, 1, none⟩ = some (.int .u16 a0_1) := (zD BK103.out 1).trans rfl; have hcz11_2 : w10.cell? ⟨gb103, 2, none⟩ = some (.string a0_2) := (zD BK103.out 2).trans rfl; have hcz11_3 : w10.cell? ⟨gb103, 3, none⟩ = some (.slice A0_3 l0_3.length c0_3) := (zD BK103.out 3).trans rfl; have hfz11_0 := zE BK103.out 0; have hfz11_1 := zE BK103.out 1; have hfz11_2 := zE BK103.out 2; have hfz11_3 := zE BK103.out 3) | ((with_reducible refine zQ (f := 76) rfl ?_); refine goesL_ (some 6) rfl rfl Tryd.func76 (by kernel_rfl) rfl #[.agg #[.string a0_0, .int .u16 a0_1, .string a0_2, .slice A0_3 l0_3.length c0_3]] rfl (by (try simp only [List.map_toArray, List.map_cons, List.map_nil]); first | done | rfl | (simp only [List.length_drop, List.length_take]; rfl)) ?_; (with_reducible refine (expr_Right.calls a0_0 a0_1 a0_2 _ _ l0_3 t104 _ ?side1 ?side2 A2.out).mono ?_); (case side1 => repeat (first | exact (Kd.zV HR0_3.out HB.out) | (with_reducible refine Kd.C_alloc ?_ _) | (with_reducible refine Kd.C_drewN ?_ _) | (with_reducible refine Kd.C_drew ?_))); (case side2 => exact HC0_3.out); rintro e w12 ⟨rfl, hb⟩; refine ⟨_, rfl, ?_⟩; have n0_ := zz_ (zK (g := gb103) (o := .cells #[.string a0_0, .int .u16 a0_1, .string a0_2, .slice A0_3 l0_3.length c0_3] 50 (0, 0)) (by (with_reducible repeat (first | refine zH ?_ _ | refine zJ ?_ | refine zI ?_ _)); exact BK103.out) hb); have n1_ := zz_ (zG (by repeat (first | (with_reducible first | exact HB.out | apply zB | apply zA | apply zC | refine zF ?_ GE103.out) | exact HB.out)) hb); clear BK103; clear HB; have BK103 := n0_; have HB := n1_; clear n0_ n1_; (try clear hb)))
  go_ret2
  exact ⟨by first | rfl | (simp [zN, zM] <;> rfl) | (simp [*, zN, zM] <;> rfl), by repeat (first | (with_reducible first | exact HB.out | apply zB | apply zA | apply zC | refine zF ?_ GE103.out) | exact HB.out)⟩
end Go.Proofs.YtejhagejjogbaaaDoor.Qc
end
section
namespace Go.Proofs.YtejhagejjogbaaaDoor.SameD
set_option linter.unusedVariables false
open Go.RowKit YtejhagejjogbaaaDoorW.PrintWords YtejhagejjogbaaaDoorW.PrintLast YtejhagejjogbaaaDoorW.PrintMore Given Pn Pa Qa
mutual
def sameE : S50 → S50 → Bool
  | ⟨o, n, m, s⟩, f => (o.data.toList == f.f0.data.toList) && (n == f.f1) && (m.data.toList == f.f2.data.toList) && sameL s f.f3
def sameL : List S50 → List S50 → Bool
  | [], [] => true
  | a :: l, b :: m => sameE a b && sameL l m
  | _, _ => false
end
theorem eta50 (x : S50) : (⟨x.f0, x.f1, x.f2, x.f3⟩ : S50) = x := by cases x; rfl
def SameOn (e : S50) : Prop := ∀ (f : S50) (A B : Option Addr) (c d : Nat) (w : World), Kd.C k50 w A e.f3.length e.f3 → e.f3.length ≤ c → Kd.C k50 w B f.f3.length f.f3 → f.f3.length ≤ d →
  Calls Tryd.prog 49 #[.agg #[.string e.f0, .int .u16 e.f1, .string e.f2, .slice A e.f3.length c], .agg #[.string f.f0, .int .u16 f.f1, .string f.f2, .slice B f.f3.length d]] w fun e' w' => e' = .returned (.bool (sameE e f)) ∧ Below w.heap.size w w'
def GS (l : List S50) (_w : World) : Prop := ∀ x ∈ l, SameOn x
theorem GS.at {l : List S50} {w : World} (h : GS l w) {i : Int} (h0 : 0 ≤ i) (h1 : i < l.length) : SameOn ⟨(zL l i).f0, (zL l i).f1, (zL l i).f2, (zL l i).f3⟩ := by
  have hl : i.toNat < l.length := by omega
  have e : zL l i = l[i.toNat] := by simp [zL, List.getD_eq_getElem?_getD, List.getElem?_eq_getElem hl]
  have := h _ (List.getElem_mem hl)
  rw [← e] at this
  rw [eta50]
  exact this
end Go.Proofs.YtejhagejjogbaaaDoor.SameD
end
section
namespace Go.Proofs.YtejhagejjogbaaaDoor.Qd
open Go.RowKit YtejhagejjogbaaaDoorW.PrintWords YtejhagejjogbaaaDoorW.PrintLast YtejhagejjogbaaaDoorW.PrintMore Given TokSpan TokJoin TokRep Right.R SameD Pn Pa Pb Pc Pd Pe Qa
attribute [local go_sem] max2_int min2_int max_two min_two max_three min_three max_four min_four   -- for this text's walks alone
set_option linter.unusedVariables false
set_option linter.unusedSimpArgs false
def errW : Option Int → Value
 | none => .nilIface
 | some c => .iface 0 (.int .i64 c)
theorem zN : errW none = .nilIface := rfl
theorem zM (c : Int) : errW (some c) = .iface 0 (.int .i64 c) := rfl
end Go.Proofs.YtejhagejjogbaaaDoor.Qd
end
section
namespace Go.Proofs.YtejhagejjogbaaaDoor.Qe
open Go.RowKit YtejhagejjogbaaaDoorW.PrintWords YtejhagejjogbaaaDoorW.PrintLast YtejhagejjogbaaaDoorW.PrintMore Given TokSpan TokJoin TokRep Right.R SameD Qd Pn Pa Pb Pc Pd Pe Qa
attribute [local go_sem] max2_int min2_int max_two min_two max_three min_three max_four min_four   -- for this text's walks alone
set_option linter.unusedVariables false
set_option linter.unusedSimpArgs false
def errW : Option Int → Value
 | none => .nilIface
 | some c => .iface 0 (.int .i64 c)
theorem zN : errW none = .nilIface := rfl
theorem zM (c : Int) : errW (some c) = .iface 0 (.int .i64 c) := rfl
end Go.Proofs.YtejhagejjogbaaaDoor.Qe
end
section
namespace Go.Proofs.YtejhagejjogbaaaDoor.SameC
open Go.RowKit YtejhagejjogbaaaDoorW.PrintWords YtejhagejjogbaaaDoorW.PrintLast YtejhagejjogbaaaDoorW.PrintMore Given Pn Pa Qa Qd Qe SameD Num
set_option linter.unusedVariables false
set_option linter.unusedSimpArgs false
theorem rd50_at (l : List S50) (i : Nat) (h : i < l.length) : zL l (i : Int) = l[i] := by
  simp [zL, List.getD_eq_getElem?_getD, List.getElem?_eq_getElem h]
namespace R
end R
end Go.Proofs.YtejhagejjogbaaaDoor.SameC
end
section
namespace Go.Proofs.YtejhagejjogbaaaDoor.Ee
open Go.RowKit YtejhagejjogbaaaDoorW.PrintWords YtejhagejjogbaaaDoorW.PrintLast Given Pn Pa Qa Qc Num AnyNot Par SameC
set_option linter.unusedSimpArgs false
set_option linter.unusedVariables false
inductive NumOk : S50 → Prop
  | mk (o : ByteArray) (n : Int) (m : ByteArray) (s : List S50) (h0 : 0 ≤ n) (h1 : n ≤ 65535) (hs : ∀ x ∈ s, NumOk x) : NumOk ⟨o, n, m, s⟩
theorem NumOk.lo {e : S50} (h : NumOk e) : 0 ≤ e.f1 := by cases h; assumption
theorem NumOk.hi {e : S50} (h : NumOk e) : e.f1 ≤ 65535 := by cases h; assumption
theorem NumOk.sub {e : S50} (h : NumOk e) : ∀ x ∈ e.f3, NumOk x := by cases h; assumption
def lightN : Nat → S50 → Bool
  | 0, _ => false
  | n + 1, e => decide (e.f3.length ≤ 3) && decide (e.f0.size ≤ 50) && decide (e.f2.size ≤ 50) && e.f3.all (lightN n)
theorem light_l0 (n : Nat) (hn : n ≤ 1000) (l : List S50) (hl : l.length ≤ 3) (o m : ByteArray) (x : Int)
    (ih : ∀ e ∈ l, Ev (fun k => pidginlaw05_Light.f k e.f0 e.f1 e.f2 e.f3 (n : Int)) (lightN n e)) (d : Nat) : ∀ i : Nat, i + d = l.length →
    Ev (fun k => pidginlaw05_Light.l0 k ((n + 1 : Nat) : Int) (i : Int) o x m l) ((l.drop i).all (lightN n)) := by
  induction d with
  | zero =>
    intro i hi
    refine Ev.step (fun k => rfl) ?_
    simp only [pidginlaw05_Light.l0, if_neg (show ¬ (i : Int) < (l.length : Int) by omega)]
    rw [List.drop_of_length_le (by omega)]
    exact Ev.now _
  | succ d ihd =>
    intro i hi
    have h1 : i < l.length := by omega
    refine Ev.step (fun k => rfl) ?_
    have e1 : wrap64 (((n + 1 : Nat) : Int) - 1) = (n : Int) := (w64 (by omega) (by omega)).trans (by omega)
    simp only [pidginlaw05_Light.l0, if_pos (show (i : Int) < (l.length : Int) by omega), if_pos (show (0 : Int) ≤ (i : Int) by omega), rd50_at l i h1, e1]
    refine Ev.bind (ih l[i] (List.getElem_mem h1)) ?_
    rw [List.drop_eq_getElem_cons h1, List.all_cons]
    cases lightN n l[i] with
    | true =>
      simp only [if_true, Bool.true_and, show wrap64 ((i : Int) + 1) = ((i + 1 : Nat) : Int) from (w64 (by omega) (by omega)).trans (by omega)]
      exact ihd (i + 1) (by omega)
    | false => simp only [Bool.false_eq_true, if_false, Bool.false_and]; exact Ev.now _
theorem light_ev (n : Nat) : n ≤ 1000 → ∀ e : S50, Ev (fun k => pidginlaw05_Light.f k e.f0 e.f1 e.f2 e.f3 (n : Int)) (lightN n e) := by
  induction n with
  | zero =>
    intro _ e
    refine Ev.step (fun k => rfl) ?_
    simp only [pidginlaw05_Light.f, if_pos (show ((0 : Nat) : Int) = 0 from rfl)]
    refine Ev.step (fun k => rfl) ?_
    simp only [pidginlaw05_Light.j0, if_true]
    exact Ev.now _
  | succ n ih =>
    intro hn e
    refine Ev.step (fun k => rfl) ?_
    simp only [pidginlaw05_Light.f, if_neg (show ¬ ((n + 1 : Nat) : Int) = 0 by omega)]
    by_cases h1 : e.f3.length ≤ 3
    · simp only [if_neg (show ¬ (e.f3.length : Int) > 3 by omega)]
      by_cases h2 : e.f0.size ≤ 50
      · simp only [if_neg (show ¬ (e.f0.size : Int) > 50 by omega)]
        refine Ev.step (fun k => rfl) ?_
        by_cases h3 : e.f2.size ≤ 50
        · simp only [pidginlaw05_Light.j0, decide_eq_false (show ¬ (e.f2.size : Int) > 50 by omega), Bool.false_eq_true, if_false]
          have := light_l0 n (by omega) e.f3 h1 e.f0 e.f2 e.f1 (fun x _ => ih (by omega) x) e.f3.length 0 (by omega)
          rw [List.drop_zero] at this
          rw [lightN]
          simp only [decide_eq_true h1, decide_eq_true h2, decide_eq_true h3, Bool.true_and]
          exact this
        · simp only [pidginlaw05_Light.j0, decide_eq_true (show (e.f2.size : Int) > 50 by omega), if_true]
          rw [lightN]; simp only [decide_eq_false h3, Bool.and_false, Bool.false_and]; exact Ev.now _
      · simp only [if_pos (show (e.f0.size : Int) > 50 by omega)]
        refine Ev.step (fun k => rfl) ?_
        simp only [pidginlaw05_Light.j0, if_true]
        rw [lightN]; simp only [decide_eq_false h2, Bool.and_false, Bool.false_and]; exact Ev.now _
    · simp only [if_pos (show (e.f3.length : Int) > 3 by omega)]
      refine Ev.step (fun k => rfl) ?_
      simp only [pidginlaw05_Light.j0, if_true]
      rw [lightN]; simp only [decide_eq_false h1, Bool.false_and]; exact Ev.now _
theorem count_l0 (l : List S50) (hl : l.length ≤ 3) (o m : ByteArray) (x : Int)
    (ih : ∀ e ∈ l, ∃ v : Int, Ev (fun k => pidginlaw05_count.f k e.f0 e.f1 e.f2 e.f3) v) (d : Nat) : ∀ (i : Nat) (c : Int), i + d = l.length →
    ∃ v : Int, Ev (fun k => pidginlaw05_count.l0 k c (i : Int) o x m l) v := by
  induction d with
  | zero =>
    intro i c hi
    refine ⟨c, Ev.step (fun k => rfl) ?_⟩
    simp only [pidginlaw05_count.l0, if_neg (show ¬ (i : Int) < (l.length : Int) by omega)]
    exact Ev.now _
  | succ d ihd =>
    intro i c hi
    have h1 : i < l.length := by omega
    by_cases hc : c ≤ 300
    · obtain ⟨v, hv⟩ := ih l[i] (List.getElem_mem h1)
      obtain ⟨u, hu⟩ := ihd (i + 1) (wrap64 (c + v)) (by omega)
      refine ⟨u, Ev.step (fun k => rfl) ?_⟩
      simp only [pidginlaw05_count.l0, if_pos (show (i : Int) < (l.length : Int) by omega), if_pos hc, if_pos (show (0 : Int) ≤ (i : Int) by omega), rd50_at l i h1]
      refine Ev.bind hv ?_
      simp only [show wrap64 ((i : Int) + 1) = ((i + 1 : Nat) : Int) from (w64 (by omega) (by omega)).trans (by omega)]
      exact hu
    · refine ⟨c, Ev.step (fun k => rfl) ?_⟩
      simp only [pidginlaw05_count.l0, if_pos (show (i : Int) < (l.length : Int) by omega), if_neg hc]
      exact Ev.now _
theorem count_ev (n : Nat) : ∀ e : S50, lightN n e = true → ∃ v : Int, Ev (fun k => pidginlaw05_count.f k e.f0 e.f1 e.f2 e.f3) v := by
  induction n with
  | zero => intro e h; simp [lightN] at h
  | succ n ih =>
    intro e h
    rw [lightN] at h
    simp only [Bool.and_eq_true, decide_eq_true_eq] at h
    obtain ⟨v, hv⟩ := count_l0 e.f3 h.1.1.1 e.f0 e.f2 e.f1 (fun x hx => ih x (List.all_eq_true.1 h.2 x hx)) e.f3.length 0 1 (by omega)
    exact ⟨v, Ev.step (fun k => rfl) hv⟩
theorem small_ev (e : S50) : ∃ b : Bool, Ev (fun k => pidginlaw05_small.f k e.f0 e.f1 e.f2 e.f3) b ∧ (b = true → lightN 40 e = true) := by
  unfold pidginlaw05_small.f
  have h1 := light_ev 40 (by decide) e
  cases hl : lightN 40 e with
  | false =>
    rw [hl] at h1
    exact ⟨false, Ev.bind h1 (Ev.now _), fun h => by cases h⟩
  | true =>
    rw [hl] at h1
    obtain ⟨v, hv⟩ := count_ev 40 e hl
    refine ⟨decide (v ≤ 300), Ev.bind h1 ?_, fun _ => rfl⟩
    simp only [if_true]
    exact Ev.bind hv (Ev.now _)
theorem light_ok (n : Nat) : ∀ (m : Nat) (e : S50), m < n → lightN n e = true → okB m e = true := by
  induction n with
  | zero => intro m e h; omega
  | succ n ih =>
    intro m e hm h
    rw [lightN] at h
    simp only [Bool.and_eq_true, decide_eq_true_eq] at h
    have hz : decide (e.f2.size ≤ 1000) = true := decide_eq_true (by omega)
    cases m with
    | zero => rw [okB]; exact hz
    | succ m =>
      rw [okB, hz, Bool.true_and]
      exact List.all_eq_true.2 fun x hx => ih m x (by omega) (List.all_eq_true.1 h.2 x hx)
theorem Right_at (e : S50) (h : okB 24 e = true) : expr_Right.f e.f0 e.f1 e.f2 e.f3 = some (if rightN 24 e = true then 0 else 2) := by
  unfold expr_Right.f Right.R.expr_right.f
  rw [if_pos ⟨by decide, by decide, h⟩]
  simp only [Option.bind_some]
  show (if rightN 24 e = true then some (0 : Int) else some 2) = _
  split <;> rfl
end Go.Proofs.YtejhagejjogbaaaDoor.Ee
end
section
namespace Go.Proofs.YtejhagejjogbaaaDoor.PsrA
open Go.RowKit YtejhagejjogbaaaDoorW.PrintWords YtejhagejjogbaaaDoorW.PrintLast YtejhagejjogbaaaDoorW.PrintMore Given Pn Pa Qa Par Num
set_option linter.unusedVariables false
set_option linter.unusedSimpArgs false
def conB (ts : List ByteArray) (s : ByteArray) : Bool := (ts.map (·.data.toList)).contains s.data.toList
theorem index_l0 (ts : List ByteArray) (s : ByteArray) (hs : ts.length ≤ 1000) (d : Nat) : ∀ i : Nat, i + d = ts.length →
    ∃ v : Int, Ev (fun k => slices_Index_string_string.l0 k ts s (ts.length : Int) (i : Int)) v ∧ decide (v ≥ 0) = conB (ts.drop i) s := by
  induction d with
  | zero =>
    intro i hi
    refine ⟨-1, Ev.step (fun k => rfl) ?_, ?_⟩
    · simp only [slices_Index_string_string.l0, if_neg (show ¬ (i : Int) < (ts.length : Int) by omega)]
      exact Ev.now _
    · rw [List.drop_of_length_le (by omega)]; rfl
  | succ d ih =>
    intro i hi
    have hl : i < ts.length := by omega
    have e1 : rdOf ByteArray.empty ts (i : Int) = ts[i] := by
      unfold rdOf
      rw [Int.toNat_natCast, List.getD_eq_getElem?_getD, List.getElem?_eq_getElem hl]; rfl
    have hd : ts.drop i = ts[i] :: ts.drop (i + 1) := List.drop_eq_getElem_cons hl
    obtain ⟨v, hv, hc⟩ := ih (i + 1) (by omega)
    by_cases he : s.data.toList = ts[i].data.toList
    · refine ⟨i, Ev.step (fun k => rfl) ?_, ?_⟩
      · simp only [slices_Index_string_string.l0, if_pos (show (i : Int) < (ts.length : Int) by omega), if_pos (show (0 : Int) ≤ (i : Int) by omega), e1, Lib.toList_data, if_pos he]
        exact Ev.now _
      · rw [hd]; unfold conB; rw [List.map_cons, List.contains_cons, he]; simp
    · refine ⟨v, Ev.step (fun k => rfl) ?_, ?_⟩
      · simp only [slices_Index_string_string.l0, if_pos (show (i : Int) < (ts.length : Int) by omega), if_pos (show (0 : Int) ≤ (i : Int) by omega), e1, Lib.toList_data, if_neg he, inc_w (show i ≤ 140737488351300 by omega)]
        exact hv
      · rw [hc, hd]; unfold conB
        have h3 : (s.data.toList == ts[i].data.toList) = false := beq_eq_false_iff_ne.mpr he
        rw [List.map_cons, List.contains_cons, h3, Bool.false_or]
theorem contains_ev (ts : List ByteArray) (s : ByteArray) (hs : ts.length ≤ 1000) : Ev (fun k => slices_Contains_string_string.f k ts s) (conB ts s) := by
  obtain ⟨v, hv, hc⟩ := index_l0 ts s hs ts.length 0 (by omega)
  unfold slices_Contains_string_string.f
  refine Ev.bind hv ?_
  rw [hc]
  exact Ev.now _
theorem contains_calls (B : Option Addr) (d : Nat) (ts : List ByteArray) (s : ByteArray) (w : World) (hr : Kd.C Kd.string w B ts.length ts) (hd : ts.length ≤ d) (hs : ts.length ≤ 1000) :
    Calls Tryd.prog 191 #[.slice B ts.length d, .string s] w fun e w' => e = .returned (.bool (conB ts s)) ∧ Drawn0 w w' := by
  obtain ⟨k, hk⟩ := contains_ev ts s hs
  exact slices_Contains_string_string.calls k B d ts s (conB ts s) w hr hd (hk k (Nat.le_refl _))
set_option maxHeartbeats 8000000 in
set_option maxRecDepth 100000 in
theorem at_calls {w0 w : World} {g : Nat} {l : List S41} {k o : Int} (kind : Int) (B : Option Addr) (d : Nat) (ts : List ByteArray) (hI : IsS136 w0 w g l k o) (hB : Below w0.heap.size w0 w)
    (hr : Kd.C Kd.string w B ts.length ts) (hd : ts.length ≤ d) (hs : ts.length ≤ 1000) :
    Calls Tryd.prog 171 #[.pointer (some ⟨g, 0, none⟩), .int .i64 kind, .slice B ts.length d] w fun e w' =>
      e = .returned (.tuple #[.string ((atP l kind (ts.map (·.data.toList))).getD ⟨#[]⟩), .bool (atP l kind (ts.map (·.data.toList))).isSome]) ∧ Drawn0 w w' := by
  obtain ⟨A, c, hb, hg, hr0⟩ := hI
  have hcz := cellS136_0 hb
  clear hb
  cases l with
  | nil =>
    clear hr hd hs
    have e1 : atP [] kind (ts.map (·.data.toList)) = none := rfl
    rw [e1]
    clear e1
    go_enter Tryd.func171, Tryd.ntmps171
    go_wp2
    go_ret2
    exact ⟨rfl, Drawn0.refl _⟩
  | cons t l =>
    obtain ⟨ad, rfl, h0, h1, h2⟩ := at_T41 hr0 0 (by omega) (by simp)
    have e0 : rd_T41 (t :: l) 0 = t := rfl
    rw [e0] at h0 h1 h2
    rw [show (0 : Int).toNat * 3 = 0 from rfl, Addr.add_zero'] at h0 h1 h2
    replace h0 := zP hB h0
    replace h1 := zP hB h1
    replace h2 := zP hB h2
    have HC := zz_ (contains_calls B d ts t.f1 w hr hd hs)
    clear hr0 hr hd hs e0
    have hlen : (decide ((0 : Int) < ((t :: l).length : Int))) = true := by simp
    have hlen2 : (decide (0 < (t :: l).length)) = true := by simp
    by_cases hk : t.f0 = kind
    · have hk1 : (t.f0 == kind) = true := beq_iff_eq.mpr hk
      cases hc : conB ts t.f1 with
      | true =>
        have e1 : atP (t :: l) kind (ts.map (·.data.toList)) = some t.f1 := by show (if _ then _ else _) = _; rw [if_pos ⟨hk, hc⟩]
        rw [e1]
        rw [hc] at HC
        clear e1 hc hk
        go_enter Tryd.func171, Tryd.ntmps171
        go_wp2_with (go_at_call 191; refine HC.out.mono ?_; rintro e w' ⟨rfl, ⟨nd, rfl⟩⟩)
        go_ret2
        exact ⟨rfl, by repeat (first | exact Drawn0.refl _ | apply Drawn0.step)⟩
      | false =>
        have e1 : atP (t :: l) kind (ts.map (·.data.toList)) = none := by show (if _ then _ else _) = _; rw [if_neg]; rintro ⟨_, h⟩; rw [show (ts.map (·.data.toList)).contains t.f1.data.toList = conB ts t.f1 from rfl, hc] at h; cases h
        rw [e1]
        rw [hc] at HC
        clear e1 hc hk
        go_enter Tryd.func171, Tryd.ntmps171
        go_wp2_with (go_at_call 191; refine HC.out.mono ?_; rintro e w' ⟨rfl, ⟨nd, rfl⟩⟩)
        go_ret2
        exact ⟨rfl, by repeat (first | exact Drawn0.refl _ | apply Drawn0.step)⟩
    · have hk1 : (t.f0 == kind) = false := beq_eq_false_iff_ne.mpr hk
      have e1 : atP (t :: l) kind (ts.map (·.data.toList)) = none := by show (if _ then _ else _) = _; rw [if_neg]; rintro ⟨h, _⟩; exact hk h
      rw [e1]
      clear e1 hk HC
      go_enter Tryd.func171, Tryd.ntmps171
      go_wp2
      go_ret2
      exact ⟨rfl, by repeat (first | exact Drawn0.refl _ | apply Drawn0.step)⟩
end Go.Proofs.YtejhagejjogbaaaDoor.PsrA
end
section
namespace Go.Proofs.YtejhagejjogbaaaDoor.PsrB
open Go.RowKit YtejhagejjogbaaaDoorW.PrintWords YtejhagejjogbaaaDoorW.PrintLast YtejhagejjogbaaaDoorW.PrintMore Given Pn Pa Qa Par Num PsrA
set_option linter.unusedVariables false
set_option linter.unusedSimpArgs false
def St (w0 W : World) (g : Nat) (l : List S41) (k o : Int) : Prop :=
  ∃ A c, W.heap[g]? = some (.cells #[.slice A l.length c, .int .i64 k, .int .i64 o] 136 (0, 0)) ∧ w0.heap.size ≤ g ∧ l.length ≤ c ∧ Kd.C k41 w0 A l.length l ∧ Below w0.heap.size w0 W
section
variable {w0 w w1 : World} {g : Nat} {l : List S41} {k o : Int}
theorem St.is (h : St w0 w g l k o) : IsS136 w0 w g l k o := by
  obtain ⟨A, c, h1, h2, h3, h4, h5⟩ := h
  exact ⟨A, c, h1, h2, h4⟩
theorem St.base (h : St w0 w g l k o) : Below w0.heap.size w0 w := by
  obtain ⟨A, c, h1, h2, h3, h4, h5⟩ := h
  exact h5
theorem St.lt (h : St w0 w g l k o) : g < w.heap.size := by
  obtain ⟨A, c, h1, h2, h3, h4, h5⟩ := h
  exact blk_lt h1
theorem St.ge (h : St w0 w g l k o) : w0.heap.size ≤ g := by
  obtain ⟨A, c, h1, h2, h3, h4, h5⟩ := h
  exact h2
theorem St.below (h : St w0 w g l k o) (hb : Below w.heap.size w w1) : St w0 w1 g l k o := by
  obtain ⟨A, c, h1, h2, h3, h4, h5⟩ := h
  exact ⟨A, c, zK h1 hb, h2, h3, h4, zG h5 hb⟩
theorem St.far (h : St w0 w g l k o) {p : Addr} (hp : g ≠ p.block) (hq : w0.heap.size ≤ p.block) (u : Value) : St w0 (w.setCell p u) g l k o := by
  obtain ⟨A, c, h1, h2, h3, h4, h5⟩ := h
  exact ⟨A, c, blk_far h1 hp u, h2, h3, h4, h5.setCell hq u⟩
theorem St.setK (h : St w0 w g l k o) (x : Int) : St w0 (w.setCell ⟨g, 1, none⟩ (.int .i64 x)) g l x o := by
  obtain ⟨A, c, h1, h2, h3, h4, h5⟩ := h
  exact ⟨A, c, by simpa using blk_set h1 1 (.int .i64 x), h2, h3, h4, h5.setCell h2 _⟩
theorem St.setO (h : St w0 w g l k o) (x : Int) : St w0 (w.setCell ⟨g, 2, none⟩ (.int .i64 x)) g l k x := by
  obtain ⟨A, c, h1, h2, h3, h4, h5⟩ := h
  exact ⟨A, c, by simpa using blk_set h1 2 (.int .i64 x), h2, h3, h4, h5.setCell h2 _⟩
theorem St.setL (h : St w0 w g l k o) {A : Option Addr} {c : Nat} {m : List S41} (hc : m.length ≤ c) (hr : Kd.C k41 w0 A m.length m) : St w0 (w.setCell ⟨g, 0, none⟩ (.slice A m.length c)) g m k o := by
  obtain ⟨A', c', h1, h2, h3, h4, h5⟩ := h
  exact ⟨A, c, by simpa using blk_set h1 0 (.slice A m.length c), h2, hc, hr, h5.setCell h2 _⟩
theorem St.drewN (h : St w0 w g l k o) (n : Nat) : St w0 (w.drewN n) g l k o := h.below (zA (Below.refl _ _) n)
end
theorem cut1 {w0 : World} {A : Option Addr} {c : Nat} {t : S41} {l : List S41} (hc : (t :: l).length ≤ c) (hr : Kd.C k41 w0 A (t :: l).length (t :: l)) :
    ∃ A1 c1, (∀ W, (Instr.slice 31 (.slice A (t :: l).length c) (some (.int .i64 1)) none none).run Tryd.prog W = .ok (.slice A1 l.length c1) W) ∧ l.length ≤ c1 ∧ Kd.C k41 w0 A1 l.length l := by
  obtain ⟨i0, hi0, _, hsz, _⟩ := info_parts Pa.info41
  refine ⟨_, c - 1, fun W => (cut_from (P := Tryd.prog) 31 41 .i64 Tryd.underlying31 hi0 3 hsz A (t :: l).length c 1 (by omega) (by simp; omega) W).trans ?_, ?_, Kd.C_drop hr (m := 1) (by simp) hc⟩
  · rfl
  · simp at hc; omega
set_option maxHeartbeats 8000000 in
set_option maxRecDepth 100000 in
theorem skip_calls {w0 w : World} {g : Nat} {t : S41} {l : List S41} {k o : Int} (hS : St w0 w g (t :: l) k o) :
    Calls Tryd.prog 154 #[.pointer (some ⟨g, 0, none⟩)] w fun e w' => e = .returned (.agg #[.int .i64 t.f0, .string t.f1, .int .u16 t.f2]) ∧ St w0 w' g l k o ∧ zU w w' g none := by
  have hu41 := Tryd.underlying41
  have HS := zz_ hS
  have hS2 := hS
  obtain ⟨A, c, hb, hg, hc, hr, hB⟩ := hS2
  obtain ⟨A1, c1, hcut, hc1, hr1⟩ := cut1 hc hr
  have HL := zz_ (And.intro hc1 hr1)
  obtain ⟨ad, rfl, h0, h1, h2⟩ := at_T41 hr 0 (by omega) (by simp)
  have e0 : rd_T41 (t :: l) 0 = t := rfl
  rw [e0] at h0 h1 h2
  rw [show (0 : Int).toNat * 3 = 0 from rfl, Addr.add_zero'] at h0 h1 h2
  replace h0 := zP hB h0
  replace h1 := zP hB h1
  replace h2 := zP hB h2
  have hglt := hS.lt
  have hlen : (0 < (t :: l).length) = True := by simp
  obtain ⟨N, hN⟩ : ∃ N, (t :: l).length = N := ⟨_, rfl⟩
  rw [hN] at hb hcut hlen
  have HB0 := zz_ hb
  clear hN hr hr1 hc1 e0 hc hB hS hb hg
  go_enter Tryd.func154, Tryd.ntmps154
  go_wp2_with (first
    | ((with_reducible refine zS (N := 2) rfl ?_); refine zO ?hg (N := 2) ?hd (cs := #[.int .i64 0, .string (⟨#[]⟩ : ByteArray), .int .u16 0]) (t := 41) ?hr ?_; (case hd => rfl); (case hg => rfl); (case hr => first | (go_simp; done) | (go_simp; rfl)); intro b2 hg w1 hbox hb
       have HW1 := zz_ hb; have BK2 := zz_ hbox
       have HN2 := zz_ (show g ≠ b2 by omega); have HE2 := zz_ hg
       have hz : w1.cell? ⟨g, 0, none⟩ = some (.slice (some ad) N c) := (zD (zK HB0.out hb) 0).trans rfl
       have h0' := zP hb h0; have h1' := zP hb h1; have h2' := zP hb h2
       clear h0 h1 h2 hb hbox hg)
    | ((with_reducible refine zS (N := 3) rfl ?_); refine zO ?hg (N := 3) ?hd (cs := #[.int .i64 0, .string (⟨#[]⟩ : ByteArray), .int .u16 0]) (t := 41) ?hr ?_; (case hd => rfl); (case hg => rfl); (case hr => first | (go_simp; done) | (go_simp; rfl)); intro b3 hg w2 hbox hb
       have HW2 := zz_ hb; have BK3 := zz_ hbox
       have HE3 := zz_ hg
       have hlt2 : b2 < w1.heap.size := blk_lt BK2.out
       have hsz : w.heap.size ≤ w1.heap.size := HW1.out.size
       have n1 : b3 ≠ b2 := by omega
       have n2 : b2 ≠ b3 := by omega
       have n3 : g ≠ b2 := HN2.out
       have n4 : b2 ≠ g := fun e => HN2.out e.symm
       have n5 : g ≠ b3 := by omega
       have n6 : b3 ≠ g := by omega
       have HG := zz_ (zK (zK HB0.out HW1.out) hb)
       have BK2' := zz_ (zK BK2.out hb)
       have hz' : w2.cell? ⟨g, 0, none⟩ = some (.slice (some ad) N c) := (zD HG.out 0).trans rfl
       have hf' := zE HG.out 0
       have x0 : w2.cell? ⟨b2, 0, none⟩ = some (.int .i64 0) := (zD BK2'.out 0).trans rfl
       have x1 : w2.cell? ⟨b2, 1, none⟩ = some (.string (⟨#[]⟩ : ByteArray)) := (zD BK2'.out 1).trans rfl
       have x2 : w2.cell? ⟨b2, 2, none⟩ = some (.int .u16 0) := (zD BK2'.out 2).trans rfl
       have y0 : w2.cell? ⟨b3, 0, none⟩ = some (.int .i64 0) := (zD BK3.out 0).trans rfl
       have y1 : w2.cell? ⟨b3, 1, none⟩ = some (.string (⟨#[]⟩ : ByteArray)) := (zD BK3.out 1).trans rfl
       have y2 : w2.cell? ⟨b3, 2, none⟩ = some (.int .u16 0) := (zD BK3.out 2).trans rfl
       have fx0 := zE BK2'.out 0; have fx1 := zE BK2'.out 1; have fx2 := zE BK2'.out 2
       have fy0 := zE BK3.out 0; have fy1 := zE BK3.out 1; have fy2 := zE BK3.out 2
       clear h0' h1' h2' hz hb hbox hg))
  refine bodyPost_ret (results_cell_row rfl _ _ b2 41 #[.int .i64 t.f0, .string t.f1, .int .u16 t.f2] (0, 0) _ rfl ?hblk Tryd.underlying41 rfl (by kernel_rfl)) rfl ?_
  case hblk =>
    refine blk_put (cs := #[.int .i64 t.f0, .string t.f1, .int .u16 0]) ?_ 2 _ rfl
    refine blk_put (cs := #[.int .i64 t.f0, .string (⟨#[]⟩ : ByteArray), .int .u16 0]) ?_ 1 _ rfl
    refine blk_put (cs := #[.int .i64 0, .string (⟨#[]⟩ : ByteArray), .int .u16 0]) ?_ 0 _ rfl
    refine blk_far ?_ n4 _
    refine blk_far ?_ n2 _
    refine blk_far ?_ n2 _
    refine blk_far ?_ n2 _
    exact BK2'.out
  have HS2 := ((HS.out.below HW1.out).below HW2.out)
  have e2 : w0.heap.size ≤ b2 := by have := HS.out.base.size; have := HE2.out; omega
  have e3 : w0.heap.size ≤ b3 := by have := HS.out.base.size; have := HE3.out; omega
  have e2' : w.heap.size ≤ b2 := by have := HE2.out; omega
  have e3' : w.heap.size ≤ b3 := by have := HE3.out; omega
  refine ⟨rfl, ?_, ?_⟩
  · refine St.far ?_ n3 e2 _
    refine St.far ?_ n3 e2 _
    refine St.far ?_ n3 e2 _
    refine St.setL (l := t :: l) ?_ HL.out.1 HL.out.2
    refine St.far ?_ n5 e3 _
    refine St.far ?_ n5 e3 _
    refine St.far ?_ n5 e3 _
    exact HS2
  · refine keep_far ?_ e2' _
    refine keep_far ?_ e2' _
    refine keep_far ?_ e2' _
    refine zU.set_ ?_ _ _
    refine keep_far ?_ e3' _
    refine keep_far ?_ e3' _
    refine keep_far ?_ e3' _
    exact (zU.of_below HW1.out g none).trans (zU.of_below HW2.out g none) (.inl rfl)
end Go.Proofs.YtejhagejjogbaaaDoor.PsrB
end
section
namespace Go.Proofs.YtejhagejjogbaaaDoor.PsrC
open Go.RowKit YtejhagejjogbaaaDoorW.PrintWords YtejhagejjogbaaaDoorW.PrintLast YtejhagejjogbaaaDoorW.PrintMore Given Pn Pa Qa Par Num PsrA PsrB
set_option linter.unusedVariables false
set_option linter.unusedSimpArgs false
abbrev RE (W : World) (base : Nat) (ok : Nat → Prop) (A : Option Addr) (c : Nat) (l : List S50) : Prop := Kd.R k50 50 W base ok (.slice A l.length c) l
abbrev agg50 (e : S50) (A : Option Addr) (c : Nat) : Value := .agg #[.string e.f0, .int .u16 e.f1, .string e.f2, .slice A e.f3.length c]
def Post (w0 w : World) (g : Nat) (e : S50) (t : PS) (ex : Ending) (w' : World) : Prop :=
  ∃ A c, ex = .returned (agg50 e A c) ∧ RE w' w.heap.size (fun _ => True) A c e.f3 ∧ St w0 w' g t.l t.k t.o ∧ zU w w' g none
abbrev put50 (W : World) (b : Nat) (x0 x1 x2 x3 : Value) : World := (((W.setCell ⟨b, 0, none⟩ x0).setCell ⟨b, 1, none⟩ x1).setCell ⟨b, 2, none⟩ x2).setCell ⟨b, 3, none⟩ x3
abbrev zero50 : Array Value := #[.string (⟨#[]⟩ : ByteArray), .int .u16 0, .string (⟨#[]⟩ : ByteArray), .slice none 0 0]
section
variable {w0 w w1 W : World} {g b : Nat} {l : List S41} {k o : Int} {x0 x1 x2 x3 : Value}
theorem put50_blk {z0 z1 z2 z3 : Value} (h : W.heap[b]? = some (.cells #[z0, z1, z2, z3] 50 (0, 0))) : (put50 W b x0 x1 x2 x3).heap[b]? = some (.cells #[x0, x1, x2, x3] 50 (0, 0)) := by
  refine blk_put (cs := #[x0, x1, x2, z3]) ?_ 3 _ rfl
  refine blk_put (cs := #[x0, x1, z2, z3]) ?_ 2 _ rfl
  refine blk_put (cs := #[x0, z1, z2, z3]) ?_ 1 _ rfl
  exact blk_put (cs := #[z0, z1, z2, z3]) h 0 _ rfl
theorem put50_St (h : St w0 W g l k o) (hne : g ≠ b) (hb : w0.heap.size ≤ b) : St w0 (put50 W b x0 x1 x2 x3) g l k o := by
  refine St.far (p := ⟨b, 3, none⟩) ?_ hne hb _
  refine St.far (p := ⟨b, 2, none⟩) ?_ hne hb _
  refine St.far (p := ⟨b, 1, none⟩) ?_ hne hb _
  exact St.far (p := ⟨b, 0, none⟩) h hne hb _
theorem put50_keep (h : zU w W g none) (hb : w.heap.size ≤ b) : zU w (put50 W b x0 x1 x2 x3) g none := by
  refine keep_far (p := ⟨b, 3, none⟩) ?_ hb _
  refine keep_far (p := ⟨b, 2, none⟩) ?_ hb _
  refine keep_far (p := ⟨b, 1, none⟩) ?_ hb _
  exact keep_far (p := ⟨b, 0, none⟩) h hb _
theorem put50_R {base : Nat} {A : Option Addr} {c : Nat} {xs : List S50} (h : RE W base (fun k => k ≠ b) A c xs) : RE (put50 W b x0 x1 x2 x3) base (fun k => k ≠ b) A c xs := by
  refine Kd.R_far (p := ⟨b, 3, none⟩) ?_ (fun _ hk => hk) _
  refine Kd.R_far (p := ⟨b, 2, none⟩) ?_ (fun _ hk => hk) _
  refine Kd.R_far (p := ⟨b, 1, none⟩) ?_ (fun _ hk => hk) _
  exact Kd.R_far (p := ⟨b, 0, none⟩) h (fun _ hk => hk) _
theorem put50_far {b' : Nat} {ob : Obj} (h : W.heap[b']? = some ob) (hne : b' ≠ b) : (put50 W b x0 x1 x2 x3).heap[b']? = some ob := by
  show (((W.setCell ⟨b, 0, none⟩ x0).setCell ⟨b, 1, none⟩ x1).setCell ⟨b, 2, none⟩ x2 |>.setCell ⟨b, 3, none⟩ x3).heap[b']? = _
  rw [Below.heap_setCell _ _ _ _ hne, Below.heap_setCell _ _ _ _ hne, Below.heap_setCell _ _ _ _ hne, Below.heap_setCell _ _ _ _ hne]
  exact h
theorem RE.ge {base : Nat} {A : Option Addr} {c : Nat} {xs : List S50} (h : RE W base (fun _ => True) A c xs) (hb : b < base) : RE W base (fun k => k ≠ b) A c xs :=
  Kd.R_mono (Kd.R_bound h) (fun k hk => by have := hk.2.1; omega)
theorem RE.lt {base : Nat} {ok : Nat → Prop} {A : Option Addr} {c : Nat} {xs : List S50} (h : RE W base ok A c xs) (hb : W.heap.size ≤ b) : RE W base (fun k => k ≠ b) A c xs :=
  Kd.R_mono (Kd.R_bound h) (fun k hk => by have := hk.2.2.1; omega)
theorem blk50 {b : Nat} {a0 a1 a2 a3 : Value} (h : W.heap[b]? = some (.cells #[a0, a1, a2, a3] 50 (0, 0))) :
    (W.cell? ⟨b, 0, none⟩ = some a0 ∧ W.cell? ⟨b, 1, none⟩ = some a1 ∧ W.cell? ⟨b, 2, none⟩ = some a2 ∧ W.cell? ⟨b, 3, none⟩ = some a3) ∧
    (W.frozen? ⟨b, 0, none⟩ = false ∧ W.frozen? ⟨b, 1, none⟩ = false ∧ W.frozen? ⟨b, 2, none⟩ = false ∧ W.frozen? ⟨b, 3, none⟩ = false) :=
  ⟨⟨(zD h 0).trans rfl, (zD h 1).trans rfl, (zD h 2).trans rfl, (zD h 3).trans rfl⟩, ⟨zE h 0, zE h 1, zE h 2, zE h 3⟩⟩
theorem St_cells (h : St w0 W g l k o) : ∃ A c, W.cell? ⟨g, 0, none⟩ = some (.slice A l.length c) ∧ W.cell? ⟨g, 1, none⟩ = some (.int .i64 k) ∧ W.cell? ⟨g, 2, none⟩ = some (.int .i64 o) ∧
    W.frozen? ⟨g, 0, none⟩ = false ∧ W.frozen? ⟨g, 1, none⟩ = false ∧ W.frozen? ⟨g, 2, none⟩ = false := by
  obtain ⟨A, c, h1, _⟩ := h
  exact ⟨A, c, (zD h1 0).trans rfl, (zD h1 1).trans rfl, (zD h1 2).trans rfl, zE h1 0, zE h1 1, zE h1 2⟩
theorem post_put {e : S50} {t : PS} {base : Nat} {A : Option Addr} {c : Nat} (hS : St w0 W g t.l t.k t.o) (hK : zU w W g none) (hne : g ≠ b) (hwb : w.heap.size ≤ b) (hw0 : w0.heap.size ≤ w.heap.size)
    (hR : RE W base (fun k => k ≠ b) A c e.f3) (hbase : w.heap.size ≤ base) :
    Post w0 w g e t (.returned (agg50 e A c)) (put50 W b (.string e.f0) (.int .u16 e.f1) (.string e.f2) (.slice A e.f3.length c)) :=
  ⟨A, c, rfl, Kd.R_lower (Kd.R_mono (put50_R hR) (fun _ _ => trivial)) hbase, put50_St hS hne (by omega), put50_keep hK hwb⟩
end
theorem re_nil (W : World) (base : Nat) (ok : Nat → Prop) : RE W base ok none 0 [] := Kd.R_nil _ _ _ _ _
set_option maxHeartbeats 8000000 in
set_option maxRecDepth 100000 in
theorem fail_calls {w0 w : World} {g : Nat} {l : List S41} {k o : Int} (hS : St w0 w g l k o) (x : Int) :
    Calls Tryd.prog 192 #[.pointer (some ⟨g, 0, none⟩), .int .i64 x] w (Post w0 w g (failP ⟨l, k, o⟩ x).1 (failP ⟨l, k, o⟩ x).2) := by
  have hu50 := Tryd.underlying50
  have HS := zz_ hS
  have hglt := hS.lt
  have hw0 := hS.base.size
  clear hS
  by_cases hk : k = 0
  · have e1 : (failP ⟨l, k, o⟩ x) = (e0, ⟨l, x, o⟩) := by unfold failP; rw [if_pos hk]
    rw [e1]
    clear e1
    have hk1 : (k == 0) = true := beq_iff_eq.mpr hk
    clear hk
    go_enter Tryd.func192, Tryd.ntmps192
    go_wp2_with ((with_reducible refine zS (N := 4) rfl ?_); refine zO ?hg (N := 4) ?hd (cs := #[.string (⟨#[]⟩ : ByteArray), .int .u16 0, .string (⟨#[]⟩ : ByteArray), .slice none 0 0]) (t := 50) ?hr ?_; (case hd => rfl); (case hg => rfl); (case hr => first | (go_simp; done) | (go_simp; rfl)); intro b hg w1 hbox hb; have HW1 := zz_ hb; have BK := zz_ hbox; have HE := zz_ hg; obtain ⟨⟨x0, x1, x2, x3⟩, ⟨f0, f1, f2, f3⟩⟩ := blk50 hbox; obtain ⟨A, c, zl, zk, zo, gl, gk, go⟩ := St_cells (HS.out.below hb); have n1 : g ≠ b := (by omega); have n2 : b ≠ g := (by omega); clear hb hbox hg)
    refine bodyPost_ret (results_cell_row rfl _ _ b 50 zero50 (0, 0) _ rfl ?hblk Tryd.underlying50 rfl (by kernel_rfl)) rfl ?_
    case hblk => exact put50_blk (blk_far BK.out n2 _)
    exact post_put (e := e0) (base := w1.heap.size) ((HS.out.below HW1.out).setK x) ((zU.of_below HW1.out g none).set_ _ _) n1 (by have := HE.out; omega) hw0 (re_nil _ _ _) HW1.out.size
  · have e1 : (failP ⟨l, k, o⟩ x) = (e0, ⟨l, k, o⟩) := by unfold failP; rw [if_neg hk]
    rw [e1]
    clear e1
    have hk1 : (k == 0) = false := beq_eq_false_iff_ne.mpr hk
    clear hk
    go_enter Tryd.func192, Tryd.ntmps192
    go_wp2_with ((with_reducible refine zS (N := 4) rfl ?_); refine zO ?hg (N := 4) ?hd (cs := #[.string (⟨#[]⟩ : ByteArray), .int .u16 0, .string (⟨#[]⟩ : ByteArray), .slice none 0 0]) (t := 50) ?hr ?_; (case hd => rfl); (case hg => rfl); (case hr => first | (go_simp; done) | (go_simp; rfl)); intro b hg w1 hbox hb; have HW1 := zz_ hb; have BK := zz_ hbox; have HE := zz_ hg; obtain ⟨⟨x0, x1, x2, x3⟩, ⟨f0, f1, f2, f3⟩⟩ := blk50 hbox; obtain ⟨A, c, zl, zk, zo, gl, gk, go⟩ := St_cells (HS.out.below hb); have n1 : g ≠ b := (by omega); have n2 : b ≠ g := (by omega); clear hb hbox hg)
    refine bodyPost_ret (results_cell_row rfl _ _ b 50 zero50 (0, 0) _ rfl ?hblk Tryd.underlying50 rfl (by kernel_rfl)) rfl ?_
    case hblk => exact put50_blk BK.out
    exact post_put (e := e0) (base := w1.heap.size) (HS.out.below HW1.out) (zU.of_below HW1.out g none) n1 (by have := HE.out; omega) hw0 (re_nil _ _ _) HW1.out.size
end Go.Proofs.YtejhagejjogbaaaDoor.PsrC
end
section
namespace Go.Proofs.YtejhagejjogbaaaDoor.PsrD
open Go.RowKit YtejhagejjogbaaaDoorW.PrintWords YtejhagejjogbaaaDoorW.PrintLast YtejhagejjogbaaaDoorW.PrintMore Given Pn Pa Qa Par Num PsrA PsrB PsrC
set_option linter.unusedVariables false
set_option linter.unusedSimpArgs false
def WithinAt (n : Nat) : Prop := ∀ (r : Int) (s : PS) (e : S50) (t : PS) (w0 w : World) (g : Nat), withinP n r s = some (e, t) → St w0 w g s.l s.k s.o →
  Calls Tryd.prog 172 #[.pointer (some ⟨g, 0, none⟩), .int .i64 r] w (Post w0 w g e t)
def AtomAt (n : Nat) : Prop := ∀ (s : PS) (e : S50) (t : PS) (w0 w : World) (g : Nat), atomP n s = some (e, t) → St w0 w g s.l s.k s.o →
  Calls Tryd.prog 173 #[.pointer (some ⟨g, 0, none⟩)] w (Post w0 w g e t)
def UnaryAt (n : Nat) : Prop := ∀ (r : Int) (s : PS) (e : S50) (t : PS) (w0 w : World) (g : Nat), unaryP n r s = some (e, t) → St w0 w g s.l s.k s.o →
  Calls Tryd.prog 152 #[.pointer (some ⟨g, 0, none⟩), .int .i64 r] w (Post w0 w g e t)
def BinAt (n : Nat) : Prop := ∀ (r : Int) (s : PS) (e : S50) (t : PS) (w0 w : World) (g : Nat), binP n r s = some (e, t) → St w0 w g s.l s.k s.o →
  Calls Tryd.prog 125 #[.pointer (some ⟨g, 0, none⟩), .int .i64 r] w (Post w0 w g e t)
theorem fail_calls' {w0 w : World} {g : Nat} {l : List S41} {k o : Int} (hS : St w0 w g l k o) (x : Int) :
    Calls Tryd.prog 192 #[.pointer (some ⟨g, 0, none⟩), .int .i64 x] w (Post w0 w g e0 ⟨l, if k = 0 then x else k, o⟩) := fail_calls hS x
section
variable {w0 w w1 W W1 : World} {g b base : Nat} {l : List S41} {k o : Int} {x0 x1 x2 x3 : Value} {A : Option Addr} {c : Nat} {xs : List S50}
theorem below_put (h : Below W.heap.size W W1) (hb : W.heap.size ≤ b) : Below W.heap.size W (put50 W1 b x0 x1 x2 x3) :=
  zF (zF (zF (zF h hb) hb) hb) hb
theorem RE_below (h : RE W base (fun _ => True) A c xs) (hb : Below W.heap.size W W1) : RE W1 base (fun _ => True) A c xs := Kd.R_below h hb
theorem RE_set (h : RE W base (fun _ => True) A c xs) (hb : b < base) (j : Nat) (u : Value) : RE (W.setCell ⟨b, j, none⟩ u) base (fun _ => True) A c xs :=
  Kd.R_mono (Kd.R_far (p := ⟨b, j, none⟩) (h.ge hb) (fun _ hk => hk) u) (fun _ _ => trivial)
theorem post_new {e : S50} {t : PS} (hS : St w0 W g t.l t.k t.o) (hK : zU w W g none) (hne : g ≠ b) (hwb : w.heap.size ≤ b) (hw0 : w0.heap.size ≤ w.heap.size)
    (hR : RE W base (fun _ => True) A c e.f3) (hb : b < base) :
    Post w0 w g e t (.returned (agg50 e A c)) (put50 W b (.string e.f0) (.int .u16 e.f1) (.string e.f2) (.slice A e.f3.length c)) :=
  post_put (base := base) hS hK hne hwb hw0 (hR.ge hb) (by omega)
end
set_option maxHeartbeats 16000000 in
set_option maxRecDepth 100000 in
theorem within_calls (n : Nat) (IB : BinAt n) : WithinAt (n + 1) := by
  intro r s e t w0 w g h hS
  obtain ⟨l, k, o⟩ := s
  rw [withinP] at h
  have hu50 := Tryd.underlying50
  have HS := zz_ hS
  have IB' := zz_ IB
  have hglt := hS.lt
  have hw0 := hS.base.size
  clear hS IB
  simp only at h HS
  by_cases hc : wrap64 (o + 1) > 48
  · rw [if_pos hc] at h
    obtain ⟨he, ht⟩ := Prod.mk.inj (Option.some.inj h)
    obtain rfl : e0 = e := he
    have HT := zz_ ht.symm
    clear ht
    have hd : decide (48 < wrap64 (o + 1)) = true := decide_eq_true hc
    clear h hc
    go_enter Tryd.func172, Tryd.ntmps172
    go_wp2_with (first
      | ((with_reducible refine zS (N := 4) rfl ?_); refine zO ?hg (N := 4) ?hd (cs := #[.string (⟨#[]⟩ : ByteArray), .int .u16 0, .string (⟨#[]⟩ : ByteArray), .slice none 0 0]) (t := 50) ?hr ?_; (case hd => rfl); (case hg => rfl); (case hr => first | (go_simp; done) | (go_simp; rfl)); intro b hg w1 hbox hb; have HWb := zz_ hb; have BKb := zz_ hbox; have HEb := zz_ hg; obtain ⟨⟨x0, x1, x2, x3⟩, ⟨f0, f1, f2, f3⟩⟩ := blk50 hbox; have HS1 := zz_ (HS.out.below hb); obtain ⟨A, c, zl, zk, zo, gl, gk, go⟩ := St_cells HS1.out; have n1 : g ≠ b := (by omega); have n2 : b ≠ g := (by omega); clear hb hbox hg)
      | (go_at_call 192; refine (fail_calls' (St.setO HS1.out _) 11).mono ?_; rintro e' w2 ⟨A2, c2, rfl, hR, hS2, hK2⟩; have BK2 := zz_ (hK2.blk (blk_far BKb.out n2 _) n2 (by simp)); obtain ⟨⟨y0, y1, y2, y3⟩, ⟨q0, q1, q2, q3⟩⟩ := blk50 BK2.out; have HR2 := zz_ hR; have HS2 := zz_ hS2; have HK2 := zz_ hK2; clear hR hS2 hK2))
    refine bodyPost_ret (results_cell_row rfl _ _ b 50 #[.string e0.f0, .int .u16 e0.f1, .string e0.f2, .slice A2 e0.f3.length c2] (0, 0) _ rfl ?hblk Tryd.underlying50 rfl (by kernel_rfl)) rfl ?_
    case hblk => exact put50_blk BK2.out
    rw [HT.out]
    exact post_new (e := e0) (t := ⟨l, if k = 0 then 11 else k, _⟩) HS2.out (((zU.of_below HWb.out g none).set_ _ _).trans HK2.out (.inl rfl)) n1 (by have := HEb.out; omega) hw0 HR2.out (blk_lt (blk_far BKb.out n2 _))
  · rw [if_neg hc] at h
    cases hb : binP n r ⟨l, k, wrap64 (o + 1)⟩ with
    | none => rw [hb] at h; cases h
    | some y =>
      obtain ⟨e1, t1⟩ := y
      rw [hb] at h
      obtain ⟨rfl, rfl⟩ := Prod.mk.inj (Option.some.inj h)
      have hd : decide (48 < wrap64 (o + 1)) = false := decide_eq_false hc
      have HB := zz_ hb
      clear h hc hb
      go_enter Tryd.func172, Tryd.ntmps172
      go_wp2_with (first
        | ((with_reducible refine zS (N := 4) rfl ?_); refine zO ?hg (N := 4) ?hd (cs := #[.string (⟨#[]⟩ : ByteArray), .int .u16 0, .string (⟨#[]⟩ : ByteArray), .slice none 0 0]) (t := 50) ?hr ?_; (case hd => rfl); (case hg => rfl); (case hr => first | (go_simp; done) | (go_simp; rfl)); intro b hg w1 hbox hb; have HWb := zz_ hb; have BKb := zz_ hbox; have HEb := zz_ hg; obtain ⟨⟨x0, x1, x2, x3⟩, ⟨f0, f1, f2, f3⟩⟩ := blk50 hbox; have HS1 := zz_ (HS.out.below hb); obtain ⟨A, c, zl, zk, zo, gl, gk, go⟩ := St_cells HS1.out; have n1 : g ≠ b := (by omega); have n2 : b ≠ g := (by omega); clear hb hbox hg)
        | (go_at_call 125; refine (IB'.out r ⟨l, k, wrap64 (o + 1)⟩ _ _ w0 _ g HB.out (St.setO HS1.out _)).mono ?_; rintro e' w2 ⟨A2, c2, rfl, hR, hS2, hK2⟩; have BK2 := zz_ (hK2.blk (blk_far BKb.out n2 _) n2 (by simp)); have hlt2 := blk_lt BK2.out; have hglt2 := hS2.lt; have HR2 := zz_ hR; have HS2 := zz_ hS2; have HK2 := zz_ hK2; clear hR hS2 hK2)
        | ((with_reducible refine zS (N := 5) rfl ?_); refine zO ?hg (N := 5) ?hd (cs := #[.string (⟨#[]⟩ : ByteArray), .int .u16 0, .string (⟨#[]⟩ : ByteArray), .slice none 0 0]) (t := 50) ?hr ?_; (case hd => rfl); (case hg => rfl); (case hr => first | (go_simp; done) | (go_simp; rfl)); intro d hg w3 hbox hb; have HWd := zz_ hb; have BKd := zz_ hbox; have HEd := zz_ hg; obtain ⟨⟨x0, x1, x2, x3⟩, ⟨f0, f1, f2, f3⟩⟩ := blk50 hbox; have BK3 := zz_ (zK BK2.out hb); obtain ⟨⟨y0, y1, y2, y3⟩, ⟨q0, q1, q2, q3⟩⟩ := blk50 BK3.out; obtain ⟨A3, c3, zl3, zk3, zo3, gl3, gk3, go3⟩ := St_cells (HS2.out.below hb); have n3 : g ≠ d := (by omega); have n4 : d ≠ g := (by omega); have n5 : b ≠ d := (by omega); have n6 : d ≠ b := (by omega); clear hb hbox hg))
      have HB3 := below_put (b := d) (x0 := .string e1.f0) (x1 := .int .u16 e1.f1) (x2 := .string e1.f2) (x3 := .slice A2 e1.f3.length c2) HWd.out (by have := HEd.out; omega)
      have hgb : g < b := by have := HEb.out; omega
      refine bodyPost_ret (results_cell_row rfl _ _ b 50 #[.string e1.f0, .int .u16 e1.f1, .string e1.f2, .slice A2 e1.f3.length c2] (0, 0) _ rfl ?hblk Tryd.underlying50 rfl (by kernel_rfl)) rfl ?_
      case hblk => exact put50_blk (blk_far (zK BK2.out HB3) n2 _)
      have hbb := blk_lt (blk_far BKb.out n2 (p := ⟨g, 2, none⟩) (.int .i64 (wrap64 (o + 1))))
      exact post_new (e := e1) (t := ⟨t1.l, t1.k, wrap64 (t1.o - 1)⟩) ((HS2.out.below HB3).setO _)
        ((((((zU.of_below HWb.out g none).set_ _ _).trans HK2.out (.inl rfl))).trans (zU.of_below HB3 g none) (.inl rfl)).set_ _ _) n1 (by have := HEb.out; omega) hw0
        (RE_set (RE_below HR2.out HB3) (Nat.lt_trans hgb hbb) _ _) hbb
end Go.Proofs.YtejhagejjogbaaaDoor.PsrD
end
section
namespace Go.Proofs.YtejhagejjogbaaaDoor.PsrE
open Go.RowKit YtejhagejjogbaaaDoorW.PrintWords YtejhagejjogbaaaDoorW.PrintLast YtejhagejjogbaaaDoorW.PrintMore Given Pn Pa Qa Par Num PsrA PsrB PsrC PsrD
set_option linter.unusedVariables false
set_option linter.unusedSimpArgs false
theorem lit_C (W : World) (ts : List ByteArray) (cs : Array Value) (hcs : cs.toList = ts.map Value.string) (hm : ts.length ≤ 1000) : Kd.C Kd.string (W.alloc (.cells cs 9)) (some ⟨W.heap.size, 0, none⟩) ts.length ts :=
  ⟨rfl, by omega, fun hn => ⟨_, rfl, fun j p hj => ⟨[.string p], rfl, rfl, fun i u hu => by
    cases i with
    | succ i => simp at hu
    | zero =>
      obtain rfl := Option.some.inj hu
      show World.cell? _ ((⟨W.heap.size, 0, none⟩ : Addr).add (j * 1 + 0)) = _
      rw [Nat.mul_one, Nat.add_zero, add_plain, zD (blk_new W _) j]
      have h2 : cs.toList[j]? = some (.string p) := by rw [hcs, List.getElem?_map, hj]; rfl
      simpa using h2⟩⟩⟩
set_option maxHeartbeats 16000000 in
set_option maxRecDepth 100000 in
theorem operator_calls {w0 w : World} {g : Nat} {l : List S41} {k o : Int} (hS : St w0 w g l k o) (r : Int) :
    Calls Tryd.prog 153 #[.pointer (some ⟨g, 0, none⟩), .int .i64 r] w fun e w' => e = .returned (.tuple #[.string ((opP l r).getD ⟨#[]⟩), .bool (opP l r).isSome]) ∧ Below w.heap.size w w' := by
  have HS := zz_ hS
  clear hS
  by_cases h1 : r = 1
  · have he : opP l r = atP l 1 (([⟨#[79, 82]⟩, ⟨#[88, 79, 82]⟩] : List ByteArray).map (·.data.toList)) := by unfold opP; rw [if_pos h1]; rfl
    rw [he]
    have hr1 : (r == 1) = true := beq_iff_eq.mpr h1
    clear he h1
    go_enter Tryd.func153, Tryd.ntmps153
    go_wp2_with (go_at_call 171; refine (at_calls (w0 := w0) (g := g) (l := l) (k := k) (o := o) 1 _ 2 [⟨#[79, 82]⟩, ⟨#[88, 79, 82]⟩] (St.is (HS.out.below (zB (Below.refl _ _) _))) (HS.out.below (zB (Below.refl _ _) _)).base (lit_C _ [⟨#[79, 82]⟩, ⟨#[88, 79, 82]⟩] _ rfl (by decide)) (by decide) (by decide)).mono ?_; rintro e w2 ⟨rfl, hd2⟩; obtain ⟨nd, rfl⟩ := hd2)
    go_ret2
    exact ⟨rfl, zA (zB (Below.refl _ _) _) _⟩
  have hr1 : (r == 1) = false := beq_eq_false_iff_ne.mpr h1
  by_cases h2 : r = 2
  · have he : opP l r = atP l 1 (([⟨#[65, 78, 68]⟩] : List ByteArray).map (·.data.toList)) := by unfold opP; rw [if_neg h1, if_pos h2]; rfl
    rw [he]
    have hr2 : (r == 2) = true := beq_iff_eq.mpr h2
    clear he h1 h2
    go_enter Tryd.func153, Tryd.ntmps153
    go_wp2_with (go_at_call 171; refine (at_calls (w0 := w0) (g := g) (l := l) (k := k) (o := o) 1 _ 1 [⟨#[65, 78, 68]⟩] (St.is (HS.out.below (zB (Below.refl _ _) _))) (HS.out.below (zB (Below.refl _ _) _)).base (lit_C _ [⟨#[65, 78, 68]⟩] _ rfl (by decide)) (by decide) (by decide)).mono ?_; rintro e w2 ⟨rfl, hd2⟩; obtain ⟨nd, rfl⟩ := hd2)
    go_ret2
    exact ⟨rfl, zA (zB (Below.refl _ _) _) _⟩
  have hr2 : (r == 2) = false := beq_eq_false_iff_ne.mpr h2
  by_cases h4 : r = 4
  · have he : opP l r = atP l 4 (([⟨#[43]⟩, ⟨#[45]⟩] : List ByteArray).map (·.data.toList)) := by unfold opP; rw [if_neg h1, if_neg h2, if_pos h4]; rfl
    rw [he]
    have hr4 : (r == 4) = true := beq_iff_eq.mpr h4
    clear he h1 h2 h4
    go_enter Tryd.func153, Tryd.ntmps153
    go_wp2_with (go_at_call 171; refine (at_calls (w0 := w0) (g := g) (l := l) (k := k) (o := o) 4 _ 2 [⟨#[43]⟩, ⟨#[45]⟩] (St.is (HS.out.below (zB (Below.refl _ _) _))) (HS.out.below (zB (Below.refl _ _) _)).base (lit_C _ [⟨#[43]⟩, ⟨#[45]⟩] _ rfl (by decide)) (by decide) (by decide)).mono ?_; rintro e w2 ⟨rfl, hd2⟩; obtain ⟨nd, rfl⟩ := hd2)
    go_ret2
    exact ⟨rfl, zA (zB (Below.refl _ _) _) _⟩
  have hr4 : (r == 4) = false := beq_eq_false_iff_ne.mpr h4
  have he : opP l r = match atP l 4 (([⟨#[42]⟩, ⟨#[47]⟩] : List ByteArray).map (·.data.toList)) with
    | some s => some s
    | none => atP l 1 (([⟨#[77, 79, 68]⟩, ⟨#[83, 72, 76]⟩, ⟨#[83, 72, 82]⟩] : List ByteArray).map (·.data.toList)) := by unfold opP; rw [if_neg h1, if_neg h2, if_neg h4]; rfl
  rw [he]
  clear he h1 h2 h4
  cases ha : atP l 4 (([⟨#[42]⟩, ⟨#[47]⟩] : List ByteArray).map (·.data.toList)) with
  | some s =>
    have HA := zz_ ha
    clear ha
    go_enter Tryd.func153, Tryd.ntmps153
    go_wp2_with (go_at_call 171; refine (at_calls (w0 := w0) (g := g) (l := l) (k := k) (o := o) 4 _ 2 [⟨#[42]⟩, ⟨#[47]⟩] (St.is (HS.out.below (zB (Below.refl _ _) _))) (HS.out.below (zB (Below.refl _ _) _)).base (lit_C _ [⟨#[42]⟩, ⟨#[47]⟩] _ rfl (by decide)) (by decide) (by decide)).mono ?_; rintro e w2 ⟨rfl, hd2⟩; rw [HA.out]; obtain ⟨nd, rfl⟩ := hd2)
    go_ret2
    exact ⟨rfl, zA (zB (Below.refl _ _) _) _⟩
  | none =>
    have HA := zz_ ha
    clear ha
    go_enter Tryd.func153, Tryd.ntmps153
    go_wp2_with (first | (go_at_call 171; refine (at_calls (w0 := w0) (g := g) (l := l) (k := k) (o := o) 4 _ 2 [⟨#[42]⟩, ⟨#[47]⟩] (St.is (HS.out.below (zB (Below.refl _ _) _))) (HS.out.below (zB (Below.refl _ _) _)).base (lit_C _ [⟨#[42]⟩, ⟨#[47]⟩] _ rfl (by decide)) (by decide) (by decide)).mono ?_; rintro e w2 ⟨rfl, hd2⟩; rw [HA.out]; have HW := zz_ (zG (zB (Below.refl _ _) _) hd2.below); have HS2 := zz_ (HS.out.below HW.out); clear HS hd2) | (go_at_call 171; refine (at_calls (w0 := w0) (g := g) (l := l) (k := k) (o := o) 1 _ 3 [⟨#[77, 79, 68]⟩, ⟨#[83, 72, 76]⟩, ⟨#[83, 72, 82]⟩] (St.is (HS2.out.below (zB (Below.refl _ _) _))) (HS2.out.below (zB (Below.refl _ _) _)).base (lit_C _ [⟨#[77, 79, 68]⟩, ⟨#[83, 72, 76]⟩, ⟨#[83, 72, 82]⟩] _ rfl (by decide)) (by decide) (by decide)).mono ?_; rintro e w3 ⟨rfl, hd3⟩; have HW3 := zz_ (zG (zB HW.out _) hd3.below); clear hd3))
    go_ret2
    exact ⟨rfl, HW3.out⟩
end Go.Proofs.YtejhagejjogbaaaDoor.PsrE
end
section
namespace Go.Proofs.YtejhagejjogbaaaDoor.PsrF
open Go.RowKit YtejhagejjogbaaaDoorW.PrintWords YtejhagejjogbaaaDoorW.PrintLast YtejhagejjogbaaaDoorW.PrintMore Given Pn Pa Qa Par Num PsrA PsrB PsrC PsrD PsrE
set_option linter.unusedVariables false
set_option linter.unusedSimpArgs false
theorem lit_R {W : World} {base : Nat} {xs : List S50} {inner : List Value} (hrep : Reps (k50.M W base (fun _ => True)) 4 xs inner) (hbase : base ≤ W.heap.size) (hm : xs.length ≤ 1000) :
    RE (W.alloc (.cells inner.toArray 50)) base (fun _ => True) (some ⟨W.heap.size, 0, none⟩) xs.length xs := by
  refine ⟨fun _ _ => trivial, inner, ?_, ?_⟩
  · have h2 := World.ownsRow_lit (base := base) (e := 50) (size := 4) W inner.toArray xs.length hbase (by simp [maxLen]; omega) (by simpa using hrep.1)
    have h3 : (W.alloc (.cells inner.toArray 50)).ownsRow base 50 4 (.slice (some ⟨W.heap.size, 0, none⟩) xs.length xs.length) xs.length inner := by simpa using h2
    exact h3
  · refine hrep.imp_ (fun p c hp => k50.M_mono (fun k hk => ⟨trivial, fun he => ?_⟩) (Kd.M_below (k50.M_bound hp) (zB (Below.refl _ _) _)))
    have h3 : k = W.heap.size := by simpa [Value.ownBlock] using he
    have := hk.2.2.1
    omega
theorem lit1 {W : World} {base : Nat} {A : Option Addr} {c : Nat} {e : S50} (h : RE W base (fun _ => True) A c e.f3) (hbase : base ≤ W.heap.size) :
    RE (W.alloc (.cells #[.string e.f0, .int .u16 e.f1, .string e.f2, .slice A e.f3.length c] 50)) base (fun _ => True) (some ⟨W.heap.size, 0, none⟩) 1 [e] :=
  lit_R (xs := [e]) (inner := [.string e.f0, .int .u16 e.f1, .string e.f2, .slice A e.f3.length c]) (Reps.c4 (k50_mkM W base _ e h) (Reps.none _ _)) hbase (by simp)
section
variable {P : Program} {ops : Array Oper} {rest : List Oper} {o : Oper} {a : Act} {Q : Exit → Act → World → Prop}
theorem lit_event {W : World} (hgd : o.guard = none) {N : Tmp} (_hd : o.dst = some N) {cs : Array Value} {n : Nat}
    (hrun : (execOp a.eval o).run P W = .ok (.value (.slice (some ⟨W.heap.size, 0, none⟩) n n)) (W.alloc (.cells cs 50)))
    (h : ∀ g', g' = W.heap.size → ∀ w1, w1 = W.alloc (.cells cs 50) → wpList P ops Q rest (a.put o.dst (.slice (some ⟨g', 0, none⟩) n n)) w1) : wpList P ops Q (o :: rest) a W :=
  Kd.event_run hgd hrun (h _ rfl _ rfl)
end
theorem at_some {l : List S41} {kind : Int} {ts : List (List UInt8)} {s : ByteArray} (h : atP l kind ts = some s) : ∃ t l', l = t :: l' := by
  cases l with
  | nil => cases h
  | cons t l' => exact ⟨t, l', rfl⟩
set_option maxHeartbeats 16000000 in
set_option maxRecDepth 100000 in
theorem unary_calls (n : Nat) (IW : WithinAt n) (IA : AtomAt n) (IB : BinAt n) : UnaryAt (n + 1) := by
  intro r s e t w0 w g h hS
  obtain ⟨l, k, o⟩ := s
  rw [unaryP] at h
  have hu50 := Tryd.underlying50
  have HS := zz_ hS
  have IW' := zz_ IW
  have IA' := zz_ IA
  have IB' := zz_ IB
  have hglt := hS.lt
  have hw0 := hS.base.size
  clear hS IB IW IA
  simp only at h HS
  by_cases hr : r = 6
  · rw [if_pos hr] at h
    have hr6 : (r == 6) = true := beq_iff_eq.mpr hr
    cases ha : atP l 4 [[45]] with
    | some s =>
      obtain ⟨t0, l', rfl⟩ := at_some ha
      rw [ha, if_pos (show (some s).isSome = true from rfl), List.drop_one, List.tail_cons] at h
      have HA := zz_ (show atP (t0 :: l') 4 (([⟨#[45]⟩] : List ByteArray).map (·.data.toList)) = some s from ha)
      cases hb : withinP n r ⟨l', k, o⟩ with
      | none => rw [hb] at h; cases h
      | some y =>
        obtain ⟨e1, t1⟩ := y
        rw [hb] at h
        obtain ⟨rfl, rfl⟩ := Prod.mk.inj (Option.some.inj h)
        have HB := zz_ hb
        clear h ha hb hr
        go_enter Tryd.func152, Tryd.ntmps152
        go_wp2_with (first
          | ((with_reducible refine zS (N := 4) rfl ?_); refine zO ?hg (N := 4) ?hd (cs := #[.string (⟨#[]⟩ : ByteArray), .int .u16 0, .string (⟨#[]⟩ : ByteArray), .slice none 0 0]) (t := 50) ?hr ?_; (case hd => rfl); (case hg => rfl); (case hr => first | (go_simp; done) | (go_simp; rfl)); intro b hg w1 hbox hb; have HWb := zz_ hb; have BKb := zz_ hbox; have HEb := zz_ hg; obtain ⟨⟨x0, x1, x2, x3⟩, ⟨f0, f1, f2, f3⟩⟩ := blk50 hbox; have HS1 := zz_ (HS.out.below hb); have n1 : g ≠ b := (by omega); have n2 : b ≠ g := (by omega); clear hb hbox hg)
          | (go_at_call 171; refine (at_calls (w0 := w0) (g := g) (l := t0 :: l') (k := k) (o := o) 4 _ 1 [⟨#[45]⟩] (St.is (HS1.out.below (zB (Below.refl _ _) _))) (HS1.out.below (zB (Below.refl _ _) _)).base (lit_C _ [⟨#[45]⟩] _ rfl (by decide)) (by decide) (by decide)).mono ?_; rintro e' w2 ⟨rfl, hd2⟩; rw [HA.out]; have hb2 := zG (zB (Below.refl _ _) _) hd2.below; have HX2 := zz_ hb2; have BK2 := zz_ (zK BKb.out hb2); have HS2 := zz_ (HS1.out.below hb2); obtain ⟨⟨y0, y1, y2, y3⟩, ⟨q0, q1, q2, q3⟩⟩ := blk50 BK2.out; clear hd2 hb2)
          | (go_at_call 154; refine (skip_calls HS2.out).mono ?_; rintro e' w3 ⟨rfl, hS3, hK3⟩; have BK3 := zz_ (hK3.blk BK2.out n2 (by simp)); have HS3 := zz_ hS3; have HK3 := zz_ hK3; clear hS3 hK3)
          | (go_at_call 172; refine (IW'.out r ⟨l', k, o⟩ _ _ w0 _ g HB.out HS3.out).mono ?_; rintro e' w4 ⟨A2, c2, rfl, hR, hS4, hK4⟩; have BK4 := zz_ (hK4.blk BK3.out n2 (by simp)); have HS4 := zz_ hS4; have HK4 := zz_ hK4; have HR4 := zz_ hR; clear hS4 hK4 hR)
          | ((with_reducible refine zS (N := 31) rfl ?_); refine lit_event ?hg (N := 31) ?hd (cs := #[.string e1.f0, .int .u16 e1.f1, .string e1.f2, .slice A2 e1.f3.length c2]) (n := 1) ?hr ?_; (case hd => rfl); (case hg => rfl); (case hr => first | (go_simp; done) | (go_simp; rfl)); intro d hd5 w5 hw5; have hb5 := (show Below w4.heap.size w4 w5 from (by rw [hw5]; exact zB (Below.refl _ _) _)); have HX5 := zz_ hb5; have BK5 := zz_ (zK BK4.out hb5); have HR5 := zz_ (show RE w5 w3.heap.size (fun _ => True) (some ⟨d, 0, none⟩) 1 [e1] from (by rw [hw5, hd5]; exact lit1 HR4.out HK4.out.1)); obtain ⟨⟨z0, z1, z2, z3⟩, ⟨p0, p1, p2, p3⟩⟩ := blk50 BK5.out; clear hb5 hw5 hd5))
        refine bodyPost_ret (results_cell_row rfl _ _ b 50 #[.string (⟨⟨#[78, 69, 71]⟩, 0, ⟨#[]⟩, [e1]⟩ : S50).f0, .int .u16 0, .string ⟨#[]⟩, .slice (some ⟨d, 0, none⟩) 1 1] (0, 0) _ rfl ?hblk Tryd.underlying50 rfl (by kernel_rfl)) rfl ?_
        case hblk => exact put50_blk BK5.out
        exact post_new (e := ⟨⟨#[78, 69, 71]⟩, 0, ⟨#[]⟩, [e1]⟩) (t := t1) (base := w3.heap.size) (HS4.out.below HX5.out)
          ((((zU.of_below HWb.out g none).trans (zU.of_below HX2.out g none) (.inl rfl)).trans HK3.out (.inl rfl)).trans HK4.out (.inl rfl) |>.trans (zU.of_below HX5.out g none) (.inl rfl)) n1 (by have := HEb.out; omega) hw0
          HR5.out (blk_lt BK3.out)
    | none =>
      rw [ha, if_neg (by simp)] at h
      have HA := zz_ (show atP l 4 (([⟨#[45]⟩] : List ByteArray).map (·.data.toList)) = none from ha)
      have HB := zz_ h
      clear h ha hr
      go_enter Tryd.func152, Tryd.ntmps152
      go_wp2_with (first
          | ((with_reducible refine zS (N := 4) rfl ?_); refine zO ?hg (N := 4) ?hd (cs := #[.string (⟨#[]⟩ : ByteArray), .int .u16 0, .string (⟨#[]⟩ : ByteArray), .slice none 0 0]) (t := 50) ?hr ?_; (case hd => rfl); (case hg => rfl); (case hr => first | (go_simp; done) | (go_simp; rfl)); intro b hg w1 hbox hb; have HWb := zz_ hb; have BKb := zz_ hbox; have HEb := zz_ hg; obtain ⟨⟨x0, x1, x2, x3⟩, ⟨f0, f1, f2, f3⟩⟩ := blk50 hbox; have HS1 := zz_ (HS.out.below hb); have n1 : g ≠ b := (by omega); have n2 : b ≠ g := (by omega); clear hb hbox hg)
          | (go_at_call 171; refine (at_calls (w0 := w0) (g := g) (l := l) (k := k) (o := o) 4 _ 1 [⟨#[45]⟩] (St.is (HS1.out.below (zB (Below.refl _ _) _))) (HS1.out.below (zB (Below.refl _ _) _)).base (lit_C _ [⟨#[45]⟩] _ rfl (by decide)) (by decide) (by decide)).mono ?_; rintro e' w2 ⟨rfl, hd2⟩; rw [HA.out]; have hb2 := zG (zB (Below.refl _ _) _) hd2.below; have HX2 := zz_ hb2; have BK2 := zz_ (zK BKb.out hb2); have HS2 := zz_ (HS1.out.below hb2); obtain ⟨⟨y0, y1, y2, y3⟩, ⟨q0, q1, q2, q3⟩⟩ := blk50 BK2.out; clear hd2 hb2)
          | (go_at_call 173; refine (IA'.out ⟨l, k, o⟩ _ _ w0 _ g HB.out HS2.out).mono ?_; rintro e' w4 ⟨A2, c2, rfl, hR, hS4, hK4⟩; have BK4 := zz_ (hK4.blk BK2.out n2 (by simp)); have HS4 := zz_ hS4; have HK4 := zz_ hK4; have HR4 := zz_ hR; obtain ⟨⟨z0, z1, z2, z3⟩, ⟨p0, p1, p2, p3⟩⟩ := blk50 BK4.out; clear hS4 hK4 hR))
      refine bodyPost_ret (results_cell_row rfl _ _ b 50 #[.string e.f0, .int .u16 e.f1, .string e.f2, .slice A2 e.f3.length c2] (0, 0) _ rfl ?hblk Tryd.underlying50 rfl (by kernel_rfl)) rfl ?_
      case hblk => exact put50_blk BK4.out
      exact post_new (e := e) (t := t) (base := w2.heap.size) HS4.out
        (((zU.of_below HWb.out g none).trans (zU.of_below HX2.out g none) (.inl rfl)).trans HK4.out (.inl rfl)) n1 (by have := HEb.out; omega) hw0
        HR4.out (blk_lt BK2.out)
  · rw [if_neg hr] at h
    have hr6 : (r == 6) = false := beq_eq_false_iff_ne.mpr hr
    cases ha : atP l 1 [[78, 79, 84]] with
    | some s =>
      obtain ⟨t0, l', rfl⟩ := at_some ha
      rw [ha, if_pos (show (some s).isSome = true from rfl), List.drop_one, List.tail_cons] at h
      have HA := zz_ (show atP (t0 :: l') 1 (([⟨#[78, 79, 84]⟩] : List ByteArray).map (·.data.toList)) = some s from ha)
      cases hb : withinP n r ⟨l', k, o⟩ with
      | none => rw [hb] at h; cases h
      | some y =>
        obtain ⟨e1, t1⟩ := y
        rw [hb] at h
        obtain ⟨rfl, rfl⟩ := Prod.mk.inj (Option.some.inj h)
        have HB := zz_ hb
        clear h ha hb hr
        go_enter Tryd.func152, Tryd.ntmps152
        go_wp2_with (first
          | ((with_reducible refine zS (N := 4) rfl ?_); refine zO ?hg (N := 4) ?hd (cs := #[.string (⟨#[]⟩ : ByteArray), .int .u16 0, .string (⟨#[]⟩ : ByteArray), .slice none 0 0]) (t := 50) ?hr ?_; (case hd => rfl); (case hg => rfl); (case hr => first | (go_simp; done) | (go_simp; rfl)); intro b hg w1 hbox hb; have HWb := zz_ hb; have BKb := zz_ hbox; have HEb := zz_ hg; obtain ⟨⟨x0, x1, x2, x3⟩, ⟨f0, f1, f2, f3⟩⟩ := blk50 hbox; have HS1 := zz_ (HS.out.below hb); have n1 : g ≠ b := (by omega); have n2 : b ≠ g := (by omega); clear hb hbox hg)
          | (go_at_call 171; refine (at_calls (w0 := w0) (g := g) (l := t0 :: l') (k := k) (o := o) 1 _ 1 [⟨#[78, 79, 84]⟩] (St.is (HS1.out.below (zB (Below.refl _ _) _))) (HS1.out.below (zB (Below.refl _ _) _)).base (lit_C _ [⟨#[78, 79, 84]⟩] _ rfl (by decide)) (by decide) (by decide)).mono ?_; rintro e' w2 ⟨rfl, hd2⟩; rw [HA.out]; have hb2 := zG (zB (Below.refl _ _) _) hd2.below; have HX2 := zz_ hb2; have BK2 := zz_ (zK BKb.out hb2); have HS2 := zz_ (HS1.out.below hb2); obtain ⟨⟨y0, y1, y2, y3⟩, ⟨q0, q1, q2, q3⟩⟩ := blk50 BK2.out; clear hd2 hb2)
          | (go_at_call 154; refine (skip_calls HS2.out).mono ?_; rintro e' w3 ⟨rfl, hS3, hK3⟩; have BK3 := zz_ (hK3.blk BK2.out n2 (by simp)); have HS3 := zz_ hS3; have HK3 := zz_ hK3; clear hS3 hK3)
          | (go_at_call 172; refine (IW'.out r ⟨l', k, o⟩ _ _ w0 _ g HB.out HS3.out).mono ?_; rintro e' w4 ⟨A2, c2, rfl, hR, hS4, hK4⟩; have BK4 := zz_ (hK4.blk BK3.out n2 (by simp)); have HS4 := zz_ hS4; have HK4 := zz_ hK4; have HR4 := zz_ hR; clear hS4 hK4 hR)
          | ((with_reducible refine zS (N := 31) rfl ?_); refine lit_event ?hg (N := 31) ?hd (cs := #[.string e1.f0, .int .u16 e1.f1, .string e1.f2, .slice A2 e1.f3.length c2]) (n := 1) ?hr ?_; (case hd => rfl); (case hg => rfl); (case hr => first | (go_simp; done) | (go_simp; rfl)); intro d hd5 w5 hw5; have hb5 := (show Below w4.heap.size w4 w5 from (by rw [hw5]; exact zB (Below.refl _ _) _)); have HX5 := zz_ hb5; have BK5 := zz_ (zK BK4.out hb5); have HR5 := zz_ (show RE w5 w3.heap.size (fun _ => True) (some ⟨d, 0, none⟩) 1 [e1] from (by rw [hw5, hd5]; exact lit1 HR4.out HK4.out.1)); obtain ⟨⟨z0, z1, z2, z3⟩, ⟨p0, p1, p2, p3⟩⟩ := blk50 BK5.out; clear hb5 hw5 hd5))
        refine bodyPost_ret (results_cell_row rfl _ _ b 50 #[.string (⟨⟨#[78, 79, 84]⟩, 0, ⟨#[]⟩, [e1]⟩ : S50).f0, .int .u16 0, .string ⟨#[]⟩, .slice (some ⟨d, 0, none⟩) 1 1] (0, 0) _ rfl ?hblk Tryd.underlying50 rfl (by kernel_rfl)) rfl ?_
        case hblk => exact put50_blk BK5.out
        exact post_new (e := ⟨⟨#[78, 79, 84]⟩, 0, ⟨#[]⟩, [e1]⟩) (t := t1) (base := w3.heap.size) (HS4.out.below HX5.out)
          ((((zU.of_below HWb.out g none).trans (zU.of_below HX2.out g none) (.inl rfl)).trans HK3.out (.inl rfl)).trans HK4.out (.inl rfl) |>.trans (zU.of_below HX5.out g none) (.inl rfl)) n1 (by have := HEb.out; omega) hw0
          HR5.out (blk_lt BK3.out)
    | none =>
      rw [ha, if_neg (by simp)] at h
      have HA := zz_ (show atP l 1 (([⟨#[78, 79, 84]⟩] : List ByteArray).map (·.data.toList)) = none from ha)
      have HB := zz_ h
      clear h ha hr
      go_enter Tryd.func152, Tryd.ntmps152
      go_wp2_with (first
          | ((with_reducible refine zS (N := 4) rfl ?_); refine zO ?hg (N := 4) ?hd (cs := #[.string (⟨#[]⟩ : ByteArray), .int .u16 0, .string (⟨#[]⟩ : ByteArray), .slice none 0 0]) (t := 50) ?hr ?_; (case hd => rfl); (case hg => rfl); (case hr => first | (go_simp; done) | (go_simp; rfl)); intro b hg w1 hbox hb; have HWb := zz_ hb; have BKb := zz_ hbox; have HEb := zz_ hg; obtain ⟨⟨x0, x1, x2, x3⟩, ⟨f0, f1, f2, f3⟩⟩ := blk50 hbox; have HS1 := zz_ (HS.out.below hb); have n1 : g ≠ b := (by omega); have n2 : b ≠ g := (by omega); clear hb hbox hg)
          | (go_at_call 171; refine (at_calls (w0 := w0) (g := g) (l := l) (k := k) (o := o) 1 _ 1 [⟨#[78, 79, 84]⟩] (St.is (HS1.out.below (zB (Below.refl _ _) _))) (HS1.out.below (zB (Below.refl _ _) _)).base (lit_C _ [⟨#[78, 79, 84]⟩] _ rfl (by decide)) (by decide) (by decide)).mono ?_; rintro e' w2 ⟨rfl, hd2⟩; rw [HA.out]; have hb2 := zG (zB (Below.refl _ _) _) hd2.below; have HX2 := zz_ hb2; have BK2 := zz_ (zK BKb.out hb2); have HS2 := zz_ (HS1.out.below hb2); obtain ⟨⟨y0, y1, y2, y3⟩, ⟨q0, q1, q2, q3⟩⟩ := blk50 BK2.out; clear hd2 hb2)
          | (go_at_call 125; refine (IB'.out (wrap64 (r + 1)) ⟨l, k, o⟩ _ _ w0 _ g HB.out HS2.out).mono ?_; rintro e' w4 ⟨A2, c2, rfl, hR, hS4, hK4⟩; have BK4 := zz_ (hK4.blk BK2.out n2 (by simp)); have HS4 := zz_ hS4; have HK4 := zz_ hK4; have HR4 := zz_ hR; obtain ⟨⟨z0, z1, z2, z3⟩, ⟨p0, p1, p2, p3⟩⟩ := blk50 BK4.out; clear hS4 hK4 hR))
      refine bodyPost_ret (results_cell_row rfl _ _ b 50 #[.string e.f0, .int .u16 e.f1, .string e.f2, .slice A2 e.f3.length c2] (0, 0) _ rfl ?hblk Tryd.underlying50 rfl (by kernel_rfl)) rfl ?_
      case hblk => exact put50_blk BK4.out
      exact post_new (e := e) (t := t) (base := w2.heap.size) HS4.out
        (((zU.of_below HWb.out g none).trans (zU.of_below HX2.out g none) (.inl rfl)).trans HK4.out (.inl rfl)) n1 (by have := HEb.out; omega) hw0
        HR4.out (blk_lt BK2.out)
end Go.Proofs.YtejhagejjogbaaaDoor.PsrF
end
section
namespace Go.Proofs.YtejhagejjogbaaaDoor.PsrG
open Go.RowKit YtejhagejjogbaaaDoorW.PrintWords YtejhagejjogbaaaDoorW.PrintLast YtejhagejjogbaaaDoorW.PrintMore Given Pn Pa Qa Par Num PsrA PsrB PsrC PsrD PsrE PsrF
set_option linter.unusedVariables false
set_option linter.unusedSimpArgs false
theorem lit_Rok {W : World} {base : Nat} {ok : Nat → Prop} {xs : List S50} {inner : List Value} (hrep : Reps (k50.M W base ok) 4 xs inner) (hok : ok W.heap.size) (hbase : base ≤ W.heap.size) (hm : xs.length ≤ 1000) :
    RE (W.alloc (.cells inner.toArray 50)) base ok (some ⟨W.heap.size, 0, none⟩) xs.length xs := by
  refine ⟨fun k hk => ?_, inner, ?_, ?_⟩
  · have : W.heap.size = k := by simpa [Value.ownBlock] using hk
    subst this
    exact hok
  · have h2 := World.ownsRow_lit (base := base) (e := 50) (size := 4) W inner.toArray xs.length hbase (by simp [maxLen]; omega) (by simpa using hrep.1)
    have h3 : (W.alloc (.cells inner.toArray 50)).ownsRow base 50 4 (.slice (some ⟨W.heap.size, 0, none⟩) xs.length xs.length) xs.length inner := by simpa using h2
    exact h3
  · refine hrep.imp_ (fun p c hp => k50.M_mono (fun k hk => ⟨hk.1, fun he => ?_⟩) (Kd.M_below (k50.M_bound hp) (zB (Below.refl _ _) _)))
    have h3 : k = W.heap.size := by simpa [Value.ownBlock] using he
    have := hk.2.2.1
    omega
theorem lit2ok {W : World} {base : Nat} {ok : Nat → Prop} {A A' : Option Addr} {c c' : Nat} {e e' : S50} (h : RE W base ok A c e.f3) (h' : RE W base ok A' c' e'.f3) (hok : ok W.heap.size) (hbase : base ≤ W.heap.size) :
    RE (W.alloc (.cells #[.string e.f0, .int .u16 e.f1, .string e.f2, .slice A e.f3.length c, .string e'.f0, .int .u16 e'.f1, .string e'.f2, .slice A' e'.f3.length c'] 50)) base ok (some ⟨W.heap.size, 0, none⟩) 2 [e, e'] :=
  lit_Rok (xs := [e, e']) (inner := [.string e.f0, .int .u16 e.f1, .string e.f2, .slice A e.f3.length c, .string e'.f0, .int .u16 e'.f1, .string e'.f2, .slice A' e'.f3.length c']) (Reps.c4 (k50_mkM W base _ e h) (Reps.c4 (k50_mkM W base _ e' h') (Reps.none _ _))) hok hbase (by simp)
section
variable {P : Program} {ops : Array Oper} {o : Oper} {a : Act} {Q : Exit → Act → World → Prop} {Kc : Act → World → Prop}
theorem lit_step {W : World} (hw : Region.wanted o (yielded ops a.tmps) = true) {N : Tmp} (_hd : o.dst = some N) {cs : Array Value} {n : Nat}
    (hrun : (execOp a.eval o).run P W = .ok (.value (.slice (some ⟨W.heap.size, 0, none⟩) n n)) (W.alloc (.cells cs 50)))
    (h : ∀ g', g' = W.heap.size → ∀ w1, w1 = W.alloc (.cells cs 50) → Kc (a.put o.dst (.slice (some ⟨g', 0, none⟩) n n)) w1) : if Region.wanted o (yielded ops a.tmps) = true then Oper.wp P o a W Kc Q else Kc (a.put o.dst undef) W :=
  event_step hw hrun (h _ rfl _ rfl)
theorem store_step {W w1 : World} (hw : Region.wanted o (yielded ops a.tmps) = true) (hN : o.dst = none) (hrun : (execOp a.eval o).run P W = .ok .skip w1) (h : ∀ w', w' = w1 → Kc a w') :
    if Region.wanted o (yielded ops a.tmps) = true then Oper.wp P o a W Kc Q else Kc (a.put none undef) W := by
  rw [if_pos hw]
  unfold Oper.wp
  rw [hrun]
  show Kc (a.put o.dst undef) w1
  rw [hN]
  exact h _ rfl
end
theorem op_some {l : List S41} {r : Int} {s : ByteArray} (h : opP l r = some s) : ∃ t l', l = t :: l' := by
  cases l with
  | nil =>
    unfold opP at h
    split at h
    · cases h
    · split at h
      · cases h
      · split at h
        · cases h
        · cases h
  | cons t l' => exact ⟨t, l', rfl⟩
structure LI (w0 w w' : World) (g b d : Nat) (A : Option Addr) (c : Nat) (e : S50) (s : PS) : Prop where
  kb : w'.heap[b]? = some (.cells #[.string (⟨#[]⟩ : ByteArray), .int .u16 0, .string (⟨#[]⟩ : ByteArray), .slice none 0 0] 50 (0, 0))
  kd : w'.heap[d]? = some (.cells #[.string e.f0, .int .u16 e.f1, .string e.f2, .slice A e.f3.length c] 50 (0, 0))
  re : RE w' w.heap.size (fun k => k ≠ d ∧ k ≠ b ∧ k ≠ g) A c e.f3
  st : St w0 w' g s.l s.k s.o
  kp : zU w w' g none
section
variable {w0 w w' W : World} {g b d : Nat} {A : Option Addr} {c : Nat} {e : S50} {s : PS}
theorem LI.below (h : LI w0 w w' g b d A c e s) (hb : Below w'.heap.size w' W) : LI w0 w W g b d A c e s :=
  ⟨zK h.kb hb, zK h.kd hb, Kd.R_below h.re hb, h.st.below hb, h.kp.trans (zU.of_below hb g none) (.inl rfl)⟩
theorem LI.keep {t : PS} (h : LI w0 w w' g b d A c e s) (hk : zU w' W g none) (hs : St w0 W g t.l t.k t.o) (n1 : b ≠ g) (n2 : d ≠ g) : LI w0 w W g b d A c e t :=
  ⟨hk.blk h.kb n1 (by simp), hk.blk h.kd n2 (by simp), Kd.R_keep h.re hk (fun _ h => h.2.2), hs, h.kp.trans hk (.inl rfl)⟩
end
theorem RE_put {W : World} {base b : Nat} {ok : Nat → Prop} {A : Option Addr} {c : Nat} {xs : List S50} {x0 x1 x2 x3 : Value} (h : RE W base ok A c xs) (hb : ∀ k, ok k → k ≠ b) : RE (put50 W b x0 x1 x2 x3) base ok A c xs := by
  refine Kd.R_far (p := ⟨b, 3, none⟩) ?_ hb _
  refine Kd.R_far (p := ⟨b, 2, none⟩) ?_ hb _
  refine Kd.R_far (p := ⟨b, 1, none⟩) ?_ hb _
  exact Kd.R_far (p := ⟨b, 0, none⟩) h hb _
set_option maxHeartbeats 32000000 in
set_option maxRecDepth 100000 in
theorem binary_calls (n : Nat) (IU : UnaryAt n) (IB : ∀ m, m ≤ n → BinAt m) : BinAt (n + 1) := by
  intro r s e t w0 w g h hS
  obtain ⟨l, k, o⟩ := s
  rw [binP] at h
  have hu50 := Tryd.underlying50
  have HS := zz_ hS
  have IU' := zz_ IU
  have IB' := zz_ IB
  have hglt := hS.lt
  have hw0 := hS.base.size
  clear hS IB IU
  simp only at h HS
  by_cases hr : r = 3 ∨ r = 6
  · rw [if_pos hr] at h
    have HB := zz_ h
    clear h
    by_cases hr3 : r = 3
    · have hb3 : (r == 3) = true := beq_iff_eq.mpr hr3
      clear hr hr3
      go_enter Tryd.func125, Tryd.ntmps125
      go_wp2_with (first
        | ((with_reducible refine zS (N := 4) rfl ?_); refine zO ?hg (N := 4) ?hd (cs := #[.string (⟨#[]⟩ : ByteArray), .int .u16 0, .string (⟨#[]⟩ : ByteArray), .slice none 0 0]) (t := 50) ?hr ?_; (case hd => rfl); (case hg => rfl); (case hr => first | (go_simp; done) | (go_simp; rfl)); intro b hg w1 hbox hb; have HWb := zz_ hb; have BKb := zz_ hbox; have HEb := zz_ hg; obtain ⟨⟨x0, x1, x2, x3⟩, ⟨f0, f1, f2, f3⟩⟩ := blk50 hbox; have HS1 := zz_ (HS.out.below hb); have n1 : g ≠ b := (by omega); have n2 : b ≠ g := (by omega); clear hb hbox hg)
        | (go_at_call 152; refine (IU'.out r ⟨l, k, o⟩ _ _ w0 _ g HB.out HS1.out).mono ?_; rintro e' w4 ⟨A2, c2, rfl, hR, hS4, hK4⟩; have BK4 := zz_ (hK4.blk BKb.out n2 (by simp)); have HS4 := zz_ hS4; have HK4 := zz_ hK4; have HR4 := zz_ hR; obtain ⟨⟨z0, z1, z2, z3⟩, ⟨p0, p1, p2, p3⟩⟩ := blk50 BK4.out; clear hS4 hK4 hR))
      refine bodyPost_ret (results_cell_row rfl _ _ b 50 #[.string e.f0, .int .u16 e.f1, .string e.f2, .slice A2 e.f3.length c2] (0, 0) _ rfl ?hblk Tryd.underlying50 rfl (by kernel_rfl)) rfl ?_
      case hblk => exact put50_blk BK4.out
      exact post_new (e := e) (t := t) (base := w1.heap.size) HS4.out
        ((zU.of_below HWb.out g none).trans HK4.out (.inl rfl)) n1 (by have := HEb.out; omega) hw0
        HR4.out (blk_lt BKb.out)
    · have hr6 : r = 6 := hr.resolve_left hr3
      have hb3 : (r == 3) = false := beq_eq_false_iff_ne.mpr hr3
      have hb6 : (r == 6) = true := beq_iff_eq.mpr hr6
      clear hr hr3 hr6
      go_enter Tryd.func125, Tryd.ntmps125
      go_wp2_with (first
        | ((with_reducible refine zS (N := 4) rfl ?_); refine zO ?hg (N := 4) ?hd (cs := #[.string (⟨#[]⟩ : ByteArray), .int .u16 0, .string (⟨#[]⟩ : ByteArray), .slice none 0 0]) (t := 50) ?hr ?_; (case hd => rfl); (case hg => rfl); (case hr => first | (go_simp; done) | (go_simp; rfl)); intro b hg w1 hbox hb; have HWb := zz_ hb; have BKb := zz_ hbox; have HEb := zz_ hg; obtain ⟨⟨x0, x1, x2, x3⟩, ⟨f0, f1, f2, f3⟩⟩ := blk50 hbox; have HS1 := zz_ (HS.out.below hb); have n1 : g ≠ b := (by omega); have n2 : b ≠ g := (by omega); clear hb hbox hg)
        | (go_at_call 152; refine (IU'.out r ⟨l, k, o⟩ _ _ w0 _ g HB.out HS1.out).mono ?_; rintro e' w4 ⟨A2, c2, rfl, hR, hS4, hK4⟩; have BK4 := zz_ (hK4.blk BKb.out n2 (by simp)); have HS4 := zz_ hS4; have HK4 := zz_ hK4; have HR4 := zz_ hR; obtain ⟨⟨z0, z1, z2, z3⟩, ⟨p0, p1, p2, p3⟩⟩ := blk50 BK4.out; clear hS4 hK4 hR))
      refine bodyPost_ret (results_cell_row rfl _ _ b 50 #[.string e.f0, .int .u16 e.f1, .string e.f2, .slice A2 e.f3.length c2] (0, 0) _ rfl ?hblk Tryd.underlying50 rfl (by kernel_rfl)) rfl ?_
      case hblk => exact put50_blk BK4.out
      exact post_new (e := e) (t := t) (base := w1.heap.size) HS4.out
        ((zU.of_below HWb.out g none).trans HK4.out (.inl rfl)) n1 (by have := HEb.out; omega) hw0
        HR4.out (blk_lt BKb.out)
  · rw [if_neg hr] at h
    have hb3 : (r == 3) = false := beq_eq_false_iff_ne.mpr (fun e => hr (Or.inl e))
    have hb6 : (r == 6) = false := beq_eq_false_iff_ne.mpr (fun e => hr (Or.inr e))
    cases hb : binP n (wrap64 (r + 1)) ⟨l, k, o⟩ with
    | none => rw [hb] at h; cases h
    | some y =>
      obtain ⟨e1, t1⟩ := y
      rw [hb] at h
      simp only at h
      have HB := zz_ hb
      have HL := zz_ h
      clear h hb hr
      go_enter Tryd.func125, Tryd.ntmps125
      go_wp2_with (first
        | ((with_reducible refine zS (N := 4) rfl ?_); refine zO ?hg (N := 4) ?hd (cs := #[.string (⟨#[]⟩ : ByteArray), .int .u16 0, .string (⟨#[]⟩ : ByteArray), .slice none 0 0]) (t := 50) ?hr ?_; (case hd => rfl); (case hg => rfl); (case hr => first | (go_simp; done) | (go_simp; rfl)); intro b hg w1 hbox hb; have HWb := zz_ hb; have BKb := zz_ hbox; have HEb := zz_ hg; obtain ⟨⟨x0, x1, x2, x3⟩, ⟨f0, f1, f2, f3⟩⟩ := blk50 hbox; have HS1 := zz_ (HS.out.below hb); have n1 : g ≠ b := (by omega); have n2 : b ≠ g := (by omega); clear hb hbox hg)
        | (go_at_call 125; refine (IB'.out n (Nat.le_refl _) (wrap64 (r + 1)) ⟨l, k, o⟩ _ _ w0 _ g HB.out HS1.out).mono ?_; rintro e' w2 ⟨A2, c2, rfl, hR, hS2, hK2⟩; have BK2 := zz_ (hK2.blk BKb.out n2 (by simp)); have HS2 := zz_ hS2; have HK2 := zz_ hK2; have HR2 := zz_ hR; have hlt2 := blk_lt BK2.out; have hglt2 := hS2.lt; clear hS2 hK2 hR)
        | ((with_reducible refine zS (N := 5) rfl ?_); refine zO ?hg (N := 5) ?hd (cs := #[.string (⟨#[]⟩ : ByteArray), .int .u16 0, .string (⟨#[]⟩ : ByteArray), .slice none 0 0]) (t := 50) ?hr ?_; (case hd => rfl); (case hg => rfl); (case hr => first | (go_simp; done) | (go_simp; rfl)); intro d hg w3 hbox hb; have HWd := zz_ hb; have BKd := zz_ hbox; have HEd := zz_ hg; obtain ⟨⟨x0, x1, x2, x3⟩, ⟨f0, f1, f2, f3⟩⟩ := blk50 hbox; have n3 : g ≠ d := (by omega); have n4 : d ≠ g := (by omega); have n5 : b ≠ d := (by omega); have n6 : d ≠ b := (by omega); obtain ⟨Az, cz, zl, zk, zo, gl, gk, go⟩ := St_cells (HS2.out.below hb); clear hb hbox hg))
      have hbw1 := blk_lt BKb.out
      have LI0 := zz_ (show LI w0 w (put50 w3 d (.string e1.f0) (.int .u16 e1.f1) (.string e1.f2) (.slice A2 e1.f3.length c2)) g b d A2 c2 e1 t1 from by
        have hB3 := below_put (b := d) (x0 := .string e1.f0) (x1 := .int .u16 e1.f1) (x2 := .string e1.f2) (x3 := .slice A2 e1.f3.length c2) HWd.out (by have := HEd.out; omega)
        refine ⟨zK BK2.out hB3, put50_blk BKd.out, ?_, HS2.out.below hB3, ((zU.of_below HWb.out g none).trans HK2.out (.inl rfl)).trans (zU.of_below hB3 g none) (.inl rfl)⟩
        refine Kd.R_lower (Kd.R_below (Kd.R_mono (Kd.R_bound HR2.out) (fun k hk => ?_)) hB3) (by have := HEb.out; omega)
        have h1 := hk.2.1
        have h2 := hk.2.2.1
        have h3 := HEd.out
        have h4 := HEb.out
        exact ⟨by omega, by omega, by omega⟩)
      clear x0 x1 x2 x3 f0 f1 f2 f3
      go_loopg [6, 7] n (fun kq v6 v7 w' => ∃ (e2 : S50) (A3 : Option Addr) (c3 : Nat) (s2 : PS), Aside0 (loopP kq r e2 s2 = some (e, t)) ∧ Aside0 (kq ≤ n) ∧ Aside0 (LI w0 w w' g b d A3 c3 e2 s2))
      case atStart => exact ⟨e1, A2, c2, t1, HL, ⟨Nat.le_refl _⟩, LI0⟩
      case round =>
        obtain ⟨e2, A3, c3, s2, HA, HQ, LI1⟩ := hrel
        obtain ⟨l2, k2, o2⟩ := s2
        clear LI0 HL HB
        obtain ⟨Ay, cy, yl, yk, yo, hl, hk', ho⟩ := St_cells LI1.out.st
        simp only at yl yk yo
        cases gk with
        | zero => exact absurd HA.out (by simp [loopP])
        | succ k1 =>
          have h := HA.out
          clear HA
          rw [loopP] at h
          simp only at h
          by_cases hk0 : k2 = 0
          · rw [if_pos hk0] at h
            have hkb : (k2 == 0) = true := beq_iff_eq.mpr hk0
            cases ho2 : opP l2 r with
            | none =>
              rw [ho2] at h
              obtain ⟨rfl, rfl⟩ := Prod.mk.inj (Option.some.inj h)
              have HO := zz_ ho2
              clear h ho2 hk0
              go_wp2_with (go_at_call 153; refine (operator_calls LI1.out.st r).mono ?_; rintro e' w2 ⟨rfl, hb2⟩; rw [HO.out]; have LI2 := zz_ (LI1.out.below hb2); obtain ⟨⟨x0, x1, x2, x3⟩, ⟨f0, f1, f2, f3⟩⟩ := blk50 LI2.out.kb; obtain ⟨⟨u0, u1, u2, u3⟩, ⟨v0, v1, v2, v3⟩⟩ := blk50 LI2.out.kd; clear hb2)
              exact bodyPost_ret (results_cell_row rfl _ _ b 50 #[.string e2.f0, .int .u16 e2.f1, .string e2.f2, .slice A3 e2.f3.length c3] (0, 0) _ rfl (put50_blk LI2.out.kb) Tryd.underlying50 rfl (by kernel_rfl)) rfl (post_put (e := e2) (base := w.heap.size) LI2.out.st LI2.out.kp n1 (by have := HEb.out; omega) hw0 (Kd.R_mono LI2.out.re (fun _ h => h.2.1)) (Nat.le_refl _))
            | some op =>
              obtain ⟨t0, l', rfl⟩ := op_some ho2
              rw [ho2] at h
              simp only [List.drop_one, List.tail_cons] at h
              cases hb : binP k1 (wrap64 (r + 1)) ⟨l', k2, o2⟩ with
              | none => rw [hb] at h; cases h
              | some y =>
                obtain ⟨e3, t3⟩ := y
                rw [hb] at h
                simp only at h
                have HA' := zz_ h
                have HB := zz_ hb
                have HO := zz_ ho2
                clear h hb ho2 hk0
                go_wp2_with (first | (go_at_call 153; refine (operator_calls LI1.out.st r).mono ?_; rintro e' w2 ⟨rfl, hb2⟩; rw [HO.out]; have LI2 := zz_ (LI1.out.below hb2); obtain ⟨⟨x0, x1, x2, x3⟩, ⟨f0, f1, f2, f3⟩⟩ := blk50 LI2.out.kb; obtain ⟨⟨u0, u1, u2, u3⟩, ⟨v0, v1, v2, v3⟩⟩ := blk50 LI2.out.kd; clear hb2) | (go_at_call 154; refine (skip_calls LI2.out.st).mono ?_; rintro e' w3 ⟨rfl, hS3, hK3⟩; have LI3 := zz_ (LI.keep (t := ⟨l', k2, o2⟩) LI2.out hK3 hS3 n2 n4); clear hS3 hK3 x0 x1 x2 x3 f0 f1 f2 f3 u0 u1 u2 u3 v0 v1 v2 v3))
                have LI4 := zz_ (show LI w0 w w3.drew g b d A3 c3 e2 ⟨l', k2, o2⟩ from LI3.out.below (zC (Below.refl _ _)))
                refine start_ (n := 9) (S := fun w' => w'.cell? ⟨d, 0, none⟩ = some (.string e2.f0) ∧ w'.cell? ⟨d, 1, none⟩ = some (.int .u16 e2.f1) ∧ w'.cell? ⟨d, 2, none⟩ = some (.string e2.f2) ∧ w'.cell? ⟨d, 3, none⟩ = some (.slice A3 e2.f3.length c3)) (ds := [8]) #[false, false, false, false, false, false, false, false, false] (by kernel_rfl) rfl rfl (blk50 LI4.out.kd).1 (fun hHeld => ?_)
                clear LI1 LI2 LI3
                generalize w3.drew = w4 at LI4 hHeld ⊢
                refine pure_ (i := 0) (N := some 38) (v := ?_) (a' := ?_) #[true, false, false, false, false, false, false, false, false] rfl rfl (by kernel_rfl) (fun _ _ _ h => h) (Or.inl ⟨by rfl, ?_⟩) ?_ ?_
                rotate_left
                · intro w'
                  go_simp
                  with_reducible rfl
                rotate_left
                · simp only [Act.put, List.setIfInBounds_toArray, List.set_cons_zero, List.set_cons_succ, i64_w, i32_w]
                  rfl
                refine pure_ (i := 2) (N := some 40) (v := ?_) (a' := ?_) #[true, false, true, false, false, false, false, false, false] rfl rfl (by kernel_rfl) (fun _ _ _ h => h) (Or.inl ⟨by rfl, ?_⟩) ?_ ?_
                rotate_left
                · intro w'
                  go_simp
                  with_reducible rfl
                rotate_left
                · simp only [Act.put, List.setIfInBounds_toArray, List.set_cons_zero, List.set_cons_succ, i64_w, i32_w]
                  rfl
                refine pure_ (i := 3) (N := some 41) (v := ?_) (a' := ?_) #[true, false, true, true, false, false, false, false, false] rfl rfl (by kernel_rfl) (fun _ _ _ h => h) (Or.inl ⟨by rfl, ?_⟩) ?_ ?_
                rotate_left
                · intro w'
                  go_simp
                  with_reducible rfl
                rotate_left
                · simp only [Act.put, List.setIfInBounds_toArray, List.set_cons_zero, List.set_cons_succ, i64_w, i32_w]
                  rfl
                refine pure_ (i := 4) (N := some 42) (v := ?_) (a' := ?_) #[true, false, true, true, true, false, false, false, false] rfl rfl (by kernel_rfl) (fun _ _ _ h => h) (Or.inl ⟨by rfl, ?_⟩) ?_ ?_
                rotate_left
                · intro w'
                  go_simp
                  with_reducible rfl
                rotate_left
                · simp only [Act.put, List.setIfInBounds_toArray, List.set_cons_zero, List.set_cons_succ, i64_w, i32_w]
                  rfl
                refine take_ (i := 1) (N := some 39) (v := ?_) (a' := ?_) #[true, true, true, true, true, false, false, false, false] rfl rfl (by kernel_rfl) (fun _ _ _ h => h) (Or.inl ⟨by rfl, ?_⟩) hHeld ?_ ?_
                rotate_left
                · rintro w' ⟨s0, s1, s2, s3⟩
                  go_simp
                  with_reducible rfl
                rotate_left
                · simp only [Act.put, List.setIfInBounds_toArray, List.set_cons_zero, List.set_cons_succ, i64_w, i32_w]
                  rfl
                refine one_ (i := 5) (N := some 43) #[true, true, true, true, true, true, false, false, false] rfl rfl (by kernel_rfl) (by decide) (fun K hK => ?_)
                refine goes_ Tryd.func125 (by kernel_rfl) rfl #[.pointer (some ⟨g, 0, none⟩), .int .i64 (wrap64 (r + 1))] (by rfl) rfl rfl (by (try simp only [List.map_toArray, List.map_cons, List.map_nil]); first | done | rfl) ?_
                refine (IB'.out k1 (by have := HQ.out; omega) (wrap64 (r + 1)) ⟨l', k2, o2⟩ _ _ w0 _ g HB.out LI4.out.st).mono ?_
                rintro e' w5 ⟨A5, c5, rfl, hR, hS5, hK5⟩
                refine ⟨_, rfl, ?_⟩
                have LI5 := zz_ (LI.keep (t := t3) LI4.out hK5 hS5 n2 n4)
                have HR5 := zz_ (Kd.R_mono (Kd.R_bound hR) (ok' := fun k => k ≠ d ∧ k ≠ b ∧ k ≠ g) (fun k hk => by
                  have h1 := hk.2.1
                  have h2 := blk_lt LI4.out.kd
                  have h3 := blk_lt LI4.out.kb
                  have h4 := LI4.out.st.lt
                  exact ⟨by omega, by omega, by omega⟩))
                have HZ5 := zz_ hK5.1
                clear hR hS5 hK5
                refine hK.out _ _ (blk50 LI5.out.kd).1 (fun hHeld => ?_)
                clear hK K
                refine norm_ (a' := ?_) ?_ ?_
                rotate_left
                · show Act.put _ (some 43) _ = _
                  simp only [Act.put, List.setIfInBounds_toArray, List.set_cons_zero, List.set_cons_succ, i64_w, i32_w]
                  rfl
                refine one_ (i := 6) (N := some 44) #[true, true, true, true, true, true, true, false, false] rfl rfl (by kernel_rfl) (by decide) (fun K hK => ?_)
                refine lit_step ?hw (N := 44) ?hd (cs := #[.string e2.f0, .int .u16 e2.f1, .string e2.f2, .slice A3 e2.f3.length c3, .string e3.f0, .int .u16 e3.f1, .string e3.f2, .slice A5 e3.f3.length c5]) (n := 2) ?hr ?_
                case hw => rfl
                case hd => rfl
                case hr => first | (go_simp; done) | (go_simp; rfl)
                intro q hq w6 hw6
                have hb6' : Below w5.heap.size w5 w6 := by rw [hw6]; exact zB (Below.refl _ _) _
                have hsz : w.heap.size ≤ w5.heap.size := LI5.out.kp.1
                have h45 := HZ5.out
                have HR6 := zz_ (show RE w6 w.heap.size (fun k => k ≠ d ∧ k ≠ b ∧ k ≠ g) (some ⟨q, 0, none⟩) 2 [e2, e3] from by
                  rw [hw6, hq]
                  have h2 := blk_lt LI5.out.kd
                  have h3 := blk_lt LI5.out.kb
                  have h4 := LI5.out.st.lt
                  exact lit2ok LI5.out.re (Kd.R_lower HR5.out LI4.out.kp.1) ⟨by omega, by omega, by omega⟩ hsz)
                have LI6 := zz_ (LI5.out.below hb6')
                clear hb6' hw6 hq LI4 LI5 HR5 HZ5 h45
                refine hK.out _ _ (blk50 LI6.out.kd).1 (fun hHeld => ?_)
                clear hK K
                refine norm_ (a' := ?_) ?_ ?_
                rotate_left
                · show Act.put _ (some 44) _ = _
                  simp only [Act.put, List.setIfInBounds_toArray, List.set_cons_zero, List.set_cons_succ, i64_w, i32_w]
                  rfl
                refine pure_ (i := 7) (N := some 45) (v := ?_) (a' := ?_) #[true, true, true, true, true, true, true, true, false] rfl rfl (by kernel_rfl) (fun _ _ _ h => h) (Or.inl ⟨by rfl, ?_⟩) ?_ ?_
                rotate_left
                · intro w'
                  go_simp
                  with_reducible rfl
                rotate_left
                · simp only [Act.put, List.setIfInBounds_toArray, List.set_cons_zero, List.set_cons_succ, i64_w, i32_w]
                  rfl
                refine last_ (i := 8) (N := none) #[true, true, true, true, true, true, true, true, true] rfl rfl (by kernel_rfl) (by decide) (fun K hK => ?_)
                obtain ⟨⟨u0, u1, u2, u3⟩, ⟨v0, v1, v2, v3⟩⟩ := blk50 LI6.out.kd
                refine store_step ?hw ?hd (w1 := put50 w6 d (.string op) (.int .u16 0) (.string ⟨#[]⟩) (.slice (some ⟨q, 0, none⟩) 2 2)) ?hr ?_
                case hw => rfl
                case hd => rfl
                case hr => first | (go_simp; done) | (go_simp; rfl)
                intro w7 hw7
                have LI7 := zz_ (show LI w0 w w7 g b d (some ⟨q, 0, none⟩) 2 ⟨op, 0, ⟨#[]⟩, [e2, e3]⟩ t3 from by
                  rw [hw7]
                  refine ⟨put50_far LI6.out.kb n5, put50_blk LI6.out.kd, ?_, put50_St LI6.out.st n3 (by have := HEd.out; have := HS2.out.base.size; omega), put50_keep LI6.out.kp (by have := HEd.out; have := HEb.out; omega)⟩
                  exact RE_put HR6.out (fun _ h => h.1))
                clear hw7 u0 u1 u2 u3 v0 v1 v2 v3
                refine hK.out _ _ ?_
                clear hK K
                refine done_ (by kernel_rfl) ?_
                (try go_wp2)
                go_roundg k1
                case measure => omega
                case rel => exact ⟨⟨op, 0, ⟨#[]⟩, [e2, e3]⟩, _, _, t3, HA', ⟨by have := HQ.out; omega⟩, LI7⟩
          · rw [if_neg hk0] at h
            obtain ⟨rfl, rfl⟩ := Prod.mk.inj (Option.some.inj h)
            have hkb : (k2 == 0) = false := beq_eq_false_iff_ne.mpr hk0
            clear h hk0
            have LI2 := LI1
            obtain ⟨⟨x0, x1, x2, x3⟩, ⟨f0, f1, f2, f3⟩⟩ := blk50 LI2.out.kb
            obtain ⟨⟨u0, u1, u2, u3⟩, ⟨v0, v1, v2, v3⟩⟩ := blk50 LI2.out.kd
            go_wp2
            exact bodyPost_ret (results_cell_row rfl _ _ b 50 #[.string e2.f0, .int .u16 e2.f1, .string e2.f2, .slice A3 e2.f3.length c3] (0, 0) _ rfl (put50_blk LI2.out.kb) Tryd.underlying50 rfl (by kernel_rfl)) rfl (post_put (e := e2) (base := w.heap.size) LI2.out.st LI2.out.kp n1 (by have := HEb.out; omega) hw0 (Kd.R_mono LI2.out.re (fun _ h => h.2.1)) (Nat.le_refl _))
end Go.Proofs.YtejhagejjogbaaaDoor.PsrG
end
section
namespace Go.Proofs.YtejhagejjogbaaaDoor.Qf
open Go.RowKit YtejhagejjogbaaaDoorW.PrintWords YtejhagejjogbaaaDoorW.PrintLast YtejhagejjogbaaaDoorW.PrintMore Given TokSpan TokJoin TokRep Right.R Pn Pa Pb Pc Pd Pe Qa
attribute [local go_sem] max2_int min2_int max_two min_two max_three min_three max_four min_four   -- for this text's walks alone
set_option linter.unusedVariables false
set_option linter.unusedSimpArgs false
def errW : Option Int → Value
 | none => .nilIface
 | some c => .iface 0 (.int .i64 c)
theorem zN : errW none = .nilIface := rfl
theorem zM (c : Int) : errW (some c) = .iface 0 (.int .i64 c) := rfl
end Go.Proofs.YtejhagejjogbaaaDoor.Qf
end
