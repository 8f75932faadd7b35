import Derived.Test.YtejhagejjogbaaaDoorKeM14
import Derived.Test.YtejhagejjogbaaaDoorKeM13
import Derived.Laws.EntriesVeiled
import Derived.RegionTactic
import Derived.ChangeAlike
section
namespace Go.Proofs.YtejhagejjogbaaaDoor.EvB
open Go.RowKit YtejhagejjogbaaaDoorW.PrintWords YtejhagejjogbaaaDoorW.PrintLast YtejhagejjogbaaaDoorW.PrintMore Given Pn Pa Qa Qf Num PsrC PsrH EvA
set_option linter.unusedVariables false
set_option linter.unusedSimpArgs false
def notU (x : Int) : Int := Go.bits .xor .u16 65535 x
def negU (x : Int) : Int := IntKind.u16.wrap (-x)
def evalP (here : Int) (F : ByteArray → Int × Int) : Nat → S50 → Option (Int × Int)
  | 0, _ => none
  | k + 1, e =>
    if e.f0.data.toList = [35] then some (e.f1, 0)
    else if e.f0.data.toList = [36] then some (here, 0)
    else if e.f0.data.toList = [110] then some (F e.f2)
    else match e.f3 with
      | [] => none
      | a :: l => match evalP here F k a with
        | none => none
        | some (x, q) =>
          if q = 0 then
            (if e.f0.data.toList = [78, 79, 84] then some (notU x, 0)
            else if e.f0.data.toList = [78, 69, 71] then some (negU x, 0)
            else match l with
              | [] => none
              | b :: _ => match evalP here F k b with
                | none => none
                | some (y, p) => if p = 0 then expr_two.f e.f0 x y else some (0, p))
          else some (0, q)
structure EV (w : World) (gh gv go : Nat) (here : Int) (fv : Value) : Prop where
  h : w.heap[gh]? = some (.cells #[.int .u16 here] 28 (0, 0))
  v : w.heap[gv]? = some (.cells #[fv] 30 (0, 0))
  o : w.heap[go]? = some (.cells #[.func (.func 78) #[] #[.pointer (some ⟨gh, 0, none⟩), .pointer (some ⟨gv, 0, none⟩), .pointer (some ⟨go, 0, none⟩)]] 96 (0, 0))
theorem EV.below {w w1 : World} {gh gv go : Nat} {here : Int} {fv : Value} (e : EV w gh gv go here fv) (hb : Below w.heap.size w w1) : EV w1 gh gv go here fv := ⟨zK e.h hb, zK e.v hb, zK e.o hb⟩
section
variable {P : Program} {ops : Array Oper} {Q : Exit → Act → World → Prop}
theorem goesF_ {rest : List Oper} {oi : Oper} {a : Act} {w : World} (N : Tmp) (hd : oi.dst = some N) (hg : oi.guard = none) {f : FuncId} {fn : Func} {xs : Array Operand} {ts : Array TypeId} {p : Operand} {caps : Array Value} (hf : P.funcs[f]? = some fn) (hname : (fn.name == "runtime.NumGoroutine") = false) (hb : fn.body.isSome = true) (args : Array Value)
    (hop : oi.op = .call { callee := .value p, args := xs, argTypes := ts }) (hv : a.eval p = .func (.func f) #[] caps) (hargs : xs.map a.eval = args)
    (h : Calls P f (args ++ caps) w fun e w' => ∃ v, e = .returned v ∧ wpList P ops Q rest (a.put (some N) v) w') : wpList P ops Q (oi :: rest) a w := by
  refine wpList_plain hg fun K hK => ?_
  unfold Oper.wp
  rw [enterF hf hname hb args hop hv hargs, Oper.upon_enter]
  refine h.mono fun e w'' hh => ?_
  obtain ⟨v, rfl, hk⟩ := hh
  refine hK _ _ ?_
  rw [hd]
  exact hk
end
structure VOk (vf : FuncId) (caps : Array Value) (F : ByteArray → Int × Int) (I : World → Prop) : Prop where
  fn : ∃ fn, Tryd.prog.funcs[vf]? = some fn ∧ (fn.name == "runtime.NumGoroutine") = false ∧ fn.body.isSome = true
  go : ∀ (s : ByteArray) (W : World), I W → Calls Tryd.prog vf (#[.string s] ++ caps) W fun e W' => e = .returned (.tuple #[.int .u16 (F s).1, .int .i64 (F s).2]) ∧ Below W.heap.size W W'
  keep : ∀ W W' : World, I W → Below W.heap.size W W' → I W'
def CloAt (here : Int) (F : ByteArray → Int × Int) (vf : FuncId) (caps : Array Value) (I : World → Prop) (k : Nat) : Prop :=
  ∀ (e : S50) (x q : Int) (A : Option Addr) (c : Nat) (gh gv go : Nat) (w : World), evalP here F k e = some (x, q) → Kd.C k50 w A e.f3.length e.f3 → e.f3.length ≤ c → EV w gh gv go here (.func (.func vf) #[] caps) → I w →
    Calls Tryd.prog 78 #[.agg #[.string e.f0, .int .u16 e.f1, .string e.f2, .slice A e.f3.length c], .pointer (some ⟨gh, 0, none⟩), .pointer (some ⟨gv, 0, none⟩), .pointer (some ⟨go, 0, none⟩)] w
      fun ex w' => ex = .returned (.tuple #[.int .u16 x, .int .i64 q]) ∧ Below w.heap.size w w'
theorem head50 {w : World} {A : Option Addr} {a : S50} {l : List S50} {n : Nat} (hn : (a :: l).length = n) (hr : Kd.C k50 w A n (a :: l)) : ∃ ad A3 c3, A = some ad ∧ w.cell? ad = some (.string a.f0) ∧ w.cell? ⟨ad.block, ad.off + 1, none⟩ = some (.int .u16 a.f1) ∧ w.cell? ⟨ad.block, ad.off + 2, none⟩ = some (.string a.f2) ∧
    w.cell? ⟨ad.block, ad.off + 3, none⟩ = some (.slice A3 a.f3.length c3) ∧ a.f3.length ≤ c3 ∧ Kd.C k50 w A3 a.f3.length a.f3 := by
  obtain ⟨ad, A3, c3, e, h0, h1, h2, h3, h4, h5⟩ := at_T50 hr 0 (by omega) (by simp at hn; omega)
  have e0 : zL (a :: l) 0 = a := rfl
  rw [e0] at h0 h1 h2 h3 h4 h5
  rw [show (0 : Int).toNat * 4 = 0 from rfl, Addr.add_zero'] at h0 h1 h2 h3
  exact ⟨ad, A3, c3, e, h0, h1, h2, h3, h4, h5⟩
theorem next50 {w : World} {ad : Addr} {a d : S50} {l : List S50} {n : Nat} (hn : (a :: d :: l).length = n) (hr : Kd.C k50 w (some ad) n (a :: d :: l)) : ∃ A3 c3, w.cell? ⟨ad.block, ad.off + 4, none⟩ = some (.string d.f0) ∧ w.cell? ⟨ad.block, ad.off + 4 + 1, none⟩ = some (.int .u16 d.f1) ∧ w.cell? ⟨ad.block, ad.off + 4 + 2, none⟩ = some (.string d.f2) ∧
    w.cell? ⟨ad.block, ad.off + 4 + 3, none⟩ = some (.slice A3 d.f3.length c3) ∧ d.f3.length ≤ c3 ∧ Kd.C k50 w A3 d.f3.length d.f3 := by
  obtain ⟨ad', A3, c3, e, h0, h1, h2, h3, h4, h5⟩ := at_T50 hr 1 (by omega) (by simp at hn; omega)
  obtain rfl := Option.some.inj e
  have e0 : zL (a :: d :: l) 1 = d := rfl
  rw [e0] at h0 h1 h2 h3 h4 h5
  rw [show (1 : Int).toNat * 4 = 4 from rfl] at h0 h1 h2 h3
  simp only [Nat.reduceEqDiff, Addr.add, ↓reduceIte] at h0 h1 h2 h3
  exact ⟨A3, c3, h0, h1, h2, h3, h4, h5⟩
set_option maxHeartbeats 32000000 in
set_option maxRecDepth 100000 in
theorem clo_calls (here : Int) (F : ByteArray → Int × Int) (vf : FuncId) (caps : Array Value) (I : World → Prop) (V : VOk vf caps F I) (k : Nat) (IH : CloAt here F vf caps I k) : CloAt here F vf caps I (k + 1) := by
  intro e x q A c gh gv go w h hr hc hE hI
  rw [evalP] at h
  have hu50 := Tryd.underlying50
  have HE := zz_ hE
  have HI := zz_ hI
  have IH' := zz_ IH
  have V' := zz_ V
  obtain ⟨N, hN⟩ : ∃ N, e.f3.length = N := ⟨_, rfl⟩
  rw [hN] at hr hc ⊢
  have HR := zz_ hr
  have HC := zz_ hc
  have HN := zz_ hN
  clear hr hc hE hI IH V hN
  by_cases h1 : e.f0.data.toList = [35]
  · rw [if_pos h1] at h
    simp only [Option.some.injEq, Prod.mk.injEq] at h
    obtain ⟨rfl, rfl⟩ := h
    obtain ⟨p1, p2⟩ := streq h1
    clear h1
    go_enter Tryd.func78, Tryd.ntmps78
    go_wp2_with ((with_reducible refine zS (N := 4) rfl ?_); refine zO ?hg (N := 4) ?hd (cs := #[.string e.f0, .int .u16 e.f1, .string e.f2, .slice A N c]) (t := 50) ?hr ?_; (case hd => rfl); (case hg => rfl); (case hr => first | (go_simp; done) | (go_simp; rfl)); intro b hg w1 hbox hb; have HWb := zz_ hb; have BKb := zz_ hbox; have HE1 := zz_ (HE.out.below hb); obtain ⟨⟨x0, x1, x2, x3⟩, _⟩ := blk50 hbox; have y0 : w1.cell? ⟨gh, 0, none⟩ = some (.int .u16 here) := ((zD HE1.out.h 0).trans rfl); have y1 : w1.cell? ⟨gv, 0, none⟩ = some (.func (.func vf) #[] caps) := ((zD HE1.out.v 0).trans rfl); clear hb hbox hg)
    go_ret2
    exact ⟨rfl, HWb.out⟩
  rw [if_neg h1] at h
  obtain ⟨p1, p2⟩ := strne h1
  by_cases h2 : e.f0.data.toList = [36]
  · rw [if_pos h2] at h
    simp only [Option.some.injEq, Prod.mk.injEq] at h
    obtain ⟨rfl, rfl⟩ := h
    obtain ⟨p3, p4⟩ := streq h2
    clear h1 h2
    go_enter Tryd.func78, Tryd.ntmps78
    go_wp2_with ((with_reducible refine zS (N := 4) rfl ?_); refine zO ?hg (N := 4) ?hd (cs := #[.string e.f0, .int .u16 e.f1, .string e.f2, .slice A N c]) (t := 50) ?hr ?_; (case hd => rfl); (case hg => rfl); (case hr => first | (go_simp; done) | (go_simp; rfl)); intro b hg w1 hbox hb; have HWb := zz_ hb; have BKb := zz_ hbox; have HE1 := zz_ (HE.out.below hb); obtain ⟨⟨x0, x1, x2, x3⟩, _⟩ := blk50 hbox; have y0 : w1.cell? ⟨gh, 0, none⟩ = some (.int .u16 here) := ((zD HE1.out.h 0).trans rfl); have y1 : w1.cell? ⟨gv, 0, none⟩ = some (.func (.func vf) #[] caps) := ((zD HE1.out.v 0).trans rfl); clear hb hbox hg)
    go_ret2
    exact ⟨rfl, HWb.out⟩
  rw [if_neg h2] at h
  obtain ⟨p3, p4⟩ := strne h2
  by_cases h3 : e.f0.data.toList = [110]
  · rw [if_pos h3] at h
    have hx := Option.some.inj h
    obtain ⟨p5, p6⟩ := streq h3
    have HX := zz_ hx
    obtain ⟨vfn, hv1, hv2, hv3⟩ := V'.out.fn
    have HV := zz_ (And.intro hv1 (And.intro hv2 hv3))
    clear h1 h2 h3 h hx hv1 hv2 hv3
    go_enter Tryd.func78, Tryd.ntmps78
    go_wp2_with (first | ((with_reducible refine zS (N := 4) rfl ?_); refine zO ?hg (N := 4) ?hd (cs := #[.string e.f0, .int .u16 e.f1, .string e.f2, .slice A N c]) (t := 50) ?hr ?_; (case hd => rfl); (case hg => rfl); (case hr => first | (go_simp; done) | (go_simp; rfl)); intro b hg w1 hbox hb; have HWb := zz_ hb; have BKb := zz_ hbox; have HE1 := zz_ (HE.out.below hb); obtain ⟨⟨x0, x1, x2, x3⟩, _⟩ := blk50 hbox; have y0 : w1.cell? ⟨gh, 0, none⟩ = some (.int .u16 here) := ((zD HE1.out.h 0).trans rfl); have y1 : w1.cell? ⟨gv, 0, none⟩ = some (.func (.func vf) #[] caps) := ((zD HE1.out.v 0).trans rfl); clear hb hbox hg) | ((with_reducible refine zS (N := 24) rfl ?_); refine goesF_ (f := vf) (fn := vfn) (caps := caps) (p := .tmp 21) (xs := #[.tmp 23]) (ts := #[9]) 24 rfl rfl HV.out.1 HV.out.2.1 HV.out.2.2 #[.string e.f2] rfl ?hv ?ha ?_; (case hv => rfl); (case ha => (try simp only [List.map_toArray, List.map_cons, List.map_nil]); first | done | rfl); refine (V'.out.go e.f2 _ (V'.out.keep _ _ HI.out HWb.out)).mono ?_; rintro ex w2 ⟨rfl, hb2⟩; refine ⟨_, rfl, ?_⟩; rw [HX.out]; have HW2 := zz_ (zG HWb.out hb2); clear hb2))
    go_ret2
    exact ⟨rfl, HW2.out⟩
  rw [if_neg h3] at h
  obtain ⟨p5, p6⟩ := strne h3
  cases hl : e.f3 with
  | nil => rw [hl] at h; cases h
  | cons a l =>
    rw [hl] at h
    simp only at h
    have hN2 := HN.out
    have hR2 := HR.out
    rw [hl] at hN2 hR2
    obtain ⟨ad, A3, c3, rfl, z0, z1, z2, z3, g3, r3⟩ := head50 hN2 hR2
    have HA := zz_ (And.intro g3 r3)
    have hNpos : (0 < N) = True := eq_true (by simp at hN2; omega)
    cases hx : evalP here F k a with
    | none => rw [hx] at h; cases h
    | some y1 =>
      obtain ⟨xa, q1⟩ := y1
      rw [hx] at h
      simp only at h
      have HX := zz_ hx
      have HZ := zz_ (And.intro z0 (And.intro z1 (And.intro z2 z3)))
      clear hx h1 h2 h3 g3 r3 z0 z1 z2 z3 hR2
      by_cases hq : q1 = 0
      · rw [if_pos hq] at h
        have hq1 : (q1 != 0) = false := bne_eq_false_iff_eq.mpr hq
        by_cases h4 : e.f0.data.toList = [78, 79, 84]
        · rw [if_pos h4] at h
          simp only [Option.some.injEq, Prod.mk.injEq] at h
          obtain ⟨rfl, rfl⟩ := h
          obtain ⟨p7, p8⟩ := streq h4
          have HN2 := zz_ hN2
          clear h4 hq hN2 hl
          go_enter Tryd.func78, Tryd.ntmps78
          go_wp2_with ((with_reducible refine zS (N := 4) rfl ?_); refine zO ?hg (N := 4) ?hd (cs := #[.string e.f0, .int .u16 e.f1, .string e.f2, .slice (some ad) N c]) (t := 50) ?hr ?_; (case hd => rfl); (case hg => rfl); (case hr => first | (go_simp; done) | (go_simp; rfl)); intro b hg w1 hbox hb; have HWb := zz_ hb; have BKb := zz_ hbox; have HE1 := zz_ (HE.out.below hb); obtain ⟨⟨x0, x1, x2, x3⟩, _⟩ := blk50 hbox; have y0 : w1.cell? ⟨gh, 0, none⟩ = some (.int .u16 here) := ((zD HE1.out.h 0).trans rfl); have y1 : w1.cell? ⟨gv, 0, none⟩ = some (.func (.func vf) #[] caps) := ((zD HE1.out.v 0).trans rfl); clear hb hbox hg)
          have HWw1 := HWb
          have BKw1 := BKb
          have HEw1 := HE1
          obtain ⟨z0, z1, z2, z3⟩ := HZ.out
          have HWw2 := zz_ (zC HWw1.out)
          have BKw2 := zz_ (zJ BKw1.out)
          have HEw2 := zz_ (HEw1.out.below (zC (Below.refl _ _)))
          refine start_ (n := 11) (S := fun w' => w'.cell? ⟨go, 0, none⟩ = some (.func (.func 78) #[] #[.pointer (some ⟨gh, 0, none⟩), .pointer (some ⟨gv, 0, none⟩), .pointer (some ⟨go, 0, none⟩)]) ∧ w'.cell? ⟨b, 3, none⟩ = some (.slice (some ad) N c) ∧ w'.cell? ad = some (.string a.f0) ∧ w'.cell? ⟨ad.block, ad.off + 1, none⟩ = some (.int .u16 a.f1) ∧ w'.cell? ⟨ad.block, ad.off + 2, none⟩ = some (.string a.f2) ∧ w'.cell? ⟨ad.block, ad.off + 3, none⟩ = some (.slice A3 a.f3.length c3)) (ds := []) #[false, false, false, false, false, false, false, false, false, false, false] (by kernel_rfl) rfl rfl ⟨(zD HEw2.out.o 0).trans rfl, (zD BKw2.out 3).trans rfl, zP HWw2.out z0, zP HWw2.out z1, zP HWw2.out z2, zP HWw2.out z3⟩ (fun hHeld => ?_)
          generalize w1.drew = w2 at HWw2 BKw2 HEw2 hHeld ⊢
          refine pure_ (i := 1) (N := some 29) (v := ?_) (a' := ?_) #[false, true, false, false, false, false, false, false, false, false, false] rfl rfl (by kernel_rfl) (fun _ _ _ h => h) (Or.inl ⟨by rfl, ?_⟩) ?_ ?_
          rotate_left
          · intro w'
            go_simp
            with_reducible rfl
          rotate_left
          · simp only [Act.put, List.setIfInBounds_toArray, List.set_cons_zero, List.set_cons_succ, i64_w, i32_w]
            rfl
          refine take_ (i := 0) (N := some 28) (v := ?_) (a' := ?_) #[true, true, false, false, false, false, false, false, false, false, false] rfl rfl (by kernel_rfl) (fun _ _ _ h => h) (Or.inl ⟨by rfl, ?_⟩) hHeld ?_ ?_
          rotate_left
          · rintro w' ⟨s0, s1, s2, s3, s4, s5⟩
            go_simp
            with_reducible rfl
          rotate_left
          · simp only [Act.put, List.setIfInBounds_toArray, List.set_cons_zero, List.set_cons_succ, i64_w, i32_w]
            rfl
          refine take_ (i := 2) (N := some 30) (v := ?_) (a' := ?_) #[true, true, true, false, false, false, false, false, false, false, false] rfl rfl (by kernel_rfl) (fun _ _ _ h => h) (Or.inl ⟨by rfl, ?_⟩) hHeld ?_ ?_
          rotate_left
          · rintro w' ⟨s0, s1, s2, s3, s4, s5⟩
            go_simp
            with_reducible rfl
          rotate_left
          · simp only [Act.put, List.setIfInBounds_toArray, List.set_cons_zero, List.set_cons_succ, i64_w, i32_w]
            rfl
          refine pure_ (i := 3) (N := some 31) (v := ?_) (a' := ?_) #[true, true, true, true, false, false, false, false, false, false, false] rfl rfl (by kernel_rfl) (fun _ _ _ h => h) (Or.inl ⟨by rfl, ?_⟩) ?_ ?_
          rotate_left
          · intro w'
            go_simp
            with_reducible rfl
          rotate_left
          · simp only [Act.put, List.setIfInBounds_toArray, List.set_cons_zero, List.set_cons_succ, i64_w, i32_w]
            rfl
          refine take_ (i := 4) (N := some 32) (v := ?_) (a' := ?_) #[true, true, true, true, true, false, false, false, false, false, false] rfl rfl (by kernel_rfl) (fun _ _ _ h => h) (Or.inl ⟨by rfl, ?_⟩) hHeld ?_ ?_
          rotate_left
          · rintro w' ⟨s0, s1, s2, s3, s4, s5⟩
            go_simp
            with_reducible rfl
          rotate_left
          · simp only [Act.put, List.setIfInBounds_toArray, List.set_cons_zero, List.set_cons_succ, i64_w, i32_w]
            rfl
          refine one_ (i := 5) (N := some 33) #[true, true, true, true, true, true, false, false, false, false, false] rfl rfl (by kernel_rfl) (by decide) (fun K hK => ?_)
          refine call_ 78 (#[.agg #[.string a.f0, .int .u16 a.f1, .string a.f2, .slice A3 a.f3.length c3]] ++ #[.pointer (some ⟨gh, 0, none⟩), .pointer (some ⟨gv, 0, none⟩), .pointer (some ⟨go, 0, none⟩)]) (by rfl) rfl (enterF (p := .tmp 28) (xs := #[.tmp 32]) (ts := #[50]) Tryd.func78 (by kernel_rfl) rfl _ rfl rfl (by (try simp only [List.map_toArray, List.map_cons, List.map_nil]); first | done | rfl)) ?_
          refine (IH'.out a xa q1 A3 c3 gh gv go _ HX.out (Kd.zV HA.out.2 HWw2.out) HA.out.1 HEw2.out (V'.out.keep _ _ HI.out HWw2.out)).mono ?_
          rintro ex w3 ⟨rfl, hbn⟩
          refine ⟨_, rfl, ?_⟩
          have HWw3 := zz_ (zG HWw2.out hbn)
          have BKw3 := zz_ (zK BKw2.out hbn)
          have HEw3 := zz_ (HEw2.out.below hbn)
          clear hbn hHeld
          refine hK.out _ _ ⟨(zD HEw3.out.o 0).trans rfl, (zD BKw3.out 3).trans rfl, zP HWw3.out z0, zP HWw3.out z1, zP HWw3.out z2, zP HWw3.out z3⟩ (fun hHeld => ?_)
          clear hK K
          refine norm_ (a' := ?_) ?_ ?_
          rotate_left
          · show Act.put _ (some 33) _ = _
            simp only [Act.put, List.setIfInBounds_toArray, List.set_cons_zero, List.set_cons_succ, i64_w, i32_w]
            rfl
          refine pure_ (i := 6) (N := some 27) (v := ?_) (a' := ?_) #[true, true, true, true, true, true, true, false, false, false, false] rfl rfl (by kernel_rfl) (fun _ _ _ h => h) (Or.inl ⟨by rfl, ?_⟩) ?_ ?_
          rotate_left
          · intro w'
            go_simp
            with_reducible rfl
          rotate_left
          · simp only [Act.put, List.setIfInBounds_toArray, List.set_cons_zero, List.set_cons_succ, i64_w, i32_w]
            rfl
          refine pure_ (i := 7) (N := some 34) (v := ?_) (a' := ?_) #[true, true, true, true, true, true, true, true, false, false, false] rfl rfl (by kernel_rfl) (fun _ _ _ h => h) (Or.inl ⟨by rfl, ?_⟩) ?_ ?_
          rotate_left
          · intro w'
            go_simp
            with_reducible rfl
          rotate_left
          · simp only [Act.put, List.setIfInBounds_toArray, List.set_cons_zero, List.set_cons_succ, i64_w, i32_w]
            rfl
          refine pure_ (i := 8) (N := some 35) (v := ?_) (a' := ?_) #[true, true, true, true, true, true, true, true, true, false, false] rfl rfl (by kernel_rfl) (fun _ _ _ h => h) (Or.inl ⟨by rfl, ?_⟩) ?_ ?_
          rotate_left
          · intro w'
            go_simp
            with_reducible rfl
          rotate_left
          · simp only [Act.put, List.setIfInBounds_toArray, List.set_cons_zero, List.set_cons_succ, i64_w, i32_w]
            rfl
          refine pure_ (i := 9) (N := some 7) (v := ?_) (a' := ?_) #[true, true, true, true, true, true, true, true, true, true, false] rfl rfl (by kernel_rfl) (fun _ _ _ h => h) (Or.inl ⟨by rfl, ?_⟩) ?_ ?_
          rotate_left
          · intro w'
            go_simp
            with_reducible rfl
          rotate_left
          · simp only [Act.put, List.setIfInBounds_toArray, List.set_cons_zero, List.set_cons_succ, i64_w, i32_w]
            rfl
          refine pure_ (i := 10) (N := some 8) (v := ?_) (a' := ?_) #[true, true, true, true, true, true, true, true, true, true, true] rfl rfl (by kernel_rfl) (fun _ _ _ h => h) (Or.inl ⟨by rfl, ?_⟩) ?_ ?_
          rotate_left
          · intro w'
            go_simp
            with_reducible rfl
          rotate_left
          · simp only [Act.put, List.setIfInBounds_toArray, List.set_cons_zero, List.set_cons_succ, i64_w, i32_w]
            rfl
          refine done_ (by kernel_rfl) ?_
          obtain ⟨⟨c30, c31, c32, c33⟩, _⟩ := blk50 BKw3.out
          clear hHeld z0 z1 z2 z3
          go_wp2
          go_ret2
          exact ⟨rfl, HWw3.out⟩
        rw [if_neg h4] at h
        obtain ⟨p7, p8⟩ := strne h4
        by_cases h5 : e.f0.data.toList = [78, 69, 71]
        · rw [if_pos h5] at h
          simp only [Option.some.injEq, Prod.mk.injEq] at h
          obtain ⟨rfl, rfl⟩ := h
          obtain ⟨p9, p10⟩ := streq h5
          have HN2 := zz_ hN2
          clear h4 h5 hq hN2 hl
          go_enter Tryd.func78, Tryd.ntmps78
          go_wp2_with ((with_reducible refine zS (N := 4) rfl ?_); refine zO ?hg (N := 4) ?hd (cs := #[.string e.f0, .int .u16 e.f1, .string e.f2, .slice (some ad) N c]) (t := 50) ?hr ?_; (case hd => rfl); (case hg => rfl); (case hr => first | (go_simp; done) | (go_simp; rfl)); intro b hg w1 hbox hb; have HWb := zz_ hb; have BKb := zz_ hbox; have HE1 := zz_ (HE.out.below hb); obtain ⟨⟨x0, x1, x2, x3⟩, _⟩ := blk50 hbox; have y0 : w1.cell? ⟨gh, 0, none⟩ = some (.int .u16 here) := ((zD HE1.out.h 0).trans rfl); have y1 : w1.cell? ⟨gv, 0, none⟩ = some (.func (.func vf) #[] caps) := ((zD HE1.out.v 0).trans rfl); clear hb hbox hg)
          have HWw1 := HWb
          have BKw1 := BKb
          have HEw1 := HE1
          obtain ⟨z0, z1, z2, z3⟩ := HZ.out
          have HWw2 := zz_ (zC HWw1.out)
          have BKw2 := zz_ (zJ BKw1.out)
          have HEw2 := zz_ (HEw1.out.below (zC (Below.refl _ _)))
          refine start_ (n := 11) (S := fun w' => w'.cell? ⟨go, 0, none⟩ = some (.func (.func 78) #[] #[.pointer (some ⟨gh, 0, none⟩), .pointer (some ⟨gv, 0, none⟩), .pointer (some ⟨go, 0, none⟩)]) ∧ w'.cell? ⟨b, 3, none⟩ = some (.slice (some ad) N c) ∧ w'.cell? ad = some (.string a.f0) ∧ w'.cell? ⟨ad.block, ad.off + 1, none⟩ = some (.int .u16 a.f1) ∧ w'.cell? ⟨ad.block, ad.off + 2, none⟩ = some (.string a.f2) ∧ w'.cell? ⟨ad.block, ad.off + 3, none⟩ = some (.slice A3 a.f3.length c3)) (ds := []) #[false, false, false, false, false, false, false, false, false, false, false] (by kernel_rfl) rfl rfl ⟨(zD HEw2.out.o 0).trans rfl, (zD BKw2.out 3).trans rfl, zP HWw2.out z0, zP HWw2.out z1, zP HWw2.out z2, zP HWw2.out z3⟩ (fun hHeld => ?_)
          generalize w1.drew = w2 at HWw2 BKw2 HEw2 hHeld ⊢
          refine pure_ (i := 1) (N := some 29) (v := ?_) (a' := ?_) #[false, true, false, false, false, false, false, false, false, false, false] rfl rfl (by kernel_rfl) (fun _ _ _ h => h) (Or.inl ⟨by rfl, ?_⟩) ?_ ?_
          rotate_left
          · intro w'
            go_simp
            with_reducible rfl
          rotate_left
          · simp only [Act.put, List.setIfInBounds_toArray, List.set_cons_zero, List.set_cons_succ, i64_w, i32_w]
            rfl
          refine take_ (i := 0) (N := some 28) (v := ?_) (a' := ?_) #[true, true, false, false, false, false, false, false, false, false, false] rfl rfl (by kernel_rfl) (fun _ _ _ h => h) (Or.inl ⟨by rfl, ?_⟩) hHeld ?_ ?_
          rotate_left
          · rintro w' ⟨s0, s1, s2, s3, s4, s5⟩
            go_simp
            with_reducible rfl
          rotate_left
          · simp only [Act.put, List.setIfInBounds_toArray, List.set_cons_zero, List.set_cons_succ, i64_w, i32_w]
            rfl
          refine take_ (i := 2) (N := some 30) (v := ?_) (a' := ?_) #[true, true, true, false, false, false, false, false, false, false, false] rfl rfl (by kernel_rfl) (fun _ _ _ h => h) (Or.inl ⟨by rfl, ?_⟩) hHeld ?_ ?_
          rotate_left
          · rintro w' ⟨s0, s1, s2, s3, s4, s5⟩
            go_simp
            with_reducible rfl
          rotate_left
          · simp only [Act.put, List.setIfInBounds_toArray, List.set_cons_zero, List.set_cons_succ, i64_w, i32_w]
            rfl
          refine pure_ (i := 3) (N := some 31) (v := ?_) (a' := ?_) #[true, true, true, true, false, false, false, false, false, false, false] rfl rfl (by kernel_rfl) (fun _ _ _ h => h) (Or.inl ⟨by rfl, ?_⟩) ?_ ?_
          rotate_left
          · intro w'
            go_simp
            with_reducible rfl
          rotate_left
          · simp only [Act.put, List.setIfInBounds_toArray, List.set_cons_zero, List.set_cons_succ, i64_w, i32_w]
            rfl
          refine take_ (i := 4) (N := some 32) (v := ?_) (a' := ?_) #[true, true, true, true, true, false, false, false, false, false, false] rfl rfl (by kernel_rfl) (fun _ _ _ h => h) (Or.inl ⟨by rfl, ?_⟩) hHeld ?_ ?_
          rotate_left
          · rintro w' ⟨s0, s1, s2, s3, s4, s5⟩
            go_simp
            with_reducible rfl
          rotate_left
          · simp only [Act.put, List.setIfInBounds_toArray, List.set_cons_zero, List.set_cons_succ, i64_w, i32_w]
            rfl
          refine one_ (i := 5) (N := some 33) #[true, true, true, true, true, true, false, false, false, false, false] rfl rfl (by kernel_rfl) (by decide) (fun K hK => ?_)
          refine call_ 78 (#[.agg #[.string a.f0, .int .u16 a.f1, .string a.f2, .slice A3 a.f3.length c3]] ++ #[.pointer (some ⟨gh, 0, none⟩), .pointer (some ⟨gv, 0, none⟩), .pointer (some ⟨go, 0, none⟩)]) (by rfl) rfl (enterF (p := .tmp 28) (xs := #[.tmp 32]) (ts := #[50]) Tryd.func78 (by kernel_rfl) rfl _ rfl rfl (by (try simp only [List.map_toArray, List.map_cons, List.map_nil]); first | done | rfl)) ?_
          refine (IH'.out a xa q1 A3 c3 gh gv go _ HX.out (Kd.zV HA.out.2 HWw2.out) HA.out.1 HEw2.out (V'.out.keep _ _ HI.out HWw2.out)).mono ?_
          rintro ex w3 ⟨rfl, hbn⟩
          refine ⟨_, rfl, ?_⟩
          have HWw3 := zz_ (zG HWw2.out hbn)
          have BKw3 := zz_ (zK BKw2.out hbn)
          have HEw3 := zz_ (HEw2.out.below hbn)
          clear hbn hHeld
          refine hK.out _ _ ⟨(zD HEw3.out.o 0).trans rfl, (zD BKw3.out 3).trans rfl, zP HWw3.out z0, zP HWw3.out z1, zP HWw3.out z2, zP HWw3.out z3⟩ (fun hHeld => ?_)
          clear hK K
          refine norm_ (a' := ?_) ?_ ?_
          rotate_left
          · show Act.put _ (some 33) _ = _
            simp only [Act.put, List.setIfInBounds_toArray, List.set_cons_zero, List.set_cons_succ, i64_w, i32_w]
            rfl
          refine pure_ (i := 6) (N := some 27) (v := ?_) (a' := ?_) #[true, true, true, true, true, true, true, false, false, false, false] rfl rfl (by kernel_rfl) (fun _ _ _ h => h) (Or.inl ⟨by rfl, ?_⟩) ?_ ?_
          rotate_left
          · intro w'
            go_simp
            with_reducible rfl
          rotate_left
          · simp only [Act.put, List.setIfInBounds_toArray, List.set_cons_zero, List.set_cons_succ, i64_w, i32_w]
            rfl
          refine pure_ (i := 7) (N := some 34) (v := ?_) (a' := ?_) #[true, true, true, true, true, true, true, true, false, false, false] rfl rfl (by kernel_rfl) (fun _ _ _ h => h) (Or.inl ⟨by rfl, ?_⟩) ?_ ?_
          rotate_left
          · intro w'
            go_simp
            with_reducible rfl
          rotate_left
          · simp only [Act.put, List.setIfInBounds_toArray, List.set_cons_zero, List.set_cons_succ, i64_w, i32_w]
            rfl
          refine pure_ (i := 8) (N := some 35) (v := ?_) (a' := ?_) #[true, true, true, true, true, true, true, true, true, false, false] rfl rfl (by kernel_rfl) (fun _ _ _ h => h) (Or.inl ⟨by rfl, ?_⟩) ?_ ?_
          rotate_left
          · intro w'
            go_simp
            with_reducible rfl
          rotate_left
          · simp only [Act.put, List.setIfInBounds_toArray, List.set_cons_zero, List.set_cons_succ, i64_w, i32_w]
            rfl
          refine pure_ (i := 9) (N := some 7) (v := ?_) (a' := ?_) #[true, true, true, true, true, true, true, true, true, true, false] rfl rfl (by kernel_rfl) (fun _ _ _ h => h) (Or.inl ⟨by rfl, ?_⟩) ?_ ?_
          rotate_left
          · intro w'
            go_simp
            with_reducible rfl
          rotate_left
          · simp only [Act.put, List.setIfInBounds_toArray, List.set_cons_zero, List.set_cons_succ, i64_w, i32_w]
            rfl
          refine pure_ (i := 10) (N := some 8) (v := ?_) (a' := ?_) #[true, true, true, true, true, true, true, true, true, true, true] rfl rfl (by kernel_rfl) (fun _ _ _ h => h) (Or.inl ⟨by rfl, ?_⟩) ?_ ?_
          rotate_left
          · intro w'
            go_simp
            with_reducible rfl
          rotate_left
          · simp only [Act.put, List.setIfInBounds_toArray, List.set_cons_zero, List.set_cons_succ, i64_w, i32_w]
            rfl
          refine done_ (by kernel_rfl) ?_
          obtain ⟨⟨c30, c31, c32, c33⟩, _⟩ := blk50 BKw3.out
          clear hHeld z0 z1 z2 z3
          go_wp2
          go_ret2
          exact ⟨rfl, HWw3.out⟩
        rw [if_neg h5] at h
        obtain ⟨p9, p10⟩ := strne h5
        cases l with
        | nil => cases h
        | cons d l =>
          simp only at h
          have hR3 := HR.out
          rw [hl] at hR3
          obtain ⟨A4, c4, v0, v1, v2, v3, g4, r4⟩ := next50 hN2 hR3
          have HB := zz_ (And.intro g4 r4)
          have HV4 := zz_ (And.intro v0 (And.intro v1 (And.intro v2 v3)))
          have hNpos2 : (1 < (N : Int)) = True := eq_true (by simp at hN2; omega)
          clear g4 r4 v0 v1 v2 v3 hR3
          cases hy : evalP here F k d with
          | none => rw [hy] at h; cases h
          | some y2 =>
            obtain ⟨y, p⟩ := y2
            rw [hy] at h
            simp only at h
            have HY := zz_ hy
            have HN2 := zz_ hN2
            clear hy h4 h5 hq hN2 hl
            by_cases hp : p = 0
            · rw [if_pos hp] at h
              have hp1 : (p != 0) = false := bne_eq_false_iff_eq.mpr hp
              have HT := zz_ h
              clear h hp
              go_enter Tryd.func78, Tryd.ntmps78
              go_wp2_with ((with_reducible refine zS (N := 4) rfl ?_); refine zO ?hg (N := 4) ?hd (cs := #[.string e.f0, .int .u16 e.f1, .string e.f2, .slice (some ad) N c]) (t := 50) ?hr ?_; (case hd => rfl); (case hg => rfl); (case hr => first | (go_simp; done) | (go_simp; rfl)); intro b hg w1 hbox hb; have HWb := zz_ hb; have BKb := zz_ hbox; have HE1 := zz_ (HE.out.below hb); obtain ⟨⟨x0, x1, x2, x3⟩, _⟩ := blk50 hbox; have y0 : w1.cell? ⟨gh, 0, none⟩ = some (.int .u16 here) := ((zD HE1.out.h 0).trans rfl); have y1 : w1.cell? ⟨gv, 0, none⟩ = some (.func (.func vf) #[] caps) := ((zD HE1.out.v 0).trans rfl); clear hb hbox hg)
              have HWw1 := HWb
              have BKw1 := BKb
              have HEw1 := HE1
              obtain ⟨z0, z1, z2, z3⟩ := HZ.out
              have HWw2 := zz_ (zC HWw1.out)
              have BKw2 := zz_ (zJ BKw1.out)
              have HEw2 := zz_ (HEw1.out.below (zC (Below.refl _ _)))
              refine start_ (n := 11) (S := fun w' => w'.cell? ⟨go, 0, none⟩ = some (.func (.func 78) #[] #[.pointer (some ⟨gh, 0, none⟩), .pointer (some ⟨gv, 0, none⟩), .pointer (some ⟨go, 0, none⟩)]) ∧ w'.cell? ⟨b, 3, none⟩ = some (.slice (some ad) N c) ∧ w'.cell? ad = some (.string a.f0) ∧ w'.cell? ⟨ad.block, ad.off + 1, none⟩ = some (.int .u16 a.f1) ∧ w'.cell? ⟨ad.block, ad.off + 2, none⟩ = some (.string a.f2) ∧ w'.cell? ⟨ad.block, ad.off + 3, none⟩ = some (.slice A3 a.f3.length c3)) (ds := []) #[false, false, false, false, false, false, false, false, false, false, false] (by kernel_rfl) rfl rfl ⟨(zD HEw2.out.o 0).trans rfl, (zD BKw2.out 3).trans rfl, zP HWw2.out z0, zP HWw2.out z1, zP HWw2.out z2, zP HWw2.out z3⟩ (fun hHeld => ?_)
              generalize w1.drew = w2 at HWw2 BKw2 HEw2 hHeld ⊢
              refine pure_ (i := 1) (N := some 29) (v := ?_) (a' := ?_) #[false, true, false, false, false, false, false, false, false, false, false] rfl rfl (by kernel_rfl) (fun _ _ _ h => h) (Or.inl ⟨by rfl, ?_⟩) ?_ ?_
              rotate_left
              · intro w'
                go_simp
                with_reducible rfl
              rotate_left
              · simp only [Act.put, List.setIfInBounds_toArray, List.set_cons_zero, List.set_cons_succ, i64_w, i32_w]
                rfl
              refine take_ (i := 0) (N := some 28) (v := ?_) (a' := ?_) #[true, true, false, false, false, false, false, false, false, false, false] rfl rfl (by kernel_rfl) (fun _ _ _ h => h) (Or.inl ⟨by rfl, ?_⟩) hHeld ?_ ?_
              rotate_left
              · rintro w' ⟨s0, s1, s2, s3, s4, s5⟩
                go_simp
                with_reducible rfl
              rotate_left
              · simp only [Act.put, List.setIfInBounds_toArray, List.set_cons_zero, List.set_cons_succ, i64_w, i32_w]
                rfl
              refine take_ (i := 2) (N := some 30) (v := ?_) (a' := ?_) #[true, true, true, false, false, false, false, false, false, false, false] rfl rfl (by kernel_rfl) (fun _ _ _ h => h) (Or.inl ⟨by rfl, ?_⟩) hHeld ?_ ?_
              rotate_left
              · rintro w' ⟨s0, s1, s2, s3, s4, s5⟩
                go_simp
                with_reducible rfl
              rotate_left
              · simp only [Act.put, List.setIfInBounds_toArray, List.set_cons_zero, List.set_cons_succ, i64_w, i32_w]
                rfl
              refine pure_ (i := 3) (N := some 31) (v := ?_) (a' := ?_) #[true, true, true, true, false, false, false, false, false, false, false] rfl rfl (by kernel_rfl) (fun _ _ _ h => h) (Or.inl ⟨by rfl, ?_⟩) ?_ ?_
              rotate_left
              · intro w'
                go_simp
                with_reducible rfl
              rotate_left
              · simp only [Act.put, List.setIfInBounds_toArray, List.set_cons_zero, List.set_cons_succ, i64_w, i32_w]
                rfl
              refine take_ (i := 4) (N := some 32) (v := ?_) (a' := ?_) #[true, true, true, true, true, false, false, false, false, false, false] rfl rfl (by kernel_rfl) (fun _ _ _ h => h) (Or.inl ⟨by rfl, ?_⟩) hHeld ?_ ?_
              rotate_left
              · rintro w' ⟨s0, s1, s2, s3, s4, s5⟩
                go_simp
                with_reducible rfl
              rotate_left
              · simp only [Act.put, List.setIfInBounds_toArray, List.set_cons_zero, List.set_cons_succ, i64_w, i32_w]
                rfl
              refine one_ (i := 5) (N := some 33) #[true, true, true, true, true, true, false, false, false, false, false] rfl rfl (by kernel_rfl) (by decide) (fun K hK => ?_)
              refine call_ 78 (#[.agg #[.string a.f0, .int .u16 a.f1, .string a.f2, .slice A3 a.f3.length c3]] ++ #[.pointer (some ⟨gh, 0, none⟩), .pointer (some ⟨gv, 0, none⟩), .pointer (some ⟨go, 0, none⟩)]) (by rfl) rfl (enterF (p := .tmp 28) (xs := #[.tmp 32]) (ts := #[50]) Tryd.func78 (by kernel_rfl) rfl _ rfl rfl (by (try simp only [List.map_toArray, List.map_cons, List.map_nil]); first | done | rfl)) ?_
              refine (IH'.out a xa q1 A3 c3 gh gv go _ HX.out (Kd.zV HA.out.2 HWw2.out) HA.out.1 HEw2.out (V'.out.keep _ _ HI.out HWw2.out)).mono ?_
              rintro ex w3 ⟨rfl, hbn⟩
              refine ⟨_, rfl, ?_⟩
              have HWw3 := zz_ (zG HWw2.out hbn)
              have BKw3 := zz_ (zK BKw2.out hbn)
              have HEw3 := zz_ (HEw2.out.below hbn)
              clear hbn hHeld
              refine hK.out _ _ ⟨(zD HEw3.out.o 0).trans rfl, (zD BKw3.out 3).trans rfl, zP HWw3.out z0, zP HWw3.out z1, zP HWw3.out z2, zP HWw3.out z3⟩ (fun hHeld => ?_)
              clear hK K
              refine norm_ (a' := ?_) ?_ ?_
              rotate_left
              · show Act.put _ (some 33) _ = _
                simp only [Act.put, List.setIfInBounds_toArray, List.set_cons_zero, List.set_cons_succ, i64_w, i32_w]
                rfl
              refine pure_ (i := 6) (N := some 27) (v := ?_) (a' := ?_) #[true, true, true, true, true, true, true, false, false, false, false] rfl rfl (by kernel_rfl) (fun _ _ _ h => h) (Or.inl ⟨by rfl, ?_⟩) ?_ ?_
              rotate_left
              · intro w'
                go_simp
                with_reducible rfl
              rotate_left
              · simp only [Act.put, List.setIfInBounds_toArray, List.set_cons_zero, List.set_cons_succ, i64_w, i32_w]
                rfl
              refine pure_ (i := 7) (N := some 34) (v := ?_) (a' := ?_) #[true, true, true, true, true, true, true, true, false, false, false] rfl rfl (by kernel_rfl) (fun _ _ _ h => h) (Or.inl ⟨by rfl, ?_⟩) ?_ ?_
              rotate_left
              · intro w'
                go_simp
                with_reducible rfl
              rotate_left
              · simp only [Act.put, List.setIfInBounds_toArray, List.set_cons_zero, List.set_cons_succ, i64_w, i32_w]
                rfl
              refine pure_ (i := 8) (N := some 35) (v := ?_) (a' := ?_) #[true, true, true, true, true, true, true, true, true, false, false] rfl rfl (by kernel_rfl) (fun _ _ _ h => h) (Or.inl ⟨by rfl, ?_⟩) ?_ ?_
              rotate_left
              · intro w'
                go_simp
                with_reducible rfl
              rotate_left
              · simp only [Act.put, List.setIfInBounds_toArray, List.set_cons_zero, List.set_cons_succ, i64_w, i32_w]
                rfl
              refine pure_ (i := 9) (N := some 7) (v := ?_) (a' := ?_) #[true, true, true, true, true, true, true, true, true, true, false] rfl rfl (by kernel_rfl) (fun _ _ _ h => h) (Or.inl ⟨by rfl, ?_⟩) ?_ ?_
              rotate_left
              · intro w'
                go_simp
                with_reducible rfl
              rotate_left
              · simp only [Act.put, List.setIfInBounds_toArray, List.set_cons_zero, List.set_cons_succ, i64_w, i32_w]
                rfl
              refine pure_ (i := 10) (N := some 8) (v := ?_) (a' := ?_) #[true, true, true, true, true, true, true, true, true, true, true] rfl rfl (by kernel_rfl) (fun _ _ _ h => h) (Or.inl ⟨by rfl, ?_⟩) ?_ ?_
              rotate_left
              · intro w'
                go_simp
                with_reducible rfl
              rotate_left
              · simp only [Act.put, List.setIfInBounds_toArray, List.set_cons_zero, List.set_cons_succ, i64_w, i32_w]
                rfl
              refine done_ (by kernel_rfl) ?_
              obtain ⟨⟨c30, c31, c32, c33⟩, _⟩ := blk50 BKw3.out
              clear hHeld z0 z1 z2 z3
              go_wp2
              obtain ⟨v0, v1, v2, v3⟩ := HV4.out
              have HWw4 := zz_ (zC HWw3.out)
              have BKw4 := zz_ (zJ BKw3.out)
              have HEw4 := zz_ (HEw3.out.below (zC (Below.refl _ _)))
              refine start_ (n := 11) (S := fun w' => w'.cell? ⟨go, 0, none⟩ = some (.func (.func 78) #[] #[.pointer (some ⟨gh, 0, none⟩), .pointer (some ⟨gv, 0, none⟩), .pointer (some ⟨go, 0, none⟩)]) ∧ w'.cell? ⟨b, 3, none⟩ = some (.slice (some ad) N c) ∧ w'.cell? ⟨ad.block, ad.off + 4, none⟩ = some (.string d.f0) ∧ w'.cell? ⟨ad.block, ad.off + 4 + 1, none⟩ = some (.int .u16 d.f1) ∧ w'.cell? ⟨ad.block, ad.off + 4 + 2, none⟩ = some (.string d.f2) ∧ w'.cell? ⟨ad.block, ad.off + 4 + 3, none⟩ = some (.slice A4 d.f3.length c4)) (ds := []) #[false, false, false, false, false, false, false, false, false, false, false] (by kernel_rfl) rfl rfl ⟨(zD HEw4.out.o 0).trans rfl, (zD BKw4.out 3).trans rfl, zP HWw4.out v0, zP HWw4.out v1, zP HWw4.out v2, zP HWw4.out v3⟩ (fun hHeld => ?_)
              generalize w3.drew = w4 at HWw4 BKw4 HEw4 hHeld ⊢
              refine pure_ (i := 1) (N := some 54) (v := ?_) (a' := ?_) #[false, true, false, false, false, false, false, false, false, false, false] rfl rfl (by kernel_rfl) (fun _ _ _ h => h) (Or.inl ⟨by rfl, ?_⟩) ?_ ?_
              rotate_left
              · intro w'
                go_simp
                with_reducible rfl
              rotate_left
              · simp only [Act.put, List.setIfInBounds_toArray, List.set_cons_zero, List.set_cons_succ, i64_w, i32_w]
                rfl
              refine take_ (i := 0) (N := some 53) (v := ?_) (a' := ?_) #[true, true, false, false, false, false, false, false, false, false, false] rfl rfl (by kernel_rfl) (fun _ _ _ h => h) (Or.inl ⟨by rfl, ?_⟩) hHeld ?_ ?_
              rotate_left
              · rintro w' ⟨s0, s1, s2, s3, s4, s5⟩
                go_simp
                with_reducible rfl
              rotate_left
              · simp only [Act.put, List.setIfInBounds_toArray, List.set_cons_zero, List.set_cons_succ, i64_w, i32_w]
                rfl
              refine take_ (i := 2) (N := some 55) (v := ?_) (a' := ?_) #[true, true, true, false, false, false, false, false, false, false, false] rfl rfl (by kernel_rfl) (fun _ _ _ h => h) (Or.inl ⟨by rfl, ?_⟩) hHeld ?_ ?_
              rotate_left
              · rintro w' ⟨s0, s1, s2, s3, s4, s5⟩
                go_simp
                with_reducible rfl
              rotate_left
              · simp only [Act.put, List.setIfInBounds_toArray, List.set_cons_zero, List.set_cons_succ, i64_w, i32_w]
                rfl
              refine pure_ (i := 3) (N := some 56) (v := ?_) (a' := ?_) #[true, true, true, true, false, false, false, false, false, false, false] rfl rfl (by kernel_rfl) (fun _ _ _ h => h) (Or.inl ⟨by rfl, ?_⟩) ?_ ?_
              rotate_left
              · intro w'
                go_simp
                with_reducible rfl
              rotate_left
              · simp only [Act.put, List.setIfInBounds_toArray, List.set_cons_zero, List.set_cons_succ, i64_w, i32_w]
                rfl
              refine take_ (i := 4) (N := some 57) (v := ?_) (a' := ?_) #[true, true, true, true, true, false, false, false, false, false, false] rfl rfl (by kernel_rfl) (fun _ _ _ h => h) (Or.inl ⟨by rfl, ?_⟩) hHeld ?_ ?_
              rotate_left
              · rintro w' ⟨s0, s1, s2, s3, s4, s5⟩
                go_simp
                with_reducible rfl
              rotate_left
              · simp only [Act.put, List.setIfInBounds_toArray, List.set_cons_zero, List.set_cons_succ, i64_w, i32_w]
                rfl
              refine one_ (i := 5) (N := some 58) #[true, true, true, true, true, true, false, false, false, false, false] rfl rfl (by kernel_rfl) (by decide) (fun K hK => ?_)
              refine call_ 78 (#[.agg #[.string d.f0, .int .u16 d.f1, .string d.f2, .slice A4 d.f3.length c4]] ++ #[.pointer (some ⟨gh, 0, none⟩), .pointer (some ⟨gv, 0, none⟩), .pointer (some ⟨go, 0, none⟩)]) (by rfl) rfl (enterF (p := .tmp 53) (xs := #[.tmp 57]) (ts := #[50]) Tryd.func78 (by kernel_rfl) rfl _ rfl rfl (by (try simp only [List.map_toArray, List.map_cons, List.map_nil]); first | done | rfl)) ?_
              refine (IH'.out d y p A4 c4 gh gv go _ HY.out (Kd.zV HB.out.2 HWw4.out) HB.out.1 HEw4.out (V'.out.keep _ _ HI.out HWw4.out)).mono ?_
              rintro ex w5 ⟨rfl, hbn⟩
              refine ⟨_, rfl, ?_⟩
              have HWw5 := zz_ (zG HWw4.out hbn)
              have BKw5 := zz_ (zK BKw4.out hbn)
              have HEw5 := zz_ (HEw4.out.below hbn)
              clear hbn hHeld
              refine hK.out _ _ ⟨(zD HEw5.out.o 0).trans rfl, (zD BKw5.out 3).trans rfl, zP HWw5.out v0, zP HWw5.out v1, zP HWw5.out v2, zP HWw5.out v3⟩ (fun hHeld => ?_)
              clear hK K
              refine norm_ (a' := ?_) ?_ ?_
              rotate_left
              · show Act.put _ (some 58) _ = _
                simp only [Act.put, List.setIfInBounds_toArray, List.set_cons_zero, List.set_cons_succ, i64_w, i32_w]
                rfl
              refine pure_ (i := 6) (N := some 52) (v := ?_) (a' := ?_) #[true, true, true, true, true, true, true, false, false, false, false] rfl rfl (by kernel_rfl) (fun _ _ _ h => h) (Or.inl ⟨by rfl, ?_⟩) ?_ ?_
              rotate_left
              · intro w'
                go_simp
                with_reducible rfl
              rotate_left
              · simp only [Act.put, List.setIfInBounds_toArray, List.set_cons_zero, List.set_cons_succ, i64_w, i32_w]
                rfl
              refine pure_ (i := 7) (N := some 59) (v := ?_) (a' := ?_) #[true, true, true, true, true, true, true, true, false, false, false] rfl rfl (by kernel_rfl) (fun _ _ _ h => h) (Or.inl ⟨by rfl, ?_⟩) ?_ ?_
              rotate_left
              · intro w'
                go_simp
                with_reducible rfl
              rotate_left
              · simp only [Act.put, List.setIfInBounds_toArray, List.set_cons_zero, List.set_cons_succ, i64_w, i32_w]
                rfl
              refine pure_ (i := 8) (N := some 60) (v := ?_) (a' := ?_) #[true, true, true, true, true, true, true, true, true, false, false] rfl rfl (by kernel_rfl) (fun _ _ _ h => h) (Or.inl ⟨by rfl, ?_⟩) ?_ ?_
              rotate_left
              · intro w'
                go_simp
                with_reducible rfl
              rotate_left
              · simp only [Act.put, List.setIfInBounds_toArray, List.set_cons_zero, List.set_cons_succ, i64_w, i32_w]
                rfl
              refine pure_ (i := 9) (N := some 9) (v := ?_) (a' := ?_) #[true, true, true, true, true, true, true, true, true, true, false] rfl rfl (by kernel_rfl) (fun _ _ _ h => h) (Or.inl ⟨by rfl, ?_⟩) ?_ ?_
              rotate_left
              · intro w'
                go_simp
                with_reducible rfl
              rotate_left
              · simp only [Act.put, List.setIfInBounds_toArray, List.set_cons_zero, List.set_cons_succ, i64_w, i32_w]
                rfl
              refine pure_ (i := 10) (N := some 8) (v := ?_) (a' := ?_) #[true, true, true, true, true, true, true, true, true, true, true] rfl rfl (by kernel_rfl) (fun _ _ _ h => h) (Or.inl ⟨by rfl, ?_⟩) ?_ ?_
              rotate_left
              · intro w'
                go_simp
                with_reducible rfl
              rotate_left
              · simp only [Act.put, List.setIfInBounds_toArray, List.set_cons_zero, List.set_cons_succ, i64_w, i32_w]
                rfl
              refine done_ (by kernel_rfl) ?_
              obtain ⟨⟨c50, c51, c52, c53⟩, _⟩ := blk50 BKw5.out
              clear hHeld v0 v1 v2 v3 c30 c31 c32 c33
              go_wp2_with (go_at_call 79; refine (expr_two.calls e.f0 xa y x q _ HT.out).mono ?_; rintro ex w6 ⟨rfl, ⟨nd, rfl⟩⟩)
              go_ret2
              exact ⟨rfl, zA HWw5.out _⟩
            · rw [if_neg hp] at h
              have hp1 : (p != 0) = true := bne_iff_ne.mpr hp
              simp only [Option.some.injEq, Prod.mk.injEq] at h
              obtain ⟨rfl, rfl⟩ := h
              clear hp
              go_enter Tryd.func78, Tryd.ntmps78
              go_wp2_with ((with_reducible refine zS (N := 4) rfl ?_); refine zO ?hg (N := 4) ?hd (cs := #[.string e.f0, .int .u16 e.f1, .string e.f2, .slice (some ad) N c]) (t := 50) ?hr ?_; (case hd => rfl); (case hg => rfl); (case hr => first | (go_simp; done) | (go_simp; rfl)); intro b hg w1 hbox hb; have HWb := zz_ hb; have BKb := zz_ hbox; have HE1 := zz_ (HE.out.below hb); obtain ⟨⟨x0, x1, x2, x3⟩, _⟩ := blk50 hbox; have y0 : w1.cell? ⟨gh, 0, none⟩ = some (.int .u16 here) := ((zD HE1.out.h 0).trans rfl); have y1 : w1.cell? ⟨gv, 0, none⟩ = some (.func (.func vf) #[] caps) := ((zD HE1.out.v 0).trans rfl); clear hb hbox hg)
              have HWw1 := HWb
              have BKw1 := BKb
              have HEw1 := HE1
              obtain ⟨z0, z1, z2, z3⟩ := HZ.out
              have HWw2 := zz_ (zC HWw1.out)
              have BKw2 := zz_ (zJ BKw1.out)
              have HEw2 := zz_ (HEw1.out.below (zC (Below.refl _ _)))
              refine start_ (n := 11) (S := fun w' => w'.cell? ⟨go, 0, none⟩ = some (.func (.func 78) #[] #[.pointer (some ⟨gh, 0, none⟩), .pointer (some ⟨gv, 0, none⟩), .pointer (some ⟨go, 0, none⟩)]) ∧ w'.cell? ⟨b, 3, none⟩ = some (.slice (some ad) N c) ∧ w'.cell? ad = some (.string a.f0) ∧ w'.cell? ⟨ad.block, ad.off + 1, none⟩ = some (.int .u16 a.f1) ∧ w'.cell? ⟨ad.block, ad.off + 2, none⟩ = some (.string a.f2) ∧ w'.cell? ⟨ad.block, ad.off + 3, none⟩ = some (.slice A3 a.f3.length c3)) (ds := []) #[false, false, false, false, false, false, false, false, false, false, false] (by kernel_rfl) rfl rfl ⟨(zD HEw2.out.o 0).trans rfl, (zD BKw2.out 3).trans rfl, zP HWw2.out z0, zP HWw2.out z1, zP HWw2.out z2, zP HWw2.out z3⟩ (fun hHeld => ?_)
              generalize w1.drew = w2 at HWw2 BKw2 HEw2 hHeld ⊢
              refine pure_ (i := 1) (N := some 29) (v := ?_) (a' := ?_) #[false, true, false, false, false, false, false, false, false, false, false] rfl rfl (by kernel_rfl) (fun _ _ _ h => h) (Or.inl ⟨by rfl, ?_⟩) ?_ ?_
              rotate_left
              · intro w'
                go_simp
                with_reducible rfl
              rotate_left
              · simp only [Act.put, List.setIfInBounds_toArray, List.set_cons_zero, List.set_cons_succ, i64_w, i32_w]
                rfl
              refine take_ (i := 0) (N := some 28) (v := ?_) (a' := ?_) #[true, true, false, false, false, false, false, false, false, false, false] rfl rfl (by kernel_rfl) (fun _ _ _ h => h) (Or.inl ⟨by rfl, ?_⟩) hHeld ?_ ?_
              rotate_left
              · rintro w' ⟨s0, s1, s2, s3, s4, s5⟩
                go_simp
                with_reducible rfl
              rotate_left
              · simp only [Act.put, List.setIfInBounds_toArray, List.set_cons_zero, List.set_cons_succ, i64_w, i32_w]
                rfl
              refine take_ (i := 2) (N := some 30) (v := ?_) (a' := ?_) #[true, true, true, false, false, false, false, false, false, false, false] rfl rfl (by kernel_rfl) (fun _ _ _ h => h) (Or.inl ⟨by rfl, ?_⟩) hHeld ?_ ?_
              rotate_left
              · rintro w' ⟨s0, s1, s2, s3, s4, s5⟩
                go_simp
                with_reducible rfl
              rotate_left
              · simp only [Act.put, List.setIfInBounds_toArray, List.set_cons_zero, List.set_cons_succ, i64_w, i32_w]
                rfl
              refine pure_ (i := 3) (N := some 31) (v := ?_) (a' := ?_) #[true, true, true, true, false, false, false, false, false, false, false] rfl rfl (by kernel_rfl) (fun _ _ _ h => h) (Or.inl ⟨by rfl, ?_⟩) ?_ ?_
              rotate_left
              · intro w'
                go_simp
                with_reducible rfl
              rotate_left
              · simp only [Act.put, List.setIfInBounds_toArray, List.set_cons_zero, List.set_cons_succ, i64_w, i32_w]
                rfl
              refine take_ (i := 4) (N := some 32) (v := ?_) (a' := ?_) #[true, true, true, true, true, false, false, false, false, false, false] rfl rfl (by kernel_rfl) (fun _ _ _ h => h) (Or.inl ⟨by rfl, ?_⟩) hHeld ?_ ?_
              rotate_left
              · rintro w' ⟨s0, s1, s2, s3, s4, s5⟩
                go_simp
                with_reducible rfl
              rotate_left
              · simp only [Act.put, List.setIfInBounds_toArray, List.set_cons_zero, List.set_cons_succ, i64_w, i32_w]
                rfl
              refine one_ (i := 5) (N := some 33) #[true, true, true, true, true, true, false, false, false, false, false] rfl rfl (by kernel_rfl) (by decide) (fun K hK => ?_)
              refine call_ 78 (#[.agg #[.string a.f0, .int .u16 a.f1, .string a.f2, .slice A3 a.f3.length c3]] ++ #[.pointer (some ⟨gh, 0, none⟩), .pointer (some ⟨gv, 0, none⟩), .pointer (some ⟨go, 0, none⟩)]) (by rfl) rfl (enterF (p := .tmp 28) (xs := #[.tmp 32]) (ts := #[50]) Tryd.func78 (by kernel_rfl) rfl _ rfl rfl (by (try simp only [List.map_toArray, List.map_cons, List.map_nil]); first | done | rfl)) ?_
              refine (IH'.out a xa q1 A3 c3 gh gv go _ HX.out (Kd.zV HA.out.2 HWw2.out) HA.out.1 HEw2.out (V'.out.keep _ _ HI.out HWw2.out)).mono ?_
              rintro ex w3 ⟨rfl, hbn⟩
              refine ⟨_, rfl, ?_⟩
              have HWw3 := zz_ (zG HWw2.out hbn)
              have BKw3 := zz_ (zK BKw2.out hbn)
              have HEw3 := zz_ (HEw2.out.below hbn)
              clear hbn hHeld
              refine hK.out _ _ ⟨(zD HEw3.out.o 0).trans rfl, (zD BKw3.out 3).trans rfl, zP HWw3.out z0, zP HWw3.out z1, zP HWw3.out z2, zP HWw3.out z3⟩ (fun hHeld => ?_)
              clear hK K
              refine norm_ (a' := ?_) ?_ ?_
              rotate_left
              · show Act.put _ (some 33) _ = _
                simp only [Act.put, List.setIfInBounds_toArray, List.set_cons_zero, List.set_cons_succ, i64_w, i32_w]
                rfl
              refine pure_ (i := 6) (N := some 27) (v := ?_) (a' := ?_) #[true, true, true, true, true, true, true, false, false, false, false] rfl rfl (by kernel_rfl) (fun _ _ _ h => h) (Or.inl ⟨by rfl, ?_⟩) ?_ ?_
              rotate_left
              · intro w'
                go_simp
                with_reducible rfl
              rotate_left
              · simp only [Act.put, List.setIfInBounds_toArray, List.set_cons_zero, List.set_cons_succ, i64_w, i32_w]
                rfl
              refine pure_ (i := 7) (N := some 34) (v := ?_) (a' := ?_) #[true, true, true, true, true, true, true, true, false, false, false] rfl rfl (by kernel_rfl) (fun _ _ _ h => h) (Or.inl ⟨by rfl, ?_⟩) ?_ ?_
              rotate_left
              · intro w'
                go_simp
                with_reducible rfl
              rotate_left
              · simp only [Act.put, List.setIfInBounds_toArray, List.set_cons_zero, List.set_cons_succ, i64_w, i32_w]
                rfl
              refine pure_ (i := 8) (N := some 35) (v := ?_) (a' := ?_) #[true, true, true, true, true, true, true, true, true, false, false] rfl rfl (by kernel_rfl) (fun _ _ _ h => h) (Or.inl ⟨by rfl, ?_⟩) ?_ ?_
              rotate_left
              · intro w'
                go_simp
                with_reducible rfl
              rotate_left
              · simp only [Act.put, List.setIfInBounds_toArray, List.set_cons_zero, List.set_cons_succ, i64_w, i32_w]
                rfl
              refine pure_ (i := 9) (N := some 7) (v := ?_) (a' := ?_) #[true, true, true, true, true, true, true, true, true, true, false] rfl rfl (by kernel_rfl) (fun _ _ _ h => h) (Or.inl ⟨by rfl, ?_⟩) ?_ ?_
              rotate_left
              · intro w'
                go_simp
                with_reducible rfl
              rotate_left
              · simp only [Act.put, List.setIfInBounds_toArray, List.set_cons_zero, List.set_cons_succ, i64_w, i32_w]
                rfl
              refine pure_ (i := 10) (N := some 8) (v := ?_) (a' := ?_) #[true, true, true, true, true, true, true, true, true, true, true] rfl rfl (by kernel_rfl) (fun _ _ _ h => h) (Or.inl ⟨by rfl, ?_⟩) ?_ ?_
              rotate_left
              · intro w'
                go_simp
                with_reducible rfl
              rotate_left
              · simp only [Act.put, List.setIfInBounds_toArray, List.set_cons_zero, List.set_cons_succ, i64_w, i32_w]
                rfl
              refine done_ (by kernel_rfl) ?_
              obtain ⟨⟨c30, c31, c32, c33⟩, _⟩ := blk50 BKw3.out
              clear hHeld z0 z1 z2 z3
              go_wp2
              obtain ⟨v0, v1, v2, v3⟩ := HV4.out
              have HWw4 := zz_ (zC HWw3.out)
              have BKw4 := zz_ (zJ BKw3.out)
              have HEw4 := zz_ (HEw3.out.below (zC (Below.refl _ _)))
              refine start_ (n := 11) (S := fun w' => w'.cell? ⟨go, 0, none⟩ = some (.func (.func 78) #[] #[.pointer (some ⟨gh, 0, none⟩), .pointer (some ⟨gv, 0, none⟩), .pointer (some ⟨go, 0, none⟩)]) ∧ w'.cell? ⟨b, 3, none⟩ = some (.slice (some ad) N c) ∧ w'.cell? ⟨ad.block, ad.off + 4, none⟩ = some (.string d.f0) ∧ w'.cell? ⟨ad.block, ad.off + 4 + 1, none⟩ = some (.int .u16 d.f1) ∧ w'.cell? ⟨ad.block, ad.off + 4 + 2, none⟩ = some (.string d.f2) ∧ w'.cell? ⟨ad.block, ad.off + 4 + 3, none⟩ = some (.slice A4 d.f3.length c4)) (ds := []) #[false, false, false, false, false, false, false, false, false, false, false] (by kernel_rfl) rfl rfl ⟨(zD HEw4.out.o 0).trans rfl, (zD BKw4.out 3).trans rfl, zP HWw4.out v0, zP HWw4.out v1, zP HWw4.out v2, zP HWw4.out v3⟩ (fun hHeld => ?_)
              generalize w3.drew = w4 at HWw4 BKw4 HEw4 hHeld ⊢
              refine pure_ (i := 1) (N := some 54) (v := ?_) (a' := ?_) #[false, true, false, false, false, false, false, false, false, false, false] rfl rfl (by kernel_rfl) (fun _ _ _ h => h) (Or.inl ⟨by rfl, ?_⟩) ?_ ?_
              rotate_left
              · intro w'
                go_simp
                with_reducible rfl
              rotate_left
              · simp only [Act.put, List.setIfInBounds_toArray, List.set_cons_zero, List.set_cons_succ, i64_w, i32_w]
                rfl
              refine take_ (i := 0) (N := some 53) (v := ?_) (a' := ?_) #[true, true, false, false, false, false, false, false, false, false, false] rfl rfl (by kernel_rfl) (fun _ _ _ h => h) (Or.inl ⟨by rfl, ?_⟩) hHeld ?_ ?_
              rotate_left
              · rintro w' ⟨s0, s1, s2, s3, s4, s5⟩
                go_simp
                with_reducible rfl
              rotate_left
              · simp only [Act.put, List.setIfInBounds_toArray, List.set_cons_zero, List.set_cons_succ, i64_w, i32_w]
                rfl
              refine take_ (i := 2) (N := some 55) (v := ?_) (a' := ?_) #[true, true, true, false, false, false, false, false, false, false, false] rfl rfl (by kernel_rfl) (fun _ _ _ h => h) (Or.inl ⟨by rfl, ?_⟩) hHeld ?_ ?_
              rotate_left
              · rintro w' ⟨s0, s1, s2, s3, s4, s5⟩
                go_simp
                with_reducible rfl
              rotate_left
              · simp only [Act.put, List.setIfInBounds_toArray, List.set_cons_zero, List.set_cons_succ, i64_w, i32_w]
                rfl
              refine pure_ (i := 3) (N := some 56) (v := ?_) (a' := ?_) #[true, true, true, true, false, false, false, false, false, false, false] rfl rfl (by kernel_rfl) (fun _ _ _ h => h) (Or.inl ⟨by rfl, ?_⟩) ?_ ?_
              rotate_left
              · intro w'
                go_simp
                with_reducible rfl
              rotate_left
              · simp only [Act.put, List.setIfInBounds_toArray, List.set_cons_zero, List.set_cons_succ, i64_w, i32_w]
                rfl
              refine take_ (i := 4) (N := some 57) (v := ?_) (a' := ?_) #[true, true, true, true, true, false, false, false, false, false, false] rfl rfl (by kernel_rfl) (fun _ _ _ h => h) (Or.inl ⟨by rfl, ?_⟩) hHeld ?_ ?_
              rotate_left
              · rintro w' ⟨s0, s1, s2, s3, s4, s5⟩
                go_simp
                with_reducible rfl
              rotate_left
              · simp only [Act.put, List.setIfInBounds_toArray, List.set_cons_zero, List.set_cons_succ, i64_w, i32_w]
                rfl
              refine one_ (i := 5) (N := some 58) #[true, true, true, true, true, true, false, false, false, false, false] rfl rfl (by kernel_rfl) (by decide) (fun K hK => ?_)
              refine call_ 78 (#[.agg #[.string d.f0, .int .u16 d.f1, .string d.f2, .slice A4 d.f3.length c4]] ++ #[.pointer (some ⟨gh, 0, none⟩), .pointer (some ⟨gv, 0, none⟩), .pointer (some ⟨go, 0, none⟩)]) (by rfl) rfl (enterF (p := .tmp 53) (xs := #[.tmp 57]) (ts := #[50]) Tryd.func78 (by kernel_rfl) rfl _ rfl rfl (by (try simp only [List.map_toArray, List.map_cons, List.map_nil]); first | done | rfl)) ?_
              refine (IH'.out d y p A4 c4 gh gv go _ HY.out (Kd.zV HB.out.2 HWw4.out) HB.out.1 HEw4.out (V'.out.keep _ _ HI.out HWw4.out)).mono ?_
              rintro ex w5 ⟨rfl, hbn⟩
              refine ⟨_, rfl, ?_⟩
              have HWw5 := zz_ (zG HWw4.out hbn)
              have BKw5 := zz_ (zK BKw4.out hbn)
              have HEw5 := zz_ (HEw4.out.below hbn)
              clear hbn hHeld
              refine hK.out _ _ ⟨(zD HEw5.out.o 0).trans rfl, (zD BKw5.out 3).trans rfl, zP HWw5.out v0, zP HWw5.out v1, zP HWw5.out v2, zP HWw5.out v3⟩ (fun hHeld => ?_)
              clear hK K
              refine norm_ (a' := ?_) ?_ ?_
              rotate_left
              · show Act.put _ (some 58) _ = _
                simp only [Act.put, List.setIfInBounds_toArray, List.set_cons_zero, List.set_cons_succ, i64_w, i32_w]
                rfl
              refine pure_ (i := 6) (N := some 52) (v := ?_) (a' := ?_) #[true, true, true, true, true, true, true, false, false, false, false] rfl rfl (by kernel_rfl) (fun _ _ _ h => h) (Or.inl ⟨by rfl, ?_⟩) ?_ ?_
              rotate_left
              · intro w'
                go_simp
                with_reducible rfl
              rotate_left
              · simp only [Act.put, List.setIfInBounds_toArray, List.set_cons_zero, List.set_cons_succ, i64_w, i32_w]
                rfl
              refine pure_ (i := 7) (N := some 59) (v := ?_) (a' := ?_) #[true, true, true, true, true, true, true, true, false, false, false] rfl rfl (by kernel_rfl) (fun _ _ _ h => h) (Or.inl ⟨by rfl, ?_⟩) ?_ ?_
              rotate_left
              · intro w'
                go_simp
                with_reducible rfl
              rotate_left
              · simp only [Act.put, List.setIfInBounds_toArray, List.set_cons_zero, List.set_cons_succ, i64_w, i32_w]
                rfl
              refine pure_ (i := 8) (N := some 60) (v := ?_) (a' := ?_) #[true, true, true, true, true, true, true, true, true, false, false] rfl rfl (by kernel_rfl) (fun _ _ _ h => h) (Or.inl ⟨by rfl, ?_⟩) ?_ ?_
              rotate_left
              · intro w'
                go_simp
                with_reducible rfl
              rotate_left
              · simp only [Act.put, List.setIfInBounds_toArray, List.set_cons_zero, List.set_cons_succ, i64_w, i32_w]
                rfl
              refine pure_ (i := 9) (N := some 9) (v := ?_) (a' := ?_) #[true, true, true, true, true, true, true, true, true, true, false] rfl rfl (by kernel_rfl) (fun _ _ _ h => h) (Or.inl ⟨by rfl, ?_⟩) ?_ ?_
              rotate_left
              · intro w'
                go_simp
                with_reducible rfl
              rotate_left
              · simp only [Act.put, List.setIfInBounds_toArray, List.set_cons_zero, List.set_cons_succ, i64_w, i32_w]
                rfl
              refine pure_ (i := 10) (N := some 8) (v := ?_) (a' := ?_) #[true, true, true, true, true, true, true, true, true, true, true] rfl rfl (by kernel_rfl) (fun _ _ _ h => h) (Or.inl ⟨by rfl, ?_⟩) ?_ ?_
              rotate_left
              · intro w'
                go_simp
                with_reducible rfl
              rotate_left
              · simp only [Act.put, List.setIfInBounds_toArray, List.set_cons_zero, List.set_cons_succ, i64_w, i32_w]
                rfl
              refine done_ (by kernel_rfl) ?_
              obtain ⟨⟨c50, c51, c52, c53⟩, _⟩ := blk50 BKw5.out
              clear hHeld v0 v1 v2 v3 c30 c31 c32 c33
              go_wp2
              go_ret2
              exact ⟨rfl, HWw5.out⟩
      · rw [if_neg hq] at h
        have hq1 : (q1 != 0) = true := bne_iff_ne.mpr hq
        simp only [Option.some.injEq, Prod.mk.injEq] at h
        obtain ⟨rfl, rfl⟩ := h
        have HN2 := zz_ hN2
        clear hq hN2 hl
        go_enter Tryd.func78, Tryd.ntmps78
        go_wp2_with ((with_reducible refine zS (N := 4) rfl ?_); refine zO ?hg (N := 4) ?hd (cs := #[.string e.f0, .int .u16 e.f1, .string e.f2, .slice (some ad) N c]) (t := 50) ?hr ?_; (case hd => rfl); (case hg => rfl); (case hr => first | (go_simp; done) | (go_simp; rfl)); intro b hg w1 hbox hb; have HWb := zz_ hb; have BKb := zz_ hbox; have HE1 := zz_ (HE.out.below hb); obtain ⟨⟨x0, x1, x2, x3⟩, _⟩ := blk50 hbox; have y0 : w1.cell? ⟨gh, 0, none⟩ = some (.int .u16 here) := ((zD HE1.out.h 0).trans rfl); have y1 : w1.cell? ⟨gv, 0, none⟩ = some (.func (.func vf) #[] caps) := ((zD HE1.out.v 0).trans rfl); clear hb hbox hg)
        have HWw1 := HWb
        have BKw1 := BKb
        have HEw1 := HE1
        obtain ⟨z0, z1, z2, z3⟩ := HZ.out
        have HWw2 := zz_ (zC HWw1.out)
        have BKw2 := zz_ (zJ BKw1.out)
        have HEw2 := zz_ (HEw1.out.below (zC (Below.refl _ _)))
        refine start_ (n := 11) (S := fun w' => w'.cell? ⟨go, 0, none⟩ = some (.func (.func 78) #[] #[.pointer (some ⟨gh, 0, none⟩), .pointer (some ⟨gv, 0, none⟩), .pointer (some ⟨go, 0, none⟩)]) ∧ w'.cell? ⟨b, 3, none⟩ = some (.slice (some ad) N c) ∧ w'.cell? ad = some (.string a.f0) ∧ w'.cell? ⟨ad.block, ad.off + 1, none⟩ = some (.int .u16 a.f1) ∧ w'.cell? ⟨ad.block, ad.off + 2, none⟩ = some (.string a.f2) ∧ w'.cell? ⟨ad.block, ad.off + 3, none⟩ = some (.slice A3 a.f3.length c3)) (ds := []) #[false, false, false, false, false, false, false, false, false, false, false] (by kernel_rfl) rfl rfl ⟨(zD HEw2.out.o 0).trans rfl, (zD BKw2.out 3).trans rfl, zP HWw2.out z0, zP HWw2.out z1, zP HWw2.out z2, zP HWw2.out z3⟩ (fun hHeld => ?_)
        generalize w1.drew = w2 at HWw2 BKw2 HEw2 hHeld ⊢
        refine pure_ (i := 1) (N := some 29) (v := ?_) (a' := ?_) #[false, true, false, false, false, false, false, false, false, false, false] rfl rfl (by kernel_rfl) (fun _ _ _ h => h) (Or.inl ⟨by rfl, ?_⟩) ?_ ?_
        rotate_left
        · intro w'
          go_simp
          with_reducible rfl
        rotate_left
        · simp only [Act.put, List.setIfInBounds_toArray, List.set_cons_zero, List.set_cons_succ, i64_w, i32_w]
          rfl
        refine take_ (i := 0) (N := some 28) (v := ?_) (a' := ?_) #[true, true, false, false, false, false, false, false, false, false, false] rfl rfl (by kernel_rfl) (fun _ _ _ h => h) (Or.inl ⟨by rfl, ?_⟩) hHeld ?_ ?_
        rotate_left
        · rintro w' ⟨s0, s1, s2, s3, s4, s5⟩
          go_simp
          with_reducible rfl
        rotate_left
        · simp only [Act.put, List.setIfInBounds_toArray, List.set_cons_zero, List.set_cons_succ, i64_w, i32_w]
          rfl
        refine take_ (i := 2) (N := some 30) (v := ?_) (a' := ?_) #[true, true, true, false, false, false, false, false, false, false, false] rfl rfl (by kernel_rfl) (fun _ _ _ h => h) (Or.inl ⟨by rfl, ?_⟩) hHeld ?_ ?_
        rotate_left
        · rintro w' ⟨s0, s1, s2, s3, s4, s5⟩
          go_simp
          with_reducible rfl
        rotate_left
        · simp only [Act.put, List.setIfInBounds_toArray, List.set_cons_zero, List.set_cons_succ, i64_w, i32_w]
          rfl
        refine pure_ (i := 3) (N := some 31) (v := ?_) (a' := ?_) #[true, true, true, true, false, false, false, false, false, false, false] rfl rfl (by kernel_rfl) (fun _ _ _ h => h) (Or.inl ⟨by rfl, ?_⟩) ?_ ?_
        rotate_left
        · intro w'
          go_simp
          with_reducible rfl
        rotate_left
        · simp only [Act.put, List.setIfInBounds_toArray, List.set_cons_zero, List.set_cons_succ, i64_w, i32_w]
          rfl
        refine take_ (i := 4) (N := some 32) (v := ?_) (a' := ?_) #[true, true, true, true, true, false, false, false, false, false, false] rfl rfl (by kernel_rfl) (fun _ _ _ h => h) (Or.inl ⟨by rfl, ?_⟩) hHeld ?_ ?_
        rotate_left
        · rintro w' ⟨s0, s1, s2, s3, s4, s5⟩
          go_simp
          with_reducible rfl
        rotate_left
        · simp only [Act.put, List.setIfInBounds_toArray, List.set_cons_zero, List.set_cons_succ, i64_w, i32_w]
          rfl
        refine one_ (i := 5) (N := some 33) #[true, true, true, true, true, true, false, false, false, false, false] rfl rfl (by kernel_rfl) (by decide) (fun K hK => ?_)
        refine call_ 78 (#[.agg #[.string a.f0, .int .u16 a.f1, .string a.f2, .slice A3 a.f3.length c3]] ++ #[.pointer (some ⟨gh, 0, none⟩), .pointer (some ⟨gv, 0, none⟩), .pointer (some ⟨go, 0, none⟩)]) (by rfl) rfl (enterF (p := .tmp 28) (xs := #[.tmp 32]) (ts := #[50]) Tryd.func78 (by kernel_rfl) rfl _ rfl rfl (by (try simp only [List.map_toArray, List.map_cons, List.map_nil]); first | done | rfl)) ?_
        refine (IH'.out a xa q1 A3 c3 gh gv go _ HX.out (Kd.zV HA.out.2 HWw2.out) HA.out.1 HEw2.out (V'.out.keep _ _ HI.out HWw2.out)).mono ?_
        rintro ex w3 ⟨rfl, hbn⟩
        refine ⟨_, rfl, ?_⟩
        have HWw3 := zz_ (zG HWw2.out hbn)
        have BKw3 := zz_ (zK BKw2.out hbn)
        have HEw3 := zz_ (HEw2.out.below hbn)
        clear hbn hHeld
        refine hK.out _ _ ⟨(zD HEw3.out.o 0).trans rfl, (zD BKw3.out 3).trans rfl, zP HWw3.out z0, zP HWw3.out z1, zP HWw3.out z2, zP HWw3.out z3⟩ (fun hHeld => ?_)
        clear hK K
        refine norm_ (a' := ?_) ?_ ?_
        rotate_left
        · show Act.put _ (some 33) _ = _
          simp only [Act.put, List.setIfInBounds_toArray, List.set_cons_zero, List.set_cons_succ, i64_w, i32_w]
          rfl
        refine pure_ (i := 6) (N := some 27) (v := ?_) (a' := ?_) #[true, true, true, true, true, true, true, false, false, false, false] rfl rfl (by kernel_rfl) (fun _ _ _ h => h) (Or.inl ⟨by rfl, ?_⟩) ?_ ?_
        rotate_left
        · intro w'
          go_simp
          with_reducible rfl
        rotate_left
        · simp only [Act.put, List.setIfInBounds_toArray, List.set_cons_zero, List.set_cons_succ, i64_w, i32_w]
          rfl
        refine pure_ (i := 7) (N := some 34) (v := ?_) (a' := ?_) #[true, true, true, true, true, true, true, true, false, false, false] rfl rfl (by kernel_rfl) (fun _ _ _ h => h) (Or.inl ⟨by rfl, ?_⟩) ?_ ?_
        rotate_left
        · intro w'
          go_simp
          with_reducible rfl
        rotate_left
        · simp only [Act.put, List.setIfInBounds_toArray, List.set_cons_zero, List.set_cons_succ, i64_w, i32_w]
          rfl
        refine pure_ (i := 8) (N := some 35) (v := ?_) (a' := ?_) #[true, true, true, true, true, true, true, true, true, false, false] rfl rfl (by kernel_rfl) (fun _ _ _ h => h) (Or.inl ⟨by rfl, ?_⟩) ?_ ?_
        rotate_left
        · intro w'
          go_simp
          with_reducible rfl
        rotate_left
        · simp only [Act.put, List.setIfInBounds_toArray, List.set_cons_zero, List.set_cons_succ, i64_w, i32_w]
          rfl
        refine pure_ (i := 9) (N := some 7) (v := ?_) (a' := ?_) #[true, true, true, true, true, true, true, true, true, true, false] rfl rfl (by kernel_rfl) (fun _ _ _ h => h) (Or.inl ⟨by rfl, ?_⟩) ?_ ?_
        rotate_left
        · intro w'
          go_simp
          with_reducible rfl
        rotate_left
        · simp only [Act.put, List.setIfInBounds_toArray, List.set_cons_zero, List.set_cons_succ, i64_w, i32_w]
          rfl
        refine pure_ (i := 10) (N := some 8) (v := ?_) (a' := ?_) #[true, true, true, true, true, true, true, true, true, true, true] rfl rfl (by kernel_rfl) (fun _ _ _ h => h) (Or.inl ⟨by rfl, ?_⟩) ?_ ?_
        rotate_left
        · intro w'
          go_simp
          with_reducible rfl
        rotate_left
        · simp only [Act.put, List.setIfInBounds_toArray, List.set_cons_zero, List.set_cons_succ, i64_w, i32_w]
          rfl
        refine done_ (by kernel_rfl) ?_
        obtain ⟨⟨c30, c31, c32, c33⟩, _⟩ := blk50 BKw3.out
        clear hHeld z0 z1 z2 z3
        go_wp2
        go_ret2
        exact ⟨rfl, HWw3.out⟩
end Go.Proofs.YtejhagejjogbaaaDoor.EvB
end
section
namespace Go.Proofs.YtejhagejjogbaaaDoor.EvC
open Go.RowKit YtejhagejjogbaaaDoorW.PrintWords YtejhagejjogbaaaDoorW.PrintLast YtejhagejjogbaaaDoorW.PrintMore Given Pn Pa Qa Qc Qf Num PsrC PsrH EvA EvB
set_option linter.unusedVariables false
set_option linter.unusedSimpArgs false
theorem blk_at {w w' : World} {g : Nat} {x : Option Obj} (h : w' = w) (hb : w.heap[g]? = x) : w'.heap[g]? = x := by rw [h]; exact hb
theorem clo_all {here : Int} {F : ByteArray → Int × Int} {vf : FuncId} {caps : Array Value} {I : World → Prop} (V : VOk vf caps F I) (k : Nat) : CloAt here F vf caps I k := by
  induction k with
  | zero => intro e x q A c gh gv go w h; rw [evalP] at h; cases h
  | succ k ih => exact clo_calls here F vf caps I V k ih
def evalT (k : Nat) (e : S50) (here : Int) (F : ByteArray → Int × Int) : Option (Int × Int) :=
  match expr_Right.f e.f0 e.f1 e.f2 e.f3 with
  | none => none
  | some r => if r = 0 then evalP here F k e else some (0, r)
set_option maxHeartbeats 8000000 in
set_option maxRecDepth 100000 in
theorem undef_calls (s : ByteArray) (w : World) : Calls Tryd.prog 77 #[.string s] w fun e w' => e = .returned (.tuple #[.int .u16 0, .int .i64 3]) ∧ Below w.heap.size w w' := by
  go_enter Tryd.func77, Tryd.ntmps77
  go_wp2
  go_ret2
  exact ⟨rfl, Below.refl _ _⟩
theorem nil_eq (W : World) : (binOp .eql 30 .nilFunc .nilFunc).run Tryd.prog W = .ok (.bool true) W := by
  unfold binOp Op.equal Op.maxDepth Op.equalIn
  simp [go_sem]
theorem fun_eq (W : World) (f : FuncId) (c : Array Value) : (binOp .eql 30 (.func (.func f) #[] c) .nilFunc).run Tryd.prog W = .ok (.bool false) W := by
  unfold binOp Op.equal Op.maxDepth Op.equalIn
  simp [go_sem]
theorem vok_nil : VOk 77 #[] (fun _ => (0, 3)) (fun _ => True) where
  fn := ⟨_, Tryd.func77, by kernel_rfl, rfl⟩
  go := fun s W _ => undef_calls s W
  keep := fun _ _ _ _ => trivial
set_option maxHeartbeats 16000000 in
set_option maxRecDepth 100000 in
theorem eval_nil (k : Nat) (e : S50) (here x q : Int) (A : Option Addr) (c : Nat) (w : World) (h : evalT k e here (fun _ => (0, 3)) = some (x, q)) (hr : Kd.C k50 w A e.f3.length e.f3) (hc : e.f3.length ≤ c) :
    Calls Tryd.prog 40 #[.agg #[.string e.f0, .int .u16 e.f1, .string e.f2, .slice A e.f3.length c], .int .u16 here, .nilFunc] w fun ex w' => ex = .returned (.tuple #[.int .u16 x, .int .i64 q]) ∧ Below w.heap.size w w' := by
  unfold evalT at h
  have hu50 := Tryd.underlying50
  have heq := nil_eq
  have HR := zz_ hr
  have HC := zz_ hc
  have HV := zz_ vok_nil
  have HI := zz_ (show (fun _ => True) w from trivial)
  cases hk : expr_Right.f e.f0 e.f1 e.f2 e.f3 with
  | none => rw [hk] at h; cases h
  | some r =>
    rw [hk] at h
    simp only at h
    have HK := zz_ hk
    clear hk hr hc
    by_cases h0 : r = 0
    · rw [if_pos h0] at h
      have d0 : (r != 0) = false := bne_eq_false_iff_eq.mpr h0
      have HX := zz_ h
      clear h h0
      go_enter Tryd.func40, Tryd.ntmps40
      go_wp2_with (first | ((with_reducible refine zS (N := 3) rfl ?_); refine zO ?hg (N := 3) ?hd (cs := #[.string e.f0, .int .u16 e.f1, .string e.f2, .slice A e.f3.length c]) (t := 50) ?hr ?_; (case hd => rfl); (case hg => rfl); (case hr => first | (go_simp; done) | (go_simp; rfl)); intro b hg w1 hbox hb; have HW1 := zz_ hb; have BK1 := zz_ hbox; have HLb := zz_ (blk_lt hbox); clear hb hbox hg) | ((with_reducible refine zS (N := 4) rfl ?_); refine zO ?hg (N := 4) ?hd (cs := #[.int .u16 here]) (t := 28) ?hr ?_; (case hd => rfl); (case hg => rfl); (case hr => first | (go_simp; done) | (go_simp; rfl)); intro gh hg w2 hbox hb; have HW2 := zz_ (zG HW1.out hb); have BK2 := zz_ (zK BK1.out hb); have BH2 := zz_ hbox; have HGh := zz_ (And.intro hg (blk_lt hbox)); clear hb hbox hg) | ((with_reducible refine zS (N := 5) rfl ?_); refine zO ?hg (N := 5) ?hd (cs := #[.nilFunc]) (t := 30) ?hr ?_; (case hd => rfl); (case hg => rfl); (case hr => first | (go_simp; done) | (go_simp; rfl)); intro gv hg w3 hbox hb; have HW3 := zz_ (zG HW2.out hb); have BK3 := zz_ (zK BK2.out hb); have BH3 := zz_ (zK BH2.out hb); have BV3 := zz_ hbox; have HGv := zz_ (And.intro hg (blk_lt hbox)); obtain ⟨⟨x0, x1, x2, x3⟩, _⟩ := blk50 BK3.out; clear hb hbox hg) | (go_at_call 76; refine (expr_Right.calls e.f0 e.f1 e.f2 A c e.f3 r _ (Kd.zV HR.out HW3.out) HC.out HK.out).mono ?_; rintro ex w4 ⟨rfl, hb⟩; have HW4 := zz_ (zG HW3.out hb); have BK4 := zz_ (zK BK3.out hb); have BH4 := zz_ (zK BH3.out hb); have BV4 := zz_ (zK BV3.out hb); obtain ⟨⟨y0, y1, y2, y3⟩, _⟩ := blk50 BK4.out; have z0 : w4.cell? ⟨gv, 0, none⟩ = some (.nilFunc) := ((zD BV4.out 0).trans rfl); have zf := zE BV4.out 0; clear hb) | ((with_reducible refine gate_store (t := 30) (p := 5) rfl ?_); refine store_event (t := 30) (p := 5) (v := ?vo5) ?hg ?ho ?hN (w1 := w4.setCell ⟨gv, 0, none⟩ (.func (.func 77) #[] #[])) ?hr ?_; (case ho => rfl); (case hg => rfl); (case hN => rfl); (case hr => first | (go_simp; done) | (go_simp; rfl)); intro w5 hw5; have HW5 := zz_ (show Below w.heap.size w w5 from (by rw [hw5]; exact zF HW4.out (by have h1 := HGv.out.1; have h2 := HW2.out.size; omega))); have BK5 := zz_ (blk_at hw5 (blk_far BK4.out (show b ≠ gv by have h1 := HGv.out.1; have h2 := HLb.out; have h3 := HGh.out.1; have h4 := HGh.out.2; omega) _)); have BH5 := zz_ (blk_at hw5 (blk_far BH4.out (show gh ≠ gv by have h1 := HGv.out.1; have h4 := HGh.out.2; omega) _)); have BV5 := zz_ (show w5.heap[gv]? = some (.cells #[.func (.func 77) #[] #[]] 30 (0, 0)) from (by rw [hw5]; exact blk_put BV4.out 0 _ rfl)); clear hw5 y0 y1 y2 y3 z0 zf) | ((with_reducible refine zS (N := 9) rfl ?_); refine zO ?hg (N := 9) ?hd (cs := #[.nilFunc]) (t := 96) ?hr ?_; (case hd => rfl); (case hg => rfl); (case hr => first | (go_simp; done) | (go_simp; rfl)); intro go hg w6 hbox hb; have hz_ := True.intro; have HW6 := zz_ (zG HW5.out hb); have BK6 := zz_ (zK BK5.out hb); have BH6 := zz_ (zK BH5.out hb); have BV6 := zz_ (zK BV5.out hb); have HGo := zz_ (And.intro hg (And.intro (blk_lt BK5.out) (And.intro (blk_lt BH5.out) (And.intro (blk_lt BV5.out) HW5.out.size)))); have BO6 := zz_ hbox; have u0 : w6.cell? ⟨go, 0, none⟩ = some .nilFunc := ((zD BO6.out 0).trans rfl); have uf := zE BO6.out 0; clear hb hbox hg) | ((with_reducible refine gate_store (t := 96) (p := 9) rfl ?_); refine store_event (t := 96) (p := 9) (v := ?vo9) ?hg ?ho ?hN (w1 := w6.setCell ⟨go, 0, none⟩ (.func (.func 78) #[] #[.pointer (some ⟨gh, 0, none⟩), .pointer (some ⟨gv, 0, none⟩), .pointer (some ⟨go, 0, none⟩)])) ?hr ?_; (case ho => rfl); (case hg => rfl); (case hN => rfl); (case hr => first | (go_simp; done) | (go_simp; rfl)); intro w7 hw7; have HW7 := zz_ (show Below w.heap.size w w7 from (by rw [hw7]; exact zF HW6.out (by have := HGo.out; omega))); have BK7 := zz_ (blk_at hw7 (blk_far BK6.out (show b ≠ go by have := HGo.out; omega) _)); have BH7 := zz_ (blk_at hw7 (blk_far BH6.out (show gh ≠ go by have := HGo.out; omega) _)); have BV7 := zz_ (blk_at hw7 (blk_far BV6.out (show gv ≠ go by have := HGo.out; omega) _)); have BO7 := zz_ (show w7.heap[go]? = some (.cells #[.func (.func 78) #[] #[.pointer (some ⟨gh, 0, none⟩), .pointer (some ⟨gv, 0, none⟩), .pointer (some ⟨go, 0, none⟩)]] 96 (0, 0)) from (by rw [hw7]; exact blk_put BO6.out 0 _ rfl)); obtain ⟨⟨c0, c1, c2, c3⟩, _⟩ := blk50 BK7.out; have v0 : w7.cell? ⟨go, 0, none⟩ = some (.func (.func 78) #[] #[.pointer (some ⟨gh, 0, none⟩), .pointer (some ⟨gv, 0, none⟩), .pointer (some ⟨go, 0, none⟩)]) := ((zD BO7.out 0).trans rfl); clear hw7 u0 uf) | ((with_reducible refine zS (N := 20) rfl ?_); refine goesF_ (f := 78) (fn := Tryd.f78) (caps := #[.pointer (some ⟨gh, 0, none⟩), .pointer (some ⟨gv, 0, none⟩), .pointer (some ⟨go, 0, none⟩)]) (p := .tmp 18) (xs := #[.tmp 19]) (ts := #[50]) 20 rfl rfl Tryd.func78 (by kernel_rfl) rfl #[.agg #[.string e.f0, .int .u16 e.f1, .string e.f2, .slice A e.f3.length c]] rfl ?hv ?ha ?_; (case hv => rfl); (case ha => (try simp only [List.map_toArray, List.map_cons, List.map_nil]); first | done | rfl); refine (clo_all HV.out k e x q A c gh gv go w7 HX.out (Kd.zV HR.out HW7.out) HC.out ⟨BH7.out, BV7.out, BO7.out⟩ (HV.out.keep _ _ HI.out HW7.out)).mono ?_; rintro ex w8 ⟨rfl, hb8⟩; refine ⟨_, rfl, ?_⟩; have HW9 := zz_ (zG HW7.out hb8); clear hb8))
      go_ret2
      exact ⟨rfl, HW9.out⟩
    · rw [if_neg h0] at h
      have d0 : (r != 0) = true := bne_iff_ne.mpr h0
      simp only [Option.some.injEq, Prod.mk.injEq] at h
      obtain ⟨rfl, rfl⟩ := h
      clear h0
      go_enter Tryd.func40, Tryd.ntmps40
      go_wp2_with (first | ((with_reducible refine zS (N := 3) rfl ?_); refine zO ?hg (N := 3) ?hd (cs := #[.string e.f0, .int .u16 e.f1, .string e.f2, .slice A e.f3.length c]) (t := 50) ?hr ?_; (case hd => rfl); (case hg => rfl); (case hr => first | (go_simp; done) | (go_simp; rfl)); intro b hg w1 hbox hb; have HW1 := zz_ hb; have BK1 := zz_ hbox; have HLb := zz_ (blk_lt hbox); clear hb hbox hg) | ((with_reducible refine zS (N := 4) rfl ?_); refine zO ?hg (N := 4) ?hd (cs := #[.int .u16 here]) (t := 28) ?hr ?_; (case hd => rfl); (case hg => rfl); (case hr => first | (go_simp; done) | (go_simp; rfl)); intro gh hg w2 hbox hb; have HW2 := zz_ (zG HW1.out hb); have BK2 := zz_ (zK BK1.out hb); have BH2 := zz_ hbox; have HGh := zz_ (And.intro hg (blk_lt hbox)); clear hb hbox hg) | ((with_reducible refine zS (N := 5) rfl ?_); refine zO ?hg (N := 5) ?hd (cs := #[.nilFunc]) (t := 30) ?hr ?_; (case hd => rfl); (case hg => rfl); (case hr => first | (go_simp; done) | (go_simp; rfl)); intro gv hg w3 hbox hb; have HW3 := zz_ (zG HW2.out hb); have BK3 := zz_ (zK BK2.out hb); have BH3 := zz_ (zK BH2.out hb); have BV3 := zz_ hbox; have HGv := zz_ (And.intro hg (blk_lt hbox)); obtain ⟨⟨x0, x1, x2, x3⟩, _⟩ := blk50 BK3.out; clear hb hbox hg) | (go_at_call 76; refine (expr_Right.calls e.f0 e.f1 e.f2 A c e.f3 r _ (Kd.zV HR.out HW3.out) HC.out HK.out).mono ?_; rintro ex w4 ⟨rfl, hb⟩; have HW4 := zz_ (zG HW3.out hb); have BK4 := zz_ (zK BK3.out hb); have BH4 := zz_ (zK BH3.out hb); have BV4 := zz_ (zK BV3.out hb); obtain ⟨⟨y0, y1, y2, y3⟩, _⟩ := blk50 BK4.out; have z0 : w4.cell? ⟨gv, 0, none⟩ = some (.nilFunc) := ((zD BV4.out 0).trans rfl); have zf := zE BV4.out 0; clear hb))
      go_ret2
      exact ⟨rfl, HW4.out⟩
set_option maxHeartbeats 16000000 in
set_option maxRecDepth 100000 in
theorem eval_fn (k : Nat) (e : S50) (here x q : Int) (A : Option Addr) (c : Nat) (w : World) {F : ByteArray → Int × Int} {vf : FuncId} {caps : Array Value} {I : World → Prop} (V : VOk vf caps F I) (hI : I w)(h : evalT k e here F = some (x, q)) (hr : Kd.C k50 w A e.f3.length e.f3) (hc : e.f3.length ≤ c) :
    Calls Tryd.prog 40 #[.agg #[.string e.f0, .int .u16 e.f1, .string e.f2, .slice A e.f3.length c], .int .u16 here, .func (.func vf) #[] caps] w fun ex w' => ex = .returned (.tuple #[.int .u16 x, .int .i64 q]) ∧ Below w.heap.size w w' := by
  unfold evalT at h
  have hu50 := Tryd.underlying50
  have heq := (fun W => fun_eq W vf caps)
  have HR := zz_ hr
  have HC := zz_ hc
  have HV := zz_ V
  have HI := zz_ (show I w from hI)
  cases hk : expr_Right.f e.f0 e.f1 e.f2 e.f3 with
  | none => rw [hk] at h; cases h
  | some r =>
    rw [hk] at h
    simp only at h
    have HK := zz_ hk
    clear hk hr hc
    by_cases h0 : r = 0
    · rw [if_pos h0] at h
      have d0 : (r != 0) = false := bne_eq_false_iff_eq.mpr h0
      have HX := zz_ h
      clear h h0
      go_enter Tryd.func40, Tryd.ntmps40
      go_wp2_with (first | ((with_reducible refine zS (N := 3) rfl ?_); refine zO ?hg (N := 3) ?hd (cs := #[.string e.f0, .int .u16 e.f1, .string e.f2, .slice A e.f3.length c]) (t := 50) ?hr ?_; (case hd => rfl); (case hg => rfl); (case hr => first | (go_simp; done) | (go_simp; rfl)); intro b hg w1 hbox hb; have HW1 := zz_ hb; have BK1 := zz_ hbox; have HLb := zz_ (blk_lt hbox); clear hb hbox hg) | ((with_reducible refine zS (N := 4) rfl ?_); refine zO ?hg (N := 4) ?hd (cs := #[.int .u16 here]) (t := 28) ?hr ?_; (case hd => rfl); (case hg => rfl); (case hr => first | (go_simp; done) | (go_simp; rfl)); intro gh hg w2 hbox hb; have HW2 := zz_ (zG HW1.out hb); have BK2 := zz_ (zK BK1.out hb); have BH2 := zz_ hbox; have HGh := zz_ (And.intro hg (blk_lt hbox)); clear hb hbox hg) | ((with_reducible refine zS (N := 5) rfl ?_); refine zO ?hg (N := 5) ?hd (cs := #[.func (.func vf) #[] caps]) (t := 30) ?hr ?_; (case hd => rfl); (case hg => rfl); (case hr => first | (go_simp; done) | (go_simp; rfl)); intro gv hg w3 hbox hb; have HW3 := zz_ (zG HW2.out hb); have BK3 := zz_ (zK BK2.out hb); have BH3 := zz_ (zK BH2.out hb); have BV3 := zz_ hbox; have HGv := zz_ (And.intro hg (blk_lt hbox)); obtain ⟨⟨x0, x1, x2, x3⟩, _⟩ := blk50 BK3.out; clear hb hbox hg) | (go_at_call 76; refine (expr_Right.calls e.f0 e.f1 e.f2 A c e.f3 r _ (Kd.zV HR.out HW3.out) HC.out HK.out).mono ?_; rintro ex w4 ⟨rfl, hb⟩; have HW4 := zz_ (zG HW3.out hb); have BK4 := zz_ (zK BK3.out hb); have BH4 := zz_ (zK BH3.out hb); have BV4 := zz_ (zK BV3.out hb); obtain ⟨⟨y0, y1, y2, y3⟩, _⟩ := blk50 BK4.out; have z0 : w4.cell? ⟨gv, 0, none⟩ = some (.func (.func vf) #[] caps) := ((zD BV4.out 0).trans rfl); have zf := zE BV4.out 0; clear hb) | ((with_reducible refine gate_store (t := 30) (p := 5) rfl ?_); refine store_event (t := 30) (p := 5) (v := ?vo5) ?hg ?ho ?hN (w1 := w4.setCell ⟨gv, 0, none⟩ (.func (.func vf) #[] caps)) ?hr ?_; (case ho => rfl); (case hg => rfl); (case hN => rfl); (case hr => first | (go_simp; done) | (go_simp; rfl)); intro w5 hw5; have HW5 := zz_ (show Below w.heap.size w w5 from (by rw [hw5]; exact zF HW4.out (by have h1 := HGv.out.1; have h2 := HW2.out.size; omega))); have BK5 := zz_ (blk_at hw5 (blk_far BK4.out (show b ≠ gv by have h1 := HGv.out.1; have h2 := HLb.out; have h3 := HGh.out.1; have h4 := HGh.out.2; omega) _)); have BH5 := zz_ (blk_at hw5 (blk_far BH4.out (show gh ≠ gv by have h1 := HGv.out.1; have h4 := HGh.out.2; omega) _)); have BV5 := zz_ (show w5.heap[gv]? = some (.cells #[.func (.func vf) #[] caps] 30 (0, 0)) from (by rw [hw5]; exact blk_put BV4.out 0 _ rfl)); clear hw5 y0 y1 y2 y3 z0 zf) | ((with_reducible refine zS (N := 9) rfl ?_); refine zO ?hg (N := 9) ?hd (cs := #[.nilFunc]) (t := 96) ?hr ?_; (case hd => rfl); (case hg => rfl); (case hr => first | (go_simp; done) | (go_simp; rfl)); intro go hg w6 hbox hb; have HW5 := HW4; have BK5 := BK4; have BH5 := BH4; have BV5 := BV4; have HW6 := zz_ (zG HW5.out hb); have BK6 := zz_ (zK BK5.out hb); have BH6 := zz_ (zK BH5.out hb); have BV6 := zz_ (zK BV5.out hb); have HGo := zz_ (And.intro hg (And.intro (blk_lt BK5.out) (And.intro (blk_lt BH5.out) (And.intro (blk_lt BV5.out) HW5.out.size)))); have BO6 := zz_ hbox; have u0 : w6.cell? ⟨go, 0, none⟩ = some .nilFunc := ((zD BO6.out 0).trans rfl); have uf := zE BO6.out 0; clear hb hbox hg) | ((with_reducible refine gate_store (t := 96) (p := 9) rfl ?_); refine store_event (t := 96) (p := 9) (v := ?vo9) ?hg ?ho ?hN (w1 := w6.setCell ⟨go, 0, none⟩ (.func (.func 78) #[] #[.pointer (some ⟨gh, 0, none⟩), .pointer (some ⟨gv, 0, none⟩), .pointer (some ⟨go, 0, none⟩)])) ?hr ?_; (case ho => rfl); (case hg => rfl); (case hN => rfl); (case hr => first | (go_simp; done) | (go_simp; rfl)); intro w7 hw7; have HW7 := zz_ (show Below w.heap.size w w7 from (by rw [hw7]; exact zF HW6.out (by have := HGo.out; omega))); have BK7 := zz_ (blk_at hw7 (blk_far BK6.out (show b ≠ go by have := HGo.out; omega) _)); have BH7 := zz_ (blk_at hw7 (blk_far BH6.out (show gh ≠ go by have := HGo.out; omega) _)); have BV7 := zz_ (blk_at hw7 (blk_far BV6.out (show gv ≠ go by have := HGo.out; omega) _)); have BO7 := zz_ (show w7.heap[go]? = some (.cells #[.func (.func 78) #[] #[.pointer (some ⟨gh, 0, none⟩), .pointer (some ⟨gv, 0, none⟩), .pointer (some ⟨go, 0, none⟩)]] 96 (0, 0)) from (by rw [hw7]; exact blk_put BO6.out 0 _ rfl)); obtain ⟨⟨c0, c1, c2, c3⟩, _⟩ := blk50 BK7.out; have v0 : w7.cell? ⟨go, 0, none⟩ = some (.func (.func 78) #[] #[.pointer (some ⟨gh, 0, none⟩), .pointer (some ⟨gv, 0, none⟩), .pointer (some ⟨go, 0, none⟩)]) := ((zD BO7.out 0).trans rfl); clear hw7 u0 uf) | ((with_reducible refine zS (N := 20) rfl ?_); refine goesF_ (f := 78) (fn := Tryd.f78) (caps := #[.pointer (some ⟨gh, 0, none⟩), .pointer (some ⟨gv, 0, none⟩), .pointer (some ⟨go, 0, none⟩)]) (p := .tmp 18) (xs := #[.tmp 19]) (ts := #[50]) 20 rfl rfl Tryd.func78 (by kernel_rfl) rfl #[.agg #[.string e.f0, .int .u16 e.f1, .string e.f2, .slice A e.f3.length c]] rfl ?hv ?ha ?_; (case hv => rfl); (case ha => (try simp only [List.map_toArray, List.map_cons, List.map_nil]); first | done | rfl); refine (clo_all HV.out k e x q A c gh gv go w7 HX.out (Kd.zV HR.out HW7.out) HC.out ⟨BH7.out, BV7.out, BO7.out⟩ (HV.out.keep _ _ HI.out HW7.out)).mono ?_; rintro ex w8 ⟨rfl, hb8⟩; refine ⟨_, rfl, ?_⟩; have HW9 := zz_ (zG HW7.out hb8); clear hb8))
      go_ret2
      exact ⟨rfl, HW9.out⟩
    · rw [if_neg h0] at h
      have d0 : (r != 0) = true := bne_iff_ne.mpr h0
      simp only [Option.some.injEq, Prod.mk.injEq] at h
      obtain ⟨rfl, rfl⟩ := h
      clear h0
      go_enter Tryd.func40, Tryd.ntmps40
      go_wp2_with (first | ((with_reducible refine zS (N := 3) rfl ?_); refine zO ?hg (N := 3) ?hd (cs := #[.string e.f0, .int .u16 e.f1, .string e.f2, .slice A e.f3.length c]) (t := 50) ?hr ?_; (case hd => rfl); (case hg => rfl); (case hr => first | (go_simp; done) | (go_simp; rfl)); intro b hg w1 hbox hb; have HW1 := zz_ hb; have BK1 := zz_ hbox; have HLb := zz_ (blk_lt hbox); clear hb hbox hg) | ((with_reducible refine zS (N := 4) rfl ?_); refine zO ?hg (N := 4) ?hd (cs := #[.int .u16 here]) (t := 28) ?hr ?_; (case hd => rfl); (case hg => rfl); (case hr => first | (go_simp; done) | (go_simp; rfl)); intro gh hg w2 hbox hb; have HW2 := zz_ (zG HW1.out hb); have BK2 := zz_ (zK BK1.out hb); have BH2 := zz_ hbox; have HGh := zz_ (And.intro hg (blk_lt hbox)); clear hb hbox hg) | ((with_reducible refine zS (N := 5) rfl ?_); refine zO ?hg (N := 5) ?hd (cs := #[.func (.func vf) #[] caps]) (t := 30) ?hr ?_; (case hd => rfl); (case hg => rfl); (case hr => first | (go_simp; done) | (go_simp; rfl)); intro gv hg w3 hbox hb; have HW3 := zz_ (zG HW2.out hb); have BK3 := zz_ (zK BK2.out hb); have BH3 := zz_ (zK BH2.out hb); have BV3 := zz_ hbox; have HGv := zz_ (And.intro hg (blk_lt hbox)); obtain ⟨⟨x0, x1, x2, x3⟩, _⟩ := blk50 BK3.out; clear hb hbox hg) | (go_at_call 76; refine (expr_Right.calls e.f0 e.f1 e.f2 A c e.f3 r _ (Kd.zV HR.out HW3.out) HC.out HK.out).mono ?_; rintro ex w4 ⟨rfl, hb⟩; have HW4 := zz_ (zG HW3.out hb); have BK4 := zz_ (zK BK3.out hb); have BH4 := zz_ (zK BH3.out hb); have BV4 := zz_ (zK BV3.out hb); obtain ⟨⟨y0, y1, y2, y3⟩, _⟩ := blk50 BK4.out; have z0 : w4.cell? ⟨gv, 0, none⟩ = some (.func (.func vf) #[] caps) := ((zD BV4.out 0).trans rfl); have zf := zE BV4.out 0; clear hb))
      go_ret2
      exact ⟨rfl, HW4.out⟩
end Go.Proofs.YtejhagejjogbaaaDoor.EvC
end
section
namespace Go.Proofs.YtejhagejjogbaaaDoor.PsrI
open Go.RowKit YtejhagejjogbaaaDoorW.PrintWords YtejhagejjogbaaaDoorW.PrintLast YtejhagejjogbaaaDoorW.PrintMore Given Pn Pa Qa Par Num PsrA PsrB PsrC PsrD PsrE PsrF PsrG
set_option linter.unusedVariables false
set_option linter.unusedSimpArgs false
def parseP (k : Nat) (l : List S41) : Option (S50 × Int × Int) :=
  match binP k 1 ⟨l, 0, 0⟩ with
  | none => none
  | some (e, t) => if t.k = 0 then
      (match expr_deep.f k e.f0 e.f1 e.f2 e.f3 with
      | none => none
      | some d => if d > 24 then some (e0, 0, 11) else some (e, wrap64 ((l.length : Int) - t.l.length), 0))
    else some (e0, 0, t.k)
def PostP (w : World) (e : S50) (n q : Int) (ex : Ending) (w' : World) : Prop :=
  ∃ A c, ex = .returned (.tuple #[agg50 e A c, .int .i64 n, .int .i64 q]) ∧ RE w' w.heap.size (fun _ => True) A c e.f3 ∧ Below w.heap.size w w'
theorem fin_P {w W : World} {b : Nat} {e : S50} {n q : Int} {A : Option Addr} {c : Nat} (hB : Below w.heap.size w W) (hb : w.heap.size ≤ b) (hR : RE W w.heap.size (fun k => k ≠ b) A c e.f3) :
    PostP w e n q (.returned (.tuple #[agg50 e A c, .int .i64 n, .int .i64 q])) (put50 W b (.string e.f0) (.int .u16 e.f1) (.string e.f2) (.slice A e.f3.length c)).drew :=
  ⟨A, c, rfl, Kd.R_below (Kd.R_mono (put50_R hR) (fun _ _ => trivial)) (zC (Below.refl _ _)), zC (zF (zF (zF (zF hB hb) hb) hb) hb)⟩
set_option maxHeartbeats 32000000 in
set_option maxRecDepth 100000 in
theorem parse_calls (kk : Nat) (A0 : Option Addr) (c0 : Nat) (l : List S41) (e : S50) (n q : Int) (w : World) (hr : Kd.C k41 w A0 l.length l) (hc : l.length ≤ c0) (h : parseP kk l = some (e, n, q)) :
    Calls Tryd.prog 83 #[.slice A0 l.length c0] w (PostP w e n q) := by
  unfold parseP at h
  have hu50 := Tryd.underlying50
  have hu136 := Tryd.underlying136
  have HR := zz_ hr
  have HC := zz_ hc
  clear hr hc
  cases hb : binP kk 1 ⟨l, 0, 0⟩ with
  | none => rw [hb] at h; cases h
  | some y =>
    obtain ⟨e5, l5, k5, o5⟩ := y
    rw [hb] at h
    simp only at h
    have HB := zz_ hb
    clear hb
    by_cases hk : k5 = 0
    · rw [if_pos hk] at h
      have hk1 : (k5 == 0) = true := beq_iff_eq.mpr hk
      cases hd : expr_deep.f kk e5.f0 e5.f1 e5.f2 e5.f3 with
      | none => rw [hd] at h; cases h
      | some dd =>
        rw [hd] at h
        simp only at h
        have HD := zz_ hd
        clear hd
        by_cases hg : dd > 24
        · rw [if_pos hg] at h
          simp only [Option.some.injEq, Prod.mk.injEq] at h
          obtain ⟨rfl, rfl, rfl⟩ := h
          have hd1 : decide (24 < dd) = true := decide_eq_true hg
          clear hg hk
          go_enter Tryd.func83, Tryd.ntmps83
          go_wp2_with (first | ((with_reducible refine zS (N := 2) rfl ?_); refine zO ?hg (N := 2) ?hd (cs := #[.string (⟨#[]⟩ : ByteArray), .int .u16 0, .string (⟨#[]⟩ : ByteArray), .slice none 0 0]) (t := 50) ?hr ?_; (case hd => rfl); (case hg => rfl); (case hr => first | (go_simp; done) | (go_simp; rfl)); intro b hg w1 hbox hb; have HWb := zz_ hb; have BKb := zz_ hbox; have HEb := zz_ hg; obtain ⟨⟨x0, x1, x2, x3⟩, ⟨f0, f1, f2, f3⟩⟩ := blk50 hbox; have hltb := blk_lt BKb.out; clear hb hbox hg) | ((with_reducible refine zS (N := 10) rfl ?_); refine zO ?hg (N := 10) ?hd (cs := #[.slice A0 l.length c0, .int .i64 0, .int .i64 0]) (t := 136) ?hr ?_; (case hd => rfl); (case hg => rfl); (case hr => first | (go_simp; done) | (go_simp; rfl)); intro g hgg w2 hbox hb; have n1 : g ≠ b := (by omega); have n2 : b ≠ g := (by omega); have HS2 := zz_ (show St w w2 g l 0 0 from ⟨A0, c0, hbox, (by have := HWb.out.size; omega), HC.out, HR.out, zG HWb.out hb⟩); have BK2 := zz_ (zK BKb.out hb); clear hbox hb hgg x0 x1 x2 x3 f0 f1 f2 f3) | (go_at_call 125; refine (PsrH.bin_all kk 1 ⟨l, 0, 0⟩ _ _ w _ g HB.out HS2.out).mono ?_; rintro e' w3 ⟨A5, c5, rfl, hR, hS3, hK3⟩; have BK3 := zz_ (hK3.blk BK2.out n2 (by simp)); have HS3 := zz_ hS3; have HR3 := zz_ hR; have HZ3 := zz_ (show b < w2.heap.size ∧ g < w2.heap.size ∧ w.heap.size ≤ w2.heap.size from ⟨blk_lt BK2.out, HS2.out.lt, HS2.out.base.size⟩); have hlt3 := blk_lt BK3.out; have hglt3 := hS3.lt; clear hR hS3 hK3) | ((with_reducible refine zS (N := 6) rfl ?_); refine zO ?hg (N := 6) ?hd (cs := #[.string (⟨#[]⟩ : ByteArray), .int .u16 0, .string (⟨#[]⟩ : ByteArray), .slice none 0 0]) (t := 50) ?hr ?_; (case hd => rfl); (case hg => rfl); (case hr => first | (go_simp; done) | (go_simp; rfl)); intro d hg w4 hbox hb; have HWd := zz_ hb; have BKd := zz_ hbox; have HEd := zz_ hg; obtain ⟨⟨x0, x1, x2, x3⟩, ⟨f0, f1, f2, f3⟩⟩ := blk50 hbox; have m3 : g ≠ d := (by omega); have m4 : d ≠ g := (by omega); have m5 : b ≠ d := (by omega); have m6 : d ≠ b := (by omega); clear hb hbox hg) | ((with_reducible refine gate_store (t := 50) (p := 6) rfl ?_); refine store_event (t := 50) (p := 6) (v := ?vo) ?hg ?ho ?hN (w1 := put50 w4 d (.string e5.f0) (.int .u16 e5.f1) (.string e5.f2) (.slice A5 e5.f3.length c5)) ?hr ?_; (case ho => rfl); (case hg => rfl); (case hN => rfl); (case hr => first | (go_simp; done) | (go_simp; rfl)); intro w5 hw5; have hb5 := (show Below w3.heap.size w3 w5 from (by rw [hw5]; exact below_put HWd.out (by have := HEd.out; omega))); have LI5 := zz_ (show LI w w w5 g b d A5 c5 e5 ⟨l5, k5, o5⟩ from ⟨zK BK3.out hb5, (by rw [hw5]; exact put50_blk BKd.out), (Kd.R_lower (Kd.R_below (Kd.R_mono (Kd.R_bound HR3.out) (fun k hk => (by have h1 := hk.2.1; have h2 := hk.2.2.1; have h3 := HEd.out; have h4 := HZ3.out; exact ⟨by omega, by omega, by omega⟩))) hb5) HZ3.out.2.2), HS3.out.below hb5, zU.of_below (HS3.out.below hb5).base g none⟩); clear hb5 hw5 x0 x1 x2 x3 f0 f1 f2 f3; obtain ⟨Az, cz, zl, zk, zo, gl, gk, go⟩ := St_cells LI5.out.st; obtain ⟨⟨x0, x1, x2, x3⟩, ⟨f0, f1, f2, f3⟩⟩ := blk50 LI5.out.kb; obtain ⟨⟨u0, u1, u2, u3⟩, ⟨v0, v1, v2, v3⟩⟩ := blk50 LI5.out.kd) | (go_at_call 126; refine (expr_deep.calls kk e5.f0 e5.f1 e5.f2 A5 c5 e5.f3 dd w5 (Kd.R_reads' LI5.out.re).2.2 (Kd.R_reads' LI5.out.re).2.1 HD.out).mono ?_; rintro e' w6 ⟨rfl, hb6⟩; have LI6 := zz_ (LI5.out.below hb6); clear hb6 zl zk zo gl gk go x0 x1 x2 x3 f0 f1 f2 f3 u0 u1 u2 u3 v0 v1 v2 v3; obtain ⟨Ay, cy, zl, zk, zo, gl, gk, go⟩ := St_cells LI6.out.st; obtain ⟨⟨x0, x1, x2, x3⟩, ⟨f0, f1, f2, f3⟩⟩ := blk50 LI6.out.kb; obtain ⟨⟨u0, u1, u2, u3⟩, ⟨v0, v1, v2, v3⟩⟩ := blk50 LI6.out.kd))
          go_region
          go_wp2
          have hwb : w.heap.size ≤ b := by have := HEb.out; omega
          exact bodyPost_ret (results_ctt rfl _ _ b 50 #[.string ⟨#[]⟩, .int .u16 0, .string ⟨#[]⟩, .slice none 0 0] (0, 0) _ rfl (zJ (put50_blk (blk_far LI6.out.kb n2 _))) Tryd.underlying50 rfl (by kernel_rfl)) rfl (fin_P (e := e0) ((LI6.out.st.setK 11).base) hwb (re_nil _ _ _))
        · rw [if_neg hg] at h
          simp only [Option.some.injEq, Prod.mk.injEq] at h
          obtain ⟨rfl, rfl, rfl⟩ := h
          have hd1 : decide (24 < dd) = false := decide_eq_false hg
          clear hg hk
          go_enter Tryd.func83, Tryd.ntmps83
          go_wp2_with (first | ((with_reducible refine zS (N := 2) rfl ?_); refine zO ?hg (N := 2) ?hd (cs := #[.string (⟨#[]⟩ : ByteArray), .int .u16 0, .string (⟨#[]⟩ : ByteArray), .slice none 0 0]) (t := 50) ?hr ?_; (case hd => rfl); (case hg => rfl); (case hr => first | (go_simp; done) | (go_simp; rfl)); intro b hg w1 hbox hb; have HWb := zz_ hb; have BKb := zz_ hbox; have HEb := zz_ hg; obtain ⟨⟨x0, x1, x2, x3⟩, ⟨f0, f1, f2, f3⟩⟩ := blk50 hbox; have hltb := blk_lt BKb.out; clear hb hbox hg) | ((with_reducible refine zS (N := 10) rfl ?_); refine zO ?hg (N := 10) ?hd (cs := #[.slice A0 l.length c0, .int .i64 0, .int .i64 0]) (t := 136) ?hr ?_; (case hd => rfl); (case hg => rfl); (case hr => first | (go_simp; done) | (go_simp; rfl)); intro g hgg w2 hbox hb; have n1 : g ≠ b := (by omega); have n2 : b ≠ g := (by omega); have HS2 := zz_ (show St w w2 g l 0 0 from ⟨A0, c0, hbox, (by have := HWb.out.size; omega), HC.out, HR.out, zG HWb.out hb⟩); have BK2 := zz_ (zK BKb.out hb); clear hbox hb hgg x0 x1 x2 x3 f0 f1 f2 f3) | (go_at_call 125; refine (PsrH.bin_all kk 1 ⟨l, 0, 0⟩ _ _ w _ g HB.out HS2.out).mono ?_; rintro e' w3 ⟨A5, c5, rfl, hR, hS3, hK3⟩; have BK3 := zz_ (hK3.blk BK2.out n2 (by simp)); have HS3 := zz_ hS3; have HR3 := zz_ hR; have HZ3 := zz_ (show b < w2.heap.size ∧ g < w2.heap.size ∧ w.heap.size ≤ w2.heap.size from ⟨blk_lt BK2.out, HS2.out.lt, HS2.out.base.size⟩); have hlt3 := blk_lt BK3.out; have hglt3 := hS3.lt; clear hR hS3 hK3) | ((with_reducible refine zS (N := 6) rfl ?_); refine zO ?hg (N := 6) ?hd (cs := #[.string (⟨#[]⟩ : ByteArray), .int .u16 0, .string (⟨#[]⟩ : ByteArray), .slice none 0 0]) (t := 50) ?hr ?_; (case hd => rfl); (case hg => rfl); (case hr => first | (go_simp; done) | (go_simp; rfl)); intro d hg w4 hbox hb; have HWd := zz_ hb; have BKd := zz_ hbox; have HEd := zz_ hg; obtain ⟨⟨x0, x1, x2, x3⟩, ⟨f0, f1, f2, f3⟩⟩ := blk50 hbox; have m3 : g ≠ d := (by omega); have m4 : d ≠ g := (by omega); have m5 : b ≠ d := (by omega); have m6 : d ≠ b := (by omega); clear hb hbox hg) | ((with_reducible refine gate_store (t := 50) (p := 6) rfl ?_); refine store_event (t := 50) (p := 6) (v := ?vo) ?hg ?ho ?hN (w1 := put50 w4 d (.string e5.f0) (.int .u16 e5.f1) (.string e5.f2) (.slice A5 e5.f3.length c5)) ?hr ?_; (case ho => rfl); (case hg => rfl); (case hN => rfl); (case hr => first | (go_simp; done) | (go_simp; rfl)); intro w5 hw5; have hb5 := (show Below w3.heap.size w3 w5 from (by rw [hw5]; exact below_put HWd.out (by have := HEd.out; omega))); have LI5 := zz_ (show LI w w w5 g b d A5 c5 e5 ⟨l5, k5, o5⟩ from ⟨zK BK3.out hb5, (by rw [hw5]; exact put50_blk BKd.out), (Kd.R_lower (Kd.R_below (Kd.R_mono (Kd.R_bound HR3.out) (fun k hk => (by have h1 := hk.2.1; have h2 := hk.2.2.1; have h3 := HEd.out; have h4 := HZ3.out; exact ⟨by omega, by omega, by omega⟩))) hb5) HZ3.out.2.2), HS3.out.below hb5, zU.of_below (HS3.out.below hb5).base g none⟩); clear hb5 hw5 x0 x1 x2 x3 f0 f1 f2 f3; obtain ⟨Az, cz, zl, zk, zo, gl, gk, go⟩ := St_cells LI5.out.st; obtain ⟨⟨x0, x1, x2, x3⟩, ⟨f0, f1, f2, f3⟩⟩ := blk50 LI5.out.kb; obtain ⟨⟨u0, u1, u2, u3⟩, ⟨v0, v1, v2, v3⟩⟩ := blk50 LI5.out.kd) | (go_at_call 126; refine (expr_deep.calls kk e5.f0 e5.f1 e5.f2 A5 c5 e5.f3 dd w5 (Kd.R_reads' LI5.out.re).2.2 (Kd.R_reads' LI5.out.re).2.1 HD.out).mono ?_; rintro e' w6 ⟨rfl, hb6⟩; have LI6 := zz_ (LI5.out.below hb6); clear hb6 zl zk zo gl gk go x0 x1 x2 x3 f0 f1 f2 f3 u0 u1 u2 u3 v0 v1 v2 v3; obtain ⟨Ay, cy, zl, zk, zo, gl, gk, go⟩ := St_cells LI6.out.st; obtain ⟨⟨x0, x1, x2, x3⟩, ⟨f0, f1, f2, f3⟩⟩ := blk50 LI6.out.kb; obtain ⟨⟨u0, u1, u2, u3⟩, ⟨v0, v1, v2, v3⟩⟩ := blk50 LI6.out.kd))
          go_region
          go_wp2
          have hwb : w.heap.size ≤ b := by have := HEb.out; omega
          exact bodyPost_ret (results_ctt rfl _ _ b 50 #[.string e5.f0, .int .u16 e5.f1, .string e5.f2, .slice A5 e5.f3.length c5] (0, 0) _ rfl (zJ (put50_blk LI6.out.kb)) Tryd.underlying50 rfl (by kernel_rfl)) rfl (fin_P (e := e5) LI6.out.st.base hwb (Kd.R_mono LI6.out.re (fun _ h => h.2.1)))
    · rw [if_neg hk] at h
      simp only [Option.some.injEq, Prod.mk.injEq] at h
      obtain ⟨rfl, rfl, rfl⟩ := h
      have hk1 : (k5 == 0) = false := beq_eq_false_iff_ne.mpr hk
      have hk2 : (k5 != 0) = true := bne_iff_ne.mpr hk
      clear hk
      go_enter Tryd.func83, Tryd.ntmps83
      go_wp2_with (first | ((with_reducible refine zS (N := 2) rfl ?_); refine zO ?hg (N := 2) ?hd (cs := #[.string (⟨#[]⟩ : ByteArray), .int .u16 0, .string (⟨#[]⟩ : ByteArray), .slice none 0 0]) (t := 50) ?hr ?_; (case hd => rfl); (case hg => rfl); (case hr => first | (go_simp; done) | (go_simp; rfl)); intro b hg w1 hbox hb; have HWb := zz_ hb; have BKb := zz_ hbox; have HEb := zz_ hg; obtain ⟨⟨x0, x1, x2, x3⟩, ⟨f0, f1, f2, f3⟩⟩ := blk50 hbox; have hltb := blk_lt BKb.out; clear hb hbox hg) | ((with_reducible refine zS (N := 10) rfl ?_); refine zO ?hg (N := 10) ?hd (cs := #[.slice A0 l.length c0, .int .i64 0, .int .i64 0]) (t := 136) ?hr ?_; (case hd => rfl); (case hg => rfl); (case hr => first | (go_simp; done) | (go_simp; rfl)); intro g hgg w2 hbox hb; have n1 : g ≠ b := (by omega); have n2 : b ≠ g := (by omega); have HS2 := zz_ (show St w w2 g l 0 0 from ⟨A0, c0, hbox, (by have := HWb.out.size; omega), HC.out, HR.out, zG HWb.out hb⟩); have BK2 := zz_ (zK BKb.out hb); clear hbox hb hgg x0 x1 x2 x3 f0 f1 f2 f3) | (go_at_call 125; refine (PsrH.bin_all kk 1 ⟨l, 0, 0⟩ _ _ w _ g HB.out HS2.out).mono ?_; rintro e' w3 ⟨A5, c5, rfl, hR, hS3, hK3⟩; have BK3 := zz_ (hK3.blk BK2.out n2 (by simp)); have HS3 := zz_ hS3; have HR3 := zz_ hR; have HZ3 := zz_ (show b < w2.heap.size ∧ g < w2.heap.size ∧ w.heap.size ≤ w2.heap.size from ⟨blk_lt BK2.out, HS2.out.lt, HS2.out.base.size⟩); have hlt3 := blk_lt BK3.out; have hglt3 := hS3.lt; clear hR hS3 hK3) | ((with_reducible refine zS (N := 6) rfl ?_); refine zO ?hg (N := 6) ?hd (cs := #[.string (⟨#[]⟩ : ByteArray), .int .u16 0, .string (⟨#[]⟩ : ByteArray), .slice none 0 0]) (t := 50) ?hr ?_; (case hd => rfl); (case hg => rfl); (case hr => first | (go_simp; done) | (go_simp; rfl)); intro d hg w4 hbox hb; have HWd := zz_ hb; have BKd := zz_ hbox; have HEd := zz_ hg; obtain ⟨⟨x0, x1, x2, x3⟩, ⟨f0, f1, f2, f3⟩⟩ := blk50 hbox; have m3 : g ≠ d := (by omega); have m4 : d ≠ g := (by omega); have m5 : b ≠ d := (by omega); have m6 : d ≠ b := (by omega); clear hb hbox hg) | ((with_reducible refine gate_store (t := 50) (p := 6) rfl ?_); refine store_event (t := 50) (p := 6) (v := ?vo) ?hg ?ho ?hN (w1 := put50 w4 d (.string e5.f0) (.int .u16 e5.f1) (.string e5.f2) (.slice A5 e5.f3.length c5)) ?hr ?_; (case ho => rfl); (case hg => rfl); (case hN => rfl); (case hr => first | (go_simp; done) | (go_simp; rfl)); intro w5 hw5; have hb5 := (show Below w3.heap.size w3 w5 from (by rw [hw5]; exact below_put HWd.out (by have := HEd.out; omega))); have LI5 := zz_ (show LI w w w5 g b d A5 c5 e5 ⟨l5, k5, o5⟩ from ⟨zK BK3.out hb5, (by rw [hw5]; exact put50_blk BKd.out), (Kd.R_lower (Kd.R_below (Kd.R_mono (Kd.R_bound HR3.out) (fun k hk => (by have h1 := hk.2.1; have h2 := hk.2.2.1; have h3 := HEd.out; have h4 := HZ3.out; exact ⟨by omega, by omega, by omega⟩))) hb5) HZ3.out.2.2), HS3.out.below hb5, zU.of_below (HS3.out.below hb5).base g none⟩); clear hb5 hw5 x0 x1 x2 x3 f0 f1 f2 f3; obtain ⟨Az, cz, zl, zk, zo, gl, gk, go⟩ := St_cells LI5.out.st; obtain ⟨⟨x0, x1, x2, x3⟩, ⟨f0, f1, f2, f3⟩⟩ := blk50 LI5.out.kb; obtain ⟨⟨u0, u1, u2, u3⟩, ⟨v0, v1, v2, v3⟩⟩ := blk50 LI5.out.kd) | (go_at_call 126; refine (expr_deep.calls kk e5.f0 e5.f1 e5.f2 A5 c5 e5.f3 dd w5 (Kd.R_reads' LI5.out.re).2.2 (Kd.R_reads' LI5.out.re).2.1 HD.out).mono ?_; rintro e' w6 ⟨rfl, hb6⟩; have LI6 := zz_ (LI5.out.below hb6); clear hb6 zl zk zo gl gk go x0 x1 x2 x3 f0 f1 f2 f3 u0 u1 u2 u3 v0 v1 v2 v3; obtain ⟨Ay, cy, zl, zk, zo, gl, gk, go⟩ := St_cells LI6.out.st; obtain ⟨⟨x0, x1, x2, x3⟩, ⟨f0, f1, f2, f3⟩⟩ := blk50 LI6.out.kb; obtain ⟨⟨u0, u1, u2, u3⟩, ⟨v0, v1, v2, v3⟩⟩ := blk50 LI6.out.kd))
      go_region
      go_wp2
      have hwb : w.heap.size ≤ b := by have := HEb.out; omega
      exact bodyPost_ret (results_ctt rfl _ _ b 50 #[.string ⟨#[]⟩, .int .u16 0, .string ⟨#[]⟩, .slice none 0 0] (0, 0) _ rfl (zJ (put50_blk LI5.out.kb)) Tryd.underlying50 rfl (by kernel_rfl)) rfl (fin_P (e := e0) LI5.out.st.base hwb (re_nil _ _ _))
def allP (k : Nat) (l : List S41) : Option (S50 × Int) :=
  match parseP k l with
  | none => none
  | some (e, n, q) => if q = 0 then (if n < (l.length : Int) then some (e0, 2) else some (e, 0)) else some (e0, q)
def PostA (w : World) (e : S50) (q : Int) (ex : Ending) (w' : World) : Prop :=
  ∃ A c, ex = .returned (.tuple #[agg50 e A c, .int .i64 q]) ∧ RE w' w.heap.size (fun _ => True) A c e.f3 ∧ Below w.heap.size w w'
theorem fin_A {w W : World} {b : Nat} {e : S50} {q : Int} {A : Option Addr} {c : Nat} (hB : Below w.heap.size w W) (hb : w.heap.size ≤ b) (hR : RE W w.heap.size (fun k => k ≠ b) A c e.f3) :
    PostA w e q (.returned (.tuple #[agg50 e A c, .int .i64 q])) (put50 W b (.string e.f0) (.int .u16 e.f1) (.string e.f2) (.slice A e.f3.length c)) :=
  ⟨A, c, rfl, Kd.R_mono (put50_R hR) (fun _ _ => trivial), zF (zF (zF (zF hB hb) hb) hb) hb⟩
set_option maxHeartbeats 32000000 in
set_option maxRecDepth 100000 in
theorem all_calls (kk : Nat) (A0 : Option Addr) (c0 : Nat) (l : List S41) (e : S50) (q : Int) (w : World) (hr : Kd.C k41 w A0 l.length l) (hc : l.length ≤ c0) (h : allP kk l = some (e, q)) :
    Calls Tryd.prog 45 #[.slice A0 l.length c0] w (PostA w e q) := by
  unfold allP at h
  have hu50 := Tryd.underlying50
  cases hb : parseP kk l with
  | none => rw [hb] at h; cases h
  | some y =>
    obtain ⟨e5, n5, q5⟩ := y
    rw [hb] at h
    simp only at h
    have HB := zz_ hb
    have HR := zz_ hr
    have HC := zz_ hc
    clear hb hr hc
    by_cases hk : q5 = 0
    · rw [if_pos hk] at h
      have hk1 : (q5 == 0) = true := beq_iff_eq.mpr hk
      have hk2 : (q5 != 0) = false := bne_eq_false_iff_eq.mpr hk
      by_cases hn : n5 < (l.length : Int)
      · rw [if_pos hn] at h
        simp only [Option.some.injEq, Prod.mk.injEq] at h
        obtain ⟨rfl, rfl⟩ := h
        have hd1 : decide (n5 < (l.length : Int)) = true := decide_eq_true hn
        clear hk hn
        go_enter Tryd.func45, Tryd.ntmps45
        go_wp2_with (first | ((with_reducible refine zS (N := 2) rfl ?_); refine zO ?hg (N := 2) ?hd (cs := #[.string (⟨#[]⟩ : ByteArray), .int .u16 0, .string (⟨#[]⟩ : ByteArray), .slice none 0 0]) (t := 50) ?hr ?_; (case hd => rfl); (case hg => rfl); (case hr => first | (go_simp; done) | (go_simp; rfl)); intro b hg w1 hbox hb; have HWb := zz_ hb; have BKb := zz_ hbox; have HEb := zz_ hg; obtain ⟨⟨x0, x1, x2, x3⟩, ⟨f0, f1, f2, f3⟩⟩ := blk50 hbox; have hltb := blk_lt BKb.out; clear hb hbox hg) | (go_at_call 83; refine (parse_calls kk A0 c0 l _ _ _ _ (Kd.zV HR.out HWb.out) HC.out HB.out).mono ?_; rintro e' w3 ⟨A5, c5, rfl, hR, hb3⟩; have BK3 := zz_ (zK BKb.out hb3); have HR3 := zz_ hR; have HW3 := zz_ (zG HWb.out hb3); have hlt3 := blk_lt BK3.out; clear hR hb3) | ((with_reducible refine zS (N := 4) rfl ?_); refine zO ?hg (N := 4) ?hd (cs := #[.string (⟨#[]⟩ : ByteArray), .int .u16 0, .string (⟨#[]⟩ : ByteArray), .slice none 0 0]) (t := 50) ?hr ?_; (case hd => rfl); (case hg => rfl); (case hr => first | (go_simp; done) | (go_simp; rfl)); intro d hg w4 hbox hb; have HWd := zz_ hb; have BKd := zz_ hbox; have HEd := zz_ hg; obtain ⟨⟨x0, x1, x2, x3⟩, ⟨f0, f1, f2, f3⟩⟩ := blk50 hbox; have m5 : b ≠ d := (by omega); have m6 : d ≠ b := (by omega); clear hb hbox hg) | ((with_reducible refine gate_store (t := 50) (p := 4) rfl ?_); refine store_event (t := 50) (p := 4) (v := ?vo) ?hg ?ho ?hN (w1 := put50 w4 d (.string e5.f0) (.int .u16 e5.f1) (.string e5.f2) (.slice A5 e5.f3.length c5)) ?hr ?_; (case ho => rfl); (case hg => rfl); (case hN => rfl); (case hr => first | (go_simp; done) | (go_simp; rfl)); intro w5 hw5; have hb5 := (show Below w3.heap.size w3 w5 from (by rw [hw5]; exact below_put HWd.out (by have := HEd.out; omega))); have BK4 := zz_ (zK BK3.out hb5); have HW4 := zz_ (zG HW3.out hb5); have HR4 := zz_ (show RE w5 w.heap.size (fun k => k ≠ b) A5 c5 e5.f3 from Kd.R_lower (Kd.R_below (Kd.R_mono (Kd.R_bound HR3.out) (fun k hk => (by have h1 := hk.2.1; omega))) hb5) HWb.out.size); have KD4 := zz_ (show w5.heap[d]? = some (.cells #[.string e5.f0, .int .u16 e5.f1, .string e5.f2, .slice A5 e5.f3.length c5] 50 (0, 0)) from (by rw [hw5]; exact put50_blk BKd.out)); clear hb5 hw5 x0 x1 x2 x3 f0 f1 f2 f3; obtain ⟨⟨x0, x1, x2, x3⟩, ⟨f0, f1, f2, f3⟩⟩ := blk50 BK4.out; obtain ⟨⟨u0, u1, u2, u3⟩, ⟨v0, v1, v2, v3⟩⟩ := blk50 KD4.out))
        exact bodyPost_ret (results_ct rfl _ _ b 50 #[.string ⟨#[]⟩, .int .u16 0, .string ⟨#[]⟩, .slice none 0 0] (0, 0) _ rfl (put50_blk BK4.out) Tryd.underlying50 rfl (by kernel_rfl)) rfl (fin_A (e := e0) HW4.out (by have := HEb.out; omega) (re_nil _ _ _))
      · rw [if_neg hn] at h
        simp only [Option.some.injEq, Prod.mk.injEq] at h
        obtain ⟨rfl, rfl⟩ := h
        have hd1 : decide (n5 < (l.length : Int)) = false := decide_eq_false hn
        clear hk hn
        go_enter Tryd.func45, Tryd.ntmps45
        go_wp2_with (first | ((with_reducible refine zS (N := 2) rfl ?_); refine zO ?hg (N := 2) ?hd (cs := #[.string (⟨#[]⟩ : ByteArray), .int .u16 0, .string (⟨#[]⟩ : ByteArray), .slice none 0 0]) (t := 50) ?hr ?_; (case hd => rfl); (case hg => rfl); (case hr => first | (go_simp; done) | (go_simp; rfl)); intro b hg w1 hbox hb; have HWb := zz_ hb; have BKb := zz_ hbox; have HEb := zz_ hg; obtain ⟨⟨x0, x1, x2, x3⟩, ⟨f0, f1, f2, f3⟩⟩ := blk50 hbox; have hltb := blk_lt BKb.out; clear hb hbox hg) | (go_at_call 83; refine (parse_calls kk A0 c0 l _ _ _ _ (Kd.zV HR.out HWb.out) HC.out HB.out).mono ?_; rintro e' w3 ⟨A5, c5, rfl, hR, hb3⟩; have BK3 := zz_ (zK BKb.out hb3); have HR3 := zz_ hR; have HW3 := zz_ (zG HWb.out hb3); have hlt3 := blk_lt BK3.out; clear hR hb3) | ((with_reducible refine zS (N := 4) rfl ?_); refine zO ?hg (N := 4) ?hd (cs := #[.string (⟨#[]⟩ : ByteArray), .int .u16 0, .string (⟨#[]⟩ : ByteArray), .slice none 0 0]) (t := 50) ?hr ?_; (case hd => rfl); (case hg => rfl); (case hr => first | (go_simp; done) | (go_simp; rfl)); intro d hg w4 hbox hb; have HWd := zz_ hb; have BKd := zz_ hbox; have HEd := zz_ hg; obtain ⟨⟨x0, x1, x2, x3⟩, ⟨f0, f1, f2, f3⟩⟩ := blk50 hbox; have m5 : b ≠ d := (by omega); have m6 : d ≠ b := (by omega); clear hb hbox hg) | ((with_reducible refine gate_store (t := 50) (p := 4) rfl ?_); refine store_event (t := 50) (p := 4) (v := ?vo) ?hg ?ho ?hN (w1 := put50 w4 d (.string e5.f0) (.int .u16 e5.f1) (.string e5.f2) (.slice A5 e5.f3.length c5)) ?hr ?_; (case ho => rfl); (case hg => rfl); (case hN => rfl); (case hr => first | (go_simp; done) | (go_simp; rfl)); intro w5 hw5; have hb5 := (show Below w3.heap.size w3 w5 from (by rw [hw5]; exact below_put HWd.out (by have := HEd.out; omega))); have BK4 := zz_ (zK BK3.out hb5); have HW4 := zz_ (zG HW3.out hb5); have HR4 := zz_ (show RE w5 w.heap.size (fun k => k ≠ b) A5 c5 e5.f3 from Kd.R_lower (Kd.R_below (Kd.R_mono (Kd.R_bound HR3.out) (fun k hk => (by have h1 := hk.2.1; omega))) hb5) HWb.out.size); have KD4 := zz_ (show w5.heap[d]? = some (.cells #[.string e5.f0, .int .u16 e5.f1, .string e5.f2, .slice A5 e5.f3.length c5] 50 (0, 0)) from (by rw [hw5]; exact put50_blk BKd.out)); clear hb5 hw5 x0 x1 x2 x3 f0 f1 f2 f3; obtain ⟨⟨x0, x1, x2, x3⟩, ⟨f0, f1, f2, f3⟩⟩ := blk50 BK4.out; obtain ⟨⟨u0, u1, u2, u3⟩, ⟨v0, v1, v2, v3⟩⟩ := blk50 KD4.out))
        exact bodyPost_ret (results_ct rfl _ _ b 50 #[.string e5.f0, .int .u16 e5.f1, .string e5.f2, .slice A5 e5.f3.length c5] (0, 0) _ rfl (put50_blk BK4.out) Tryd.underlying50 rfl (by kernel_rfl)) rfl (fin_A (e := e5) HW4.out (by have := HEb.out; omega) HR4.out)
    · rw [if_neg hk] at h
      simp only [Option.some.injEq, Prod.mk.injEq] at h
      obtain ⟨rfl, rfl⟩ := h
      have hk1 : (q5 == 0) = false := beq_eq_false_iff_ne.mpr hk
      have hk2 : (q5 != 0) = true := bne_iff_ne.mpr hk
      clear hk
      go_enter Tryd.func45, Tryd.ntmps45
      go_wp2_with (first | ((with_reducible refine zS (N := 2) rfl ?_); refine zO ?hg (N := 2) ?hd (cs := #[.string (⟨#[]⟩ : ByteArray), .int .u16 0, .string (⟨#[]⟩ : ByteArray), .slice none 0 0]) (t := 50) ?hr ?_; (case hd => rfl); (case hg => rfl); (case hr => first | (go_simp; done) | (go_simp; rfl)); intro b hg w1 hbox hb; have HWb := zz_ hb; have BKb := zz_ hbox; have HEb := zz_ hg; obtain ⟨⟨x0, x1, x2, x3⟩, ⟨f0, f1, f2, f3⟩⟩ := blk50 hbox; have hltb := blk_lt BKb.out; clear hb hbox hg) | (go_at_call 83; refine (parse_calls kk A0 c0 l _ _ _ _ (Kd.zV HR.out HWb.out) HC.out HB.out).mono ?_; rintro e' w3 ⟨A5, c5, rfl, hR, hb3⟩; have BK3 := zz_ (zK BKb.out hb3); have HR3 := zz_ hR; have HW3 := zz_ (zG HWb.out hb3); have hlt3 := blk_lt BK3.out; clear hR hb3) | ((with_reducible refine zS (N := 4) rfl ?_); refine zO ?hg (N := 4) ?hd (cs := #[.string (⟨#[]⟩ : ByteArray), .int .u16 0, .string (⟨#[]⟩ : ByteArray), .slice none 0 0]) (t := 50) ?hr ?_; (case hd => rfl); (case hg => rfl); (case hr => first | (go_simp; done) | (go_simp; rfl)); intro d hg w4 hbox hb; have HWd := zz_ hb; have BKd := zz_ hbox; have HEd := zz_ hg; obtain ⟨⟨x0, x1, x2, x3⟩, ⟨f0, f1, f2, f3⟩⟩ := blk50 hbox; have m5 : b ≠ d := (by omega); have m6 : d ≠ b := (by omega); clear hb hbox hg) | ((with_reducible refine gate_store (t := 50) (p := 4) rfl ?_); refine store_event (t := 50) (p := 4) (v := ?vo) ?hg ?ho ?hN (w1 := put50 w4 d (.string e5.f0) (.int .u16 e5.f1) (.string e5.f2) (.slice A5 e5.f3.length c5)) ?hr ?_; (case ho => rfl); (case hg => rfl); (case hN => rfl); (case hr => first | (go_simp; done) | (go_simp; rfl)); intro w5 hw5; have hb5 := (show Below w3.heap.size w3 w5 from (by rw [hw5]; exact below_put HWd.out (by have := HEd.out; omega))); have BK4 := zz_ (zK BK3.out hb5); have HW4 := zz_ (zG HW3.out hb5); have HR4 := zz_ (show RE w5 w.heap.size (fun k => k ≠ b) A5 c5 e5.f3 from Kd.R_lower (Kd.R_below (Kd.R_mono (Kd.R_bound HR3.out) (fun k hk => (by have h1 := hk.2.1; omega))) hb5) HWb.out.size); have KD4 := zz_ (show w5.heap[d]? = some (.cells #[.string e5.f0, .int .u16 e5.f1, .string e5.f2, .slice A5 e5.f3.length c5] 50 (0, 0)) from (by rw [hw5]; exact put50_blk BKd.out)); clear hb5 hw5 x0 x1 x2 x3 f0 f1 f2 f3; obtain ⟨⟨x0, x1, x2, x3⟩, ⟨f0, f1, f2, f3⟩⟩ := blk50 BK4.out; obtain ⟨⟨u0, u1, u2, u3⟩, ⟨v0, v1, v2, v3⟩⟩ := blk50 KD4.out))
      exact bodyPost_ret (results_ct rfl _ _ b 50 #[.string ⟨#[]⟩, .int .u16 0, .string ⟨#[]⟩, .slice none 0 0] (0, 0) _ rfl (put50_blk BK4.out) Tryd.underlying50 rfl (by kernel_rfl)) rfl (fin_A (e := e0) HW4.out (by have := HEb.out; omega) (re_nil _ _ _))
namespace R
def expr_All.f (k : Nat) (l0 : List S41) : Option (ByteArray × Int × ByteArray × (List S50) × Int) := (allP k l0).map fun r => (r.1.f0, r.1.f1, r.1.f2, r.1.f3, r.2)
theorem expr_All.calls (k : Nat) (A0 : Option Addr) (c0 : Nat) (l0 : List S41) (r1 : ByteArray) (r2 : Int) (r3 : ByteArray) (r4 : List S50) (r5 : Int) (w : World) (hr0 : Kd.C k41 w A0 l0.length l0) (hc0 : l0.length ≤ c0) (h : expr_All.f k l0 = some (r1, r2, r3, r4, r5)) :
    Calls Tryd.prog 45 #[.slice A0 l0.length c0] w fun e w' => ∃ v3_ : Value, e = .returned (.tuple #[.agg #[.string r1, .int .u16 r2, .string r3, v3_], .int .i64 r5]) ∧ Kd.R k50 50 w' w.heap.size (fun _ => True) v3_ r4 ∧ Below w.heap.size w w' := by
  unfold expr_All.f at h
  obtain ⟨⟨e, q⟩, h1, h2⟩ := Option.map_eq_some_iff.1 h
  simp only [Prod.mk.injEq] at h2
  obtain ⟨rfl, rfl, rfl, rfl, rfl⟩ := h2
  refine (all_calls k A0 c0 l0 e q w hr0 hc0 h1).mono ?_
  rintro ex w' ⟨A, c, rfl, hR, hB⟩
  exact ⟨_, rfl, hR, hB⟩
end R
end Go.Proofs.YtejhagejjogbaaaDoor.PsrI
end
section
namespace Go.Proofs.YtejhagejjogbaaaDoor.LawC
open Go.RowKit YtejhagejjogbaaaDoorW.PrintWords YtejhagejjogbaaaDoorW.PrintLast YtejhagejjogbaaaDoorW.PrintMore Given Pn Pa Qa Qc Qf Num PsrC PsrF PsrH EvA EvB EvC
set_option linter.unusedVariables false
set_option linter.unusedSimpArgs false
def expr_Eval0.f (k : Nat) (a0_0 : ByteArray) (a0_1 : Int) (a0_2 : ByteArray) (l0_3 : List S50) (a1 : Int) : Option (Int × Int) := evalT k ⟨a0_0, a0_1, a0_2, l0_3⟩ a1 (fun _ => (0, 3))
theorem expr_Eval0.calls (k : Nat) (a0_0 : ByteArray) (a0_1 : Int) (a0_2 : ByteArray) (A0_3 : Option Addr) (c0_3 : Nat) (l0_3 : List S50) (a1 : Int) (r1 : Int) (r2 : Int) (w : World) (hr0_3 : Kd.C k50 w A0_3 l0_3.length l0_3) (hc0_3 : l0_3.length ≤ c0_3) (h : expr_Eval0.f k a0_0 a0_1 a0_2 l0_3 a1 = some (r1, r2)) :
    Calls Tryd.prog 40 #[.agg #[.string a0_0, .int .u16 a0_1, .string a0_2, .slice A0_3 l0_3.length c0_3], .int .u16 a1, .nilFunc] w fun e w' => e = .returned (.tuple #[.int .u16 r1, .int .i64 r2]) ∧ Below w.heap.size w w' :=
  eval_nil k ⟨a0_0, a0_1, a0_2, l0_3⟩ a1 r1 r2 A0_3 c0_3 w h hr0_3 hc0_3
theorem mono_ev (here : Int) (F : ByteArray → Int × Int) (k : Nat) : ∀ e x, evalP here F k e = some x → evalP here F (k + 1) e = some x := by
  induction k with
  | zero => intro e x h; rw [evalP] at h; cases h
  | succ k ih =>
    intro e x h
    rw [evalP] at h ⊢
    split
    · rename_i h1; rw [if_pos h1] at h; exact h
    · rename_i h1
      rw [if_neg h1] at h
      split
      · rename_i h2; rw [if_pos h2] at h; exact h
      · rename_i h2
        rw [if_neg h2] at h
        split
        · rename_i h3; rw [if_pos h3] at h; exact h
        · rename_i h3
          rw [if_neg h3] at h
          cases hl : e.f3 with
          | nil => rw [hl] at h; cases h
          | cons a l =>
            rw [hl] at h
            simp only at h ⊢
            cases hx : evalP here F k a with
            | none => rw [hx] at h; cases h
            | some y =>
              rw [hx] at h
              rw [ih a y hx]
              obtain ⟨x1, q1⟩ := y
              simp only at h ⊢
              split
              · rename_i h4
                rw [if_pos h4] at h
                split
                · rename_i h5; rw [if_pos h5] at h; exact h
                · rename_i h5
                  rw [if_neg h5] at h
                  split
                  · rename_i h6; rw [if_pos h6] at h; exact h
                  · rename_i h6
                    rw [if_neg h6] at h
                    cases l with
                    | nil => cases h
                    | cons b l =>
                      simp only at h ⊢
                      cases hy : evalP here F k b with
                      | none => rw [hy] at h; cases h
                      | some z => rw [hy] at h; rw [ih b z hy]; exact h
              · rename_i h4; rw [if_neg h4] at h; exact h
end Go.Proofs.YtejhagejjogbaaaDoor.LawC
end
