import Derived.Test.YtejhagejjogbaaaDoorKdM11
import Derived.Test.YtejhagejjogbaaaDoorKdM13
import Derived.Test.YtejhagejjogbaaaDoorKdM10
import Derived.Test.YtejhagejjogbaaaDoorKdM4
import Derived.Test.YtejhagejjogbaaaDoorKdM5
import Derived.Test.YtejhagejjogbaaaDoorKdM3
import Derived.Test.YtejhagejjogbaaaDoorKdM2
import Derived.Deep.Slices
import Derived.ChangeSame
import Derived.ChangeArms
import Derived.DataReads
section
namespace Go.Proofs.YtejhagejjogbaaaDoor.Ee
open Go.RowKit Go.Proofs.YtejhagejjogbaaaDoorW.PrintWords Go.Proofs.YtejhagejjogbaaaDoorW.PrintLast Go.Proofs.YtejhagejjogbaaaDoor.Given Go.Proofs.YtejhagejjogbaaaDoor.Pn Go.Proofs.YtejhagejjogbaaaDoor.Pa Go.Proofs.YtejhagejjogbaaaDoor.Pb Go.Proofs.YtejhagejjogbaaaDoor.Qa Go.Proofs.YtejhagejjogbaaaDoor.Qc Go.Proofs.YtejhagejjogbaaaDoor.Num Go.Proofs.YtejhagejjogbaaaDoor.AnyNot Go.Proofs.YtejhagejjogbaaaDoor.Par Go.Proofs.YtejhagejjogbaaaDoor.SameC Go.Proofs.YtejhagejjogbaaaDoor.SameD Go.Proofs.YtejhagejjogbaaaDoor.Tk Go.Proofs.YtejhagejjogbaaaDoor.TokJoin Go.Proofs.YtejhagejjogbaaaDoor.TokRep Go.Proofs.YtejhagejjogbaaaDoor.LawC Go.Proofs.YtejhagejjogbaaaDoor.PsrI.R
set_option linter.unusedSimpArgs false
set_option linter.unusedVariables false
theorem op_good : ∀ p ∈ binops, TkP (opTok ⟨p.1.toArray⟩) := by
  intro p hp
  simp only [binops, List.mem_cons, List.not_mem_nil, or_false] at hp
  rcases hp with rfl | rfl | rfl | rfl | rfl | rfl | rfl | rfl | rfl | rfl
  · exact .name [79, 82] (by decide) (by decide)
  · exact .name [88, 79, 82] (by decide) (by decide)
  · exact .name [65, 78, 68] (by decide) (by decide)
  · exact .mark 43 (by decide)
  · exact .mark 45 (by decide)
  · exact .mark 42 (by decide)
  · exact .mark 47 (by decide)
  · exact .name [77, 79, 68] (by decide) (by decide)
  · exact .name [83, 72, 76] (by decide) (by decide)
  · exact .name [83, 72, 82] (by decide) (by decide)
theorem named_good {nm : ByteArray} (h : namedL nm.data.toList = true) : TkP ⟨1, nm, 0⟩ := by
  unfold namedL at h
  simp only [Bool.and_eq_true, beq_iff_eq] at h
  have e : nm = ⟨nm.data.toList.toArray⟩ := ba_of rfl
  rw [e]
  exact .name nm.data.toList (by rw [← Right.nameQ_eq]; exact h.1.1) h.1.2
theorem et_good (n : Nat) : ∀ (e : S50) (w : Int), rightN n e = true → NumOk e → ∀ t ∈ etN n e w, TkP t := by
  induction n with
  | zero => intro e w h; simp [rightN] at h
  | succ n ih =>
    intro e w h hok
    obtain ⟨rk, hc⟩ := rc_of h
    have hb : ∀ t ∈ bodyT (etN n) e, TkP t := by
      cases hc with
      | num m =>
        have hm0 := hok.lo
        have hm1 := hok.hi
        simp only at hm0 hm1
        obtain ⟨q, rfl⟩ : ∃ q : Nat, m = (q : Int) := ⟨m.toNat, by omega⟩
        intro t ht
        obtain rfl : t = ⟨2, ⟨#[]⟩, (q : Int)⟩ := List.mem_singleton.1 ht
        exact .num q (by omega)
      | name nm hn =>
        intro t ht
        obtain rfl : t = ⟨1, nm, 0⟩ := List.mem_singleton.1 ht
        exact named_good hn
      | here =>
        intro t ht
        obtain rfl : t = ⟨4, ⟨#[36]⟩, 0⟩ := List.mem_singleton.1 ht
        exact .mark 36 (by decide)
      | neg a ha =>
        intro t ht
        rcases List.mem_cons.1 (show t ∈ (⟨4, ⟨#[45]⟩, 0⟩ : S41) :: etN n a 6 from ht) with rfl | ht
        · exact .mark 45 (by decide)
        · exact ih a 6 ha (hok.sub a (by simp)) t ht
      | not a ha =>
        intro t ht
        rcases List.mem_cons.1 (show t ∈ (⟨1, ⟨#[78, 79, 84]⟩, 0⟩ : S41) :: etN n a 3 from ht) with rfl | ht
        · exact .name [78, 79, 84] (by decide) (by decide)
        · exact ih a 3 ha (hok.sub a (by simp)) t ht
      | bin op rk a b hop ha hb =>
        intro t ht
        rw [body_bin _ hop] at ht
        rcases List.mem_append.1 ht with ht | ht
        · exact ih a rk ha (hok.sub a (by simp)) t ht
        · rcases List.mem_cons.1 ht with rfl | ht
          · exact op_good _ hop
          · exact ih b (rk + 1) hb (hok.sub b (by simp)) t ht
    rw [etN]
    split
    · intro t ht
      rcases List.mem_cons.1 ht with rfl | ht
      · exact .mark 40 (by decide)
      · rcases List.mem_append.1 ht with ht | ht
        · exact hb t ht
        · obtain rfl := List.mem_singleton.1 ht
          exact .mark 41 (by decide)
    · exact hb
theorem ba_eq {a b : ByteArray} (h : a.data.toList = b.data.toList) : a = b := (ba_of h).trans (ba_of rfl).symm
mutual
theorem same_eq : ∀ a b : S50, sameE a b = true → a = b
  | ⟨o, n, m, s⟩, ⟨o', n', m', s'⟩ => fun h => by
    rw [sameE] at h
    simp only [Bool.and_eq_true, beq_iff_eq] at h
    obtain ⟨⟨⟨h1, h2⟩, h3⟩, h4⟩ := h
    rw [ba_eq h1, h2, ba_eq h3, sames_eq s s' h4]
theorem sames_eq : ∀ a b : List S50, sameL a b = true → a = b
  | [], [] => fun _ => rfl
  | [], b :: m => fun h => by simp [sameL] at h
  | a :: l, [] => fun h => by simp [sameL] at h
  | a :: l, b :: m => fun h => by
    rw [sameL, Bool.and_eq_true] at h
    rw [same_eq a b h.1, sames_eq l m h.2]
end
mutual
theorem same_refl : ∀ a : S50, sameE a a = true
  | ⟨o, n, m, s⟩ => by rw [sameE]; simp only [beq_self_eq_true, Bool.true_and]; exact sames_refl s
theorem sames_refl : ∀ a : List S50, sameL a a = true
  | [] => rfl
  | a :: l => by rw [sameL, same_refl a, sames_refl l]; rfl
end
theorem same_iff (a b : S50) : sameE a b = true ↔ a = b := ⟨same_eq a b, fun h => by rw [h]; exact same_refl b⟩
theorem same_comm (a b : S50) : sameE a b = sameE b a := by
  rw [Bool.eq_iff_iff, same_iff, same_iff]
  exact eq_comm
theorem Show_ev (e : S50) (hl : lightN 40 e = true) (hok : NumOk e) : Ev (fun k => expr_Show.f k e.f0 e.f1 e.f2 e.f3) (if rightN 24 e = true then (⟨(joinT (etN 24 e 1)).toArray⟩, 0) else (⟨#[]⟩, 2)) := by
  unfold expr_Show.f
  rw [Right_at e (light_ok 40 24 e (by decide) hl)]
  simp only [Option.bind_some]
  cases hr : rightN 24 e with
  | true =>
    simp only [if_true]
    exact Ev.bind (show_ev 24 (by decide) e 1 hr hok (by decide) (by decide)).1 (Ev.now _)
  | false =>
    simp only [Bool.false_eq_true, if_false, show ¬ ((2 : Int) = 0) by decide]
    exact Ev.now _
theorem text_inj {a b : S50} (ha : rightN 24 a = true) (hb : rightN 24 b = true) (na : NumOk a) (nb : NumOk b) (h : joinT (etN 24 a 1) = joinT (etN 24 b 1)) : a = b := by
  have h1 := show_toks _ _ (et_good 24 a 1 ha na) (Nat.le_refl _)
  have h2 := show_toks (etN 24 b 1) (joinT (etN 24 a 1)).length (et_good 24 b 1 hb nb) (by rw [h]; exact Nat.le_refl _)
  rw [← h, h1] at h2
  have h3 : etN 24 a 1 = etN 24 b 1 := (Prod.mk.inj h2).1
  have h4 := main_all a ha
  rw [h3] at h4
  exact (Prod.mk.inj (h4.det (main_all b hb))).1
end Go.Proofs.YtejhagejjogbaaaDoor.Ee
end
section
namespace Go.Proofs.YtejhagejjogbaaaDoor.AliveC
open Go.RowKit Go.Proofs.YtejhagejjogbaaaDoorW.PrintWords Go.Proofs.YtejhagejjogbaaaDoorW.PrintLast Go.Proofs.YtejhagejjogbaaaDoorW.PrintMore Go.Proofs.YtejhagejjogbaaaDoor.Given Go.Proofs.YtejhagejjogbaaaDoor.Pn Go.Proofs.YtejhagejjogbaaaDoor.Pa Go.Proofs.YtejhagejjogbaaaDoor.Pb Go.Proofs.YtejhagejjogbaaaDoor.Qa Go.Proofs.YtejhagejjogbaaaDoor.Qc Go.Proofs.YtejhagejjogbaaaDoor.Qf Go.Proofs.YtejhagejjogbaaaDoor.Num Go.Proofs.YtejhagejjogbaaaDoor.PsrC Go.Proofs.YtejhagejjogbaaaDoor.PsrD Go.Proofs.YtejhagejjogbaaaDoor.PsrF Go.Proofs.YtejhagejjogbaaaDoor.PsrI.R Go.Proofs.YtejhagejjogbaaaDoor.EvC Go.Proofs.YtejhagejjogbaaaDoor.LawC
set_option linter.unusedVariables false
set_option linter.unusedSimpArgs false
set_option maxHeartbeats 16000000 in
set_option maxRecDepth 100000 in
theorem of_calls (k : Nat) (s : ByteArray) (n : Int) (ts : List S41) (e : S50) (w : World) (hG : Aside0 (G0 w)) (h1 : token_Line.f k s = some (ts, 0)) (h2 : expr_All.f k ts = some (e.f0, e.f1, e.f2, e.f3, 0))
    (h3 : expr_Eval0.f k e.f0 e.f1 e.f2 e.f3 0 = some (n, 0)) (h4 : expr_Show.f k e.f0 e.f1 e.f2 e.f3 = some (s, 0)) (ht : (s.toList == s.toList) = true) :
    Calls Tryd.prog 75 #[.string s, .int .u16 n] w fun e w' => e = .returned (.bool true) ∧ Below w.heap.size w w' := by
  have hu50 := Tryd.underlying50
  have H1 := Aside0.mk h1
  have H2 := Aside0.mk h2
  have H3 := Aside0.mk h3
  have H4 := Aside0.mk h4
  clear h1 h2 h3 h4
  have HW0 := Aside0.mk (Below.refl w.heap.size w)
  go_enter Tryd.func75, Tryd.ntmps75
  go_wp2_with (first | (go_at_call 28; (with_reducible refine (token_Line.calls k s ts 0 _ ⟨G0.below hG.out HW0.out⟩ H1.out).mono ?_); rintro ex w1 ⟨v1, rfl, ho, hb⟩; have HO1 := Aside0.mk ho; have HW1 := Aside0.mk (below_step HW0.out hb); obtain ⟨At, ct, rfl⟩ := Kd.R_slice HO1.out; clear hb ho) | (go_at_call 45; (with_reducible refine (expr_All.calls k At ct ts e.f0 e.f1 e.f2 e.f3 0 _ (Kd.R_reads' HO1.out).2.2 (Kd.R_reads' HO1.out).2.1 H2.out).mono ?_); rintro ex w2 ⟨v2, rfl, ho, hb⟩; have HO2 := Aside0.mk ho; have HW2 := Aside0.mk (below_step HW1.out hb); obtain ⟨Ah, ch, rfl⟩ := Kd.R_slice HO2.out; clear hb ho) | ((with_reducible refine gate_dst (N := 7) rfl ?_); refine box_event ?hg (N := 7) ?hd (cs := #[.string (⟨#[]⟩ : ByteArray), .int .u16 0, .string (⟨#[]⟩ : ByteArray), .slice none 0 0]) (t := 50) ?hr ?_; (case hd => rfl); (case hg => rfl); (case hr => first | (go_simp; done) | (go_simp; rfl)); intro gz hg w3 hbox hb; have HZ := Aside0.mk hb; have BZ := Aside0.mk hbox; have HE := Aside0.mk hg; obtain ⟨⟨z0, z1, z2, z3⟩, ⟨u0, u1, u2, u3⟩⟩ := blk50 hbox; clear hb hbox hg) | ((with_reducible refine gate_store (t := 50) (p := 7) rfl ?_); refine store_event (t := 50) (p := 7) (v := ?vo7) ?hg ?ho ?hN (w1 := put50 w3 gz (.string e.f0) (.int .u16 e.f1) (.string e.f2) (.slice Ah e.f3.length ch)) ?hr ?_; (case ho => rfl); (case hg => rfl); (case hN => rfl); (case hr => first | (go_simp; done) | (go_simp; rfl)); intro w4 hw; have hb : Below w2.heap.size w2 w4 := (by rw [hw]; exact below_put HZ.out (Nat.le_of_eq HE.out.symm)); have BH4 := Aside0.mk (show w4.heap[gz]? = some (.cells #[.string e.f0, .int .u16 e.f1, .string e.f2, .slice Ah e.f3.length ch] 50 (0, 0)) from (by rw [hw]; exact put50_blk BZ.out)); have HO4 := Aside0.mk (RE_below HO2.out hb); have HW4 := Aside0.mk (below_step HW2.out hb); clear z0 z1 z2 z3 u0 u1 u2 u3 hb hw; obtain ⟨⟨z0, z1, z2, z3⟩, ⟨u0, u1, u2, u3⟩⟩ := blk50 BH4.out) | (go_at_call 40; (with_reducible refine (expr_Eval0.calls k e.f0 e.f1 e.f2 Ah ch e.f3 0 n 0 _ (Kd.R_reads' HO4.out).2.2 (Kd.R_reads' HO4.out).2.1 H3.out).mono ?_); rintro ex w5 ⟨rfl, hb⟩; clear z0 z1 z2 z3 u0 u1 u2 u3; have HW5 := Aside0.mk (below_step HW4.out hb); have BH5 := Aside0.mk (blk_below BH4.out hb); have HO5 := Aside0.mk (RE_below HO4.out hb); obtain ⟨⟨z0, z1, z2, z3⟩, ⟨u0, u1, u2, u3⟩⟩ := blk50 BH5.out; clear hb) | (go_at_call 44; (with_reducible refine (expr_Show.calls k e.f0 e.f1 e.f2 Ah ch e.f3 s 0 _ ⟨G0.below hG.out HW5.out⟩ (Kd.R_reads' HO5.out).2.2 (Kd.R_reads' HO5.out).2.1 H4.out).mono ?_); rintro ex w6 ⟨rfl, hb⟩; have HW6 := Aside0.mk (below_step HW5.out hb); clear hb))
  go_ret
  exact ⟨rfl, HW6.out⟩
def ofB (k : Nat) (s : ByteArray) (n : Int) : Bool := match token_Line.f k s with
  | some (ts, i) => match expr_All.f k ts with
    | some (o, x, m, l, j) => decide (i = 0) && decide (j = 0) && decide (expr_Eval0.f k o x m l 0 = some (n, 0)) && decide (expr_Show.f k o x m l = some (s, 0))
    | none => false
  | none => false
theorem of_good (s : ByteArray) (n : Int) (h : ∃ k, ofB k s n = true) (w : World) (hG : Aside0 (G0 w)) : Calls Tryd.prog 75 #[.string s, .int .u16 n] w fun e w' => e = .returned (.bool true) ∧ Below w.heap.size w w' := by
  obtain ⟨k, h⟩ := h
  unfold ofB at h
  cases h1 : token_Line.f k s with
  | none => rw [h1] at h; cases h
  | some p =>
    obtain ⟨ts, i⟩ := p
    rw [h1] at h
    simp only at h
    cases h2 : expr_All.f k ts with
    | none => rw [h2] at h; cases h
    | some q =>
      obtain ⟨o, x, m, l, j⟩ := q
      rw [h2] at h
      simp only [Bool.and_eq_true, decide_eq_true_eq] at h
      obtain ⟨⟨⟨rfl, rfl⟩, h3⟩, h4⟩ := h
      exact of_calls k s n ts ⟨o, x, m, l⟩ w hG h1 h2 h3 h4 (beq_self_eq_true _)
set_option maxRecDepth 100000 in
theorem o1 : ∃ k, ofB k (⟨#[49, 32, 43, 32, 50, 32, 42, 32, 51]⟩ : ByteArray) 7 = true := ⟨40, by decide +kernel⟩
set_option maxRecDepth 100000 in
theorem o2 : ∃ k, ofB k (⟨#[78, 79, 84, 32, 48, 32, 65, 78, 68, 32, 48, 70, 72]⟩ : ByteArray) 15 = true := ⟨40, by decide +kernel⟩
set_option maxRecDepth 100000 in
theorem o3 : ∃ k, ofB k (⟨#[40, 32, 49, 32, 43, 32, 50, 32, 41, 32, 42, 32, 51]⟩ : ByteArray) 9 = true := ⟨40, by decide +kernel⟩
set_option maxHeartbeats 16000000 in
set_option maxRecDepth 100000 in
theorem alive_calls (w : World) (hG : Aside0 (G0 w)) : Calls Tryd.prog 39 #[] w fun e w' => e = .returned (.bool true) ∧ Below w.heap.size w w' := by
  have HW0 := Aside0.mk (Below.refl w.heap.size w)
  go_enter Tryd.func39, Tryd.ntmps39
  go_wp2_with (first | (go_at_call 75; (with_reducible refine (of_good (⟨#[49, 32, 43, 32, 50, 32, 42, 32, 51]⟩ : ByteArray) 7 o1 _ ⟨G0.below hG.out HW0.out⟩).mono ?_); rintro ex w1 ⟨rfl, hb⟩; have HW1 := Aside0.mk (below_step HW0.out hb); clear hb) | (go_at_call 75; (with_reducible refine (of_good (⟨#[78, 79, 84, 32, 48, 32, 65, 78, 68, 32, 48, 70, 72]⟩ : ByteArray) 15 o2 _ ⟨G0.below hG.out HW1.out⟩).mono ?_); rintro ex w2 ⟨rfl, hb⟩; have HW2 := Aside0.mk (below_step HW1.out hb); clear hb) | (go_at_call 75; (with_reducible refine (of_good (⟨#[40, 32, 49, 32, 43, 32, 50, 32, 41, 32, 42, 32, 51]⟩ : ByteArray) 9 o3 _ ⟨G0.below hG.out HW2.out⟩).mono ?_); rintro ex w3 ⟨rfl, hb⟩; have HW3 := Aside0.mk (below_step HW2.out hb); clear hb))
  go_ret
  exact ⟨rfl, HW3.out⟩
end Go.Proofs.YtejhagejjogbaaaDoor.AliveC
end
section
namespace Go.Proofs.YtejhagejjogbaaaDoor.BackC
open Go.RowKit Go.Proofs.YtejhagejjogbaaaDoorW.PrintWords Go.Proofs.YtejhagejjogbaaaDoorW.PrintLast Go.Proofs.YtejhagejjogbaaaDoorW.PrintMore Go.Proofs.YtejhagejjogbaaaDoor.Given Go.Proofs.YtejhagejjogbaaaDoor.Pn Go.Proofs.YtejhagejjogbaaaDoor.Pa Go.Proofs.YtejhagejjogbaaaDoor.Pb Go.Proofs.YtejhagejjogbaaaDoor.Qa Go.Proofs.YtejhagejjogbaaaDoor.Qc Go.Proofs.YtejhagejjogbaaaDoor.Qf Go.Proofs.YtejhagejjogbaaaDoor.Num Go.Proofs.YtejhagejjogbaaaDoor.PsrC Go.Proofs.YtejhagejjogbaaaDoor.PsrD Go.Proofs.YtejhagejjogbaaaDoor.PsrF Go.Proofs.YtejhagejjogbaaaDoor.PsrI.R Go.Proofs.YtejhagejjogbaaaDoor.SameC.R Go.Proofs.YtejhagejjogbaaaDoor.EvC Go.Proofs.YtejhagejjogbaaaDoor.LawC
set_option linter.unusedVariables false
set_option linter.unusedSimpArgs false
end Go.Proofs.YtejhagejjogbaaaDoor.BackC
end
section
namespace Go.Proofs.YtejhagejjogbaaaDoor.AlikeC
open Go.RowKit Go.Proofs.YtejhagejjogbaaaDoorW.PrintWords Go.Proofs.YtejhagejjogbaaaDoorW.PrintLast Go.Proofs.YtejhagejjogbaaaDoorW.PrintMore Go.Proofs.YtejhagejjogbaaaDoor.Given Go.Proofs.YtejhagejjogbaaaDoor.Pn Go.Proofs.YtejhagejjogbaaaDoor.Pa Go.Proofs.YtejhagejjogbaaaDoor.Pb Go.Proofs.YtejhagejjogbaaaDoor.Qa Go.Proofs.YtejhagejjogbaaaDoor.Qc Go.Proofs.YtejhagejjogbaaaDoor.Qf Go.Proofs.YtejhagejjogbaaaDoor.Num Go.Proofs.YtejhagejjogbaaaDoor.PsrC Go.Proofs.YtejhagejjogbaaaDoor.PsrD Go.Proofs.YtejhagejjogbaaaDoor.PsrF Go.Proofs.YtejhagejjogbaaaDoor.PsrI.R Go.Proofs.YtejhagejjogbaaaDoor.SameC.R Go.Proofs.YtejhagejjogbaaaDoor.EvC Go.Proofs.YtejhagejjogbaaaDoor.LawC
set_option linter.unusedVariables false
set_option linter.unusedSimpArgs false
set_option maxHeartbeats 32000000 in
set_option maxRecDepth 100000 in
theorem alike_a (k : Nat) (a : S50) (A : Option Addr) (c : Nat) (b : S50) (B : Option Addr) (d : Nat)  (w : World) (hG : Aside0 (G0 w)) (hra : Kd.C k50 w A a.f3.length a.f3) (hca : a.f3.length ≤ c) (hrb : Kd.C k50 w B b.f3.length b.f3) (hcb : b.f3.length ≤ d) (h1 : pidginlaw05_small.f k a.f0 a.f1 a.f2 a.f3 = some false) : Calls Tryd.prog 14 #[.agg #[.string a.f0, .int .u16 a.f1, .string a.f2, .slice A a.f3.length c], .agg #[.string b.f0, .int .u16 b.f1, .string b.f2, .slice B b.f3.length d]] w fun e w' => e = .returned (.bool true) ∧ Below w.heap.size w w' := by
  have hu50 := Tryd.underlying50
  have HRa := Aside0.mk hra
  have HCa := Aside0.mk hca
  have HRb := Aside0.mk hrb
  have HCb := Aside0.mk hcb
  have H1 := Aside0.mk h1
  clear hra hca hrb hcb h1
  have HW0 := Aside0.mk (Below.refl w.heap.size w)
  go_enter Tryd.func14, Tryd.ntmps14
  go_wp2_with (first | ((with_reducible refine gate_dst (N := 2) rfl ?_); refine box_event ?hg (N := 2) ?hd (cs := #[.string a.f0, .int .u16 a.f1, .string a.f2, .slice A a.f3.length c]) (t := 50) ?hr ?_; (case hd => rfl); (case hg => rfl); (case hr => first | (go_simp; done) | (go_simp; rfl)); intro ga hg w1 hbox hb; have HW1 := Aside0.mk (below_step HW0.out hb); have BKa_1 := Aside0.mk hbox; obtain ⟨⟨x0a, x1a, x2a, x3a⟩, ⟨f0a, f1a, f2a, f3a⟩⟩ := blk50 BKa_1.out; clear hb hbox hg) | ((with_reducible refine gate_dst (N := 3) rfl ?_); refine box_event ?hg (N := 3) ?hd (cs := #[.string b.f0, .int .u16 b.f1, .string b.f2, .slice B b.f3.length d]) (t := 50) ?hr ?_; (case hd => rfl); (case hg => rfl); (case hr => first | (go_simp; done) | (go_simp; rfl)); intro gb hg w2 hbox hb; clear x0a x1a x2a x3a f0a f1a f2a f3a; have HW2 := Aside0.mk (below_step HW1.out hb); have BKa_2 := Aside0.mk (blk_below BKa_1.out hb); have BKb_2 := Aside0.mk hbox; obtain ⟨⟨x0a, x1a, x2a, x3a⟩, ⟨f0a, f1a, f2a, f3a⟩⟩ := blk50 BKa_2.out; obtain ⟨⟨x0b, x1b, x2b, x3b⟩, ⟨f0b, f1b, f2b, f3b⟩⟩ := blk50 BKb_2.out; clear hb hbox hg) | (go_at_call 38; (with_reducible refine (pidginlaw05_small.calls k a.f0 a.f1 a.f2 A c a.f3 false _ (Kd.C_below HRa.out HW2.out) HCa.out H1.out).mono ?_); rintro ex w3 ⟨rfl, hb⟩; clear x0a x1a x2a x3a f0a f1a f2a f3a x0b x1b x2b x3b f0b f1b f2b f3b; have HW3 := Aside0.mk (below_step HW2.out hb); have BKa_3 := Aside0.mk (blk_below BKa_2.out hb); have BKb_3 := Aside0.mk (blk_below BKb_2.out hb); obtain ⟨⟨x0a, x1a, x2a, x3a⟩, ⟨f0a, f1a, f2a, f3a⟩⟩ := blk50 BKa_3.out; obtain ⟨⟨x0b, x1b, x2b, x3b⟩, ⟨f0b, f1b, f2b, f3b⟩⟩ := blk50 BKb_3.out; clear hb) | (go_at_call 39; (with_reducible refine (AliveC.alive_calls _ ⟨G0.below hG.out HW3.out⟩).mono ?_); rintro ex w4 ⟨rfl, hb⟩; clear x0a x1a x2a x3a f0a f1a f2a f3a x0b x1b x2b x3b f0b f1b f2b f3b; have HW4 := Aside0.mk (below_step HW3.out hb); have BKa_4 := Aside0.mk (blk_below BKa_3.out hb); have BKb_4 := Aside0.mk (blk_below BKb_3.out hb); obtain ⟨⟨x0a, x1a, x2a, x3a⟩, ⟨f0a, f1a, f2a, f3a⟩⟩ := blk50 BKa_4.out; obtain ⟨⟨x0b, x1b, x2b, x3b⟩, ⟨f0b, f1b, f2b, f3b⟩⟩ := blk50 BKb_4.out; clear hb))
  go_ret
  exact ⟨rfl, HW4.out⟩
set_option maxHeartbeats 32000000 in
set_option maxRecDepth 100000 in
theorem alike_b (k : Nat) (a : S50) (A : Option Addr) (c : Nat) (b : S50) (B : Option Addr) (d : Nat)  (w : World) (hG : Aside0 (G0 w)) (hra : Kd.C k50 w A a.f3.length a.f3) (hca : a.f3.length ≤ c) (hrb : Kd.C k50 w B b.f3.length b.f3) (hcb : b.f3.length ≤ d) (h1 : pidginlaw05_small.f k a.f0 a.f1 a.f2 a.f3 = some true) (h2 : pidginlaw05_small.f k b.f0 b.f1 b.f2 b.f3 = some false) : Calls Tryd.prog 14 #[.agg #[.string a.f0, .int .u16 a.f1, .string a.f2, .slice A a.f3.length c], .agg #[.string b.f0, .int .u16 b.f1, .string b.f2, .slice B b.f3.length d]] w fun e w' => e = .returned (.bool true) ∧ Below w.heap.size w w' := by
  have hu50 := Tryd.underlying50
  have HRa := Aside0.mk hra
  have HCa := Aside0.mk hca
  have HRb := Aside0.mk hrb
  have HCb := Aside0.mk hcb
  have H1 := Aside0.mk h1
  have H2 := Aside0.mk h2
  clear hra hca hrb hcb h1 h2
  have HW0 := Aside0.mk (Below.refl w.heap.size w)
  go_enter Tryd.func14, Tryd.ntmps14
  go_wp2_with (first | ((with_reducible refine gate_dst (N := 2) rfl ?_); refine box_event ?hg (N := 2) ?hd (cs := #[.string a.f0, .int .u16 a.f1, .string a.f2, .slice A a.f3.length c]) (t := 50) ?hr ?_; (case hd => rfl); (case hg => rfl); (case hr => first | (go_simp; done) | (go_simp; rfl)); intro ga hg w1 hbox hb; have HW1 := Aside0.mk (below_step HW0.out hb); have BKa_1 := Aside0.mk hbox; obtain ⟨⟨x0a, x1a, x2a, x3a⟩, ⟨f0a, f1a, f2a, f3a⟩⟩ := blk50 BKa_1.out; clear hb hbox hg) | ((with_reducible refine gate_dst (N := 3) rfl ?_); refine box_event ?hg (N := 3) ?hd (cs := #[.string b.f0, .int .u16 b.f1, .string b.f2, .slice B b.f3.length d]) (t := 50) ?hr ?_; (case hd => rfl); (case hg => rfl); (case hr => first | (go_simp; done) | (go_simp; rfl)); intro gb hg w2 hbox hb; clear x0a x1a x2a x3a f0a f1a f2a f3a; have HW2 := Aside0.mk (below_step HW1.out hb); have BKa_2 := Aside0.mk (blk_below BKa_1.out hb); have BKb_2 := Aside0.mk hbox; obtain ⟨⟨x0a, x1a, x2a, x3a⟩, ⟨f0a, f1a, f2a, f3a⟩⟩ := blk50 BKa_2.out; obtain ⟨⟨x0b, x1b, x2b, x3b⟩, ⟨f0b, f1b, f2b, f3b⟩⟩ := blk50 BKb_2.out; clear hb hbox hg) | (go_at_call 38; (with_reducible refine (pidginlaw05_small.calls k a.f0 a.f1 a.f2 A c a.f3 true _ (Kd.C_below HRa.out HW2.out) HCa.out H1.out).mono ?_); rintro ex w3 ⟨rfl, hb⟩; clear x0a x1a x2a x3a f0a f1a f2a f3a x0b x1b x2b x3b f0b f1b f2b f3b; have HW3 := Aside0.mk (below_step HW2.out hb); have BKa_3 := Aside0.mk (blk_below BKa_2.out hb); have BKb_3 := Aside0.mk (blk_below BKb_2.out hb); obtain ⟨⟨x0a, x1a, x2a, x3a⟩, ⟨f0a, f1a, f2a, f3a⟩⟩ := blk50 BKa_3.out; obtain ⟨⟨x0b, x1b, x2b, x3b⟩, ⟨f0b, f1b, f2b, f3b⟩⟩ := blk50 BKb_3.out; clear hb) | (go_at_call 38; (with_reducible refine (pidginlaw05_small.calls k b.f0 b.f1 b.f2 B d b.f3 false _ (Kd.C_below HRb.out HW3.out) HCb.out H2.out).mono ?_); rintro ex w4 ⟨rfl, hb⟩; clear x0a x1a x2a x3a f0a f1a f2a f3a x0b x1b x2b x3b f0b f1b f2b f3b; have HW4 := Aside0.mk (below_step HW3.out hb); have BKa_4 := Aside0.mk (blk_below BKa_3.out hb); have BKb_4 := Aside0.mk (blk_below BKb_3.out hb); obtain ⟨⟨x0a, x1a, x2a, x3a⟩, ⟨f0a, f1a, f2a, f3a⟩⟩ := blk50 BKa_4.out; obtain ⟨⟨x0b, x1b, x2b, x3b⟩, ⟨f0b, f1b, f2b, f3b⟩⟩ := blk50 BKb_4.out; clear hb) | (go_at_call 39; (with_reducible refine (AliveC.alive_calls _ ⟨G0.below hG.out HW4.out⟩).mono ?_); rintro ex w5 ⟨rfl, hb⟩; clear x0a x1a x2a x3a f0a f1a f2a f3a x0b x1b x2b x3b f0b f1b f2b f3b; have HW5 := Aside0.mk (below_step HW4.out hb); have BKa_5 := Aside0.mk (blk_below BKa_4.out hb); have BKb_5 := Aside0.mk (blk_below BKb_4.out hb); obtain ⟨⟨x0a, x1a, x2a, x3a⟩, ⟨f0a, f1a, f2a, f3a⟩⟩ := blk50 BKa_5.out; obtain ⟨⟨x0b, x1b, x2b, x3b⟩, ⟨f0b, f1b, f2b, f3b⟩⟩ := blk50 BKb_5.out; clear hb))
  go_ret
  exact ⟨rfl, HW5.out⟩
set_option maxHeartbeats 32000000 in
set_option maxRecDepth 100000 in
theorem alike_same0 (k : Nat) (a : S50) (A : Option Addr) (c : Nat) (b : S50) (B : Option Addr) (d : Nat) (tx : ByteArray) (w : World) (hG : Aside0 (G0 w)) (hra : Kd.C k50 w A a.f3.length a.f3) (hca : a.f3.length ≤ c) (hrb : Kd.C k50 w B b.f3.length b.f3) (hcb : b.f3.length ≤ d) (h1 : pidginlaw05_small.f k a.f0 a.f1 a.f2 a.f3 = some true) (h2 : pidginlaw05_small.f k b.f0 b.f1 b.f2 b.f3 = some true) (h3 : expr_Show.f k a.f0 a.f1 a.f2 a.f3 = some (tx, 0)) (h4 : expr_Show.f k b.f0 b.f1 b.f2 b.f3 = some (tx, 0)) (h5 : expr_Same.f a.f0 a.f1 a.f2 a.f3 b.f0 b.f1 b.f2 b.f3 = some true) (h6 : expr_Same.f a.f0 a.f1 a.f2 a.f3 a.f0 a.f1 a.f2 a.f3 = some true) (h7 : expr_Same.f b.f0 b.f1 b.f2 b.f3 a.f0 a.f1 a.f2 a.f3 = some true) (ht : (tx.toList == tx.toList) = true) : Calls Tryd.prog 14 #[.agg #[.string a.f0, .int .u16 a.f1, .string a.f2, .slice A a.f3.length c], .agg #[.string b.f0, .int .u16 b.f1, .string b.f2, .slice B b.f3.length d]] w fun e w' => e = .returned (.bool true) ∧ Below w.heap.size w w' := by
  have hu50 := Tryd.underlying50
  have HRa := Aside0.mk hra
  have HCa := Aside0.mk hca
  have HRb := Aside0.mk hrb
  have HCb := Aside0.mk hcb
  have H1 := Aside0.mk h1
  have H2 := Aside0.mk h2
  have H3 := Aside0.mk h3
  have H4 := Aside0.mk h4
  have H5 := Aside0.mk h5
  have H6 := Aside0.mk h6
  have H7 := Aside0.mk h7
  clear hra hca hrb hcb h1 h2 h3 h4 h5 h6 h7
  have HW0 := Aside0.mk (Below.refl w.heap.size w)
  go_enter Tryd.func14, Tryd.ntmps14
  go_upto_region 3 with (first | ((with_reducible refine gate_dst (N := 2) rfl ?_); refine box_event ?hg (N := 2) ?hd (cs := #[.string a.f0, .int .u16 a.f1, .string a.f2, .slice A a.f3.length c]) (t := 50) ?hr ?_; (case hd => rfl); (case hg => rfl); (case hr => first | (go_simp; done) | (go_simp; rfl)); intro ga hg w1 hbox hb; have HW1 := Aside0.mk (below_step HW0.out hb); have BKa_1 := Aside0.mk hbox; obtain ⟨⟨x0a, x1a, x2a, x3a⟩, ⟨f0a, f1a, f2a, f3a⟩⟩ := blk50 BKa_1.out; clear hb hbox hg) | ((with_reducible refine gate_dst (N := 3) rfl ?_); refine box_event ?hg (N := 3) ?hd (cs := #[.string b.f0, .int .u16 b.f1, .string b.f2, .slice B b.f3.length d]) (t := 50) ?hr ?_; (case hd => rfl); (case hg => rfl); (case hr => first | (go_simp; done) | (go_simp; rfl)); intro gb hg w2 hbox hb; clear x0a x1a x2a x3a f0a f1a f2a f3a; have HW2 := Aside0.mk (below_step HW1.out hb); have BKa_2 := Aside0.mk (blk_below BKa_1.out hb); have BKb_2 := Aside0.mk hbox; obtain ⟨⟨x0a, x1a, x2a, x3a⟩, ⟨f0a, f1a, f2a, f3a⟩⟩ := blk50 BKa_2.out; obtain ⟨⟨x0b, x1b, x2b, x3b⟩, ⟨f0b, f1b, f2b, f3b⟩⟩ := blk50 BKb_2.out; clear hb hbox hg) | (go_at_call 38; (with_reducible refine (pidginlaw05_small.calls k a.f0 a.f1 a.f2 A c a.f3 true _ (Kd.C_below HRa.out HW2.out) HCa.out H1.out).mono ?_); rintro ex w3 ⟨rfl, hb⟩; clear x0a x1a x2a x3a f0a f1a f2a f3a x0b x1b x2b x3b f0b f1b f2b f3b; have HW3 := Aside0.mk (below_step HW2.out hb); have BKa_3 := Aside0.mk (blk_below BKa_2.out hb); have BKb_3 := Aside0.mk (blk_below BKb_2.out hb); obtain ⟨⟨x0a, x1a, x2a, x3a⟩, ⟨f0a, f1a, f2a, f3a⟩⟩ := blk50 BKa_3.out; obtain ⟨⟨x0b, x1b, x2b, x3b⟩, ⟨f0b, f1b, f2b, f3b⟩⟩ := blk50 BKb_3.out; clear hb) | (go_at_call 38; (with_reducible refine (pidginlaw05_small.calls k b.f0 b.f1 b.f2 B d b.f3 true _ (Kd.C_below HRb.out HW3.out) HCb.out H2.out).mono ?_); rintro ex w4 ⟨rfl, hb⟩; clear x0a x1a x2a x3a f0a f1a f2a f3a x0b x1b x2b x3b f0b f1b f2b f3b; have HW4 := Aside0.mk (below_step HW3.out hb); have BKa_4 := Aside0.mk (blk_below BKa_3.out hb); have BKb_4 := Aside0.mk (blk_below BKb_3.out hb); obtain ⟨⟨x0a, x1a, x2a, x3a⟩, ⟨f0a, f1a, f2a, f3a⟩⟩ := blk50 BKa_4.out; obtain ⟨⟨x0b, x1b, x2b, x3b⟩, ⟨f0b, f1b, f2b, f3b⟩⟩ := blk50 BKb_4.out; clear hb))
  go_upto_region 4 with (first | (go_at_call 44; (with_reducible refine (expr_Show.calls k a.f0 a.f1 a.f2 A c a.f3 tx 0 _ ⟨G0.below hG.out HW4.out⟩ (Kd.C_below HRa.out HW4.out) HCa.out H3.out).mono ?_); rintro ex w5 ⟨rfl, hb⟩; clear x0a x1a x2a x3a f0a f1a f2a f3a x0b x1b x2b x3b f0b f1b f2b f3b; have HW5 := Aside0.mk (below_step HW4.out hb); have BKa_5 := Aside0.mk (blk_below BKa_4.out hb); have BKb_5 := Aside0.mk (blk_below BKb_4.out hb); obtain ⟨⟨x0a, x1a, x2a, x3a⟩, ⟨f0a, f1a, f2a, f3a⟩⟩ := blk50 BKa_5.out; obtain ⟨⟨x0b, x1b, x2b, x3b⟩, ⟨f0b, f1b, f2b, f3b⟩⟩ := blk50 BKb_5.out; clear hb))
  go_upto_region 5 with (first | (go_at_call 44; (with_reducible refine (expr_Show.calls k b.f0 b.f1 b.f2 B d b.f3 tx 0 _ ⟨G0.below hG.out HW5.out⟩ (Kd.C_below HRb.out HW5.out) HCb.out H4.out).mono ?_); rintro ex w6 ⟨rfl, hb⟩; clear x0a x1a x2a x3a f0a f1a f2a f3a x0b x1b x2b x3b f0b f1b f2b f3b; have HW6 := Aside0.mk (below_step HW5.out hb); have BKa_6 := Aside0.mk (blk_below BKa_5.out hb); have BKb_6 := Aside0.mk (blk_below BKb_5.out hb); obtain ⟨⟨x0a, x1a, x2a, x3a⟩, ⟨f0a, f1a, f2a, f3a⟩⟩ := blk50 BKa_6.out; obtain ⟨⟨x0b, x1b, x2b, x3b⟩, ⟨f0b, f1b, f2b, f3b⟩⟩ := blk50 BKb_6.out; clear hb))
  go_upto_region 6 with (first | (go_at_call 49; (with_reducible refine (expr_Same.calls a.f0 a.f1 a.f2 A c a.f3 b.f0 b.f1 b.f2 B d b.f3 true _ (Kd.C_below HRa.out HW6.out) HCa.out (Kd.C_below HRb.out HW6.out) HCb.out H5.out).mono ?_); rintro ex w7 ⟨rfl, hb⟩; clear x0a x1a x2a x3a f0a f1a f2a f3a x0b x1b x2b x3b f0b f1b f2b f3b; have HW7 := Aside0.mk (below_step HW6.out hb); have BKa_7 := Aside0.mk (blk_below BKa_6.out hb); have BKb_7 := Aside0.mk (blk_below BKb_6.out hb); obtain ⟨⟨x0a, x1a, x2a, x3a⟩, ⟨f0a, f1a, f2a, f3a⟩⟩ := blk50 BKa_7.out; obtain ⟨⟨x0b, x1b, x2b, x3b⟩, ⟨f0b, f1b, f2b, f3b⟩⟩ := blk50 BKb_7.out; clear hb))
  go_wp2_with (first | (go_at_call 49; (with_reducible refine (expr_Same.calls a.f0 a.f1 a.f2 A c a.f3 a.f0 a.f1 a.f2 A c a.f3 true _ (Kd.C_below HRa.out HW7.out) HCa.out (Kd.C_below HRa.out HW7.out) HCa.out H6.out).mono ?_); rintro ex w8 ⟨rfl, hb⟩; clear x0a x1a x2a x3a f0a f1a f2a f3a x0b x1b x2b x3b f0b f1b f2b f3b; have HW8 := Aside0.mk (below_step HW7.out hb); have BKa_8 := Aside0.mk (blk_below BKa_7.out hb); have BKb_8 := Aside0.mk (blk_below BKb_7.out hb); obtain ⟨⟨x0a, x1a, x2a, x3a⟩, ⟨f0a, f1a, f2a, f3a⟩⟩ := blk50 BKa_8.out; obtain ⟨⟨x0b, x1b, x2b, x3b⟩, ⟨f0b, f1b, f2b, f3b⟩⟩ := blk50 BKb_8.out; clear hb) | (go_at_call 49; (with_reducible refine (expr_Same.calls b.f0 b.f1 b.f2 B d b.f3 a.f0 a.f1 a.f2 A c a.f3 true _ (Kd.C_below HRb.out HW8.out) HCb.out (Kd.C_below HRa.out HW8.out) HCa.out H7.out).mono ?_); rintro ex w9 ⟨rfl, hb⟩; clear x0a x1a x2a x3a f0a f1a f2a f3a x0b x1b x2b x3b f0b f1b f2b f3b; have HW9 := Aside0.mk (below_step HW8.out hb); have BKa_9 := Aside0.mk (blk_below BKa_8.out hb); have BKb_9 := Aside0.mk (blk_below BKb_8.out hb); obtain ⟨⟨x0a, x1a, x2a, x3a⟩, ⟨f0a, f1a, f2a, f3a⟩⟩ := blk50 BKa_9.out; obtain ⟨⟨x0b, x1b, x2b, x3b⟩, ⟨f0b, f1b, f2b, f3b⟩⟩ := blk50 BKb_9.out; clear hb) | (go_at_call 39; (with_reducible refine (AliveC.alive_calls _ ⟨G0.below hG.out HW9.out⟩).mono ?_); rintro ex w10 ⟨rfl, hb⟩; clear x0a x1a x2a x3a f0a f1a f2a f3a x0b x1b x2b x3b f0b f1b f2b f3b; have HW10 := Aside0.mk (below_step HW9.out hb); have BKa_10 := Aside0.mk (blk_below BKa_9.out hb); have BKb_10 := Aside0.mk (blk_below BKb_9.out hb); obtain ⟨⟨x0a, x1a, x2a, x3a⟩, ⟨f0a, f1a, f2a, f3a⟩⟩ := blk50 BKa_10.out; obtain ⟨⟨x0b, x1b, x2b, x3b⟩, ⟨f0b, f1b, f2b, f3b⟩⟩ := blk50 BKb_10.out; clear hb))
  go_ret
  exact ⟨rfl, HW10.out⟩
set_option maxHeartbeats 32000000 in
set_option maxRecDepth 100000 in
theorem alike_same2 (k : Nat) (a : S50) (A : Option Addr) (c : Nat) (b : S50) (B : Option Addr) (d : Nat) (tx : ByteArray) (w : World) (hG : Aside0 (G0 w)) (hra : Kd.C k50 w A a.f3.length a.f3) (hca : a.f3.length ≤ c) (hrb : Kd.C k50 w B b.f3.length b.f3) (hcb : b.f3.length ≤ d) (h1 : pidginlaw05_small.f k a.f0 a.f1 a.f2 a.f3 = some true) (h2 : pidginlaw05_small.f k b.f0 b.f1 b.f2 b.f3 = some true) (h3 : expr_Show.f k a.f0 a.f1 a.f2 a.f3 = some (tx, 2)) (h4 : expr_Show.f k b.f0 b.f1 b.f2 b.f3 = some (tx, 2)) (h5 : expr_Same.f a.f0 a.f1 a.f2 a.f3 b.f0 b.f1 b.f2 b.f3 = some true) (h6 : expr_Same.f a.f0 a.f1 a.f2 a.f3 a.f0 a.f1 a.f2 a.f3 = some true) (h7 : expr_Same.f b.f0 b.f1 b.f2 b.f3 a.f0 a.f1 a.f2 a.f3 = some true) (ht : (tx.toList == tx.toList) = true) : Calls Tryd.prog 14 #[.agg #[.string a.f0, .int .u16 a.f1, .string a.f2, .slice A a.f3.length c], .agg #[.string b.f0, .int .u16 b.f1, .string b.f2, .slice B b.f3.length d]] w fun e w' => e = .returned (.bool true) ∧ Below w.heap.size w w' := by
  have hu50 := Tryd.underlying50
  have HRa := Aside0.mk hra
  have HCa := Aside0.mk hca
  have HRb := Aside0.mk hrb
  have HCb := Aside0.mk hcb
  have H1 := Aside0.mk h1
  have H2 := Aside0.mk h2
  have H3 := Aside0.mk h3
  have H4 := Aside0.mk h4
  have H5 := Aside0.mk h5
  have H6 := Aside0.mk h6
  have H7 := Aside0.mk h7
  clear hra hca hrb hcb h1 h2 h3 h4 h5 h6 h7
  have HW0 := Aside0.mk (Below.refl w.heap.size w)
  go_enter Tryd.func14, Tryd.ntmps14
  go_upto_region 3 with (first | ((with_reducible refine gate_dst (N := 2) rfl ?_); refine box_event ?hg (N := 2) ?hd (cs := #[.string a.f0, .int .u16 a.f1, .string a.f2, .slice A a.f3.length c]) (t := 50) ?hr ?_; (case hd => rfl); (case hg => rfl); (case hr => first | (go_simp; done) | (go_simp; rfl)); intro ga hg w1 hbox hb; have HW1 := Aside0.mk (below_step HW0.out hb); have BKa_1 := Aside0.mk hbox; obtain ⟨⟨x0a, x1a, x2a, x3a⟩, ⟨f0a, f1a, f2a, f3a⟩⟩ := blk50 BKa_1.out; clear hb hbox hg) | ((with_reducible refine gate_dst (N := 3) rfl ?_); refine box_event ?hg (N := 3) ?hd (cs := #[.string b.f0, .int .u16 b.f1, .string b.f2, .slice B b.f3.length d]) (t := 50) ?hr ?_; (case hd => rfl); (case hg => rfl); (case hr => first | (go_simp; done) | (go_simp; rfl)); intro gb hg w2 hbox hb; clear x0a x1a x2a x3a f0a f1a f2a f3a; have HW2 := Aside0.mk (below_step HW1.out hb); have BKa_2 := Aside0.mk (blk_below BKa_1.out hb); have BKb_2 := Aside0.mk hbox; obtain ⟨⟨x0a, x1a, x2a, x3a⟩, ⟨f0a, f1a, f2a, f3a⟩⟩ := blk50 BKa_2.out; obtain ⟨⟨x0b, x1b, x2b, x3b⟩, ⟨f0b, f1b, f2b, f3b⟩⟩ := blk50 BKb_2.out; clear hb hbox hg) | (go_at_call 38; (with_reducible refine (pidginlaw05_small.calls k a.f0 a.f1 a.f2 A c a.f3 true _ (Kd.C_below HRa.out HW2.out) HCa.out H1.out).mono ?_); rintro ex w3 ⟨rfl, hb⟩; clear x0a x1a x2a x3a f0a f1a f2a f3a x0b x1b x2b x3b f0b f1b f2b f3b; have HW3 := Aside0.mk (below_step HW2.out hb); have BKa_3 := Aside0.mk (blk_below BKa_2.out hb); have BKb_3 := Aside0.mk (blk_below BKb_2.out hb); obtain ⟨⟨x0a, x1a, x2a, x3a⟩, ⟨f0a, f1a, f2a, f3a⟩⟩ := blk50 BKa_3.out; obtain ⟨⟨x0b, x1b, x2b, x3b⟩, ⟨f0b, f1b, f2b, f3b⟩⟩ := blk50 BKb_3.out; clear hb) | (go_at_call 38; (with_reducible refine (pidginlaw05_small.calls k b.f0 b.f1 b.f2 B d b.f3 true _ (Kd.C_below HRb.out HW3.out) HCb.out H2.out).mono ?_); rintro ex w4 ⟨rfl, hb⟩; clear x0a x1a x2a x3a f0a f1a f2a f3a x0b x1b x2b x3b f0b f1b f2b f3b; have HW4 := Aside0.mk (below_step HW3.out hb); have BKa_4 := Aside0.mk (blk_below BKa_3.out hb); have BKb_4 := Aside0.mk (blk_below BKb_3.out hb); obtain ⟨⟨x0a, x1a, x2a, x3a⟩, ⟨f0a, f1a, f2a, f3a⟩⟩ := blk50 BKa_4.out; obtain ⟨⟨x0b, x1b, x2b, x3b⟩, ⟨f0b, f1b, f2b, f3b⟩⟩ := blk50 BKb_4.out; clear hb))
  go_upto_region 4 with (first | (go_at_call 44; (with_reducible refine (expr_Show.calls k a.f0 a.f1 a.f2 A c a.f3 tx 2 _ ⟨G0.below hG.out HW4.out⟩ (Kd.C_below HRa.out HW4.out) HCa.out H3.out).mono ?_); rintro ex w5 ⟨rfl, hb⟩; clear x0a x1a x2a x3a f0a f1a f2a f3a x0b x1b x2b x3b f0b f1b f2b f3b; have HW5 := Aside0.mk (below_step HW4.out hb); have BKa_5 := Aside0.mk (blk_below BKa_4.out hb); have BKb_5 := Aside0.mk (blk_below BKb_4.out hb); obtain ⟨⟨x0a, x1a, x2a, x3a⟩, ⟨f0a, f1a, f2a, f3a⟩⟩ := blk50 BKa_5.out; obtain ⟨⟨x0b, x1b, x2b, x3b⟩, ⟨f0b, f1b, f2b, f3b⟩⟩ := blk50 BKb_5.out; clear hb))
  go_upto_region 5 with (first | (go_at_call 44; (with_reducible refine (expr_Show.calls k b.f0 b.f1 b.f2 B d b.f3 tx 2 _ ⟨G0.below hG.out HW5.out⟩ (Kd.C_below HRb.out HW5.out) HCb.out H4.out).mono ?_); rintro ex w6 ⟨rfl, hb⟩; clear x0a x1a x2a x3a f0a f1a f2a f3a x0b x1b x2b x3b f0b f1b f2b f3b; have HW6 := Aside0.mk (below_step HW5.out hb); have BKa_6 := Aside0.mk (blk_below BKa_5.out hb); have BKb_6 := Aside0.mk (blk_below BKb_5.out hb); obtain ⟨⟨x0a, x1a, x2a, x3a⟩, ⟨f0a, f1a, f2a, f3a⟩⟩ := blk50 BKa_6.out; obtain ⟨⟨x0b, x1b, x2b, x3b⟩, ⟨f0b, f1b, f2b, f3b⟩⟩ := blk50 BKb_6.out; clear hb))
  go_upto_region 6 with (first | (go_at_call 49; (with_reducible refine (expr_Same.calls a.f0 a.f1 a.f2 A c a.f3 b.f0 b.f1 b.f2 B d b.f3 true _ (Kd.C_below HRa.out HW6.out) HCa.out (Kd.C_below HRb.out HW6.out) HCb.out H5.out).mono ?_); rintro ex w7 ⟨rfl, hb⟩; clear x0a x1a x2a x3a f0a f1a f2a f3a x0b x1b x2b x3b f0b f1b f2b f3b; have HW7 := Aside0.mk (below_step HW6.out hb); have BKa_7 := Aside0.mk (blk_below BKa_6.out hb); have BKb_7 := Aside0.mk (blk_below BKb_6.out hb); obtain ⟨⟨x0a, x1a, x2a, x3a⟩, ⟨f0a, f1a, f2a, f3a⟩⟩ := blk50 BKa_7.out; obtain ⟨⟨x0b, x1b, x2b, x3b⟩, ⟨f0b, f1b, f2b, f3b⟩⟩ := blk50 BKb_7.out; clear hb))
  go_wp2_with (first | (go_at_call 49; (with_reducible refine (expr_Same.calls a.f0 a.f1 a.f2 A c a.f3 a.f0 a.f1 a.f2 A c a.f3 true _ (Kd.C_below HRa.out HW7.out) HCa.out (Kd.C_below HRa.out HW7.out) HCa.out H6.out).mono ?_); rintro ex w8 ⟨rfl, hb⟩; clear x0a x1a x2a x3a f0a f1a f2a f3a x0b x1b x2b x3b f0b f1b f2b f3b; have HW8 := Aside0.mk (below_step HW7.out hb); have BKa_8 := Aside0.mk (blk_below BKa_7.out hb); have BKb_8 := Aside0.mk (blk_below BKb_7.out hb); obtain ⟨⟨x0a, x1a, x2a, x3a⟩, ⟨f0a, f1a, f2a, f3a⟩⟩ := blk50 BKa_8.out; obtain ⟨⟨x0b, x1b, x2b, x3b⟩, ⟨f0b, f1b, f2b, f3b⟩⟩ := blk50 BKb_8.out; clear hb) | (go_at_call 49; (with_reducible refine (expr_Same.calls b.f0 b.f1 b.f2 B d b.f3 a.f0 a.f1 a.f2 A c a.f3 true _ (Kd.C_below HRb.out HW8.out) HCb.out (Kd.C_below HRa.out HW8.out) HCa.out H7.out).mono ?_); rintro ex w9 ⟨rfl, hb⟩; clear x0a x1a x2a x3a f0a f1a f2a f3a x0b x1b x2b x3b f0b f1b f2b f3b; have HW9 := Aside0.mk (below_step HW8.out hb); have BKa_9 := Aside0.mk (blk_below BKa_8.out hb); have BKb_9 := Aside0.mk (blk_below BKb_8.out hb); obtain ⟨⟨x0a, x1a, x2a, x3a⟩, ⟨f0a, f1a, f2a, f3a⟩⟩ := blk50 BKa_9.out; obtain ⟨⟨x0b, x1b, x2b, x3b⟩, ⟨f0b, f1b, f2b, f3b⟩⟩ := blk50 BKb_9.out; clear hb) | (go_at_call 39; (with_reducible refine (AliveC.alive_calls _ ⟨G0.below hG.out HW9.out⟩).mono ?_); rintro ex w10 ⟨rfl, hb⟩; clear x0a x1a x2a x3a f0a f1a f2a f3a x0b x1b x2b x3b f0b f1b f2b f3b; have HW10 := Aside0.mk (below_step HW9.out hb); have BKa_10 := Aside0.mk (blk_below BKa_9.out hb); have BKb_10 := Aside0.mk (blk_below BKb_9.out hb); obtain ⟨⟨x0a, x1a, x2a, x3a⟩, ⟨f0a, f1a, f2a, f3a⟩⟩ := blk50 BKa_10.out; obtain ⟨⟨x0b, x1b, x2b, x3b⟩, ⟨f0b, f1b, f2b, f3b⟩⟩ := blk50 BKb_10.out; clear hb))
  go_ret
  exact ⟨rfl, HW10.out⟩
set_option maxHeartbeats 32000000 in
set_option maxRecDepth 100000 in
theorem alike_wrong (k : Nat) (a : S50) (A : Option Addr) (c : Nat) (b : S50) (B : Option Addr) (d : Nat) (tx ty : ByteArray) (j : Int) (w : World) (hG : Aside0 (G0 w)) (hra : Kd.C k50 w A a.f3.length a.f3) (hca : a.f3.length ≤ c) (hrb : Kd.C k50 w B b.f3.length b.f3) (hcb : b.f3.length ≤ d) (h1 : pidginlaw05_small.f k a.f0 a.f1 a.f2 a.f3 = some true) (h2 : pidginlaw05_small.f k b.f0 b.f1 b.f2 b.f3 = some true) (h3 : expr_Show.f k a.f0 a.f1 a.f2 a.f3 = some (tx, 2)) (h4 : expr_Show.f k b.f0 b.f1 b.f2 b.f3 = some (ty, j)) (h5 : expr_Same.f a.f0 a.f1 a.f2 a.f3 b.f0 b.f1 b.f2 b.f3 = some false) (h6 : expr_Same.f a.f0 a.f1 a.f2 a.f3 a.f0 a.f1 a.f2 a.f3 = some true) (h7 : expr_Same.f b.f0 b.f1 b.f2 b.f3 a.f0 a.f1 a.f2 a.f3 = some false) : Calls Tryd.prog 14 #[.agg #[.string a.f0, .int .u16 a.f1, .string a.f2, .slice A a.f3.length c], .agg #[.string b.f0, .int .u16 b.f1, .string b.f2, .slice B b.f3.length d]] w fun e w' => e = .returned (.bool true) ∧ Below w.heap.size w w' := by
  have hu50 := Tryd.underlying50
  have HRa := Aside0.mk hra
  have HCa := Aside0.mk hca
  have HRb := Aside0.mk hrb
  have HCb := Aside0.mk hcb
  have H1 := Aside0.mk h1
  have H2 := Aside0.mk h2
  have H3 := Aside0.mk h3
  have H4 := Aside0.mk h4
  have H5 := Aside0.mk h5
  have H6 := Aside0.mk h6
  have H7 := Aside0.mk h7
  clear hra hca hrb hcb h1 h2 h3 h4 h5 h6 h7
  have HW0 := Aside0.mk (Below.refl w.heap.size w)
  go_enter Tryd.func14, Tryd.ntmps14
  go_upto_region 3 with (first | ((with_reducible refine gate_dst (N := 2) rfl ?_); refine box_event ?hg (N := 2) ?hd (cs := #[.string a.f0, .int .u16 a.f1, .string a.f2, .slice A a.f3.length c]) (t := 50) ?hr ?_; (case hd => rfl); (case hg => rfl); (case hr => first | (go_simp; done) | (go_simp; rfl)); intro ga hg w1 hbox hb; have HW1 := Aside0.mk (below_step HW0.out hb); have BKa_1 := Aside0.mk hbox; obtain ⟨⟨x0a, x1a, x2a, x3a⟩, ⟨f0a, f1a, f2a, f3a⟩⟩ := blk50 BKa_1.out; clear hb hbox hg) | ((with_reducible refine gate_dst (N := 3) rfl ?_); refine box_event ?hg (N := 3) ?hd (cs := #[.string b.f0, .int .u16 b.f1, .string b.f2, .slice B b.f3.length d]) (t := 50) ?hr ?_; (case hd => rfl); (case hg => rfl); (case hr => first | (go_simp; done) | (go_simp; rfl)); intro gb hg w2 hbox hb; clear x0a x1a x2a x3a f0a f1a f2a f3a; have HW2 := Aside0.mk (below_step HW1.out hb); have BKa_2 := Aside0.mk (blk_below BKa_1.out hb); have BKb_2 := Aside0.mk hbox; obtain ⟨⟨x0a, x1a, x2a, x3a⟩, ⟨f0a, f1a, f2a, f3a⟩⟩ := blk50 BKa_2.out; obtain ⟨⟨x0b, x1b, x2b, x3b⟩, ⟨f0b, f1b, f2b, f3b⟩⟩ := blk50 BKb_2.out; clear hb hbox hg) | (go_at_call 38; (with_reducible refine (pidginlaw05_small.calls k a.f0 a.f1 a.f2 A c a.f3 true _ (Kd.C_below HRa.out HW2.out) HCa.out H1.out).mono ?_); rintro ex w3 ⟨rfl, hb⟩; clear x0a x1a x2a x3a f0a f1a f2a f3a x0b x1b x2b x3b f0b f1b f2b f3b; have HW3 := Aside0.mk (below_step HW2.out hb); have BKa_3 := Aside0.mk (blk_below BKa_2.out hb); have BKb_3 := Aside0.mk (blk_below BKb_2.out hb); obtain ⟨⟨x0a, x1a, x2a, x3a⟩, ⟨f0a, f1a, f2a, f3a⟩⟩ := blk50 BKa_3.out; obtain ⟨⟨x0b, x1b, x2b, x3b⟩, ⟨f0b, f1b, f2b, f3b⟩⟩ := blk50 BKb_3.out; clear hb) | (go_at_call 38; (with_reducible refine (pidginlaw05_small.calls k b.f0 b.f1 b.f2 B d b.f3 true _ (Kd.C_below HRb.out HW3.out) HCb.out H2.out).mono ?_); rintro ex w4 ⟨rfl, hb⟩; clear x0a x1a x2a x3a f0a f1a f2a f3a x0b x1b x2b x3b f0b f1b f2b f3b; have HW4 := Aside0.mk (below_step HW3.out hb); have BKa_4 := Aside0.mk (blk_below BKa_3.out hb); have BKb_4 := Aside0.mk (blk_below BKb_3.out hb); obtain ⟨⟨x0a, x1a, x2a, x3a⟩, ⟨f0a, f1a, f2a, f3a⟩⟩ := blk50 BKa_4.out; obtain ⟨⟨x0b, x1b, x2b, x3b⟩, ⟨f0b, f1b, f2b, f3b⟩⟩ := blk50 BKb_4.out; clear hb))
  go_upto_region 4 with (first | (go_at_call 44; (with_reducible refine (expr_Show.calls k a.f0 a.f1 a.f2 A c a.f3 tx 2 _ ⟨G0.below hG.out HW4.out⟩ (Kd.C_below HRa.out HW4.out) HCa.out H3.out).mono ?_); rintro ex w5 ⟨rfl, hb⟩; clear x0a x1a x2a x3a f0a f1a f2a f3a x0b x1b x2b x3b f0b f1b f2b f3b; have HW5 := Aside0.mk (below_step HW4.out hb); have BKa_5 := Aside0.mk (blk_below BKa_4.out hb); have BKb_5 := Aside0.mk (blk_below BKb_4.out hb); obtain ⟨⟨x0a, x1a, x2a, x3a⟩, ⟨f0a, f1a, f2a, f3a⟩⟩ := blk50 BKa_5.out; obtain ⟨⟨x0b, x1b, x2b, x3b⟩, ⟨f0b, f1b, f2b, f3b⟩⟩ := blk50 BKb_5.out; clear hb))
  go_upto_region 5 with (first | (go_at_call 44; (with_reducible refine (expr_Show.calls k b.f0 b.f1 b.f2 B d b.f3 ty j _ ⟨G0.below hG.out HW5.out⟩ (Kd.C_below HRb.out HW5.out) HCb.out H4.out).mono ?_); rintro ex w6 ⟨rfl, hb⟩; clear x0a x1a x2a x3a f0a f1a f2a f3a x0b x1b x2b x3b f0b f1b f2b f3b; have HW6 := Aside0.mk (below_step HW5.out hb); have BKa_6 := Aside0.mk (blk_below BKa_5.out hb); have BKb_6 := Aside0.mk (blk_below BKb_5.out hb); obtain ⟨⟨x0a, x1a, x2a, x3a⟩, ⟨f0a, f1a, f2a, f3a⟩⟩ := blk50 BKa_6.out; obtain ⟨⟨x0b, x1b, x2b, x3b⟩, ⟨f0b, f1b, f2b, f3b⟩⟩ := blk50 BKb_6.out; clear hb))
  go_upto_region 6 with (first | (go_at_call 49; (with_reducible refine (expr_Same.calls a.f0 a.f1 a.f2 A c a.f3 b.f0 b.f1 b.f2 B d b.f3 false _ (Kd.C_below HRa.out HW6.out) HCa.out (Kd.C_below HRb.out HW6.out) HCb.out H5.out).mono ?_); rintro ex w7 ⟨rfl, hb⟩; clear x0a x1a x2a x3a f0a f1a f2a f3a x0b x1b x2b x3b f0b f1b f2b f3b; have HW7 := Aside0.mk (below_step HW6.out hb); have BKa_7 := Aside0.mk (blk_below BKa_6.out hb); have BKb_7 := Aside0.mk (blk_below BKb_6.out hb); obtain ⟨⟨x0a, x1a, x2a, x3a⟩, ⟨f0a, f1a, f2a, f3a⟩⟩ := blk50 BKa_7.out; obtain ⟨⟨x0b, x1b, x2b, x3b⟩, ⟨f0b, f1b, f2b, f3b⟩⟩ := blk50 BKb_7.out; clear hb))
  go_wp2_with (first | (go_at_call 49; (with_reducible refine (expr_Same.calls a.f0 a.f1 a.f2 A c a.f3 a.f0 a.f1 a.f2 A c a.f3 true _ (Kd.C_below HRa.out HW7.out) HCa.out (Kd.C_below HRa.out HW7.out) HCa.out H6.out).mono ?_); rintro ex w8 ⟨rfl, hb⟩; clear x0a x1a x2a x3a f0a f1a f2a f3a x0b x1b x2b x3b f0b f1b f2b f3b; have HW8 := Aside0.mk (below_step HW7.out hb); have BKa_8 := Aside0.mk (blk_below BKa_7.out hb); have BKb_8 := Aside0.mk (blk_below BKb_7.out hb); obtain ⟨⟨x0a, x1a, x2a, x3a⟩, ⟨f0a, f1a, f2a, f3a⟩⟩ := blk50 BKa_8.out; obtain ⟨⟨x0b, x1b, x2b, x3b⟩, ⟨f0b, f1b, f2b, f3b⟩⟩ := blk50 BKb_8.out; clear hb) | (go_at_call 49; (with_reducible refine (expr_Same.calls b.f0 b.f1 b.f2 B d b.f3 a.f0 a.f1 a.f2 A c a.f3 false _ (Kd.C_below HRb.out HW8.out) HCb.out (Kd.C_below HRa.out HW8.out) HCa.out H7.out).mono ?_); rintro ex w9 ⟨rfl, hb⟩; clear x0a x1a x2a x3a f0a f1a f2a f3a x0b x1b x2b x3b f0b f1b f2b f3b; have HW9 := Aside0.mk (below_step HW8.out hb); have BKa_9 := Aside0.mk (blk_below BKa_8.out hb); have BKb_9 := Aside0.mk (blk_below BKb_8.out hb); obtain ⟨⟨x0a, x1a, x2a, x3a⟩, ⟨f0a, f1a, f2a, f3a⟩⟩ := blk50 BKa_9.out; obtain ⟨⟨x0b, x1b, x2b, x3b⟩, ⟨f0b, f1b, f2b, f3b⟩⟩ := blk50 BKb_9.out; clear hb) | (go_at_call 39; (with_reducible refine (AliveC.alive_calls _ ⟨G0.below hG.out HW9.out⟩).mono ?_); rintro ex w10 ⟨rfl, hb⟩; clear x0a x1a x2a x3a f0a f1a f2a f3a x0b x1b x2b x3b f0b f1b f2b f3b; have HW10 := Aside0.mk (below_step HW9.out hb); have BKa_10 := Aside0.mk (blk_below BKa_9.out hb); have BKb_10 := Aside0.mk (blk_below BKb_9.out hb); obtain ⟨⟨x0a, x1a, x2a, x3a⟩, ⟨f0a, f1a, f2a, f3a⟩⟩ := blk50 BKa_10.out; obtain ⟨⟨x0b, x1b, x2b, x3b⟩, ⟨f0b, f1b, f2b, f3b⟩⟩ := blk50 BKb_10.out; clear hb))
  go_ret
  exact ⟨rfl, HW10.out⟩
set_option maxHeartbeats 32000000 in
set_option maxRecDepth 100000 in
theorem alike_wrong2 (k : Nat) (a : S50) (A : Option Addr) (c : Nat) (b : S50) (B : Option Addr) (d : Nat) (tx ty : ByteArray) (w : World) (hG : Aside0 (G0 w)) (hra : Kd.C k50 w A a.f3.length a.f3) (hca : a.f3.length ≤ c) (hrb : Kd.C k50 w B b.f3.length b.f3) (hcb : b.f3.length ≤ d) (h1 : pidginlaw05_small.f k a.f0 a.f1 a.f2 a.f3 = some true) (h2 : pidginlaw05_small.f k b.f0 b.f1 b.f2 b.f3 = some true) (h3 : expr_Show.f k a.f0 a.f1 a.f2 a.f3 = some (tx, 0)) (h4 : expr_Show.f k b.f0 b.f1 b.f2 b.f3 = some (ty, 2)) (h5 : expr_Same.f a.f0 a.f1 a.f2 a.f3 b.f0 b.f1 b.f2 b.f3 = some false) (h6 : expr_Same.f a.f0 a.f1 a.f2 a.f3 a.f0 a.f1 a.f2 a.f3 = some true) (h7 : expr_Same.f b.f0 b.f1 b.f2 b.f3 a.f0 a.f1 a.f2 a.f3 = some false) : Calls Tryd.prog 14 #[.agg #[.string a.f0, .int .u16 a.f1, .string a.f2, .slice A a.f3.length c], .agg #[.string b.f0, .int .u16 b.f1, .string b.f2, .slice B b.f3.length d]] w fun e w' => e = .returned (.bool true) ∧ Below w.heap.size w w' := by
  have hu50 := Tryd.underlying50
  have HRa := Aside0.mk hra
  have HCa := Aside0.mk hca
  have HRb := Aside0.mk hrb
  have HCb := Aside0.mk hcb
  have H1 := Aside0.mk h1
  have H2 := Aside0.mk h2
  have H3 := Aside0.mk h3
  have H4 := Aside0.mk h4
  have H5 := Aside0.mk h5
  have H6 := Aside0.mk h6
  have H7 := Aside0.mk h7
  clear hra hca hrb hcb h1 h2 h3 h4 h5 h6 h7
  have HW0 := Aside0.mk (Below.refl w.heap.size w)
  go_enter Tryd.func14, Tryd.ntmps14
  go_upto_region 3 with (first | ((with_reducible refine gate_dst (N := 2) rfl ?_); refine box_event ?hg (N := 2) ?hd (cs := #[.string a.f0, .int .u16 a.f1, .string a.f2, .slice A a.f3.length c]) (t := 50) ?hr ?_; (case hd => rfl); (case hg => rfl); (case hr => first | (go_simp; done) | (go_simp; rfl)); intro ga hg w1 hbox hb; have HW1 := Aside0.mk (below_step HW0.out hb); have BKa_1 := Aside0.mk hbox; obtain ⟨⟨x0a, x1a, x2a, x3a⟩, ⟨f0a, f1a, f2a, f3a⟩⟩ := blk50 BKa_1.out; clear hb hbox hg) | ((with_reducible refine gate_dst (N := 3) rfl ?_); refine box_event ?hg (N := 3) ?hd (cs := #[.string b.f0, .int .u16 b.f1, .string b.f2, .slice B b.f3.length d]) (t := 50) ?hr ?_; (case hd => rfl); (case hg => rfl); (case hr => first | (go_simp; done) | (go_simp; rfl)); intro gb hg w2 hbox hb; clear x0a x1a x2a x3a f0a f1a f2a f3a; have HW2 := Aside0.mk (below_step HW1.out hb); have BKa_2 := Aside0.mk (blk_below BKa_1.out hb); have BKb_2 := Aside0.mk hbox; obtain ⟨⟨x0a, x1a, x2a, x3a⟩, ⟨f0a, f1a, f2a, f3a⟩⟩ := blk50 BKa_2.out; obtain ⟨⟨x0b, x1b, x2b, x3b⟩, ⟨f0b, f1b, f2b, f3b⟩⟩ := blk50 BKb_2.out; clear hb hbox hg) | (go_at_call 38; (with_reducible refine (pidginlaw05_small.calls k a.f0 a.f1 a.f2 A c a.f3 true _ (Kd.C_below HRa.out HW2.out) HCa.out H1.out).mono ?_); rintro ex w3 ⟨rfl, hb⟩; clear x0a x1a x2a x3a f0a f1a f2a f3a x0b x1b x2b x3b f0b f1b f2b f3b; have HW3 := Aside0.mk (below_step HW2.out hb); have BKa_3 := Aside0.mk (blk_below BKa_2.out hb); have BKb_3 := Aside0.mk (blk_below BKb_2.out hb); obtain ⟨⟨x0a, x1a, x2a, x3a⟩, ⟨f0a, f1a, f2a, f3a⟩⟩ := blk50 BKa_3.out; obtain ⟨⟨x0b, x1b, x2b, x3b⟩, ⟨f0b, f1b, f2b, f3b⟩⟩ := blk50 BKb_3.out; clear hb) | (go_at_call 38; (with_reducible refine (pidginlaw05_small.calls k b.f0 b.f1 b.f2 B d b.f3 true _ (Kd.C_below HRb.out HW3.out) HCb.out H2.out).mono ?_); rintro ex w4 ⟨rfl, hb⟩; clear x0a x1a x2a x3a f0a f1a f2a f3a x0b x1b x2b x3b f0b f1b f2b f3b; have HW4 := Aside0.mk (below_step HW3.out hb); have BKa_4 := Aside0.mk (blk_below BKa_3.out hb); have BKb_4 := Aside0.mk (blk_below BKb_3.out hb); obtain ⟨⟨x0a, x1a, x2a, x3a⟩, ⟨f0a, f1a, f2a, f3a⟩⟩ := blk50 BKa_4.out; obtain ⟨⟨x0b, x1b, x2b, x3b⟩, ⟨f0b, f1b, f2b, f3b⟩⟩ := blk50 BKb_4.out; clear hb))
  go_upto_region 4 with (first | (go_at_call 44; (with_reducible refine (expr_Show.calls k a.f0 a.f1 a.f2 A c a.f3 tx 0 _ ⟨G0.below hG.out HW4.out⟩ (Kd.C_below HRa.out HW4.out) HCa.out H3.out).mono ?_); rintro ex w5 ⟨rfl, hb⟩; clear x0a x1a x2a x3a f0a f1a f2a f3a x0b x1b x2b x3b f0b f1b f2b f3b; have HW5 := Aside0.mk (below_step HW4.out hb); have BKa_5 := Aside0.mk (blk_below BKa_4.out hb); have BKb_5 := Aside0.mk (blk_below BKb_4.out hb); obtain ⟨⟨x0a, x1a, x2a, x3a⟩, ⟨f0a, f1a, f2a, f3a⟩⟩ := blk50 BKa_5.out; obtain ⟨⟨x0b, x1b, x2b, x3b⟩, ⟨f0b, f1b, f2b, f3b⟩⟩ := blk50 BKb_5.out; clear hb))
  go_upto_region 5 with (first | (go_at_call 44; (with_reducible refine (expr_Show.calls k b.f0 b.f1 b.f2 B d b.f3 ty 2 _ ⟨G0.below hG.out HW5.out⟩ (Kd.C_below HRb.out HW5.out) HCb.out H4.out).mono ?_); rintro ex w6 ⟨rfl, hb⟩; clear x0a x1a x2a x3a f0a f1a f2a f3a x0b x1b x2b x3b f0b f1b f2b f3b; have HW6 := Aside0.mk (below_step HW5.out hb); have BKa_6 := Aside0.mk (blk_below BKa_5.out hb); have BKb_6 := Aside0.mk (blk_below BKb_5.out hb); obtain ⟨⟨x0a, x1a, x2a, x3a⟩, ⟨f0a, f1a, f2a, f3a⟩⟩ := blk50 BKa_6.out; obtain ⟨⟨x0b, x1b, x2b, x3b⟩, ⟨f0b, f1b, f2b, f3b⟩⟩ := blk50 BKb_6.out; clear hb))
  go_upto_region 6 with (first | (go_at_call 49; (with_reducible refine (expr_Same.calls a.f0 a.f1 a.f2 A c a.f3 b.f0 b.f1 b.f2 B d b.f3 false _ (Kd.C_below HRa.out HW6.out) HCa.out (Kd.C_below HRb.out HW6.out) HCb.out H5.out).mono ?_); rintro ex w7 ⟨rfl, hb⟩; clear x0a x1a x2a x3a f0a f1a f2a f3a x0b x1b x2b x3b f0b f1b f2b f3b; have HW7 := Aside0.mk (below_step HW6.out hb); have BKa_7 := Aside0.mk (blk_below BKa_6.out hb); have BKb_7 := Aside0.mk (blk_below BKb_6.out hb); obtain ⟨⟨x0a, x1a, x2a, x3a⟩, ⟨f0a, f1a, f2a, f3a⟩⟩ := blk50 BKa_7.out; obtain ⟨⟨x0b, x1b, x2b, x3b⟩, ⟨f0b, f1b, f2b, f3b⟩⟩ := blk50 BKb_7.out; clear hb))
  go_wp2_with (first | (go_at_call 49; (with_reducible refine (expr_Same.calls a.f0 a.f1 a.f2 A c a.f3 a.f0 a.f1 a.f2 A c a.f3 true _ (Kd.C_below HRa.out HW7.out) HCa.out (Kd.C_below HRa.out HW7.out) HCa.out H6.out).mono ?_); rintro ex w8 ⟨rfl, hb⟩; clear x0a x1a x2a x3a f0a f1a f2a f3a x0b x1b x2b x3b f0b f1b f2b f3b; have HW8 := Aside0.mk (below_step HW7.out hb); have BKa_8 := Aside0.mk (blk_below BKa_7.out hb); have BKb_8 := Aside0.mk (blk_below BKb_7.out hb); obtain ⟨⟨x0a, x1a, x2a, x3a⟩, ⟨f0a, f1a, f2a, f3a⟩⟩ := blk50 BKa_8.out; obtain ⟨⟨x0b, x1b, x2b, x3b⟩, ⟨f0b, f1b, f2b, f3b⟩⟩ := blk50 BKb_8.out; clear hb) | (go_at_call 49; (with_reducible refine (expr_Same.calls b.f0 b.f1 b.f2 B d b.f3 a.f0 a.f1 a.f2 A c a.f3 false _ (Kd.C_below HRb.out HW8.out) HCb.out (Kd.C_below HRa.out HW8.out) HCa.out H7.out).mono ?_); rintro ex w9 ⟨rfl, hb⟩; clear x0a x1a x2a x3a f0a f1a f2a f3a x0b x1b x2b x3b f0b f1b f2b f3b; have HW9 := Aside0.mk (below_step HW8.out hb); have BKa_9 := Aside0.mk (blk_below BKa_8.out hb); have BKb_9 := Aside0.mk (blk_below BKb_8.out hb); obtain ⟨⟨x0a, x1a, x2a, x3a⟩, ⟨f0a, f1a, f2a, f3a⟩⟩ := blk50 BKa_9.out; obtain ⟨⟨x0b, x1b, x2b, x3b⟩, ⟨f0b, f1b, f2b, f3b⟩⟩ := blk50 BKb_9.out; clear hb) | (go_at_call 39; (with_reducible refine (AliveC.alive_calls _ ⟨G0.below hG.out HW9.out⟩).mono ?_); rintro ex w10 ⟨rfl, hb⟩; clear x0a x1a x2a x3a f0a f1a f2a f3a x0b x1b x2b x3b f0b f1b f2b f3b; have HW10 := Aside0.mk (below_step HW9.out hb); have BKa_10 := Aside0.mk (blk_below BKa_9.out hb); have BKb_10 := Aside0.mk (blk_below BKb_9.out hb); obtain ⟨⟨x0a, x1a, x2a, x3a⟩, ⟨f0a, f1a, f2a, f3a⟩⟩ := blk50 BKa_10.out; obtain ⟨⟨x0b, x1b, x2b, x3b⟩, ⟨f0b, f1b, f2b, f3b⟩⟩ := blk50 BKb_10.out; clear hb))
  go_ret
  exact ⟨rfl, HW10.out⟩
set_option maxHeartbeats 32000000 in
set_option maxRecDepth 100000 in
theorem alike_other (k : Nat) (a : S50) (A : Option Addr) (c : Nat) (b : S50) (B : Option Addr) (d : Nat) (tx ty : ByteArray) (w : World) (hG : Aside0 (G0 w)) (hra : Kd.C k50 w A a.f3.length a.f3) (hca : a.f3.length ≤ c) (hrb : Kd.C k50 w B b.f3.length b.f3) (hcb : b.f3.length ≤ d) (h1 : pidginlaw05_small.f k a.f0 a.f1 a.f2 a.f3 = some true) (h2 : pidginlaw05_small.f k b.f0 b.f1 b.f2 b.f3 = some true) (h3 : expr_Show.f k a.f0 a.f1 a.f2 a.f3 = some (tx, 0)) (h4 : expr_Show.f k b.f0 b.f1 b.f2 b.f3 = some (ty, 0)) (h5 : expr_Same.f a.f0 a.f1 a.f2 a.f3 b.f0 b.f1 b.f2 b.f3 = some false) (h6 : expr_Same.f a.f0 a.f1 a.f2 a.f3 a.f0 a.f1 a.f2 a.f3 = some true) (h7 : expr_Same.f b.f0 b.f1 b.f2 b.f3 a.f0 a.f1 a.f2 a.f3 = some false) (ht : (tx.toList == ty.toList) = false) : Calls Tryd.prog 14 #[.agg #[.string a.f0, .int .u16 a.f1, .string a.f2, .slice A a.f3.length c], .agg #[.string b.f0, .int .u16 b.f1, .string b.f2, .slice B b.f3.length d]] w fun e w' => e = .returned (.bool true) ∧ Below w.heap.size w w' := by
  have hu50 := Tryd.underlying50
  have HRa := Aside0.mk hra
  have HCa := Aside0.mk hca
  have HRb := Aside0.mk hrb
  have HCb := Aside0.mk hcb
  have H1 := Aside0.mk h1
  have H2 := Aside0.mk h2
  have H3 := Aside0.mk h3
  have H4 := Aside0.mk h4
  have H5 := Aside0.mk h5
  have H6 := Aside0.mk h6
  have H7 := Aside0.mk h7
  clear hra hca hrb hcb h1 h2 h3 h4 h5 h6 h7
  have HW0 := Aside0.mk (Below.refl w.heap.size w)
  go_enter Tryd.func14, Tryd.ntmps14
  go_upto_region 3 with (first | ((with_reducible refine gate_dst (N := 2) rfl ?_); refine box_event ?hg (N := 2) ?hd (cs := #[.string a.f0, .int .u16 a.f1, .string a.f2, .slice A a.f3.length c]) (t := 50) ?hr ?_; (case hd => rfl); (case hg => rfl); (case hr => first | (go_simp; done) | (go_simp; rfl)); intro ga hg w1 hbox hb; have HW1 := Aside0.mk (below_step HW0.out hb); have BKa_1 := Aside0.mk hbox; obtain ⟨⟨x0a, x1a, x2a, x3a⟩, ⟨f0a, f1a, f2a, f3a⟩⟩ := blk50 BKa_1.out; clear hb hbox hg) | ((with_reducible refine gate_dst (N := 3) rfl ?_); refine box_event ?hg (N := 3) ?hd (cs := #[.string b.f0, .int .u16 b.f1, .string b.f2, .slice B b.f3.length d]) (t := 50) ?hr ?_; (case hd => rfl); (case hg => rfl); (case hr => first | (go_simp; done) | (go_simp; rfl)); intro gb hg w2 hbox hb; clear x0a x1a x2a x3a f0a f1a f2a f3a; have HW2 := Aside0.mk (below_step HW1.out hb); have BKa_2 := Aside0.mk (blk_below BKa_1.out hb); have BKb_2 := Aside0.mk hbox; obtain ⟨⟨x0a, x1a, x2a, x3a⟩, ⟨f0a, f1a, f2a, f3a⟩⟩ := blk50 BKa_2.out; obtain ⟨⟨x0b, x1b, x2b, x3b⟩, ⟨f0b, f1b, f2b, f3b⟩⟩ := blk50 BKb_2.out; clear hb hbox hg) | (go_at_call 38; (with_reducible refine (pidginlaw05_small.calls k a.f0 a.f1 a.f2 A c a.f3 true _ (Kd.C_below HRa.out HW2.out) HCa.out H1.out).mono ?_); rintro ex w3 ⟨rfl, hb⟩; clear x0a x1a x2a x3a f0a f1a f2a f3a x0b x1b x2b x3b f0b f1b f2b f3b; have HW3 := Aside0.mk (below_step HW2.out hb); have BKa_3 := Aside0.mk (blk_below BKa_2.out hb); have BKb_3 := Aside0.mk (blk_below BKb_2.out hb); obtain ⟨⟨x0a, x1a, x2a, x3a⟩, ⟨f0a, f1a, f2a, f3a⟩⟩ := blk50 BKa_3.out; obtain ⟨⟨x0b, x1b, x2b, x3b⟩, ⟨f0b, f1b, f2b, f3b⟩⟩ := blk50 BKb_3.out; clear hb) | (go_at_call 38; (with_reducible refine (pidginlaw05_small.calls k b.f0 b.f1 b.f2 B d b.f3 true _ (Kd.C_below HRb.out HW3.out) HCb.out H2.out).mono ?_); rintro ex w4 ⟨rfl, hb⟩; clear x0a x1a x2a x3a f0a f1a f2a f3a x0b x1b x2b x3b f0b f1b f2b f3b; have HW4 := Aside0.mk (below_step HW3.out hb); have BKa_4 := Aside0.mk (blk_below BKa_3.out hb); have BKb_4 := Aside0.mk (blk_below BKb_3.out hb); obtain ⟨⟨x0a, x1a, x2a, x3a⟩, ⟨f0a, f1a, f2a, f3a⟩⟩ := blk50 BKa_4.out; obtain ⟨⟨x0b, x1b, x2b, x3b⟩, ⟨f0b, f1b, f2b, f3b⟩⟩ := blk50 BKb_4.out; clear hb))
  go_upto_region 4 with (first | (go_at_call 44; (with_reducible refine (expr_Show.calls k a.f0 a.f1 a.f2 A c a.f3 tx 0 _ ⟨G0.below hG.out HW4.out⟩ (Kd.C_below HRa.out HW4.out) HCa.out H3.out).mono ?_); rintro ex w5 ⟨rfl, hb⟩; clear x0a x1a x2a x3a f0a f1a f2a f3a x0b x1b x2b x3b f0b f1b f2b f3b; have HW5 := Aside0.mk (below_step HW4.out hb); have BKa_5 := Aside0.mk (blk_below BKa_4.out hb); have BKb_5 := Aside0.mk (blk_below BKb_4.out hb); obtain ⟨⟨x0a, x1a, x2a, x3a⟩, ⟨f0a, f1a, f2a, f3a⟩⟩ := blk50 BKa_5.out; obtain ⟨⟨x0b, x1b, x2b, x3b⟩, ⟨f0b, f1b, f2b, f3b⟩⟩ := blk50 BKb_5.out; clear hb))
  go_upto_region 5 with (first | (go_at_call 44; (with_reducible refine (expr_Show.calls k b.f0 b.f1 b.f2 B d b.f3 ty 0 _ ⟨G0.below hG.out HW5.out⟩ (Kd.C_below HRb.out HW5.out) HCb.out H4.out).mono ?_); rintro ex w6 ⟨rfl, hb⟩; clear x0a x1a x2a x3a f0a f1a f2a f3a x0b x1b x2b x3b f0b f1b f2b f3b; have HW6 := Aside0.mk (below_step HW5.out hb); have BKa_6 := Aside0.mk (blk_below BKa_5.out hb); have BKb_6 := Aside0.mk (blk_below BKb_5.out hb); obtain ⟨⟨x0a, x1a, x2a, x3a⟩, ⟨f0a, f1a, f2a, f3a⟩⟩ := blk50 BKa_6.out; obtain ⟨⟨x0b, x1b, x2b, x3b⟩, ⟨f0b, f1b, f2b, f3b⟩⟩ := blk50 BKb_6.out; clear hb))
  go_upto_region 6 with (first | (go_at_call 49; (with_reducible refine (expr_Same.calls a.f0 a.f1 a.f2 A c a.f3 b.f0 b.f1 b.f2 B d b.f3 false _ (Kd.C_below HRa.out HW6.out) HCa.out (Kd.C_below HRb.out HW6.out) HCb.out H5.out).mono ?_); rintro ex w7 ⟨rfl, hb⟩; clear x0a x1a x2a x3a f0a f1a f2a f3a x0b x1b x2b x3b f0b f1b f2b f3b; have HW7 := Aside0.mk (below_step HW6.out hb); have BKa_7 := Aside0.mk (blk_below BKa_6.out hb); have BKb_7 := Aside0.mk (blk_below BKb_6.out hb); obtain ⟨⟨x0a, x1a, x2a, x3a⟩, ⟨f0a, f1a, f2a, f3a⟩⟩ := blk50 BKa_7.out; obtain ⟨⟨x0b, x1b, x2b, x3b⟩, ⟨f0b, f1b, f2b, f3b⟩⟩ := blk50 BKb_7.out; clear hb))
  go_wp2_with (first | (go_at_call 49; (with_reducible refine (expr_Same.calls a.f0 a.f1 a.f2 A c a.f3 a.f0 a.f1 a.f2 A c a.f3 true _ (Kd.C_below HRa.out HW7.out) HCa.out (Kd.C_below HRa.out HW7.out) HCa.out H6.out).mono ?_); rintro ex w8 ⟨rfl, hb⟩; clear x0a x1a x2a x3a f0a f1a f2a f3a x0b x1b x2b x3b f0b f1b f2b f3b; have HW8 := Aside0.mk (below_step HW7.out hb); have BKa_8 := Aside0.mk (blk_below BKa_7.out hb); have BKb_8 := Aside0.mk (blk_below BKb_7.out hb); obtain ⟨⟨x0a, x1a, x2a, x3a⟩, ⟨f0a, f1a, f2a, f3a⟩⟩ := blk50 BKa_8.out; obtain ⟨⟨x0b, x1b, x2b, x3b⟩, ⟨f0b, f1b, f2b, f3b⟩⟩ := blk50 BKb_8.out; clear hb) | (go_at_call 49; (with_reducible refine (expr_Same.calls b.f0 b.f1 b.f2 B d b.f3 a.f0 a.f1 a.f2 A c a.f3 false _ (Kd.C_below HRb.out HW8.out) HCb.out (Kd.C_below HRa.out HW8.out) HCa.out H7.out).mono ?_); rintro ex w9 ⟨rfl, hb⟩; clear x0a x1a x2a x3a f0a f1a f2a f3a x0b x1b x2b x3b f0b f1b f2b f3b; have HW9 := Aside0.mk (below_step HW8.out hb); have BKa_9 := Aside0.mk (blk_below BKa_8.out hb); have BKb_9 := Aside0.mk (blk_below BKb_8.out hb); obtain ⟨⟨x0a, x1a, x2a, x3a⟩, ⟨f0a, f1a, f2a, f3a⟩⟩ := blk50 BKa_9.out; obtain ⟨⟨x0b, x1b, x2b, x3b⟩, ⟨f0b, f1b, f2b, f3b⟩⟩ := blk50 BKb_9.out; clear hb) | (go_at_call 39; (with_reducible refine (AliveC.alive_calls _ ⟨G0.below hG.out HW9.out⟩).mono ?_); rintro ex w10 ⟨rfl, hb⟩; clear x0a x1a x2a x3a f0a f1a f2a f3a x0b x1b x2b x3b f0b f1b f2b f3b; have HW10 := Aside0.mk (below_step HW9.out hb); have BKa_10 := Aside0.mk (blk_below BKa_9.out hb); have BKb_10 := Aside0.mk (blk_below BKb_9.out hb); obtain ⟨⟨x0a, x1a, x2a, x3a⟩, ⟨f0a, f1a, f2a, f3a⟩⟩ := blk50 BKa_10.out; obtain ⟨⟨x0b, x1b, x2b, x3b⟩, ⟨f0b, f1b, f2b, f3b⟩⟩ := blk50 BKb_10.out; clear hb))
  go_ret
  exact ⟨rfl, HW10.out⟩
end Go.Proofs.YtejhagejjogbaaaDoor.AlikeC
end
section
namespace Go.Proofs.YtejhagejjogbaaaDoor.Ee
open Go.RowKit Go.Proofs.YtejhagejjogbaaaDoorW.PrintWords Go.Proofs.YtejhagejjogbaaaDoorW.PrintLast Go.Proofs.YtejhagejjogbaaaDoor.Given Go.Proofs.YtejhagejjogbaaaDoor.Pn Go.Proofs.YtejhagejjogbaaaDoor.Pa Go.Proofs.YtejhagejjogbaaaDoor.Pb Go.Proofs.YtejhagejjogbaaaDoor.Qa Go.Proofs.YtejhagejjogbaaaDoor.Qc Go.Proofs.YtejhagejjogbaaaDoor.Num Go.Proofs.YtejhagejjogbaaaDoor.AnyNot Go.Proofs.YtejhagejjogbaaaDoor.Par Go.Proofs.YtejhagejjogbaaaDoor.SameC Go.Proofs.YtejhagejjogbaaaDoor.SameC.R Go.Proofs.YtejhagejjogbaaaDoor.SameD Go.Proofs.YtejhagejjogbaaaDoor.Tk Go.Proofs.YtejhagejjogbaaaDoor.TokJoin Go.Proofs.YtejhagejjogbaaaDoor.TokRep Go.Proofs.YtejhagejjogbaaaDoor.LawC Go.Proofs.YtejhagejjogbaaaDoor.PsrI.R Go.Proofs.YtejhagejjogbaaaDoor.BackC Go.Proofs.YtejhagejjogbaaaDoor.AlikeC
set_option linter.unusedSimpArgs false
set_option linter.unusedVariables false
theorem shown {e : S50} (hl : lightN 40 e = true) (hok : NumOk e) : ∃ (tx : ByteArray) (i : Int) (K : Nat), (∀ k, K ≤ k → expr_Show.f k e.f0 e.f1 e.f2 e.f3 = some (tx, i)) ∧
    ((rightN 24 e = false ∧ tx = ⟨#[]⟩ ∧ i = 2) ∨ (rightN 24 e = true ∧ tx = ⟨(joinT (etN 24 e 1)).toArray⟩ ∧ i = 0)) := by
  obtain ⟨K, h⟩ := Show_ev e hl hok
  cases hr : rightN 24 e with
  | false => exact ⟨⟨#[]⟩, 2, K, fun k hk => (h k hk).trans (by rw [hr]; rfl), .inl ⟨rfl, rfl, rfl⟩⟩
  | true => exact ⟨⟨(joinT (etN 24 e 1)).toArray⟩, 0, K, fun k hk => (h k hk).trans (by rw [hr]; rfl), .inr ⟨rfl, rfl, rfl⟩⟩
theorem beq_str (a b : ByteArray) : (a.toList == b.toList) = decide (a = b) := by
  rw [Bool.eq_iff_iff, beq_iff_eq, decide_eq_true_eq, Lib.toList_data, Lib.toList_data]
  exact ⟨ba_eq, fun h => by rw [h]⟩
theorem ExprAlike_calls (a : S50) (A : Option Addr) (c : Nat) (b : S50) (B : Option Addr) (d : Nat) (na : NumOk a) (nb : NumOk b) (w : World) (hG : Aside0 (G0 w))
    (hra : Kd.C k50 w A a.f3.length a.f3) (hca : a.f3.length ≤ c) (hrb : Kd.C k50 w B b.f3.length b.f3) (hcb : b.f3.length ≤ d) :
    Calls Tryd.prog 14 #[.agg #[.string a.f0, .int .u16 a.f1, .string a.f2, .slice A a.f3.length c], .agg #[.string b.f0, .int .u16 b.f1, .string b.f2, .slice B b.f3.length d]] w fun e w' => e = .returned (.bool true) ∧ Below w.heap.size w w' := by
  obtain ⟨x, ⟨K0, h0⟩, hxl⟩ := small_ev a
  obtain ⟨y, ⟨K1, h1⟩, hyl⟩ := small_ev b
  cases x with
  | false => exact alike_a (K0) a A c b B d w hG hra hca hrb hcb (h0 _ (by omega))
  | true =>
    cases y with
    | false => exact alike_b (K0 + K1) a A c b B d w hG hra hca hrb hcb (h0 _ (by omega)) (h1 _ (by omega))
    | true =>
      obtain ⟨tx, i, K2, h2, ha⟩ := shown (hxl rfl) na
      obtain ⟨ty, j, K3, h3, hb⟩ := shown (hyl rfl) nb
      have saa : expr_Same.f a.f0 a.f1 a.f2 a.f3 a.f0 a.f1 a.f2 a.f3 = some true := by simp only [expr_Same.f, eta50, same_refl a]
      by_cases hab : a = b
      · subst hab
        have e := (h2 (K2 + K3) (by omega)).symm.trans (h3 (K2 + K3) (by omega))
        simp only [Option.some.injEq, Prod.mk.injEq] at e
        obtain ⟨rfl, rfl⟩ := e
        rcases ha with ⟨_, _, rfl⟩ | ⟨_, _, rfl⟩
        · exact alike_same2 (K0 + K1 + K2 + K3) a A c a B d tx w hG hra hca hrb hcb (h0 _ (by omega)) (h1 _ (by omega)) (h2 _ (by omega)) (h3 _ (by omega)) saa saa saa (beq_self_eq_true _)
        · exact alike_same0 (K0 + K1 + K2 + K3) a A c a B d tx w hG hra hca hrb hcb (h0 _ (by omega)) (h1 _ (by omega)) (h2 _ (by omega)) (h3 _ (by omega)) saa saa saa (beq_self_eq_true _)
      · have hs : sameE a b = false := by
          cases h : sameE a b with
          | false => rfl
          | true => exact absurd (same_eq a b h) hab
        have sab : expr_Same.f a.f0 a.f1 a.f2 a.f3 b.f0 b.f1 b.f2 b.f3 = some false := by simp only [expr_Same.f, eta50, hs]
        have sba : expr_Same.f b.f0 b.f1 b.f2 b.f3 a.f0 a.f1 a.f2 a.f3 = some false := by simp only [expr_Same.f, eta50, same_comm b a, hs]
        rcases ha with ⟨_, _, rfl⟩ | ⟨ra, hta, rfl⟩
        · exact alike_wrong (K0 + K1 + K2 + K3) a A c b B d tx ty j w hG hra hca hrb hcb (h0 _ (by omega)) (h1 _ (by omega)) (h2 _ (by omega)) (h3 _ (by omega)) sab saa sba
        · rcases hb with ⟨_, _, rfl⟩ | ⟨rb, htb, rfl⟩
          · exact alike_wrong2 (K0 + K1 + K2 + K3) a A c b B d tx ty w hG hra hca hrb hcb (h0 _ (by omega)) (h1 _ (by omega)) (h2 _ (by omega)) (h3 _ (by omega)) sab saa sba
          · have hne : (tx.toList == ty.toList) = false := by
              rw [beq_str, decide_eq_false_iff_not]
              intro h
              have h2 : L tx = L ty := by rw [h]
              rw [hta, htb, Llist, Llist] at h2
              exact hab (text_inj ra rb na nb h2)
            exact alike_other (K0 + K1 + K2 + K3) a A c b B d tx ty w hG hra hca hrb hcb (h0 _ (by omega)) (h1 _ (by omega)) (h2 _ (by omega)) (h3 _ (by omega)) sab saa sba hne
end Go.Proofs.YtejhagejjogbaaaDoor.Ee
end
section
namespace Go.Proofs.YtejhagejjogbaaaDoor.Open46
open Go Go.RowKit Go.ChangeShapes Go.WideShapes Go.Deep Go.Proofs.YtejhagejjogbaaaDoor.Pa Go.Proofs.YtejhagejjogbaaaDoorW.PrintWords Go.Proofs.YtejhagejjogbaaaDoorW.PrintLast
variable {H : Type} {enc : TypeId × Value → H} {w : World} {base : Nat} {spare : Nat → Bool} {held : Bool}
theorem list_of {α : Type} (n : Nat) (Q : Nat → α → Prop) (h : ∀ i, i < n → ∃ x, Q i x) : ∃ l : List α, l.length = n ∧ ∀ j p, l[j]? = some p → Q j p := by
  induction n with
  | zero => exact ⟨[], rfl, fun j p hp => by simp at hp⟩
  | succ n ih =>
    obtain ⟨l, hl, hq⟩ := ih (fun i hi => h i (by omega))
    obtain ⟨x, hx⟩ := h n (by omega)
    refine ⟨l ++ [x], by simp [hl], fun j p hp => ?_⟩
    by_cases hj : j < l.length
    · rw [List.getElem?_append_left hj] at hp; exact hq j p hp
    · rw [List.getElem?_append_right (by omega)] at hp
      have hj2 : j - l.length = 0 := by
        by_cases e : j - l.length = 0
        · exact e
        · rw [List.getElem?_eq_none (by simp; omega)] at hp; cases hp
      rw [hj2] at hp
      have : x = p := by simpa using hp
      subst this
      have : j = n := by omega
      rw [this]; exact hx
theorem c3 : Tryd.prog.cellsOf 3 = 1 := by kernel_rfl
theorem c9 : Tryd.prog.cellsOf 9 = 1 := by kernel_rfl
theorem c28 : Tryd.prog.cellsOf 28 = 1 := by kernel_rfl
end Go.Proofs.YtejhagejjogbaaaDoor.Open46
end
section
namespace Go.Proofs.YtejhagejjogbaaaDoor.Open50
open Go Go.RowKit Go.ChangeShapes Go.WideShapes Go.Deep Go.Proofs.YtejhagejjogbaaaDoor.Pa Go.Proofs.YtejhagejjogbaaaDoor.Qa Go.Proofs.YtejhagejjogbaaaDoor.Ee Go.Proofs.YtejhagejjogbaaaDoor.Open46 Go.Proofs.YtejhagejjogbaaaDoorW.PrintWords Go.Proofs.YtejhagejjogbaaaDoorW.PrintLast
variable {H : Type} {enc : TypeId × Value → H} {w : World} {base : Nat} {spare : Nat → Bool} {held : Bool}
theorem four {α : Type} {l : List α} (h : l.length = 4) : ∃ a b c d, l = [a, b, c, d] := by
  match l, h with
  | [a, b, c, d], _ => exact ⟨a, b, c, d, rfl⟩
theorem c50 : Tryd.prog.cellsOf 50 = 4 := by kernel_rfl
theorem c48 : Tryd.prog.cellsOf 48 = 1 := by kernel_rfl
theorem u16_range {n : Int} (h : (Lit.int .u16 n).wf = true) : 0 ≤ n ∧ n ≤ 65535 := by
  simp only [Lit.wf, Bool.and_eq_true, decide_eq_true_eq] at h
  have h1 : IntKind.u16.min = 0 := by decide
  have h2 : IntKind.u16.max = 65535 := by decide
  omega
theorem open50 (fuel : Nat) : ∀ {cs : List Value} {x : DataW H × List MemPlace}, DataW.trod enc Tryd.prog w base spare held fuel 50 cs = some x →
    ∃ (e : S50) (A : Option Addr) (c : Nat), cs = [.string e.f0, .int .u16 e.f1, .string e.f2, .slice A e.f3.length c] ∧ e.f3.length ≤ c ∧ Kd.C k50 w A e.f3.length e.f3 ∧ NumOk e := by
  induction fuel using Nat.strongRecOn with
  | _ fuel ih =>
    intro cs x h
    obtain ⟨ys, n', hfu, _, hlen, hyl, hf⟩ := DataW.trod_struct Tryd.underlying50 h
    obtain ⟨a, b, c, d, rfl⟩ := four (hlen.trans c50)
    obtain ⟨y0, y1, y2, y3, rfl⟩ := four (show ys.length = 4 from hyl)
    have h0 : DataW.trod enc Tryd.prog w base spare held n' 9 ([a, b, c, d].take (Tryd.prog.cellsOf 9)) = some y0 := hf 0 _ rfl
    have h1 : DataW.trod enc Tryd.prog w base spare held n' 28 ([b, c, d].take (Tryd.prog.cellsOf 28)) = some y1 := hf 1 _ rfl
    have h2 : DataW.trod enc Tryd.prog w base spare held n' 9 ([c, d].take (Tryd.prog.cellsOf 9)) = some y2 := hf 2 _ rfl
    have h3 : DataW.trod enc Tryd.prog w base spare held n' 48 ([d].take (Tryd.prog.cellsOf 48)) = some y3 := hf 3 _ rfl
    rw [c9] at h0 h2
    rw [c28] at h1
    rw [c48] at h3
    obtain ⟨u, e0, _⟩ := DataW.trod_string Tryd.underlying9 h0
    obtain ⟨s, e1, _, hwf⟩ := DataW.trod_int Tryd.underlying28 h1
    obtain ⟨v, e2, _⟩ := DataW.trod_string Tryd.underlying9 h2
    simp only [List.take_succ_cons, List.take_zero, List.cons.injEq, and_true] at e0 e1 e2
    subst e0 e1 e2
    obtain ⟨r0, r1⟩ := u16_range hwf
    rcases DataW.trod_slice Tryd.underlying48 h3 with ⟨e3, _⟩ | ⟨ad, len, cap, elems, rest, m, hfm, e3, _, hb, hl, hm, hlen3, hel, _, _⟩
    · simp only [List.take_succ_cons, List.take_zero, List.cons.injEq, and_true] at e3
      subst e3
      exact ⟨⟨u, s, v, []⟩, none, 0, rfl, Nat.le_refl _, ⟨rfl, by simp, fun h => by simp at h⟩, .mk _ _ _ _ r0 r1 (fun x hx => by cases hx)⟩
    · simp only [List.take_succ_cons, List.take_zero, List.cons.injEq, and_true] at e3
      subst e3
      obtain ⟨l, hll, hq⟩ := list_of len (fun i (p : S50) => (∃ cs, k50.K w p cs ∧ cs.length = 4 ∧ ∀ u v, cs[u]? = some v → w.cell? (ad.add (i * 4 + u)) = some v) ∧ NumOk p) (fun i hlt => by
        have key := hel i hlt
        rw [List.getElem?_eq_getElem (by omega)] at key
        obtain ⟨cs', hc, ht'⟩ := Option.bind_eq_some_iff.1 key
        obtain ⟨p, A, q, rfl, hpq, hpc, hpn⟩ := ih m (by omega) ht'
        obtain ⟨_, _, hat⟩ := World.cells?_some hc
        refine ⟨p, ⟨_, k50_mk w p hpq hpc, rfl, fun u v huv => ?_⟩, hpn⟩
        have hu : u < 4 := by
          by_cases e : u < 4
          · exact e
          · rw [List.getElem?_eq_none (by simp; omega)] at huv; cases huv
        have h1 := (hat u (Nat.lt_of_lt_of_eq hu c50.symm)).trans huv
        rw [Go.Deep.add_add, show i * Tryd.prog.cellsOf 50 = i * 4 from congrArg (i * ·) c50] at h1
        exact h1)
      have hcap : cap ≤ 9223372036854775807 := Nat.le_trans hm (by decide)
      refine ⟨⟨u, s, v, l⟩, some ad, cap, by rw [hll], by show l.length ≤ cap; omega, ⟨rfl, by show l.length ≤ _; omega, fun _ => ⟨ad, rfl, fun j p hp => ?_⟩⟩, .mk _ _ _ _ r0 r1 (fun x hx => ?_)⟩
      · obtain ⟨⟨cs, h1, h2, h3⟩, _⟩ := hq j p hp
        exact ⟨cs, h2, h1, h3⟩
      · obtain ⟨j, hj, rfl⟩ := List.getElem_of_mem hx
        exact (hq j _ (List.getElem?_eq_getElem hj)).2
end Go.Proofs.YtejhagejjogbaaaDoor.Open50
end
