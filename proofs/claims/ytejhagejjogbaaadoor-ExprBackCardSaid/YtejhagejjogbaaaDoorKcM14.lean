import Derived.Test.YtejhagejjogbaaaDoorKcM11
import Derived.Test.YtejhagejjogbaaaDoorKcM13
import Derived.Test.YtejhagejjogbaaaDoorKcM4
import Derived.Test.YtejhagejjogbaaaDoorKcM5
import Derived.Test.YtejhagejjogbaaaDoorKcM3
import Derived.Test.YtejhagejjogbaaaDoorKcM2
import Derived.Deep.Slices
import Derived.ChangeSame
import Derived.ChangeArms
import Derived.DataReads
section
namespace Go.Proofs.YtejhagejjogbaaaDoor.Ee
open Go.RowKit Go.Proofs.YtejhagejjogbaaaDoorW.PrintWords Go.Proofs.YtejhagejjogbaaaDoorW.PrintLast Go.Proofs.YtejhagejjogbaaaDoor.Given Go.Proofs.YtejhagejjogbaaaDoor.Pn Go.Proofs.YtejhagejjogbaaaDoor.Pa Go.Proofs.YtejhagejjogbaaaDoor.Pb Go.Proofs.YtejhagejjogbaaaDoor.Qa Go.Proofs.YtejhagejjogbaaaDoor.Qc Go.Proofs.YtejhagejjogbaaaDoor.Num Go.Proofs.YtejhagejjogbaaaDoor.AnyNot Go.Proofs.YtejhagejjogbaaaDoor.Par Go.Proofs.YtejhagejjogbaaaDoor.SameC Go.Proofs.YtejhagejjogbaaaDoor.SameD Go.Proofs.YtejhagejjogbaaaDoor.Tk Go.Proofs.YtejhagejjogbaaaDoor.TokJoin Go.Proofs.YtejhagejjogbaaaDoor.TokRep Go.Proofs.YtejhagejjogbaaaDoor.LawC Go.Proofs.YtejhagejjogbaaaDoor.PsrI.R
set_option linter.unusedSimpArgs false
set_option linter.unusedVariables false
theorem op_good : ∀ p ∈ binops, TkP (opTok ⟨p.1.toArray⟩) := by
  intro p hp
  simp only [binops, List.mem_cons, List.not_mem_nil, or_false] at hp
  rcases hp with rfl | rfl | rfl | rfl | rfl | rfl | rfl | rfl | rfl | rfl
  · exact .name [79, 82] (by decide) (by decide)
  · exact .name [88, 79, 82] (by decide) (by decide)
  · exact .name [65, 78, 68] (by decide) (by decide)
  · exact .mark 43 (by decide)
  · exact .mark 45 (by decide)
  · exact .mark 42 (by decide)
  · exact .mark 47 (by decide)
  · exact .name [77, 79, 68] (by decide) (by decide)
  · exact .name [83, 72, 76] (by decide) (by decide)
  · exact .name [83, 72, 82] (by decide) (by decide)
theorem named_good {nm : ByteArray} (h : namedL nm.data.toList = true) : TkP ⟨1, nm, 0⟩ := by
  unfold namedL at h
  simp only [Bool.and_eq_true, beq_iff_eq] at h
  have e : nm = ⟨nm.data.toList.toArray⟩ := ba_of rfl
  rw [e]
  exact .name nm.data.toList (by rw [← Right.nameQ_eq]; exact h.1.1) h.1.2
theorem et_good (n : Nat) : ∀ (e : S50) (w : Int), rightN n e = true → NumOk e → ∀ t ∈ etN n e w, TkP t := by
  induction n with
  | zero => intro e w h; simp [rightN] at h
  | succ n ih =>
    intro e w h hok
    obtain ⟨rk, hc⟩ := rc_of h
    have hb : ∀ t ∈ bodyT (etN n) e, TkP t := by
      cases hc with
      | num m =>
        have hm0 := hok.lo
        have hm1 := hok.hi
        simp only at hm0 hm1
        obtain ⟨q, rfl⟩ : ∃ q : Nat, m = (q : Int) := ⟨m.toNat, by omega⟩
        intro t ht
        obtain rfl : t = ⟨2, ⟨#[]⟩, (q : Int)⟩ := List.mem_singleton.1 ht
        exact .num q (by omega)
      | name nm hn =>
        intro t ht
        obtain rfl : t = ⟨1, nm, 0⟩ := List.mem_singleton.1 ht
        exact named_good hn
      | here =>
        intro t ht
        obtain rfl : t = ⟨4, ⟨#[36]⟩, 0⟩ := List.mem_singleton.1 ht
        exact .mark 36 (by decide)
      | neg a ha =>
        intro t ht
        rcases List.mem_cons.1 (show t ∈ (⟨4, ⟨#[45]⟩, 0⟩ : S41) :: etN n a 6 from ht) with rfl | ht
        · exact .mark 45 (by decide)
        · exact ih a 6 ha (hok.sub a (by simp)) t ht
      | not a ha =>
        intro t ht
        rcases List.mem_cons.1 (show t ∈ (⟨1, ⟨#[78, 79, 84]⟩, 0⟩ : S41) :: etN n a 3 from ht) with rfl | ht
        · exact .name [78, 79, 84] (by decide) (by decide)
        · exact ih a 3 ha (hok.sub a (by simp)) t ht
      | bin op rk a b hop ha hb =>
        intro t ht
        rw [body_bin _ hop] at ht
        rcases List.mem_append.1 ht with ht | ht
        · exact ih a rk ha (hok.sub a (by simp)) t ht
        · rcases List.mem_cons.1 ht with rfl | ht
          · exact op_good _ hop
          · exact ih b (rk + 1) hb (hok.sub b (by simp)) t ht
    rw [etN]
    split
    · intro t ht
      rcases List.mem_cons.1 ht with rfl | ht
      · exact .mark 40 (by decide)
      · rcases List.mem_append.1 ht with ht | ht
        · exact hb t ht
        · obtain rfl := List.mem_singleton.1 ht
          exact .mark 41 (by decide)
    · exact hb
theorem line_et {e : S50} (h : rightN 24 e = true) (hok : NumOk e) (x : ByteArray) (hx : L x = joinT (etN 24 e 1)) (hs : ¬ 200 < x.size) : lineT x = (etN 24 e 1, 0) := by
  unfold lineT
  rw [if_neg hs, hx]
  exact show_toks _ _ (et_good 24 e 1 h hok) (by rw [← hx, L_len]; exact Nat.le_refl _)
theorem all_ev (ts : List S41) (e : S50) (hl : ts.length ≤ 200) (hB : Bi 1 ⟨ts, 0, 0⟩ (e, ⟨[], 0, 0⟩)) (h : rightN 24 e = true) : Ev (fun k => expr_All.f k ts) (e.f0, e.f1, e.f2, e.f3, 0) := by
  obtain ⟨n, hn⟩ := hB
  obtain ⟨v, ⟨m, hm⟩, v0, vn⟩ := deep_ev 24 (by decide) e h
  refine ⟨max n m, fun k hk => ?_⟩
  have h1 : binP k 1 ⟨ts, 0, 0⟩ = some (e, ⟨[], 0, 0⟩) := ups (P := fun k => binP k 1 ⟨ts, 0, 0⟩ = some (e, ⟨[], 0, 0⟩)) (show n ≤ k by omega) (fun k => (up k).b _ _ _) hn
  have h2 := hm k (by omega)
  unfold expr_All.f PsrI.allP PsrI.parseP
  have hw : wrap64 ((ts.length : Int) - (([] : List S41).length : Int)) = (ts.length : Int) := (w64 (by simp <;> omega) (by simp <;> omega)).trans (by simp)
  simp only [h1, if_true, h2, hw]
  rw [if_neg (by omega)]
  simp only [if_true, Int.lt_irrefl, if_false, Option.map_some]
theorem all_right (e : S50) (h : rightN 24 e = true) (hl : (etN 24 e 1).length ≤ 200) : Ev (fun k => expr_All.f k (etN 24 e 1)) (e.f0, e.f1, e.f2, e.f3, 0) := all_ev _ e hl (main_all e h) h
theorem ref_same_l0 (l : List S50) (hl : l.length ≤ 3) (o m : ByteArray) (x : Int)
    (ih : ∀ e ∈ l, Ev (fun k => pidginref05_Same.f k e.f0 e.f1 e.f2 e.f3 e.f0 e.f1 e.f2 e.f3) true) (d : Nat) : ∀ i : Nat, i + d = l.length →
    Ev (fun k => pidginref05_Same.l0 k (i : Int) o x m l o x m l) true := by
  induction d with
  | zero =>
    intro i hi
    refine Ev.step (fun k => rfl) ?_
    simp only [pidginref05_Same.l0, if_neg (show ¬ (i : Int) < (l.length : Int) by omega)]
    exact Ev.now _
  | succ d ihd =>
    intro i hi
    have h1 : i < l.length := by omega
    refine Ev.step (fun k => rfl) ?_
    simp only [pidginref05_Same.l0, if_pos (show (i : Int) < (l.length : Int) by omega), if_pos (show (0 : Int) ≤ (i : Int) by omega), rd50_at l i h1]
    refine Ev.bind (ih l[i] (List.getElem_mem h1)) ?_
    simp only [if_true, show wrap64 ((i : Int) + 1) = ((i + 1 : Nat) : Int) from (w64 (by omega) (by omega)).trans (by omega)]
    exact ihd (i + 1) (by omega)
theorem ref_same (n : Nat) : ∀ e : S50, lightN n e = true → Ev (fun k => pidginref05_Same.f k e.f0 e.f1 e.f2 e.f3 e.f0 e.f1 e.f2 e.f3) true := by
  induction n with
  | zero => intro e h; simp [lightN] at h
  | succ n ih =>
    intro e h
    rw [lightN] at h
    simp only [Bool.and_eq_true, decide_eq_true_eq] at h
    refine Ev.step (fun k => rfl) ?_
    simp only [pidginref05_Same.f, if_true]
    refine Ev.step (fun k => rfl) ?_
    simp only [pidginref05_Same.j0, bne_self_eq_false, Bool.false_eq_true, if_false]
    exact ref_same_l0 e.f3 h.1.1.1 e.f0 e.f2 e.f1 (fun x hx => ih x (List.all_eq_true.1 h.2 x hx)) e.f3.length 0 (by omega)
theorem Show_ev (e : S50) (hl : lightN 40 e = true) (hok : NumOk e) : Ev (fun k => expr_Show.f k e.f0 e.f1 e.f2 e.f3) (if rightN 24 e = true then (⟨(joinT (etN 24 e 1)).toArray⟩, 0) else (⟨#[]⟩, 2)) := by
  unfold expr_Show.f
  rw [Right_at e (light_ok 40 24 e (by decide) hl)]
  simp only [Option.bind_some]
  cases hr : rightN 24 e with
  | true =>
    simp only [if_true]
    exact Ev.bind (show_ev 24 (by decide) e 1 hr hok (by decide) (by decide)).1 (Ev.now _)
  | false =>
    simp only [Bool.false_eq_true, if_false, show ¬ ((2 : Int) = 0) by decide]
    exact Ev.now _
end Go.Proofs.YtejhagejjogbaaaDoor.Ee
end
section
namespace Go.Proofs.YtejhagejjogbaaaDoor.AliveC
open Go.RowKit Go.Proofs.YtejhagejjogbaaaDoorW.PrintWords Go.Proofs.YtejhagejjogbaaaDoorW.PrintLast Go.Proofs.YtejhagejjogbaaaDoorW.PrintMore Go.Proofs.YtejhagejjogbaaaDoor.Given Go.Proofs.YtejhagejjogbaaaDoor.Pn Go.Proofs.YtejhagejjogbaaaDoor.Pa Go.Proofs.YtejhagejjogbaaaDoor.Pb Go.Proofs.YtejhagejjogbaaaDoor.Qa Go.Proofs.YtejhagejjogbaaaDoor.Qc Go.Proofs.YtejhagejjogbaaaDoor.Qf Go.Proofs.YtejhagejjogbaaaDoor.Num Go.Proofs.YtejhagejjogbaaaDoor.PsrC Go.Proofs.YtejhagejjogbaaaDoor.PsrD Go.Proofs.YtejhagejjogbaaaDoor.PsrF Go.Proofs.YtejhagejjogbaaaDoor.PsrI.R Go.Proofs.YtejhagejjogbaaaDoor.EvC Go.Proofs.YtejhagejjogbaaaDoor.LawC
set_option linter.unusedVariables false
set_option linter.unusedSimpArgs false
set_option maxHeartbeats 16000000 in
set_option maxRecDepth 100000 in
theorem of_calls (k : Nat) (s : ByteArray) (n : Int) (ts : List S41) (e : S50) (w : World) (hG : Aside0 (G0 w)) (h1 : token_Line.f k s = some (ts, 0)) (h2 : expr_All.f k ts = some (e.f0, e.f1, e.f2, e.f3, 0))
    (h3 : expr_Eval0.f k e.f0 e.f1 e.f2 e.f3 0 = some (n, 0)) (h4 : expr_Show.f k e.f0 e.f1 e.f2 e.f3 = some (s, 0)) (ht : (s.toList == s.toList) = true) :
    Calls Tryd.prog 75 #[.string s, .int .u16 n] w fun e w' => e = .returned (.bool true) ∧ Below w.heap.size w w' := by
  have hu50 := Tryd.underlying50
  have H1 := Aside0.mk h1
  have H2 := Aside0.mk h2
  have H3 := Aside0.mk h3
  have H4 := Aside0.mk h4
  clear h1 h2 h3 h4
  have HW0 := Aside0.mk (Below.refl w.heap.size w)
  go_enter Tryd.func75, Tryd.ntmps75
  go_wp2_with (first | (go_at_call 28; (with_reducible refine (token_Line.calls k s ts 0 _ ⟨G0.below hG.out HW0.out⟩ H1.out).mono ?_); rintro ex w1 ⟨v1, rfl, ho, hb⟩; have HO1 := Aside0.mk ho; have HW1 := Aside0.mk (below_step HW0.out hb); obtain ⟨At, ct, rfl⟩ := Kd.R_slice HO1.out; clear hb ho) | (go_at_call 45; (with_reducible refine (expr_All.calls k At ct ts e.f0 e.f1 e.f2 e.f3 0 _ (Kd.R_reads' HO1.out).2.2 (Kd.R_reads' HO1.out).2.1 H2.out).mono ?_); rintro ex w2 ⟨v2, rfl, ho, hb⟩; have HO2 := Aside0.mk ho; have HW2 := Aside0.mk (below_step HW1.out hb); obtain ⟨Ah, ch, rfl⟩ := Kd.R_slice HO2.out; clear hb ho) | ((with_reducible refine gate_dst (N := 7) rfl ?_); refine box_event ?hg (N := 7) ?hd (cs := #[.string (⟨#[]⟩ : ByteArray), .int .u16 0, .string (⟨#[]⟩ : ByteArray), .slice none 0 0]) (t := 50) ?hr ?_; (case hd => rfl); (case hg => rfl); (case hr => first | (go_simp; done) | (go_simp; rfl)); intro gz hg w3 hbox hb; have HZ := Aside0.mk hb; have BZ := Aside0.mk hbox; have HE := Aside0.mk hg; obtain ⟨⟨z0, z1, z2, z3⟩, ⟨u0, u1, u2, u3⟩⟩ := blk50 hbox; clear hb hbox hg) | ((with_reducible refine gate_store (t := 50) (p := 7) rfl ?_); refine store_event (t := 50) (p := 7) (v := ?vo7) ?hg ?ho ?hN (w1 := put50 w3 gz (.string e.f0) (.int .u16 e.f1) (.string e.f2) (.slice Ah e.f3.length ch)) ?hr ?_; (case ho => rfl); (case hg => rfl); (case hN => rfl); (case hr => first | (go_simp; done) | (go_simp; rfl)); intro w4 hw; have hb : Below w2.heap.size w2 w4 := (by rw [hw]; exact below_put HZ.out (Nat.le_of_eq HE.out.symm)); have BH4 := Aside0.mk (show w4.heap[gz]? = some (.cells #[.string e.f0, .int .u16 e.f1, .string e.f2, .slice Ah e.f3.length ch] 50 (0, 0)) from (by rw [hw]; exact put50_blk BZ.out)); have HO4 := Aside0.mk (RE_below HO2.out hb); have HW4 := Aside0.mk (below_step HW2.out hb); clear z0 z1 z2 z3 u0 u1 u2 u3 hb hw; obtain ⟨⟨z0, z1, z2, z3⟩, ⟨u0, u1, u2, u3⟩⟩ := blk50 BH4.out) | (go_at_call 40; (with_reducible refine (expr_Eval0.calls k e.f0 e.f1 e.f2 Ah ch e.f3 0 n 0 _ (Kd.R_reads' HO4.out).2.2 (Kd.R_reads' HO4.out).2.1 H3.out).mono ?_); rintro ex w5 ⟨rfl, hb⟩; clear z0 z1 z2 z3 u0 u1 u2 u3; have HW5 := Aside0.mk (below_step HW4.out hb); have BH5 := Aside0.mk (blk_below BH4.out hb); have HO5 := Aside0.mk (RE_below HO4.out hb); obtain ⟨⟨z0, z1, z2, z3⟩, ⟨u0, u1, u2, u3⟩⟩ := blk50 BH5.out; clear hb) | (go_at_call 44; (with_reducible refine (expr_Show.calls k e.f0 e.f1 e.f2 Ah ch e.f3 s 0 _ ⟨G0.below hG.out HW5.out⟩ (Kd.R_reads' HO5.out).2.2 (Kd.R_reads' HO5.out).2.1 H4.out).mono ?_); rintro ex w6 ⟨rfl, hb⟩; have HW6 := Aside0.mk (below_step HW5.out hb); clear hb))
  go_ret
  exact ⟨rfl, HW6.out⟩
def ofB (k : Nat) (s : ByteArray) (n : Int) : Bool := match token_Line.f k s with
  | some (ts, i) => match expr_All.f k ts with
    | some (o, x, m, l, j) => decide (i = 0) && decide (j = 0) && decide (expr_Eval0.f k o x m l 0 = some (n, 0)) && decide (expr_Show.f k o x m l = some (s, 0))
    | none => false
  | none => false
theorem of_good (s : ByteArray) (n : Int) (h : ∃ k, ofB k s n = true) (w : World) (hG : Aside0 (G0 w)) : Calls Tryd.prog 75 #[.string s, .int .u16 n] w fun e w' => e = .returned (.bool true) ∧ Below w.heap.size w w' := by
  obtain ⟨k, h⟩ := h
  unfold ofB at h
  cases h1 : token_Line.f k s with
  | none => rw [h1] at h; cases h
  | some p =>
    obtain ⟨ts, i⟩ := p
    rw [h1] at h
    simp only at h
    cases h2 : expr_All.f k ts with
    | none => rw [h2] at h; cases h
    | some q =>
      obtain ⟨o, x, m, l, j⟩ := q
      rw [h2] at h
      simp only [Bool.and_eq_true, decide_eq_true_eq] at h
      obtain ⟨⟨⟨rfl, rfl⟩, h3⟩, h4⟩ := h
      exact of_calls k s n ts ⟨o, x, m, l⟩ w hG h1 h2 h3 h4 (beq_self_eq_true _)
set_option maxRecDepth 100000 in
theorem o1 : ∃ k, ofB k (⟨#[49, 32, 43, 32, 50, 32, 42, 32, 51]⟩ : ByteArray) 7 = true := ⟨40, by decide +kernel⟩
set_option maxRecDepth 100000 in
theorem o2 : ∃ k, ofB k (⟨#[78, 79, 84, 32, 48, 32, 65, 78, 68, 32, 48, 70, 72]⟩ : ByteArray) 15 = true := ⟨40, by decide +kernel⟩
set_option maxRecDepth 100000 in
theorem o3 : ∃ k, ofB k (⟨#[40, 32, 49, 32, 43, 32, 50, 32, 41, 32, 42, 32, 51]⟩ : ByteArray) 9 = true := ⟨40, by decide +kernel⟩
set_option maxHeartbeats 16000000 in
set_option maxRecDepth 100000 in
theorem alive_calls (w : World) (hG : Aside0 (G0 w)) : Calls Tryd.prog 39 #[] w fun e w' => e = .returned (.bool true) ∧ Below w.heap.size w w' := by
  have HW0 := Aside0.mk (Below.refl w.heap.size w)
  go_enter Tryd.func39, Tryd.ntmps39
  go_wp2_with (first | (go_at_call 75; (with_reducible refine (of_good (⟨#[49, 32, 43, 32, 50, 32, 42, 32, 51]⟩ : ByteArray) 7 o1 _ ⟨G0.below hG.out HW0.out⟩).mono ?_); rintro ex w1 ⟨rfl, hb⟩; have HW1 := Aside0.mk (below_step HW0.out hb); clear hb) | (go_at_call 75; (with_reducible refine (of_good (⟨#[78, 79, 84, 32, 48, 32, 65, 78, 68, 32, 48, 70, 72]⟩ : ByteArray) 15 o2 _ ⟨G0.below hG.out HW1.out⟩).mono ?_); rintro ex w2 ⟨rfl, hb⟩; have HW2 := Aside0.mk (below_step HW1.out hb); clear hb) | (go_at_call 75; (with_reducible refine (of_good (⟨#[40, 32, 49, 32, 43, 32, 50, 32, 41, 32, 42, 32, 51]⟩ : ByteArray) 9 o3 _ ⟨G0.below hG.out HW2.out⟩).mono ?_); rintro ex w3 ⟨rfl, hb⟩; have HW3 := Aside0.mk (below_step HW2.out hb); clear hb))
  go_ret
  exact ⟨rfl, HW3.out⟩
end Go.Proofs.YtejhagejjogbaaaDoor.AliveC
end
section
namespace Go.Proofs.YtejhagejjogbaaaDoor.BackC
open Go.RowKit Go.Proofs.YtejhagejjogbaaaDoorW.PrintWords Go.Proofs.YtejhagejjogbaaaDoorW.PrintLast Go.Proofs.YtejhagejjogbaaaDoorW.PrintMore Go.Proofs.YtejhagejjogbaaaDoor.Given Go.Proofs.YtejhagejjogbaaaDoor.Pn Go.Proofs.YtejhagejjogbaaaDoor.Pa Go.Proofs.YtejhagejjogbaaaDoor.Pb Go.Proofs.YtejhagejjogbaaaDoor.Qa Go.Proofs.YtejhagejjogbaaaDoor.Qc Go.Proofs.YtejhagejjogbaaaDoor.Qf Go.Proofs.YtejhagejjogbaaaDoor.Num Go.Proofs.YtejhagejjogbaaaDoor.PsrC Go.Proofs.YtejhagejjogbaaaDoor.PsrD Go.Proofs.YtejhagejjogbaaaDoor.PsrF Go.Proofs.YtejhagejjogbaaaDoor.PsrI.R Go.Proofs.YtejhagejjogbaaaDoor.SameC.R Go.Proofs.YtejhagejjogbaaaDoor.EvC Go.Proofs.YtejhagejjogbaaaDoor.LawC
set_option linter.unusedVariables false
set_option linter.unusedSimpArgs false
set_option maxHeartbeats 32000000 in
set_option maxRecDepth 100000 in
theorem back_large (k : Nat) (a : S50) (A : Option Addr) (c : Nat)  (w : World) (hG : Aside0 (G0 w)) (hra : Kd.C k50 w A a.f3.length a.f3) (hca : a.f3.length ≤ c) (h1 : pidginlaw05_small.f k a.f0 a.f1 a.f2 a.f3 = some false) : Calls Tryd.prog 11 #[.agg #[.string a.f0, .int .u16 a.f1, .string a.f2, .slice A a.f3.length c]] w fun e w' => e = .returned (.bool true) ∧ Below w.heap.size w w' := by
  have hu50 := Tryd.underlying50
  have HRa := Aside0.mk hra
  have HCa := Aside0.mk hca
  have H1 := Aside0.mk h1
  clear hra hca h1
  have HW0 := Aside0.mk (Below.refl w.heap.size w)
  go_enter Tryd.func11, Tryd.ntmps11
  go_wp2_with (first | ((with_reducible refine gate_dst (N := 1) rfl ?_); refine box_event ?hg (N := 1) ?hd (cs := #[.string a.f0, .int .u16 a.f1, .string a.f2, .slice A a.f3.length c]) (t := 50) ?hr ?_; (case hd => rfl); (case hg => rfl); (case hr => first | (go_simp; done) | (go_simp; rfl)); intro ga hg w1 hbox hb; have HW1 := Aside0.mk (below_step HW0.out hb); have BKa_1 := Aside0.mk hbox; obtain ⟨⟨x0a, x1a, x2a, x3a⟩, ⟨f0a, f1a, f2a, f3a⟩⟩ := blk50 BKa_1.out; clear hb hbox hg) | (go_at_call 38; (with_reducible refine (pidginlaw05_small.calls k a.f0 a.f1 a.f2 A c a.f3 false _ (Kd.C_below HRa.out HW1.out) HCa.out H1.out).mono ?_); rintro ex w2 ⟨rfl, hb⟩; clear x0a x1a x2a x3a f0a f1a f2a f3a; have HW2 := Aside0.mk (below_step HW1.out hb); have BKa_2 := Aside0.mk (blk_below BKa_1.out hb); obtain ⟨⟨x0a, x1a, x2a, x3a⟩, ⟨f0a, f1a, f2a, f3a⟩⟩ := blk50 BKa_2.out; clear hb) | (go_at_call 39; (with_reducible refine (AliveC.alive_calls _ ⟨G0.below hG.out HW2.out⟩).mono ?_); rintro ex w3 ⟨rfl, hb⟩; clear x0a x1a x2a x3a f0a f1a f2a f3a; have HW3 := Aside0.mk (below_step HW2.out hb); have BKa_3 := Aside0.mk (blk_below BKa_2.out hb); obtain ⟨⟨x0a, x1a, x2a, x3a⟩, ⟨f0a, f1a, f2a, f3a⟩⟩ := blk50 BKa_3.out; clear hb))
  go_ret
  exact ⟨rfl, HW3.out⟩
set_option maxHeartbeats 32000000 in
set_option maxRecDepth 100000 in
theorem back_wrong (k : Nat) (a : S50) (A : Option Addr) (c : Nat)  (w : World) (hG : Aside0 (G0 w)) (hra : Kd.C k50 w A a.f3.length a.f3) (hca : a.f3.length ≤ c) (h1 : pidginlaw05_small.f k a.f0 a.f1 a.f2 a.f3 = some true) (h2 : expr_Show.f k a.f0 a.f1 a.f2 a.f3 = some (⟨#[]⟩, 2)) : Calls Tryd.prog 11 #[.agg #[.string a.f0, .int .u16 a.f1, .string a.f2, .slice A a.f3.length c]] w fun e w' => e = .returned (.bool true) ∧ Below w.heap.size w w' := by
  have hu50 := Tryd.underlying50
  have HRa := Aside0.mk hra
  have HCa := Aside0.mk hca
  have H1 := Aside0.mk h1
  have H2 := Aside0.mk h2
  clear hra hca h1 h2
  have HW0 := Aside0.mk (Below.refl w.heap.size w)
  go_enter Tryd.func11, Tryd.ntmps11
  go_wp2_with (first | ((with_reducible refine gate_dst (N := 1) rfl ?_); refine box_event ?hg (N := 1) ?hd (cs := #[.string a.f0, .int .u16 a.f1, .string a.f2, .slice A a.f3.length c]) (t := 50) ?hr ?_; (case hd => rfl); (case hg => rfl); (case hr => first | (go_simp; done) | (go_simp; rfl)); intro ga hg w1 hbox hb; have HW1 := Aside0.mk (below_step HW0.out hb); have BKa_1 := Aside0.mk hbox; obtain ⟨⟨x0a, x1a, x2a, x3a⟩, ⟨f0a, f1a, f2a, f3a⟩⟩ := blk50 BKa_1.out; clear hb hbox hg) | (go_at_call 38; (with_reducible refine (pidginlaw05_small.calls k a.f0 a.f1 a.f2 A c a.f3 true _ (Kd.C_below HRa.out HW1.out) HCa.out H1.out).mono ?_); rintro ex w2 ⟨rfl, hb⟩; clear x0a x1a x2a x3a f0a f1a f2a f3a; have HW2 := Aside0.mk (below_step HW1.out hb); have BKa_2 := Aside0.mk (blk_below BKa_1.out hb); obtain ⟨⟨x0a, x1a, x2a, x3a⟩, ⟨f0a, f1a, f2a, f3a⟩⟩ := blk50 BKa_2.out; clear hb) | (go_at_call 44; (with_reducible refine (expr_Show.calls k a.f0 a.f1 a.f2 A c a.f3 ⟨#[]⟩ 2 _ ⟨G0.below hG.out HW2.out⟩ (Kd.C_below HRa.out HW2.out) HCa.out H2.out).mono ?_); rintro ex w3 ⟨rfl, hb⟩; clear x0a x1a x2a x3a f0a f1a f2a f3a; have HW3 := Aside0.mk (below_step HW2.out hb); have BKa_3 := Aside0.mk (blk_below BKa_2.out hb); obtain ⟨⟨x0a, x1a, x2a, x3a⟩, ⟨f0a, f1a, f2a, f3a⟩⟩ := blk50 BKa_3.out; clear hb) | (go_at_call 39; (with_reducible refine (AliveC.alive_calls _ ⟨G0.below hG.out HW3.out⟩).mono ?_); rintro ex w4 ⟨rfl, hb⟩; clear x0a x1a x2a x3a f0a f1a f2a f3a; have HW4 := Aside0.mk (below_step HW3.out hb); have BKa_4 := Aside0.mk (blk_below BKa_3.out hb); obtain ⟨⟨x0a, x1a, x2a, x3a⟩, ⟨f0a, f1a, f2a, f3a⟩⟩ := blk50 BKa_4.out; clear hb))
  go_ret
  exact ⟨rfl, HW4.out⟩
set_option maxHeartbeats 32000000 in
set_option maxRecDepth 100000 in
theorem back_long (k : Nat) (a : S50) (A : Option Addr) (c : Nat) (tx : ByteArray) (w : World) (hG : Aside0 (G0 w)) (hra : Kd.C k50 w A a.f3.length a.f3) (hca : a.f3.length ≤ c) (h1 : pidginlaw05_small.f k a.f0 a.f1 a.f2 a.f3 = some true) (h2 : expr_Show.f k a.f0 a.f1 a.f2 a.f3 = some (tx, 0)) (hd : decide ((tx.size : Int) > 200) = true) : Calls Tryd.prog 11 #[.agg #[.string a.f0, .int .u16 a.f1, .string a.f2, .slice A a.f3.length c]] w fun e w' => e = .returned (.bool true) ∧ Below w.heap.size w w' := by
  have hu50 := Tryd.underlying50
  have HRa := Aside0.mk hra
  have HCa := Aside0.mk hca
  have H1 := Aside0.mk h1
  have H2 := Aside0.mk h2
  clear hra hca h1 h2
  have HW0 := Aside0.mk (Below.refl w.heap.size w)
  go_enter Tryd.func11, Tryd.ntmps11
  go_wp2_with (first | ((with_reducible refine gate_dst (N := 1) rfl ?_); refine box_event ?hg (N := 1) ?hd (cs := #[.string a.f0, .int .u16 a.f1, .string a.f2, .slice A a.f3.length c]) (t := 50) ?hr ?_; (case hd => rfl); (case hg => rfl); (case hr => first | (go_simp; done) | (go_simp; rfl)); intro ga hg w1 hbox hb; have HW1 := Aside0.mk (below_step HW0.out hb); have BKa_1 := Aside0.mk hbox; obtain ⟨⟨x0a, x1a, x2a, x3a⟩, ⟨f0a, f1a, f2a, f3a⟩⟩ := blk50 BKa_1.out; clear hb hbox hg) | (go_at_call 38; (with_reducible refine (pidginlaw05_small.calls k a.f0 a.f1 a.f2 A c a.f3 true _ (Kd.C_below HRa.out HW1.out) HCa.out H1.out).mono ?_); rintro ex w2 ⟨rfl, hb⟩; clear x0a x1a x2a x3a f0a f1a f2a f3a; have HW2 := Aside0.mk (below_step HW1.out hb); have BKa_2 := Aside0.mk (blk_below BKa_1.out hb); obtain ⟨⟨x0a, x1a, x2a, x3a⟩, ⟨f0a, f1a, f2a, f3a⟩⟩ := blk50 BKa_2.out; clear hb) | (go_at_call 44; (with_reducible refine (expr_Show.calls k a.f0 a.f1 a.f2 A c a.f3 tx 0 _ ⟨G0.below hG.out HW2.out⟩ (Kd.C_below HRa.out HW2.out) HCa.out H2.out).mono ?_); rintro ex w3 ⟨rfl, hb⟩; clear x0a x1a x2a x3a f0a f1a f2a f3a; have HW3 := Aside0.mk (below_step HW2.out hb); have BKa_3 := Aside0.mk (blk_below BKa_2.out hb); obtain ⟨⟨x0a, x1a, x2a, x3a⟩, ⟨f0a, f1a, f2a, f3a⟩⟩ := blk50 BKa_3.out; clear hb) | (go_at_call 39; (with_reducible refine (AliveC.alive_calls _ ⟨G0.below hG.out HW3.out⟩).mono ?_); rintro ex w4 ⟨rfl, hb⟩; clear x0a x1a x2a x3a f0a f1a f2a f3a; have HW4 := Aside0.mk (below_step HW3.out hb); have BKa_4 := Aside0.mk (blk_below BKa_3.out hb); obtain ⟨⟨x0a, x1a, x2a, x3a⟩, ⟨f0a, f1a, f2a, f3a⟩⟩ := blk50 BKa_4.out; clear hb))
  go_ret
  exact ⟨rfl, HW4.out⟩
set_option maxHeartbeats 32000000 in
set_option maxRecDepth 100000 in
theorem back_right (k : Nat) (a : S50) (A : Option Addr) (c : Nat) (tx : ByteArray) (ts : List S41) (w : World) (hG : Aside0 (G0 w)) (hra : Kd.C k50 w A a.f3.length a.f3) (hca : a.f3.length ≤ c) (h1 : pidginlaw05_small.f k a.f0 a.f1 a.f2 a.f3 = some true) (h2 : expr_Show.f k a.f0 a.f1 a.f2 a.f3 = some (tx, 0)) (hd : decide ((tx.size : Int) > 200) = false) (h3 : token_Line.f k tx = some (ts, 0)) (h4 : expr_All.f k ts = some (a.f0, a.f1, a.f2, a.f3, 0)) (h5 : pidginref05_Same.f k a.f0 a.f1 a.f2 a.f3 a.f0 a.f1 a.f2 a.f3 = some true) : Calls Tryd.prog 11 #[.agg #[.string a.f0, .int .u16 a.f1, .string a.f2, .slice A a.f3.length c]] w fun e w' => e = .returned (.bool true) ∧ Below w.heap.size w w' := by
  have hu50 := Tryd.underlying50
  have HRa := Aside0.mk hra
  have HCa := Aside0.mk hca
  have H1 := Aside0.mk h1
  have H2 := Aside0.mk h2
  have H3 := Aside0.mk h3
  have H4 := Aside0.mk h4
  have H5 := Aside0.mk h5
  clear hra hca h1 h2 h3 h4 h5
  have HW0 := Aside0.mk (Below.refl w.heap.size w)
  go_enter Tryd.func11, Tryd.ntmps11
  go_wp2_with (first | ((with_reducible refine gate_dst (N := 1) rfl ?_); refine box_event ?hg (N := 1) ?hd (cs := #[.string a.f0, .int .u16 a.f1, .string a.f2, .slice A a.f3.length c]) (t := 50) ?hr ?_; (case hd => rfl); (case hg => rfl); (case hr => first | (go_simp; done) | (go_simp; rfl)); intro ga hg w1 hbox hb; have HW1 := Aside0.mk (below_step HW0.out hb); have BKa_1 := Aside0.mk hbox; obtain ⟨⟨x0a, x1a, x2a, x3a⟩, ⟨f0a, f1a, f2a, f3a⟩⟩ := blk50 BKa_1.out; clear hb hbox hg) | (go_at_call 38; (with_reducible refine (pidginlaw05_small.calls k a.f0 a.f1 a.f2 A c a.f3 true _ (Kd.C_below HRa.out HW1.out) HCa.out H1.out).mono ?_); rintro ex w2 ⟨rfl, hb⟩; clear x0a x1a x2a x3a f0a f1a f2a f3a; have HW2 := Aside0.mk (below_step HW1.out hb); have BKa_2 := Aside0.mk (blk_below BKa_1.out hb); obtain ⟨⟨x0a, x1a, x2a, x3a⟩, ⟨f0a, f1a, f2a, f3a⟩⟩ := blk50 BKa_2.out; clear hb) | (go_at_call 44; (with_reducible refine (expr_Show.calls k a.f0 a.f1 a.f2 A c a.f3 tx 0 _ ⟨G0.below hG.out HW2.out⟩ (Kd.C_below HRa.out HW2.out) HCa.out H2.out).mono ?_); rintro ex w3 ⟨rfl, hb⟩; clear x0a x1a x2a x3a f0a f1a f2a f3a; have HW3 := Aside0.mk (below_step HW2.out hb); have BKa_3 := Aside0.mk (blk_below BKa_2.out hb); obtain ⟨⟨x0a, x1a, x2a, x3a⟩, ⟨f0a, f1a, f2a, f3a⟩⟩ := blk50 BKa_3.out; clear hb) | (go_at_call 28; refine (token_Line.calls k tx ts 0 _ ⟨G0.below hG.out HW3.out⟩ H3.out).mono ?_; rintro ex w4 ⟨v1, rfl, ho, hb⟩; have HO1 := Aside0.mk ho; clear x0a x1a x2a x3a f0a f1a f2a f3a; have HW4 := Aside0.mk (below_step HW3.out hb); have BKa_4 := Aside0.mk (blk_below BKa_3.out hb); obtain ⟨⟨x0a, x1a, x2a, x3a⟩, ⟨f0a, f1a, f2a, f3a⟩⟩ := blk50 BKa_4.out; obtain ⟨At, ct, rfl⟩ := Kd.R_slice HO1.out; clear hb ho) | (go_at_call 45; refine (expr_All.calls k At ct ts a.f0 a.f1 a.f2 a.f3 0 _ (Kd.R_reads' HO1.out).2.2 (Kd.R_reads' HO1.out).2.1 H4.out).mono ?_; rintro ex w5 ⟨v2, rfl, ho, hb⟩; have HO2 := Aside0.mk ho; clear x0a x1a x2a x3a f0a f1a f2a f3a; have HW5 := Aside0.mk (below_step HW4.out hb); have BKa_5 := Aside0.mk (blk_below BKa_4.out hb); obtain ⟨⟨x0a, x1a, x2a, x3a⟩, ⟨f0a, f1a, f2a, f3a⟩⟩ := blk50 BKa_5.out; obtain ⟨Ah, ch, rfl⟩ := Kd.R_slice HO2.out; clear hb ho) | ((with_reducible refine gate_dst (N := 7) rfl ?_); refine box_event ?hg (N := 7) ?hd (cs := #[.string (⟨#[]⟩ : ByteArray), .int .u16 0, .string (⟨#[]⟩ : ByteArray), .slice none 0 0]) (t := 50) ?hr ?_; (case hd => rfl); (case hg => rfl); (case hr => first | (go_simp; done) | (go_simp; rfl)); intro gz hg w6 hbox hb; have HZ := Aside0.mk hb; have BZ := Aside0.mk hbox; have HE := Aside0.mk hg; obtain ⟨⟨z0, z1, z2, z3⟩, ⟨u0, u1, u2, u3⟩⟩ := blk50 hbox; clear hb hbox hg) | ((with_reducible refine gate_store (t := 50) (p := 7) rfl ?_); refine store_event (t := 50) (p := 7) (v := ?vo7) ?hg ?ho ?hN (w1 := put50 w6 gz (.string a.f0) (.int .u16 a.f1) (.string a.f2) (.slice Ah a.f3.length ch)) ?hr ?_; (case ho => rfl); (case hg => rfl); (case hN => rfl); (case hr => first | (go_simp; done) | (go_simp; rfl)); intro w7 hw; have hb : Below w5.heap.size w5 w7 := (by rw [hw]; exact below_put HZ.out (Nat.le_of_eq HE.out.symm)); have BH := Aside0.mk (show w7.heap[gz]? = some (.cells #[.string a.f0, .int .u16 a.f1, .string a.f2, .slice Ah a.f3.length ch] 50 (0, 0)) from (by rw [hw]; exact put50_blk BZ.out)); have HO3 := Aside0.mk (RE_below HO2.out hb); clear z0 z1 z2 z3 u0 u1 u2 u3; clear x0a x1a x2a x3a f0a f1a f2a f3a; have HW7 := Aside0.mk (below_step HW5.out hb); have BKa_7 := Aside0.mk (blk_below BKa_5.out hb); obtain ⟨⟨x0a, x1a, x2a, x3a⟩, ⟨f0a, f1a, f2a, f3a⟩⟩ := blk50 BKa_7.out; obtain ⟨⟨z0, z1, z2, z3⟩, ⟨u0, u1, u2, u3⟩⟩ := blk50 BH.out; clear hb hw) | (go_at_call 46; (with_reducible refine (pidginref05_Same.calls k a.f0 a.f1 a.f2 A c a.f3 a.f0 a.f1 a.f2 Ah ch a.f3 true _ (Kd.C_below HRa.out HW7.out) HCa.out (Kd.R_reads' HO3.out).2.2 (Kd.R_reads' HO3.out).2.1 H5.out).mono ?_); rintro ex w8 ⟨rfl, hb⟩; clear x0a x1a x2a x3a f0a f1a f2a f3a; have HW8 := Aside0.mk (below_step HW7.out hb); have BKa_8 := Aside0.mk (blk_below BKa_7.out hb); obtain ⟨⟨x0a, x1a, x2a, x3a⟩, ⟨f0a, f1a, f2a, f3a⟩⟩ := blk50 BKa_8.out; clear hb) | (go_at_call 39; (with_reducible refine (AliveC.alive_calls _ ⟨G0.below hG.out HW8.out⟩).mono ?_); rintro ex w9 ⟨rfl, hb⟩; clear x0a x1a x2a x3a f0a f1a f2a f3a; have HW9 := Aside0.mk (below_step HW8.out hb); have BKa_9 := Aside0.mk (blk_below BKa_8.out hb); obtain ⟨⟨x0a, x1a, x2a, x3a⟩, ⟨f0a, f1a, f2a, f3a⟩⟩ := blk50 BKa_9.out; clear hb))
  go_ret
  exact ⟨rfl, HW9.out⟩
end Go.Proofs.YtejhagejjogbaaaDoor.BackC
end
section
namespace Go.Proofs.YtejhagejjogbaaaDoor.AlikeC
open Go.RowKit Go.Proofs.YtejhagejjogbaaaDoorW.PrintWords Go.Proofs.YtejhagejjogbaaaDoorW.PrintLast Go.Proofs.YtejhagejjogbaaaDoorW.PrintMore Go.Proofs.YtejhagejjogbaaaDoor.Given Go.Proofs.YtejhagejjogbaaaDoor.Pn Go.Proofs.YtejhagejjogbaaaDoor.Pa Go.Proofs.YtejhagejjogbaaaDoor.Pb Go.Proofs.YtejhagejjogbaaaDoor.Qa Go.Proofs.YtejhagejjogbaaaDoor.Qc Go.Proofs.YtejhagejjogbaaaDoor.Qf Go.Proofs.YtejhagejjogbaaaDoor.Num Go.Proofs.YtejhagejjogbaaaDoor.PsrC Go.Proofs.YtejhagejjogbaaaDoor.PsrD Go.Proofs.YtejhagejjogbaaaDoor.PsrF Go.Proofs.YtejhagejjogbaaaDoor.PsrI.R Go.Proofs.YtejhagejjogbaaaDoor.SameC.R Go.Proofs.YtejhagejjogbaaaDoor.EvC Go.Proofs.YtejhagejjogbaaaDoor.LawC
set_option linter.unusedVariables false
set_option linter.unusedSimpArgs false
end Go.Proofs.YtejhagejjogbaaaDoor.AlikeC
end
section
namespace Go.Proofs.YtejhagejjogbaaaDoor.Ee
open Go.RowKit Go.Proofs.YtejhagejjogbaaaDoorW.PrintWords Go.Proofs.YtejhagejjogbaaaDoorW.PrintLast Go.Proofs.YtejhagejjogbaaaDoor.Given Go.Proofs.YtejhagejjogbaaaDoor.Pn Go.Proofs.YtejhagejjogbaaaDoor.Pa Go.Proofs.YtejhagejjogbaaaDoor.Pb Go.Proofs.YtejhagejjogbaaaDoor.Qa Go.Proofs.YtejhagejjogbaaaDoor.Qc Go.Proofs.YtejhagejjogbaaaDoor.Num Go.Proofs.YtejhagejjogbaaaDoor.AnyNot Go.Proofs.YtejhagejjogbaaaDoor.Par Go.Proofs.YtejhagejjogbaaaDoor.SameC Go.Proofs.YtejhagejjogbaaaDoor.SameC.R Go.Proofs.YtejhagejjogbaaaDoor.SameD Go.Proofs.YtejhagejjogbaaaDoor.Tk Go.Proofs.YtejhagejjogbaaaDoor.TokJoin Go.Proofs.YtejhagejjogbaaaDoor.TokRep Go.Proofs.YtejhagejjogbaaaDoor.LawC Go.Proofs.YtejhagejjogbaaaDoor.PsrI.R Go.Proofs.YtejhagejjogbaaaDoor.BackC Go.Proofs.YtejhagejjogbaaaDoor.AlikeC
set_option linter.unusedSimpArgs false
set_option linter.unusedVariables false
theorem shown {e : S50} (hl : lightN 40 e = true) (hok : NumOk e) : ∃ (tx : ByteArray) (i : Int) (K : Nat), (∀ k, K ≤ k → expr_Show.f k e.f0 e.f1 e.f2 e.f3 = some (tx, i)) ∧
    ((rightN 24 e = false ∧ tx = ⟨#[]⟩ ∧ i = 2) ∨ (rightN 24 e = true ∧ tx = ⟨(joinT (etN 24 e 1)).toArray⟩ ∧ i = 0)) := by
  obtain ⟨K, h⟩ := Show_ev e hl hok
  cases hr : rightN 24 e with
  | false => exact ⟨⟨#[]⟩, 2, K, fun k hk => (h k hk).trans (by rw [hr]; rfl), .inl ⟨rfl, rfl, rfl⟩⟩
  | true => exact ⟨⟨(joinT (etN 24 e 1)).toArray⟩, 0, K, fun k hk => (h k hk).trans (by rw [hr]; rfl), .inr ⟨rfl, rfl, rfl⟩⟩
theorem ExprBack_calls (a : S50) (A : Option Addr) (c : Nat) (hok : NumOk a) (w : World) (hG : Aside0 (G0 w)) (hr : Kd.C k50 w A a.f3.length a.f3) (hc : a.f3.length ≤ c) :
    Calls Tryd.prog 11 #[.agg #[.string a.f0, .int .u16 a.f1, .string a.f2, .slice A a.f3.length c]] w fun e w' => e = .returned (.bool true) ∧ Below w.heap.size w w' := by
  obtain ⟨b, ⟨K0, h0⟩, hl⟩ := small_ev a
  cases b with
  | false => exact back_large (K0) a A c w hG hr hc (h0 _ (by omega))
  | true =>
    have hl := hl rfl
    obtain ⟨tx, i, K1, h1, ⟨hn, rfl, rfl⟩ | ⟨hy, htx, rfl⟩⟩ := shown hl hok
    · exact back_wrong (K0 + K1) a A c w hG hr hc (h0 _ (by omega)) (h1 _ (by omega))
    · by_cases hs : 200 < tx.size
      · exact back_long (K0 + K1) a A c tx w hG hr hc (h0 _ (by omega)) (h1 _ (by omega)) (decide_eq_true (show (tx.size : Int) > 200 by omega))
      · have hL : L tx = joinT (etN 24 a 1) := by rw [htx]; exact Llist _
        have hline := line_et hy hok tx hL hs
        have hlen := lineT_len tx
        rw [hline] at hlen
        obtain ⟨K2, h2⟩ := line_ev tx
        rw [hline] at h2
        obtain ⟨K3, h3⟩ := all_right a hy hlen
        obtain ⟨K4, h4⟩ := ref_same 40 a hl
        exact back_right (K0 + K1 + K2 + K3 + K4) a A c tx (etN 24 a 1) w hG hr hc (h0 _ (by omega)) (h1 _ (by omega)) (decide_eq_false (show ¬ (tx.size : Int) > 200 by omega)) (h2 _ (by omega)) (h3 _ (by omega)) (h4 _ (by omega))
end Go.Proofs.YtejhagejjogbaaaDoor.Ee
end
section
namespace Go.Proofs.YtejhagejjogbaaaDoor.Open46
open Go Go.RowKit Go.ChangeShapes Go.WideShapes Go.Deep Go.Proofs.YtejhagejjogbaaaDoor.Pa Go.Proofs.YtejhagejjogbaaaDoorW.PrintWords Go.Proofs.YtejhagejjogbaaaDoorW.PrintLast
variable {H : Type} {enc : TypeId × Value → H} {w : World} {base : Nat} {spare : Nat → Bool} {held : Bool}
theorem list_of {α : Type} (n : Nat) (Q : Nat → α → Prop) (h : ∀ i, i < n → ∃ x, Q i x) : ∃ l : List α, l.length = n ∧ ∀ j p, l[j]? = some p → Q j p := by
  induction n with
  | zero => exact ⟨[], rfl, fun j p hp => by simp at hp⟩
  | succ n ih =>
    obtain ⟨l, hl, hq⟩ := ih (fun i hi => h i (by omega))
    obtain ⟨x, hx⟩ := h n (by omega)
    refine ⟨l ++ [x], by simp [hl], fun j p hp => ?_⟩
    by_cases hj : j < l.length
    · rw [List.getElem?_append_left hj] at hp; exact hq j p hp
    · rw [List.getElem?_append_right (by omega)] at hp
      have hj2 : j - l.length = 0 := by
        by_cases e : j - l.length = 0
        · exact e
        · rw [List.getElem?_eq_none (by simp; omega)] at hp; cases hp
      rw [hj2] at hp
      have : x = p := by simpa using hp
      subst this
      have : j = n := by omega
      rw [this]; exact hx
theorem c3 : Tryd.prog.cellsOf 3 = 1 := by kernel_rfl
theorem c9 : Tryd.prog.cellsOf 9 = 1 := by kernel_rfl
theorem c28 : Tryd.prog.cellsOf 28 = 1 := by kernel_rfl
end Go.Proofs.YtejhagejjogbaaaDoor.Open46
end
section
namespace Go.Proofs.YtejhagejjogbaaaDoor.Open50
open Go Go.RowKit Go.ChangeShapes Go.WideShapes Go.Deep Go.Proofs.YtejhagejjogbaaaDoor.Pa Go.Proofs.YtejhagejjogbaaaDoor.Qa Go.Proofs.YtejhagejjogbaaaDoor.Ee Go.Proofs.YtejhagejjogbaaaDoor.Open46 Go.Proofs.YtejhagejjogbaaaDoorW.PrintWords Go.Proofs.YtejhagejjogbaaaDoorW.PrintLast
variable {H : Type} {enc : TypeId × Value → H} {w : World} {base : Nat} {spare : Nat → Bool} {held : Bool}
theorem four {α : Type} {l : List α} (h : l.length = 4) : ∃ a b c d, l = [a, b, c, d] := by
  match l, h with
  | [a, b, c, d], _ => exact ⟨a, b, c, d, rfl⟩
theorem c50 : Tryd.prog.cellsOf 50 = 4 := by kernel_rfl
theorem c48 : Tryd.prog.cellsOf 48 = 1 := by kernel_rfl
theorem u16_range {n : Int} (h : (Lit.int .u16 n).wf = true) : 0 ≤ n ∧ n ≤ 65535 := by
  simp only [Lit.wf, Bool.and_eq_true, decide_eq_true_eq] at h
  have h1 : IntKind.u16.min = 0 := by decide
  have h2 : IntKind.u16.max = 65535 := by decide
  omega
theorem open50 (fuel : Nat) : ∀ {cs : List Value} {x : DataW H × List MemPlace}, DataW.trod enc Tryd.prog w base spare held fuel 50 cs = some x →
    ∃ (e : S50) (A : Option Addr) (c : Nat), cs = [.string e.f0, .int .u16 e.f1, .string e.f2, .slice A e.f3.length c] ∧ e.f3.length ≤ c ∧ Kd.C k50 w A e.f3.length e.f3 ∧ NumOk e := by
  induction fuel using Nat.strongRecOn with
  | _ fuel ih =>
    intro cs x h
    obtain ⟨ys, n', hfu, _, hlen, hyl, hf⟩ := DataW.trod_struct Tryd.underlying50 h
    obtain ⟨a, b, c, d, rfl⟩ := four (hlen.trans c50)
    obtain ⟨y0, y1, y2, y3, rfl⟩ := four (show ys.length = 4 from hyl)
    have h0 : DataW.trod enc Tryd.prog w base spare held n' 9 ([a, b, c, d].take (Tryd.prog.cellsOf 9)) = some y0 := hf 0 _ rfl
    have h1 : DataW.trod enc Tryd.prog w base spare held n' 28 ([b, c, d].take (Tryd.prog.cellsOf 28)) = some y1 := hf 1 _ rfl
    have h2 : DataW.trod enc Tryd.prog w base spare held n' 9 ([c, d].take (Tryd.prog.cellsOf 9)) = some y2 := hf 2 _ rfl
    have h3 : DataW.trod enc Tryd.prog w base spare held n' 48 ([d].take (Tryd.prog.cellsOf 48)) = some y3 := hf 3 _ rfl
    rw [c9] at h0 h2
    rw [c28] at h1
    rw [c48] at h3
    obtain ⟨u, e0, _⟩ := DataW.trod_string Tryd.underlying9 h0
    obtain ⟨s, e1, _, hwf⟩ := DataW.trod_int Tryd.underlying28 h1
    obtain ⟨v, e2, _⟩ := DataW.trod_string Tryd.underlying9 h2
    simp only [List.take_succ_cons, List.take_zero, List.cons.injEq, and_true] at e0 e1 e2
    subst e0 e1 e2
    obtain ⟨r0, r1⟩ := u16_range hwf
    rcases DataW.trod_slice Tryd.underlying48 h3 with ⟨e3, _⟩ | ⟨ad, len, cap, elems, rest, m, hfm, e3, _, hb, hl, hm, hlen3, hel, _, _⟩
    · simp only [List.take_succ_cons, List.take_zero, List.cons.injEq, and_true] at e3
      subst e3
      exact ⟨⟨u, s, v, []⟩, none, 0, rfl, Nat.le_refl _, ⟨rfl, by simp, fun h => by simp at h⟩, .mk _ _ _ _ r0 r1 (fun x hx => by cases hx)⟩
    · simp only [List.take_succ_cons, List.take_zero, List.cons.injEq, and_true] at e3
      subst e3
      obtain ⟨l, hll, hq⟩ := list_of len (fun i (p : S50) => (∃ cs, k50.K w p cs ∧ cs.length = 4 ∧ ∀ u v, cs[u]? = some v → w.cell? (ad.add (i * 4 + u)) = some v) ∧ NumOk p) (fun i hlt => by
        have key := hel i hlt
        rw [List.getElem?_eq_getElem (by omega)] at key
        obtain ⟨cs', hc, ht'⟩ := Option.bind_eq_some_iff.1 key
        obtain ⟨p, A, q, rfl, hpq, hpc, hpn⟩ := ih m (by omega) ht'
        obtain ⟨_, _, hat⟩ := World.cells?_some hc
        refine ⟨p, ⟨_, k50_mk w p hpq hpc, rfl, fun u v huv => ?_⟩, hpn⟩
        have hu : u < 4 := by
          by_cases e : u < 4
          · exact e
          · rw [List.getElem?_eq_none (by simp; omega)] at huv; cases huv
        have h1 := (hat u (Nat.lt_of_lt_of_eq hu c50.symm)).trans huv
        rw [Go.Deep.add_add, show i * Tryd.prog.cellsOf 50 = i * 4 from congrArg (i * ·) c50] at h1
        exact h1)
      have hcap : cap ≤ 9223372036854775807 := Nat.le_trans hm (by decide)
      refine ⟨⟨u, s, v, l⟩, some ad, cap, by rw [hll], by show l.length ≤ cap; omega, ⟨rfl, by show l.length ≤ _; omega, fun _ => ⟨ad, rfl, fun j p hp => ?_⟩⟩, .mk _ _ _ _ r0 r1 (fun x hx => ?_)⟩
      · obtain ⟨⟨cs, h1, h2, h3⟩, _⟩ := hq j p hp
        exact ⟨cs, h2, h1, h3⟩
      · obtain ⟨j, hj, rfl⟩ := List.getElem_of_mem hx
        exact (hq j _ (List.getElem?_eq_getElem hj)).2
end Go.Proofs.YtejhagejjogbaaaDoor.Open50
end
