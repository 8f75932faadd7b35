import Derived.Test.YtejhagejjogbaaaDoorKbM10
import Derived.Test.YtejhagejjogbaaaDoorKbM15
import Derived.Test.YtejhagejjogbaaaDoorKbM13
import Derived.Test.YtejhagejjogbaaaDoorKbM14
import Derived.Test.YtejhagejjogbaaaDoorKbM6
import Derived.Test.YtejhagejjogbaaaDoorKbM16
namespace Go.Proofs.YtejhagejjogbaaaDoor.Ee
open Go.RowKit Go.Proofs.YtejhagejjogbaaaDoorW.PrintWords Go.Proofs.YtejhagejjogbaaaDoorW.PrintLast Go.Proofs.YtejhagejjogbaaaDoorW.PrintMore Go.Proofs.YtejhagejjogbaaaDoor.Given Go.Proofs.YtejhagejjogbaaaDoor.Pn Go.Proofs.YtejhagejjogbaaaDoor.Pa Go.Proofs.YtejhagejjogbaaaDoor.Qa Go.Proofs.YtejhagejjogbaaaDoor.Qc Go.Proofs.YtejhagejjogbaaaDoor.Qf Go.Proofs.YtejhagejjogbaaaDoor.Qg Go.Proofs.YtejhagejjogbaaaDoor.Num Go.Proofs.YtejhagejjogbaaaDoor.AnyNot Go.Proofs.YtejhagejjogbaaaDoor.EvB Go.Proofs.YtejhagejjogbaaaDoor.EvC Go.Proofs.YtejhagejjogbaaaDoor.LawC Go.Proofs.YtejhagejjogbaaaDoor.Right.R
set_option linter.unusedSimpArgs false
set_option linter.unusedVariables false
theorem evalP_two (op : ByteArray) (x y : Int) (F : ByteArray → Int × Int) (h1 : op.data.toList ≠ [35]) (h2 : op.data.toList ≠ [36]) (h3 : op.data.toList ≠ [110]) (h4 : op.data.toList ≠ [78, 79, 84]) (h5 : op.data.toList ≠ [78, 69, 71]) (k : Nat) :
    evalP 0 F (k + 2) ⟨op, 0, ⟨#[]⟩, [numE x, numE y]⟩ = expr_two.f op x y := by
  have hn : ∀ z, evalP 0 F (k + 1) (numE z) = some (z, 0) := fun z => by rw [evalP]; exact if_pos rfl
  rw [evalP]
  simp only [if_neg h1, if_neg h2, if_neg h3, if_neg h4, if_neg h5, hn, if_true]
theorem two_ev (op : ByteArray) (x y : Int) (r : Int × Int) (hr : expr_Right.f op 0 ⟨#[]⟩ [numE x, numE y] = some 0) (h1 : op.data.toList ≠ [35]) (h2 : op.data.toList ≠ [36]) (h3 : op.data.toList ≠ [110]) (h4 : op.data.toList ≠ [78, 79, 84]) (h5 : op.data.toList ≠ [78, 69, 71]) (h : expr_two.f op x y = some r) :
    Ev (fun k => law_two.f k op x y) r := by
  refine Ev.step (f := fun k => law_two.f (k + 1) op x y) (fun k => rfl) (Ev.step (f := fun k => law_two.f (k + 2) op x y) (fun k => rfl) ⟨0, fun k _ => ?_⟩)
  show law_two.f (k + 2) op x y = some r
  unfold law_two.f expr_Eval0.f evalT
  simp only [hr, if_true]
  rw [evalP_two op x y _ h1 h2 h3 h4 h5 k]
  exact h
theorem num_right (n : Nat) (x : Int) : rightN (n + 1) (numE x) = true := by simp [rightN, condR, numE, bindsL]
theorem num_ok (n : Nat) (x : Int) : okB (n + 1) (numE x) = true := rfl
theorem two_right (op : ByteArray) (h : (bindsL op.data.toList).1 ≠ 0 ∧ (bindsL op.data.toList).2 = 2 ∧ op.data.toList ≠ [110]) (x y : Int) : expr_Right.f op 0 ⟨#[]⟩ [numE x, numE y] = some 0 := by
  have hk : okB 24 ⟨op, 0, ⟨#[]⟩, [numE x, numE y]⟩ = true := by
    rw [okB]
    simp only [List.all_cons, List.all_nil, num_ok 22, Bool.and_true, decide_eq_true_eq]
    decide
  have hr : rightN 24 ⟨op, 0, ⟨#[]⟩, [numE x, numE y]⟩ = true := by
    rw [rightN]
    simp only [List.all_cons, List.all_nil, num_right 22, Bool.and_true, condR, h.2.1, if_neg h.2.2, decide_eq_true h.1, Bool.true_and]
    rfl
  have := Right_at ⟨op, 0, ⟨#[]⟩, [numE x, numE y]⟩ hk
  rw [hr] at this
  exact this
theorem rdiv (x y : Int) : expr_Right.f (⟨#[47]⟩ : ByteArray) 0 ⟨#[]⟩ [numE x, numE y] = some 0 := two_right _ (by decide) x y
theorem tdiv_ev (x y : Int) : expr_two.f (⟨#[47]⟩ : ByteArray) x y = if y = 0 then some (0, 5) else some (IntKind.u16.wrap (Int.tdiv x y), 0) := by unfold expr_two.f; simp only [Lib.toList_data]; rfl
theorem rmod (x y : Int) : expr_Right.f (⟨#[77, 79, 68]⟩ : ByteArray) 0 ⟨#[]⟩ [numE x, numE y] = some 0 := two_right _ (by decide) x y
theorem tmod_ev (x y : Int) : expr_two.f (⟨#[77, 79, 68]⟩ : ByteArray) x y = if y = 0 then some (0, 5) else some (Int.tmod x y, 0) := by unfold expr_two.f; simp only [Lib.toList_data]; rfl
theorem rshl (x y : Int) : expr_Right.f (⟨#[83, 72, 76]⟩ : ByteArray) 0 ⟨#[]⟩ [numE x, numE y] = some 0 := two_right _ (by decide) x y
theorem tshl_ev (x y : Int) : expr_two.f (⟨#[83, 72, 76]⟩ : ByteArray) x y = if 0 ≤ y then some (shl .u16 x y, 0) else none := by unfold expr_two.f; simp only [Lib.toList_data]; rfl
theorem rshr (x y : Int) : expr_Right.f (⟨#[83, 72, 82]⟩ : ByteArray) 0 ⟨#[]⟩ [numE x, numE y] = some 0 := two_right _ (by decide) x y
theorem tshr_ev (x y : Int) : expr_two.f (⟨#[83, 72, 82]⟩ : ByteArray) x y = if 0 ≤ y then some (shr .u16 x y, 0) else none := by unfold expr_two.f; simp only [Lib.toList_data]; rfl
theorem wrap_small {n : Int} (h0 : 0 ≤ n) (h1 : n ≤ 65535) : IntKind.u16.wrap n = n := by
  show n % 65536 = n
  omega
theorem u16_range {n : Int} (h : (Lit.int .u16 n).wf = true) : 0 ≤ n ∧ n ≤ 65535 := by
  simp only [Lit.wf, Bool.and_eq_true, decide_eq_true_eq] at h
  have h1 : IntKind.u16.min = 0 := by decide
  have h2 : IntKind.u16.max = 65535 := by decide
  omega
theorem ExprParts_ev (a b : Int) (wa : (Lit.int .u16 a).wf = true) (wb : (Lit.int .u16 b).wf = true) : Ev (fun k => pidginlaw05_ExprParts.f k a b) true := by
  obtain ⟨a0, a1⟩ := u16_range wa
  obtain ⟨b0, b1⟩ := u16_range wb
  have hl := two_ev ⟨#[83, 72, 76]⟩ a b (shl .u16 a b, 0) (rshl a b) (by decide) (by decide) (by decide) (by decide) (by decide) (by rw [tshl_ev, if_pos b0])
  have hr := two_ev ⟨#[83, 72, 82]⟩ a b (shr .u16 a b, 0) (rshr a b) (by decide) (by decide) (by decide) (by decide) (by decide) (by rw [tshr_ev, if_pos b0])
  have live : Ev (fun k => (pidginlaw05_alive.f k).bind fun t => some t) true := Ev.bind alive5 (Ev.now _)
  unfold pidginlaw05_ExprParts.f
  by_cases hb : b = 0
  · subst hb
    refine Ev.bind (two_ev ⟨#[47]⟩ a 0 (0, 5) (rdiv a 0) (by decide) (by decide) (by decide) (by decide) (by decide) (by rw [tdiv_ev]; rfl)) ?_
    refine Ev.bind (two_ev ⟨#[77, 79, 68]⟩ a 0 (0, 5) (rmod a 0) (by decide) (by decide) (by decide) (by decide) (by decide) (by rw [tmod_ev]; rfl)) ?_
    refine Ev.bind hl (Ev.bind hr ?_)
    have e1 : shl .u16 a 0 = a := by show IntKind.u16.wrap (a * 1) = a; rw [Int.mul_one]; exact wrap_small a0 a1
    have e2 : shr .u16 a 0 = a := by show a / 1 = a; exact Int.ediv_one a
    simp only [if_true, e1, e2]
    exact live
  · refine Ev.bind (two_ev ⟨#[47]⟩ a b (IntKind.u16.wrap (Int.tdiv a b), 0) (rdiv a b) (by decide) (by decide) (by decide) (by decide) (by decide) (by rw [tdiv_ev, if_neg hb])) ?_
    refine Ev.bind (two_ev ⟨#[77, 79, 68]⟩ a b (Int.tmod a b, 0) (rmod a b) (by decide) (by decide) (by decide) (by decide) (by decide) (by rw [tmod_ev, if_neg hb])) ?_
    refine Ev.bind hl (Ev.bind hr ?_)
    have ed : Int.tdiv a b = a / b := Int.tdiv_eq_ediv_of_nonneg a0
    have em : Int.tmod a b = a % b := Int.tmod_eq_emod_of_nonneg a0
    have hb2 : 0 < b := by omega
    have q0 : 0 ≤ a / b := Int.ediv_nonneg a0 b0
    have q1 : a / b ≤ a := Int.ediv_le_self b a0
    have hq : IntKind.u16.wrap (Int.tdiv a b) = a / b := by rw [ed]; exact wrap_small q0 (by omega)
    have hmb : (a / b) * b + a % b = a := by rw [Int.mul_comm]; exact Int.mul_ediv_add_emod a b
    have m0 : 0 ≤ a % b := Int.emod_nonneg a (by omega)
    have m1 : a % b < b := Int.emod_lt_of_pos a hb2
    have p0 : 0 ≤ (a / b) * b := Int.mul_nonneg q0 b0
    have hback : IntKind.u16.wrap (IntKind.u16.wrap (a / b * b) + a % b) = a := by
      rw [wrap_small p0 (by omega), hmb]; exact wrap_small a0 a1
    simp only [if_neg hb, hq, em, hback, m1, if_true]
    by_cases h16 : b < 16
    · have hmin : min b.toNat 16 = b.toNat := by omega
      have hpos : ∀ n : Nat, n < 16 → IntKind.u16.wrap (1 * 2 ^ n) = 2 ^ n ∧ (2 ^ n : Int) ≠ 0 ∧ (0 : Int) ≤ 2 ^ n := by decide
      obtain ⟨hp, hp0, hp1⟩ := hpos b.toNat (by omega)
      have h1 : shl .u16 1 b = 2 ^ b.toNat := by show IntKind.u16.wrap (1 * 2 ^ min b.toNat 16) = _; rw [hmin]; exact hp
      have h2 : shl .u16 a b = IntKind.u16.wrap (a * 2 ^ b.toNat) := by show IntKind.u16.wrap (a * 2 ^ min b.toNat 16) = _; rw [hmin]
      have h3 : shr .u16 a b = a / 2 ^ b.toNat := by show a / 2 ^ min b.toNat 16 = _; rw [hmin]
      have h4 : IntKind.u16.wrap (Int.tdiv a (2 ^ b.toNat)) = a / 2 ^ b.toNat := by
        rw [Int.tdiv_eq_ediv_of_nonneg a0]
        have x0 : 0 ≤ a / 2 ^ b.toNat := Int.ediv_nonneg a0 hp1
        have x1 : a / 2 ^ b.toNat ≤ a := Int.ediv_le_self _ a0
        exact wrap_small x0 (by omega)
      simp only [if_pos h16, if_pos b0, h1, h2, h3, h4, if_neg hp0, if_true]
      exact live
    · have hmin : min b.toNat 16 = 16 := by omega
      have h2 : shl .u16 a b = 0 := by
        show IntKind.u16.wrap (a * 2 ^ min b.toNat 16) = _
        rw [hmin]; show (a * 65536) % 65536 = 0; omega
      have h3 : shr .u16 a b = 0 := by
        show a / 2 ^ min b.toNat 16 = _
        rw [hmin]; show a / 65536 = 0; omega
      simp only [if_neg h16, h2, h3, if_true]
      exact live
end Go.Proofs.YtejhagejjogbaaaDoor.Ee
