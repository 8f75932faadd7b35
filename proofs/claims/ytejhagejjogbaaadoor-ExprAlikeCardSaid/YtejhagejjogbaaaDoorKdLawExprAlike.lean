import Derived.Test.YtejhagejjogbaaaDoorKdM2
import Derived.Test.YtejhagejjogbaaaDoorTie
import Derived.Test.YtejhagejjogbaaaDoorCards
import Derived.Lay
import Derived.SevenTiedAt
import Derived.Test.YtejhagejjogbaaaDoorKdM14
namespace Go.Proofs.YtejhagejjogbaaaDoor.exprAlike
open Go.ChangeShapes Go.WideShapes Go.ChangeAt Go.RowKit Go.Proofs.YtejhagejjogbaaaDoor.Door Go.Proofs.YtejhagejjogbaaaDoor.Given Go.Proofs.YtejhagejjogbaaaDoorW.PrintWords Go.Proofs.YtejhagejjogbaaaDoorW.PrintLast
open Go.ChangeMaps (open_string shut_string)
set_option linter.unusedVariables false
theorem laidOut : laidOutB Tryd.prog = true := by kernel_rfl
theorem walk (e0 : Qa.S50) (A0 : Option Addr) (c0 : Nat) (e1 : Qa.S50) (A1 : Option Addr) (c1 : Nat) (W : World) (hG : Aside0 (G0 W)) (hok0 : Ee.NumOk e0) (hC0 : Kd.C Qa.k50 W A0 e0.f3.length e0.f3) (hlc0 : e0.f3.length ≤ c0) (hok1 : Ee.NumOk e1) (hC1 : Kd.C Qa.k50 W A1 e1.f3.length e1.f3) (hlc1 : e1.f3.length ≤ c1) :
    Calls Tryd.prog 14 #[.agg #[.string e0.f0, .int .u16 e0.f1, .string e0.f2, .slice A0 e0.f3.length c0], .agg #[.string e1.f0, .int .u16 e1.f1, .string e1.f2, .slice A1 e1.f3.length c1]] W fun e W' => e = .returned (.bool true) ∧ Below W.heap.size W W' := by
  exact Ee.ExprAlike_calls e0 A0 c0 e1 A1 c1 hok0 hok1 W hG hC0 hlc0 hC1 hlc1
set_option maxRecDepth 100000 in
theorem lifted (os : Os) (started : os.Started) (H : Type) (enc : TypeId × Value → H) :
    ReturnsInHanded {} Tryd.checked os 14 .any (fun w args => (Rows.exprAlikeSpec.pre enc Tryd.prog Tryd.f14 [] false w args ∧ laidMetH Tryd.prog Rows.exprAlikeRow.laid w) ∧ sizedMet enc Tryd.prog Tryd.f14 (OpenSpec.ofChange Rows.exprAlikeSpec) false w args)
      (Rows.exprAlikeSpec.post enc Tryd.prog Tryd.f14 false true false false) := by
  refine returns_both (C := Tryd.checked) (X := fun w _ => laidMetH Tryd.prog Rows.exprAlikeRow.laid w) (fun _ _ _ hh h => h.of_heap hh) own started (by kernel_rfl) Tryd.func14
    (ChangeSpec.witness_shaped (enc := enc) (C := Tryd.checked) (os := os) (X := fun w _ => laidMetH Tryd.prog Rows.exprAlikeRow.laid w) false (World.laidAll Tryd.prog os Rows.exprAlikeRow.laid) #[.agg #[.string ByteArray.empty, .int .u16 0, .string ByteArray.empty, .slice none 0 0], .agg #[.string ByteArray.empty, .int .u16 0, .string ByteArray.empty, .slice none 0 0]] 8 (World.laidAll_os _ _ _)
      (World.shaped_of_ZipB (by kernel_rfl) (by kernel_rfl)) (by kernel_rfl) (by kernel_rfl) (by kernel_rfl)
      (by rw [MakeChecks.laidMetH_plain _ _ _ (by kernel_rfl)]; exact laidMet_laidAll _ (by kernel_rfl) (by kernel_rfl))) ?_
  intro W base args ds gs before hval0 hW _ _ _ hsh _
  have hval : ∀ (j : Nat) t v, Tryd.f14.params[j]? = some t → args[j]? = some v → Value.okWide Tryd.prog W .any base t v := hval0
  have hW' := hW
  obtain ⟨p, q, hA0, hV, rfl, hfz, hnd⟩ := hW
  have hA : DataW.TrodAll enc Tryd.prog W 0 (fun _ => true) true Tryd.f14.params.toList args.toList ds p := hA0
  rw [Tryd.params14] at hA hval
  obtain ⟨v0, vs0, d0, ds0, p0, q0, hargs, rfl, rfl, h0, r0⟩ := trodAll_cons hA
  obtain ⟨v1, vs1, d1, ds1, p1, q1, rfl, rfl, rfl, h1, r1⟩ := trodAll_cons r0
  obtain ⟨rfl, rfl, rfl⟩ := trodAll_nil r1
  obtain rfl : args = #[v0, v1] := by cases args; simp_all
  obtain ⟨rfl, rfl⟩ := trodVars_none hV
  obtain ⟨cs0, rfl, hsz0⟩ := okWide_struct Tryd.underlying50 (hval 0 50 v0 rfl rfl)
  have k0 := h0
  have lt0 : ∀ x ∈ p0, x.block < W.heap.size := by obtain ⟨m, hm⟩ := k0; exact DataW.trod_lt m _ _ _ hm
  obtain ⟨e0, A0, c0, rfl, hlc0, hC0, hok0⟩ : ∃ (e : Qa.S50) (A : Option Addr) (c : Nat), cs0 = #[.string e.f0, .int .u16 e.f1, .string e.f2, .slice A e.f3.length c] ∧ e.f3.length ≤ c ∧ Kd.C Qa.k50 W A e.f3.length e.f3 ∧ Ee.NumOk e := by
    obtain ⟨fuel, hf⟩ := h0
    obtain ⟨e, A, c, e1, h1, h2, h3⟩ := Open50.open50 fuel hf
    exact ⟨e, A, c, Array.ext' (by simpa only [Value.cells] using e1), h1, h2, h3⟩
  obtain ⟨cs1, rfl, hsz1⟩ := okWide_struct Tryd.underlying50 (hval 1 50 v1 rfl rfl)
  have k1 := h1
  have lt1 : ∀ x ∈ p1, x.block < W.heap.size := by obtain ⟨m, hm⟩ := k1; exact DataW.trod_lt m _ _ _ hm
  obtain ⟨e1, A1, c1, rfl, hlc1, hC1, hok1⟩ : ∃ (e : Qa.S50) (A : Option Addr) (c : Nat), cs1 = #[.string e.f0, .int .u16 e.f1, .string e.f2, .slice A e.f3.length c] ∧ e.f3.length ≤ c ∧ Kd.C Qa.k50 W A e.f3.length e.f3 ∧ Ee.NumOk e := by
    obtain ⟨fuel, hf⟩ := h1
    obtain ⟨e, A, c, e1, h1, h2, h3⟩ := Open50.open50 fuel hf
    exact ⟨e, A, c, Array.ext' (by simpa only [Value.cells] using e1), h1, h2, h3⟩
  clear hA0 hval0
  refine (walk e0 A0 c0 e1 A1 c1 W (g0_of_shaped hsh) hok0 hC0 hlc0 hok1 hC1 hlc1).mono fun e W' ⟨he, bel⟩ => ?_
  subst he
  exact ⟨_, rfl, _, _, _, [], _, [], hW', trodAll_mk1 (shut_bool Tryd.underlying4 _), (trodAll_cons_mk (Below.trod laidOut (by kernel_rfl) (of_decide_eq_true (by kernel_rfl)) k0 bel lt0) (trodAll_cons_mk (Below.trod laidOut (by kernel_rfl) (of_decide_eq_true (by kernel_rfl)) k1 bel lt1) trodAll_mk0)), rfl, bel.frame _, fun h => by cases h⟩
set_option maxHeartbeats 80000000 in
theorem facts : joinedFacts Tryd.prog 14 Tryd.f14 Rows.exprAlikeSpec Rows.exprAlikeRow = true := by
  unfold joinedFacts
  repeat' (with_reducible refine and_mk ?_ ?_)
  all_goals (as_aux_lemma => kernel_rfl)
theorem inst : Tryd.f14.isInstance Tryd.prog Rows.exprAlikeRow.origin Rows.exprAlikeRow.targs := of_decide_eq_true (by kernel_rfl)
theorem wrapped : Tryd.f14.isWrapper Tryd.prog Rows.exprAlikeRow.wrapper Rows.exprAlikeRow.mainSum := by unfold Func.isWrapper; first | (rw [if_pos (by decide +kernel)]; kernel_rfl) | (rw [if_neg (by decide +kernel)]; exact ⟨rfl, rfl⟩)
theorem named : Tryd.prog.funcNamed Rows.exprAlikeRow.func = some 14 := by kernel_rfl
theorem over : Rows.exprAlikeRow.holds Tryd.pinned (OpenSpec.ofChange Rows.exprAlikeSpec) :=
  OpenClaim.holds_of_wide 14 Tryd.f14 rfl rfl rfl rfl rfl rfl rfl ⟨rfl, rfl, rfl, rfl, rfl⟩ rfl rfl rfl rfl rfl named Tryd.func14 facts
    inst wrapped
    (fun os started H enc _ => lifted os started H enc)
theorem card : Rows.ExprAlikeCardSaid :=
  Claim7.holds_tied_plain_at .later [] Rows.exprAlikeCard.laidKinds true Rows.exprAlikeCard.stood.harness false over (fun _ h => by cases h) (by kernel_rfl) (fun _ h => by cases h) exprAlike_row_tie rfl ⟨rfl, rfl⟩ (by kernel_rfl) rfl
    (fun f fn hf hfn => by
      obtain rfl : f = 14 := Option.some.inj (named.symm.trans hf) |>.symm
      obtain rfl : fn = Tryd.f14 := (Option.some.inj (Tryd.func14.symm.trans hfn)).symm
      exact ⟨by kernel_rfl, fun j t ht => by
        rw [Tryd.params14] at ht
        have hm : t ∈ [50, 50] := by simpa using Array.mem_of_getElem? ht
        have hall : ([50, 50].all fun u => !Tryd.prog.wantsStandIn u) = true := by kernel_rfl
        exact (show Tryd.prog.wantsStandIn t = false by simpa using List.all_eq_true.1 hall t hm)⟩)
    (by kernel_rfl)
end Go.Proofs.YtejhagejjogbaaaDoor.exprAlike
namespace Go.Proofs.YtejhagejjogbaaaDoor
theorem exprAlike_holds : Rows.ExprAlikeCardSaid := exprAlike.card
#print axioms exprAlike_holds
end Go.Proofs.YtejhagejjogbaaaDoor
