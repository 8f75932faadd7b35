import Derived.Test.YtejhagejjogbaaaDoorKcM2
import Derived.Test.YtejhagejjogbaaaDoorTie
import Derived.Test.YtejhagejjogbaaaDoorCards
import Derived.Lay
import Derived.SevenTiedAt
import Derived.Test.YtejhagejjogbaaaDoorKcM14
namespace Go.Proofs.YtejhagejjogbaaaDoor.exprBack
open Go.ChangeShapes Go.WideShapes Go.ChangeAt Go.RowKit Go.Proofs.YtejhagejjogbaaaDoor.Door Go.Proofs.YtejhagejjogbaaaDoor.Given Go.Proofs.YtejhagejjogbaaaDoorW.PrintWords Go.Proofs.YtejhagejjogbaaaDoorW.PrintLast
open Go.ChangeMaps (open_string shut_string)
set_option linter.unusedVariables false
theorem laidOut : laidOutB Tryd.prog = true := by kernel_rfl
theorem walk (e0 : Qa.S50) (A0 : Option Addr) (c0 : Nat) (W : World) (hG : Aside0 (G0 W)) (hok0 : Ee.NumOk e0) (hC0 : Kd.C Qa.k50 W A0 e0.f3.length e0.f3) (hlc0 : e0.f3.length ≤ c0) :
    Calls Tryd.prog 11 #[.agg #[.string e0.f0, .int .u16 e0.f1, .string e0.f2, .slice A0 e0.f3.length c0]] W fun e W' => e = .returned (.bool true) ∧ Below W.heap.size W W' := by
  exact Ee.ExprBack_calls e0 A0 c0 hok0 W hG hC0 hlc0
set_option maxRecDepth 100000 in
theorem lifted (os : Os) (started : os.Started) (H : Type) (enc : TypeId × Value → H) :
    ReturnsInHanded {} Tryd.checked os 11 .any (fun w args => (Rows.exprBackSpec.pre enc Tryd.prog Tryd.f11 [] false w args ∧ laidMetH Tryd.prog Rows.exprBackRow.laid w) ∧ sizedMet enc Tryd.prog Tryd.f11 (OpenSpec.ofChange Rows.exprBackSpec) false w args)
      (Rows.exprBackSpec.post enc Tryd.prog Tryd.f11 false true false false) := by
  refine returns_both (C := Tryd.checked) (X := fun w _ => laidMetH Tryd.prog Rows.exprBackRow.laid w) (fun _ _ _ hh h => h.of_heap hh) own started (by kernel_rfl) Tryd.func11
    (ChangeSpec.witness_shaped (enc := enc) (C := Tryd.checked) (os := os) (X := fun w _ => laidMetH Tryd.prog Rows.exprBackRow.laid w) false (World.laidAll Tryd.prog os Rows.exprBackRow.laid) #[.agg #[.string ByteArray.empty, .int .u16 0, .string ByteArray.empty, .slice none 0 0]] 8 (World.laidAll_os _ _ _)
      (World.shaped_of_ZipB (by kernel_rfl) (by kernel_rfl)) (by kernel_rfl) (by kernel_rfl) (by kernel_rfl)
      (by rw [MakeChecks.laidMetH_plain _ _ _ (by kernel_rfl)]; exact laidMet_laidAll _ (by kernel_rfl) (by kernel_rfl))) ?_
  intro W base args ds gs before hval0 hW _ _ _ hsh _
  have hval : ∀ (j : Nat) t v, Tryd.f11.params[j]? = some t → args[j]? = some v → Value.okWide Tryd.prog W .any base t v := hval0
  have hW' := hW
  obtain ⟨p, q, hA0, hV, rfl, hfz, hnd⟩ := hW
  have hA : DataW.TrodAll enc Tryd.prog W 0 (fun _ => true) true Tryd.f11.params.toList args.toList ds p := hA0
  rw [Tryd.params11] at hA hval
  obtain ⟨v0, vs0, d0, ds0, p0, q0, hargs, rfl, rfl, h0, r0⟩ := trodAll_cons hA
  obtain ⟨rfl, rfl, rfl⟩ := trodAll_nil r0
  obtain rfl : args = #[v0] := by cases args; simp_all
  obtain ⟨rfl, rfl⟩ := trodVars_none hV
  obtain ⟨cs0, rfl, hsz0⟩ := okWide_struct Tryd.underlying50 (hval 0 50 v0 rfl rfl)
  have k0 := h0
  have lt0 : ∀ x ∈ p0, x.block < W.heap.size := by obtain ⟨m, hm⟩ := k0; exact DataW.trod_lt m _ _ _ hm
  obtain ⟨e0, A0, c0, rfl, hlc0, hC0, hok0⟩ : ∃ (e : Qa.S50) (A : Option Addr) (c : Nat), cs0 = #[.string e.f0, .int .u16 e.f1, .string e.f2, .slice A e.f3.length c] ∧ e.f3.length ≤ c ∧ Kd.C Qa.k50 W A e.f3.length e.f3 ∧ Ee.NumOk e := by
    obtain ⟨fuel, hf⟩ := h0
    obtain ⟨e, A, c, e1, h1, h2, h3⟩ := Open50.open50 fuel hf
    exact ⟨e, A, c, Array.ext' (by simpa only [Value.cells] using e1), h1, h2, h3⟩
  clear hA0 hval0
  refine (walk e0 A0 c0 W (g0_of_shaped hsh) hok0 hC0 hlc0).mono fun e W' ⟨he, bel⟩ => ?_
  subst he
  exact ⟨_, rfl, _, _, _, [], _, [], hW', trodAll_mk1 (shut_bool Tryd.underlying4 _), (trodAll_cons_mk (Below.trod laidOut (by kernel_rfl) (of_decide_eq_true (by kernel_rfl)) k0 bel lt0) trodAll_mk0), rfl, bel.frame _, fun h => by cases h⟩
set_option maxHeartbeats 80000000 in
theorem facts : joinedFacts Tryd.prog 11 Tryd.f11 Rows.exprBackSpec Rows.exprBackRow = true := by
  unfold joinedFacts
  repeat' (with_reducible refine and_mk ?_ ?_)
  all_goals (as_aux_lemma => kernel_rfl)
theorem inst : Tryd.f11.isInstance Tryd.prog Rows.exprBackRow.origin Rows.exprBackRow.targs := of_decide_eq_true (by kernel_rfl)
theorem wrapped : Tryd.f11.isWrapper Tryd.prog Rows.exprBackRow.wrapper Rows.exprBackRow.mainSum := by unfold Func.isWrapper; first | (rw [if_pos (by decide +kernel)]; kernel_rfl) | (rw [if_neg (by decide +kernel)]; exact ⟨rfl, rfl⟩)
theorem named : Tryd.prog.funcNamed Rows.exprBackRow.func = some 11 := by kernel_rfl
theorem over : Rows.exprBackRow.holds Tryd.pinned (OpenSpec.ofChange Rows.exprBackSpec) :=
  OpenClaim.holds_of_wide 11 Tryd.f11 rfl rfl rfl rfl rfl rfl rfl ⟨rfl, rfl, rfl, rfl, rfl⟩ rfl rfl rfl rfl rfl named Tryd.func11 facts
    inst wrapped
    (fun os started H enc _ => lifted os started H enc)
theorem card : Rows.ExprBackCardSaid :=
  Claim7.holds_tied_plain_at .later [] Rows.exprBackCard.laidKinds true Rows.exprBackCard.stood.harness false over (fun _ h => by cases h) (by kernel_rfl) (fun _ h => by cases h) exprBack_row_tie rfl ⟨rfl, rfl⟩ (by kernel_rfl) rfl
    (fun f fn hf hfn => by
      obtain rfl : f = 11 := Option.some.inj (named.symm.trans hf) |>.symm
      obtain rfl : fn = Tryd.f11 := (Option.some.inj (Tryd.func11.symm.trans hfn)).symm
      exact ⟨by kernel_rfl, fun j t ht => by
        rw [Tryd.params11] at ht
        have hm : t ∈ [50] := by simpa using Array.mem_of_getElem? ht
        have hall : ([50].all fun u => !Tryd.prog.wantsStandIn u) = true := by kernel_rfl
        exact (show Tryd.prog.wantsStandIn t = false by simpa using List.all_eq_true.1 hall t hm)⟩)
    (by kernel_rfl)
end Go.Proofs.YtejhagejjogbaaaDoor.exprBack
namespace Go.Proofs.YtejhagejjogbaaaDoor
theorem exprBack_holds : Rows.ExprBackCardSaid := exprBack.card
#print axioms exprBack_holds
end Go.Proofs.YtejhagejjogbaaaDoor
