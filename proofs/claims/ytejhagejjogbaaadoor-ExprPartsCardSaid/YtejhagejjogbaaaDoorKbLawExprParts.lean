import Derived.Test.YtejhagejjogbaaaDoorKbM2
import Derived.Test.YtejhagejjogbaaaDoorTie
import Derived.Test.YtejhagejjogbaaaDoorCards
import Derived.Lay
import Derived.SevenTiedAt
import Derived.Test.YtejhagejjogbaaaDoorKbM17
namespace Go.Proofs.YtejhagejjogbaaaDoor.exprParts
open Go.ChangeShapes Go.WideShapes Go.ChangeAt Go.RowKit Go.Proofs.YtejhagejjogbaaaDoor.Door Go.Proofs.YtejhagejjogbaaaDoor.Given Go.Proofs.YtejhagejjogbaaaDoorW.PrintWords Go.Proofs.YtejhagejjogbaaaDoorW.PrintLast
open Go.ChangeMaps (open_string shut_string)
set_option linter.unusedVariables false
theorem laidOut : laidOutB Tryd.prog = true := by kernel_rfl
theorem walk (a0 : Int) (a1 : Int) (W : World) (hG : Aside0 (G0 W)) (y0 : (Lit.int .u16 a0).wf = true) (y1 : (Lit.int .u16 a1).wf = true) :
    Calls Tryd.prog 13 #[.int .u16 a0, .int .u16 a1] W fun e W' => e = .returned (.bool true) ∧ Below W.heap.size W W' := by
  obtain ⟨k, hk⟩ := Ee.ExprParts_ev a0 a1 y0 y1
  exact Qg.pidginlaw05_ExprParts.calls k a0 a1 true W hG  (hk k (Nat.le_refl _))
set_option maxRecDepth 100000 in
theorem lifted (os : Os) (started : os.Started) (H : Type) (enc : TypeId × Value → H) :
    ReturnsInHanded {} Tryd.checked os 13 .any (fun w args => (Rows.exprPartsSpec.pre enc Tryd.prog Tryd.f13 [] false w args ∧ laidMetH Tryd.prog Rows.exprPartsRow.laid w) ∧ sizedMet enc Tryd.prog Tryd.f13 (OpenSpec.ofChange Rows.exprPartsSpec) false w args)
      (Rows.exprPartsSpec.post enc Tryd.prog Tryd.f13 false true false false) := by
  refine returns_both (C := Tryd.checked) (X := fun w _ => laidMetH Tryd.prog Rows.exprPartsRow.laid w) (fun _ _ _ hh h => h.of_heap hh) own started (by kernel_rfl) Tryd.func13
    (ChangeSpec.witness_shaped (enc := enc) (C := Tryd.checked) (os := os) (X := fun w _ => laidMetH Tryd.prog Rows.exprPartsRow.laid w) false (World.laidAll Tryd.prog os Rows.exprPartsRow.laid) #[.int .u16 0, .int .u16 0] 8 (World.laidAll_os _ _ _)
      (World.shaped_of_ZipB (by kernel_rfl) (by kernel_rfl)) (by kernel_rfl) (by kernel_rfl) (by kernel_rfl)
      (by rw [MakeChecks.laidMetH_plain _ _ _ (by kernel_rfl)]; exact laidMet_laidAll _ (by kernel_rfl) (by kernel_rfl))) ?_
  intro W base args ds gs before hval0 hW _ _ _ hsh _
  have hval : ∀ (j : Nat) t v, Tryd.f13.params[j]? = some t → args[j]? = some v → Value.okWide Tryd.prog W .any base t v := hval0
  have hW' := hW
  obtain ⟨p, q, hA0, hV, rfl, hfz, hnd⟩ := hW
  have hA : DataW.TrodAll enc Tryd.prog W 0 (fun _ => true) true Tryd.f13.params.toList args.toList ds p := hA0
  rw [Tryd.params13] at hA hval
  obtain ⟨v0, vs0, d0, ds0, p0, q0, hargs, rfl, rfl, h0, r0⟩ := trodAll_cons hA
  obtain ⟨v1, vs1, d1, ds1, p1, q1, rfl, rfl, rfl, h1, r1⟩ := trodAll_cons r0
  obtain ⟨rfl, rfl, rfl⟩ := trodAll_nil r1
  obtain rfl : args = #[v0, v1] := by cases args; simp_all
  obtain ⟨rfl, rfl⟩ := trodVars_none hV
  obtain ⟨a0, rfl, rfl, rfl, y0⟩ := open_int Tryd.underlying28 (hval 0 28 v0 rfl rfl) h0
  obtain ⟨a1, rfl, rfl, rfl, y1⟩ := open_int Tryd.underlying28 (hval 1 28 v1 rfl rfl) h1
  clear hA0 hval0
  refine (walk a0 a1 W (g0_of_shaped hsh) y0 y1).mono fun e W' ⟨he, bel⟩ => ?_
  subst he
  exact ⟨_, rfl, _, _, _, [], _, [], hW', trodAll_mk1 (shut_bool Tryd.underlying4 _), (trodAll_cons_mk (shut_int Tryd.underlying28 y0) (trodAll_cons_mk (shut_int Tryd.underlying28 y1) trodAll_mk0)), rfl, bel.frame _, fun h => by cases h⟩
set_option maxHeartbeats 80000000 in
theorem facts : joinedFacts Tryd.prog 13 Tryd.f13 Rows.exprPartsSpec Rows.exprPartsRow = true := by
  unfold joinedFacts
  repeat' (with_reducible refine and_mk ?_ ?_)
  all_goals (as_aux_lemma => kernel_rfl)
theorem inst : Tryd.f13.isInstance Tryd.prog Rows.exprPartsRow.origin Rows.exprPartsRow.targs := of_decide_eq_true (by kernel_rfl)
theorem wrapped : Tryd.f13.isWrapper Tryd.prog Rows.exprPartsRow.wrapper Rows.exprPartsRow.mainSum := by unfold Func.isWrapper; first | (rw [if_pos (by decide +kernel)]; kernel_rfl) | (rw [if_neg (by decide +kernel)]; exact ⟨rfl, rfl⟩)
theorem named : Tryd.prog.funcNamed Rows.exprPartsRow.func = some 13 := by kernel_rfl
theorem over : Rows.exprPartsRow.holds Tryd.pinned (OpenSpec.ofChange Rows.exprPartsSpec) :=
  OpenClaim.holds_of_wide 13 Tryd.f13 rfl rfl rfl rfl rfl rfl rfl ⟨rfl, rfl, rfl, rfl, rfl⟩ rfl rfl rfl rfl rfl named Tryd.func13 facts
    inst wrapped
    (fun os started H enc _ => lifted os started H enc)
theorem card : Rows.ExprPartsCardSaid :=
  Claim7.holds_tied_plain_at .later [] Rows.exprPartsCard.laidKinds true Rows.exprPartsCard.stood.harness false over (fun _ h => by cases h) (by kernel_rfl) (fun _ h => by cases h) exprParts_row_tie rfl ⟨rfl, rfl⟩ (by kernel_rfl) rfl
    (fun f fn hf hfn => by
      obtain rfl : f = 13 := Option.some.inj (named.symm.trans hf) |>.symm
      obtain rfl : fn = Tryd.f13 := (Option.some.inj (Tryd.func13.symm.trans hfn)).symm
      exact ⟨by kernel_rfl, fun j t ht => by
        rw [Tryd.params13] at ht
        have hm : t ∈ [28, 28] := by simpa using Array.mem_of_getElem? ht
        have hall : ([28, 28].all fun u => !Tryd.prog.wantsStandIn u) = true := by kernel_rfl
        exact (show Tryd.prog.wantsStandIn t = false by simpa using List.all_eq_true.1 hall t hm)⟩)
    (by kernel_rfl)
end Go.Proofs.YtejhagejjogbaaaDoor.exprParts
namespace Go.Proofs.YtejhagejjogbaaaDoor
theorem exprParts_holds : Rows.ExprPartsCardSaid := exprParts.card
#print axioms exprParts_holds
end Go.Proofs.YtejhagejjogbaaaDoor
