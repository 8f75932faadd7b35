import Derived.Test.YtejhagejjogbaaaDoorVDoor
import Derived.Test.YtejhagejjogbaaaDoorTie
import Derived.Test.YtejhagejjogbaaaDoorCards
import Derived.Lay
import Derived.SevenTiedAt
import Derived.Test.YtejhagejjogbaaaDoorVTk7
import Derived.Test.YtejhagejjogbaaaDoorVOpen46
namespace Go.Proofs.YtejhagejjogbaaaDoor.tokenParts
open Go.ChangeShapes Go.WideShapes Go.ChangeAt Go.RowKit Go.Proofs.YtejhagejjogbaaaDoor.Door Go.Proofs.YtejhagejjogbaaaDoor.Given Go.Proofs.YtejhagejjogbaaaDoorW.PrintWords Go.Proofs.YtejhagejjogbaaaDoorW.PrintLast
open Go.ChangeMaps (open_string shut_string)
set_option linter.unusedVariables false
theorem laidOut : laidOutB Tryd.prog = true := by kernel_rfl
theorem walk (A : Option Addr) (c : Nat) (l : List Pa.S46) (W : World) (hG : Aside0 (G0 W)) (hr : Kd.C Pa.k46 W A l.length l) (hc : l.length ≤ c) :
    Calls Tryd.prog 8 #[.slice A l.length c] W fun e W' => e = .returned (.bool true) ∧ Below W.heap.size W W' := by
  obtain ⟨k, hk⟩ := Tk.TokenParts_ev l
  exact Pf.pidginlaw04_TokenParts.calls k A c l true W hG hr hc (hk k (Nat.le_refl _))
set_option maxRecDepth 100000 in
theorem lifted (os : Os) (started : os.Started) (H : Type) (enc : TypeId × Value → H) :
    ReturnsInHanded {} Tryd.checked os 8 .any (fun w args => (Rows.tokenPartsSpec.pre enc Tryd.prog Tryd.f8 [] false w args ∧ laidMetH Tryd.prog Rows.tokenPartsRow.laid w) ∧ sizedMet enc Tryd.prog Tryd.f8 (OpenSpec.ofChange Rows.tokenPartsSpec) false w args)
      (Rows.tokenPartsSpec.post enc Tryd.prog Tryd.f8 false true false false) := by
  refine returns_both (C := Tryd.checked) (X := fun w _ => laidMetH Tryd.prog Rows.tokenPartsRow.laid w) (fun _ _ _ hh h => h.of_heap hh) own started (by kernel_rfl) Tryd.func8
    (ChangeSpec.witness_shaped (enc := enc) (C := Tryd.checked) (os := os) (X := fun w _ => laidMetH Tryd.prog Rows.tokenPartsRow.laid w) false (World.laidAll Tryd.prog os Rows.tokenPartsRow.laid) #[.slice none 0 0] 8 (World.laidAll_os _ _ _)
      (World.shaped_of_ZipB (by kernel_rfl) (by kernel_rfl)) (by kernel_rfl) (by kernel_rfl) (by kernel_rfl)
      (by rw [MakeChecks.laidMetH_plain _ _ _ (by kernel_rfl)]; exact laidMet_laidAll _ (by kernel_rfl) (by kernel_rfl))) ?_
  intro W base args ds gs before hval0 hW _ _ _ hsh _
  have hval : ∀ (j : Nat) t v, Tryd.f8.params[j]? = some t → args[j]? = some v → Value.okWide Tryd.prog W .any base t v := hval0
  have hW' := hW
  obtain ⟨p, q, hA0, hV, rfl, hfz, hnd⟩ := hW
  have hA : DataW.TrodAll enc Tryd.prog W 0 (fun _ => true) true Tryd.f8.params.toList args.toList ds p := hA0
  rw [Tryd.params8] at hA hval
  obtain ⟨v0, vs0, d0, ds0, p0, q0, hargs, rfl, rfl, h0, r0⟩ := trodAll_cons hA
  obtain ⟨rfl, rfl, rfl⟩ := trodAll_nil r0
  obtain rfl : args = #[v0] := by cases args; simp_all
  obtain ⟨rfl, rfl⟩ := trodVars_none hV
  obtain ⟨A0, len0, cap0, rfl⟩ := okWide_slice Tryd.underlying34 (hval 0 34 v0 rfl rfl)
  have k0 := h0
  have lt0 : ∀ x ∈ p0, x.block < W.heap.size := by obtain ⟨m, hm⟩ := k0; exact DataW.trod_lt m _ _ _ hm
  obtain ⟨l, rfl, hlc, hC⟩ : ∃ l : List Pa.S46, len0 = l.length ∧ l.length ≤ cap0 ∧ Kd.C Pa.k46 W A0 l.length l := by
    obtain ⟨fuel, hf⟩ := h0
    obtain ⟨A, l, c, e, h1, h2⟩ := Open46.open46 Tryd.underlying34 hf
    simp only [Value.cells, List.cons.injEq, and_true, Value.slice.injEq] at e
    obtain ⟨rfl, rfl, rfl⟩ := e
    exact ⟨l, rfl, h1, h2⟩
  clear hA0 hval0
  refine (walk A0 cap0 l W (g0_of_shaped hsh) hC hlc).mono fun e W' ⟨he, bel⟩ => ?_
  subst he
  exact ⟨_, rfl, _, _, _, [], _, [], hW', trodAll_mk1 (shut_bool Tryd.underlying4 _), (trodAll_cons_mk (Below.trod laidOut (by kernel_rfl) (of_decide_eq_true (by kernel_rfl)) k0 bel lt0) trodAll_mk0), rfl, bel.frame _, fun h => by cases h⟩
set_option maxHeartbeats 80000000 in
theorem facts : joinedFacts Tryd.prog 8 Tryd.f8 Rows.tokenPartsSpec Rows.tokenPartsRow = true := by
  unfold joinedFacts
  repeat' (with_reducible refine and_mk ?_ ?_)
  all_goals (as_aux_lemma => kernel_rfl)
theorem inst : Tryd.f8.isInstance Tryd.prog Rows.tokenPartsRow.origin Rows.tokenPartsRow.targs := of_decide_eq_true (by kernel_rfl)
theorem wrapped : Tryd.f8.isWrapper Tryd.prog Rows.tokenPartsRow.wrapper Rows.tokenPartsRow.mainSum := by unfold Func.isWrapper; first | (rw [if_pos (by decide +kernel)]; kernel_rfl) | (rw [if_neg (by decide +kernel)]; exact ⟨rfl, rfl⟩)
theorem named : Tryd.prog.funcNamed Rows.tokenPartsRow.func = some 8 := by kernel_rfl
theorem over : Rows.tokenPartsRow.holds Tryd.pinned (OpenSpec.ofChange Rows.tokenPartsSpec) :=
  OpenClaim.holds_of_wide 8 Tryd.f8 rfl rfl rfl rfl rfl rfl rfl ⟨rfl, rfl, rfl, rfl, rfl⟩ rfl rfl rfl rfl rfl named Tryd.func8 facts
    inst wrapped
    (fun os started H enc _ => lifted os started H enc)
theorem card : Rows.TokenPartsCardSaid :=
  Claim7.holds_tied_plain_at .later [] Rows.tokenPartsCard.laidKinds true Rows.tokenPartsCard.stood.harness false over (fun _ h => by cases h) (by kernel_rfl) (fun _ h => by cases h) tokenParts_row_tie rfl ⟨rfl, rfl⟩ (by kernel_rfl) rfl
    (fun f fn hf hfn => by
      obtain rfl : f = 8 := Option.some.inj (named.symm.trans hf) |>.symm
      obtain rfl : fn = Tryd.f8 := (Option.some.inj (Tryd.func8.symm.trans hfn)).symm
      exact ⟨by kernel_rfl, fun j t ht => by
        rw [Tryd.params8] at ht
        have hm : t ∈ [34] := by simpa using Array.mem_of_getElem? ht
        have hall : ([34].all fun u => !Tryd.prog.wantsStandIn u) = true := by kernel_rfl
        exact (show Tryd.prog.wantsStandIn t = false by simpa using List.all_eq_true.1 hall t hm)⟩)
    (by kernel_rfl)
end Go.Proofs.YtejhagejjogbaaaDoor.tokenParts
namespace Go.Proofs.YtejhagejjogbaaaDoor
theorem tokenParts_holds : Rows.TokenPartsCardSaid := tokenParts.card
#print axioms tokenParts_holds
end Go.Proofs.YtejhagejjogbaaaDoor
