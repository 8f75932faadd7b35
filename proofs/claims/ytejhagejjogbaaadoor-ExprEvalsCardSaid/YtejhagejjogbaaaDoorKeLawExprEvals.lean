import Derived.Test.YtejhagejjogbaaaDoorKeM2
import Derived.Test.YtejhagejjogbaaaDoorTie
import Derived.Test.YtejhagejjogbaaaDoorCards
import Derived.Lay
import Derived.SevenTiedAt
import Derived.Test.YtejhagejjogbaaaDoorKeM16
namespace Go.Proofs.YtejhagejjogbaaaDoor.exprEvals
open Go.ChangeShapes Go.WideShapes Go.ChangeAt Go.RowKit Go.Proofs.YtejhagejjogbaaaDoor.Door Go.Proofs.YtejhagejjogbaaaDoor.Given Go.Proofs.YtejhagejjogbaaaDoorW.PrintWords Go.Proofs.YtejhagejjogbaaaDoorW.PrintLast
open Go.ChangeMaps (open_string shut_string)
set_option linter.unusedVariables false
theorem laidOut : laidOutB Tryd.prog = true := by kernel_rfl
theorem walk (e0 : Qa.S50) (A0 : Option Addr) (c0 : Nat) (a1 : Int) (A2 : Option Addr) (c2 : Nat) (l2 : List Qa.S98) (W : World) (hG : Aside0 (G0 W)) (hok0 : Ee.NumOk e0) (hC0 : Kd.C Qa.k50 W A0 e0.f3.length e0.f3) (hlc0 : e0.f3.length ≤ c0) (y1 : (Lit.int .u16 a1).wf = true) (hok2 : ∀ s ∈ l2, 0 ≤ s.f1 ∧ s.f1 ≤ 65535) (hC2 : Kd.C Qa.k98 W A2 l2.length l2) (hlc2 : l2.length ≤ c2) :
    Calls Tryd.prog 10 #[.agg #[.string e0.f0, .int .u16 e0.f1, .string e0.f2, .slice A0 e0.f3.length c0], .int .u16 a1, .slice A2 l2.length c2] W fun e W' => e = .returned (.bool true) ∧ Below W.heap.size W W' := by
  exact Ee.ExprEvals_calls e0 A0 c0 a1 A2 c2 l2 hok0 y1 hok2 W hG hC0 hlc0 hC2 hlc2
set_option maxRecDepth 100000 in
theorem lifted (os : Os) (started : os.Started) (H : Type) (enc : TypeId × Value → H) :
    ReturnsInHanded {} Tryd.checked os 10 .any (fun w args => (Rows.exprEvalsSpec.pre enc Tryd.prog Tryd.f10 [] false w args ∧ laidMetH Tryd.prog Rows.exprEvalsRow.laid w) ∧ sizedMet enc Tryd.prog Tryd.f10 (OpenSpec.ofChange Rows.exprEvalsSpec) false w args)
      (Rows.exprEvalsSpec.post enc Tryd.prog Tryd.f10 false true false false) := by
  refine returns_both (C := Tryd.checked) (X := fun w _ => laidMetH Tryd.prog Rows.exprEvalsRow.laid w) (fun _ _ _ hh h => h.of_heap hh) own started (by kernel_rfl) Tryd.func10
    (ChangeSpec.witness_shaped (enc := enc) (C := Tryd.checked) (os := os) (X := fun w _ => laidMetH Tryd.prog Rows.exprEvalsRow.laid w) false (World.laidAll Tryd.prog os Rows.exprEvalsRow.laid) #[.agg #[.string ByteArray.empty, .int .u16 0, .string ByteArray.empty, .slice none 0 0], .int .u16 0, .slice none 0 0] 8 (World.laidAll_os _ _ _)
      (World.shaped_of_ZipB (by kernel_rfl) (by kernel_rfl)) (by kernel_rfl) (by kernel_rfl) (by kernel_rfl)
      (by rw [MakeChecks.laidMetH_plain _ _ _ (by kernel_rfl)]; exact laidMet_laidAll _ (by kernel_rfl) (by kernel_rfl))) ?_
  intro W base args ds gs before hval0 hW _ _ _ hsh _
  have hval : ∀ (j : Nat) t v, Tryd.f10.params[j]? = some t → args[j]? = some v → Value.okWide Tryd.prog W .any base t v := hval0
  have hW' := hW
  obtain ⟨p, q, hA0, hV, rfl, hfz, hnd⟩ := hW
  have hA : DataW.TrodAll enc Tryd.prog W 0 (fun _ => true) true Tryd.f10.params.toList args.toList ds p := hA0
  rw [Tryd.params10] at hA hval
  obtain ⟨v0, vs0, d0, ds0, p0, q0, hargs, rfl, rfl, h0, r0⟩ := trodAll_cons hA
  obtain ⟨v1, vs1, d1, ds1, p1, q1, rfl, rfl, rfl, h1, r1⟩ := trodAll_cons r0
  obtain ⟨v2, vs2, d2, ds2, p2, q2, rfl, rfl, rfl, h2, r2⟩ := trodAll_cons r1
  obtain ⟨rfl, rfl, rfl⟩ := trodAll_nil r2
  obtain rfl : args = #[v0, v1, v2] := by cases args; simp_all
  obtain ⟨rfl, rfl⟩ := trodVars_none hV
  obtain ⟨cs0, rfl, hsz0⟩ := okWide_struct Tryd.underlying50 (hval 0 50 v0 rfl rfl)
  have k0 := h0
  have lt0 : ∀ x ∈ p0, x.block < W.heap.size := by obtain ⟨m, hm⟩ := k0; exact DataW.trod_lt m _ _ _ hm
  obtain ⟨e0, A0, c0, rfl, hlc0, hC0, hok0⟩ : ∃ (e : Qa.S50) (A : Option Addr) (c : Nat), cs0 = #[.string e.f0, .int .u16 e.f1, .string e.f2, .slice A e.f3.length c] ∧ e.f3.length ≤ c ∧ Kd.C Qa.k50 W A e.f3.length e.f3 ∧ Ee.NumOk e := by
    obtain ⟨fuel, hf⟩ := h0
    obtain ⟨e, A, c, e1, h1, h2, h3⟩ := Open50.open50 fuel hf
    exact ⟨e, A, c, Array.ext' (by simpa only [Value.cells] using e1), h1, h2, h3⟩
  obtain ⟨a1, rfl, rfl, rfl, y1⟩ := open_int Tryd.underlying28 (hval 1 28 v1 rfl rfl) h1
  obtain ⟨A2, len2, cap2, rfl⟩ := okWide_slice Tryd.underlying51 (hval 2 51 v2 rfl rfl)
  have k2 := h2
  have lt2 : ∀ x ∈ p2, x.block < W.heap.size := by obtain ⟨m, hm⟩ := k2; exact DataW.trod_lt m _ _ _ hm
  obtain ⟨l2, rfl, hlc2, hC2, hok2⟩ : ∃ l : List Qa.S98, len2 = l.length ∧ l.length ≤ cap2 ∧ Kd.C Qa.k98 W A2 l.length l ∧ ∀ s ∈ l, 0 ≤ s.f1 ∧ s.f1 ≤ 65535 := by
    obtain ⟨fuel, hf⟩ := h2
    obtain ⟨A, l, c, e, h1, h2, h3⟩ := Open98.open98 hf
    simp only [Value.cells, List.cons.injEq, and_true, Value.slice.injEq] at e
    obtain ⟨rfl, rfl, rfl⟩ := e
    exact ⟨l, rfl, h1, h2, h3⟩
  clear hA0 hval0
  refine (walk e0 A0 c0 a1 A2 cap2 l2 W (g0_of_shaped hsh) hok0 hC0 hlc0 y1 hok2 hC2 hlc2).mono fun e W' ⟨he, bel⟩ => ?_
  subst he
  exact ⟨_, rfl, _, _, _, [], _, [], hW', trodAll_mk1 (shut_bool Tryd.underlying4 _), (trodAll_cons_mk (Below.trod laidOut (by kernel_rfl) (of_decide_eq_true (by kernel_rfl)) k0 bel lt0) (trodAll_cons_mk (shut_int Tryd.underlying28 y1) (trodAll_cons_mk (Below.trod laidOut (by kernel_rfl) (of_decide_eq_true (by kernel_rfl)) k2 bel lt2) trodAll_mk0))), rfl, bel.frame _, fun h => by cases h⟩
set_option maxHeartbeats 80000000 in
theorem facts : joinedFacts Tryd.prog 10 Tryd.f10 Rows.exprEvalsSpec Rows.exprEvalsRow = true := by
  unfold joinedFacts
  repeat' (with_reducible refine and_mk ?_ ?_)
  all_goals (as_aux_lemma => kernel_rfl)
theorem inst : Tryd.f10.isInstance Tryd.prog Rows.exprEvalsRow.origin Rows.exprEvalsRow.targs := of_decide_eq_true (by kernel_rfl)
theorem wrapped : Tryd.f10.isWrapper Tryd.prog Rows.exprEvalsRow.wrapper Rows.exprEvalsRow.mainSum := by unfold Func.isWrapper; first | (rw [if_pos (by decide +kernel)]; kernel_rfl) | (rw [if_neg (by decide +kernel)]; exact ⟨rfl, rfl⟩)
theorem named : Tryd.prog.funcNamed Rows.exprEvalsRow.func = some 10 := by kernel_rfl
theorem over : Rows.exprEvalsRow.holds Tryd.pinned (OpenSpec.ofChange Rows.exprEvalsSpec) :=
  OpenClaim.holds_of_wide 10 Tryd.f10 rfl rfl rfl rfl rfl rfl rfl ⟨rfl, rfl, rfl, rfl, rfl⟩ rfl rfl rfl rfl rfl named Tryd.func10 facts
    inst wrapped
    (fun os started H enc _ => lifted os started H enc)
theorem card : Rows.ExprEvalsCardSaid :=
  Claim7.holds_tied_plain_at .later [] Rows.exprEvalsCard.laidKinds true Rows.exprEvalsCard.stood.harness false over (fun _ h => by cases h) (by kernel_rfl) (fun _ h => by cases h) exprEvals_row_tie rfl ⟨rfl, rfl⟩ (by kernel_rfl) rfl
    (fun f fn hf hfn => by
      obtain rfl : f = 10 := Option.some.inj (named.symm.trans hf) |>.symm
      obtain rfl : fn = Tryd.f10 := (Option.some.inj (Tryd.func10.symm.trans hfn)).symm
      exact ⟨by kernel_rfl, fun j t ht => by
        rw [Tryd.params10] at ht
        have hm : t ∈ [50, 28, 51] := by simpa using Array.mem_of_getElem? ht
        have hall : ([50, 28, 51].all fun u => !Tryd.prog.wantsStandIn u) = true := by kernel_rfl
        exact (show Tryd.prog.wantsStandIn t = false by simpa using List.all_eq_true.1 hall t hm)⟩)
    (by kernel_rfl)
end Go.Proofs.YtejhagejjogbaaaDoor.exprEvals
namespace Go.Proofs.YtejhagejjogbaaaDoor
theorem exprEvals_holds : Rows.ExprEvalsCardSaid := exprEvals.card
#print axioms exprEvals_holds
end Go.Proofs.YtejhagejjogbaaaDoor
