import Derived.Test.YtejhagejjogbaaaDoorKgLaid9
import Derived.Test.YtejhagejjogbaaaDoorTie
import Derived.Test.YtejhagejjogbaaaDoorCards
import Derived.Lay
import Derived.SevenTiedAt
import Derived.Test.YtejhagejjogbaaaDoorKgPz9
import Derived.Test.YtejhagejjogbaaaDoorKgOpen66
namespace Go.Proofs.YtejhagejjogbaaaDoor.text86Words
open Go.ChangeShapes Go.WideShapes Go.ChangeAt Go.RowKit Go.Proofs.YtejhagejjogbaaaDoor.Door Go.Proofs.YtejhagejjogbaaaDoor.Given Go.Proofs.YtejhagejjogbaaaDoor.Tab9 Go.Proofs.YtejhagejjogbaaaDoor.Laid9 Go.Proofs.YtejhagejjogbaaaDoorW.PrintWords Go.Proofs.YtejhagejjogbaaaDoorW.PrintLast
open Go.ChangeMaps (open_string shut_string)
set_option linter.unusedVariables false
theorem laidOut : laidOutB Tryd.prog = true := by kernel_rfl
theorem walk (a0 b0 c0 d0 : Int) (W : World) (hG : Aside0 (G9 W)) (ya0 : (Lit.int .i64 a0).wf = true) (yb0 : (Lit.int .i64 b0).wf = true) (yc0 : (Lit.int .i64 c0).wf = true) (yd0 : (Lit.int .u16 d0).wf = true) :
    Calls Tryd.prog 15 #[.agg #[.int .i64 a0, .int .i64 b0, .int .i64 c0, .int .u16 d0]] W fun e W' => e = .returned (.bool true) ∧ Below W.heap.size W W' :=
  Rw.pidginlaw09_Text86Words.calls 1001 a0 b0 c0 d0 true W hG (Pz9.Words_f a0 b0 c0 d0 ya0 yb0 yc0 yd0)
theorem spaces : (Rows.text86WordsRow.laid).filter (fun x => x.1 == "strings.asciiSpace") = [("strings.asciiSpace", Lib.tabData .u8 Lib.asciiSpaceTab)] := by kernel_rfl
theorem powers : (Rows.text86WordsRow.laid).filter (fun x => x.1 == "internal/strconv.uint64pow10") = [("internal/strconv.uint64pow10", Lib.tabData .u64 Lib.pow10Tab)] := by kernel_rfl
set_option maxRecDepth 100000 in
theorem lifted (os : Os) (started : os.Started) (H : Type) (enc : TypeId × Value → H) :
    ReturnsInHanded {} Tryd.checked os 15 .any (fun w args => (Rows.text86WordsSpec.pre enc Tryd.prog Tryd.f15 [] false w args ∧ laidMetH Tryd.prog Rows.text86WordsRow.laid w) ∧ sizedMet enc Tryd.prog Tryd.f15 (OpenSpec.ofChange Rows.text86WordsSpec) false w args)
      (Rows.text86WordsSpec.post enc Tryd.prog Tryd.f15 false true false false) := by
  refine returns_both (C := Tryd.checked) (X := fun w _ => laidMetH Tryd.prog Rows.text86WordsRow.laid w) (fun _ _ _ hh h => h.of_heap hh) own started (by kernel_rfl) Tryd.func15
    (ChangeSpec.witness_shaped (enc := enc) (C := Tryd.checked) (os := os) (X := fun w _ => laidMetH Tryd.prog Rows.text86WordsRow.laid w) false (World.laidAll Tryd.prog os Rows.text86WordsRow.laid) #[.agg #[.int .i64 0, .int .i64 0, .int .i64 0, .int .u16 0]] 8 (World.laidAll_os _ _ _)
      (World.shaped_of_ZipB (by kernel_rfl) (by kernel_rfl)) (by kernel_rfl) (by kernel_rfl) (by kernel_rfl)
      (by rw [MakeChecks.laidMetH_plain _ _ _ (by kernel_rfl)]; exact laidMet_laidAll _ (by kernel_rfl) (by kernel_rfl))) ?_
  intro W base args ds gs before hval0 hW _ _ hX hsh _
  have hval : ∀ (j : Nat) t v, Tryd.f15.params[j]? = some t → args[j]? = some v → Value.okWide Tryd.prog W .any base t v := hval0
  have hW' := hW
  obtain ⟨p, q, hA0, hV, rfl, hfz, hnd⟩ := hW
  have hA : DataW.TrodAll enc Tryd.prog W 0 (fun _ => true) true Tryd.f15.params.toList args.toList ds p := hA0
  rw [Tryd.params15] at hA hval
  obtain ⟨v0, vs0, d0, ds0, p0, q0, hargs, rfl, rfl, h0, r0⟩ := trodAll_cons hA
  obtain ⟨rfl, rfl, rfl⟩ := trodAll_nil r0
  obtain rfl : args = #[v0] := by cases args; simp_all
  obtain ⟨rfl, rfl⟩ := trodVars_none hV
  obtain ⟨cs0, rfl, hsz0⟩ := okWide_struct Tryd.underlying66 (hval 0 66 v0 rfl rfl)
  have k0 := h0
  have lt0 : ∀ x ∈ p0, x.block < W.heap.size := by obtain ⟨m, hm⟩ := k0; exact DataW.trod_lt m _ _ _ hm
  obtain ⟨a0, b0, c0, d0_, rfl, ya0, yb0, yc0, yd0⟩ : ∃ a b c d : Int, cs0 = #[.int .i64 a, .int .i64 b, .int .i64 c, .int .u16 d] ∧ (Lit.int .i64 a).wf = true ∧ (Lit.int .i64 b).wf = true ∧ (Lit.int .i64 c).wf = true ∧ (Lit.int .u16 d).wf = true := by
    obtain ⟨fuel, hf⟩ := h0
    obtain ⟨a, b, c, d, e1, h1, h2, h3, h4⟩ := Open66.open66 hf
    exact ⟨a, b, c, d, Array.ext' (by simpa only [Value.cells] using e1), h1, h2, h3, h4⟩
  clear hA0 hval0
  refine (walk a0 b0 c0 d0_ W (g9_of spaces powers hsh hX) ya0 yb0 yc0 yd0).mono fun e W' ⟨he, bel⟩ => ?_
  subst he
  exact ⟨_, rfl, _, _, _, [], _, [], hW', trodAll_mk1 (shut_bool Tryd.underlying4 _), (trodAll_cons_mk (Below.trod laidOut (by kernel_rfl) (of_decide_eq_true (by kernel_rfl)) k0 bel lt0) trodAll_mk0), rfl, bel.frame _, fun h => by cases h⟩
set_option maxHeartbeats 80000000 in
theorem facts : joinedFacts Tryd.prog 15 Tryd.f15 Rows.text86WordsSpec Rows.text86WordsRow = true := by
  unfold joinedFacts
  repeat' (with_reducible refine and_mk ?_ ?_)
  all_goals (as_aux_lemma => kernel_rfl)
theorem inst : Tryd.f15.isInstance Tryd.prog Rows.text86WordsRow.origin Rows.text86WordsRow.targs := of_decide_eq_true (by kernel_rfl)
theorem wrapped : Tryd.f15.isWrapper Tryd.prog Rows.text86WordsRow.wrapper Rows.text86WordsRow.mainSum := by unfold Func.isWrapper; first | (rw [if_pos (by decide +kernel)]; kernel_rfl) | (rw [if_neg (by decide +kernel)]; exact ⟨rfl, rfl⟩)
theorem named : Tryd.prog.funcNamed Rows.text86WordsRow.func = some 15 := by kernel_rfl
theorem over : Rows.text86WordsRow.holds Tryd.pinned (OpenSpec.ofChange Rows.text86WordsSpec) :=
  OpenClaim.holds_of_wide 15 Tryd.f15 rfl rfl rfl rfl rfl rfl rfl ⟨rfl, rfl, rfl, rfl, rfl⟩ rfl rfl rfl rfl rfl named Tryd.func15 facts
    inst wrapped
    (fun os started H enc _ => lifted os started H enc)
theorem card : Rows.Text86WordsCardSaid :=
  Claim7.holds_tied_plain_at .later [] Rows.text86WordsCard.laidKinds true Rows.text86WordsCard.stood.harness false over (fun _ h => by cases h) (by kernel_rfl) (fun _ h => by cases h) text86Words_row_tie rfl ⟨rfl, rfl⟩ (by kernel_rfl) rfl
    (fun f fn hf hfn => by
      obtain rfl : f = 15 := Option.some.inj (named.symm.trans hf) |>.symm
      obtain rfl : fn = Tryd.f15 := (Option.some.inj (Tryd.func15.symm.trans hfn)).symm
      exact ⟨by kernel_rfl, fun j t ht => by
        rw [Tryd.params15] at ht
        have hm : t ∈ [66] := by simpa using Array.mem_of_getElem? ht
        have hall : ([66].all fun u => !Tryd.prog.wantsStandIn u) = true := by kernel_rfl
        exact (show Tryd.prog.wantsStandIn t = false by simpa using List.all_eq_true.1 hall t hm)⟩)
    (by kernel_rfl)
end Go.Proofs.YtejhagejjogbaaaDoor.text86Words
namespace Go.Proofs.YtejhagejjogbaaaDoor
theorem text86Words_holds : Rows.Text86WordsCardSaid := text86Words.card
#print axioms text86Words_holds
end Go.Proofs.YtejhagejjogbaaaDoor
