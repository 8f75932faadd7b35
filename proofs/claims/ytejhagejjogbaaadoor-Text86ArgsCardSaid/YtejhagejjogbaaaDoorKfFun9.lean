import Derived.Test.YtejhagejjogbaaaDoorKfCodes9
namespace Go.Proofs.YtejhagejjogbaaaDoor.Fun9
open Go.RowKit Go.Proofs.YtejhagejjogbaaaDoorW.PrintWords Go.Proofs.YtejhagejjogbaaaDoorW.PrintLast Go.Proofs.YtejhagejjogbaaaDoorW.PrintMore Go.Proofs.YtejhagejjogbaaaDoor.Tab9 Go.Proofs.YtejhagejjogbaaaDoor.Lay9 Go.Proofs.YtejhagejjogbaaaDoor.Words9 Go.Proofs.YtejhagejjogbaaaDoor.Codes9
set_option linter.unusedVariables false
set_option linter.unusedSimpArgs false
set_option maxHeartbeats 8000000 in
set_option maxRecDepth 100000 in
theorem Code_calls (s : ByteArray) (w : World) (hG : G9 w) : Calls Tryd.prog 56 #[.string s] w fun e w' => e = .returned (.tuple #[.int .i64 (codeW argsL 1 s).1, .bool (codeW argsL 1 s).2]) ∧ Below w.heap.size w w' := by
  have hfl := fld109
  have hu109 := Tryd.underlying109
  have hu107 := Tryd.underlying107
  have HG := Aside0.mk hG
  clear hG
  have HW0 := Aside0.mk (Below.refl w.heap.size w)
  go_enter Tryd.func56, Tryd.ntmps56
  go_wp2_with (first | (go_at_call 94; (with_reducible refine (args_calls _ (HG.out.below HW0.out)).mono ?_); rintro ex w1 ⟨b1, rfl, hst, hb⟩; have HS1 := Aside0.mk hst; have HW1 := Aside0.mk (below_step HW0.out hb); clear hst hb) | (go_at_call 95; (with_reducible refine (code_calls argsL b1 1 s _ HS1.out (by decide) (by decide) (by decide) 20 rfl).mono ?_); rintro ex w2 ⟨rfl, hb⟩; have HW2 := Aside0.mk (below_step HW1.out hb); clear hb))
  go_ret2
  exact ⟨rfl, HW2.out⟩
def namesR : List ByteArray := [(⟨#[]⟩ : ByteArray), (⟨#[77, 79, 86]⟩ : ByteArray), (⟨#[65, 68, 68]⟩ : ByteArray), (⟨#[79, 82]⟩ : ByteArray), (⟨#[65, 68, 67]⟩ : ByteArray), (⟨#[83, 66, 66]⟩ : ByteArray), (⟨#[65, 78, 68]⟩ : ByteArray), (⟨#[83, 85, 66]⟩ : ByteArray), (⟨#[88, 79, 82]⟩ : ByteArray), (⟨#[67, 77, 80]⟩ : ByteArray), (⟨#[73, 78, 67]⟩ : ByteArray), (⟨#[68, 69, 67]⟩ : ByteArray), (⟨#[82, 79, 76]⟩ : ByteArray), (⟨#[82, 79, 82]⟩ : ByteArray), (⟨#[82, 67, 76]⟩ : ByteArray), (⟨#[82, 67, 82]⟩ : ByteArray), (⟨#[78, 79, 84]⟩ : ByteArray), (⟨#[88, 67, 72, 71]⟩ : ByteArray), (⟨#[80, 85, 83, 72]⟩ : ByteArray), (⟨#[80, 79, 80]⟩ : ByteArray), (⟨#[76, 65, 72, 70]⟩ : ByteArray), (⟨#[83, 65, 72, 70]⟩ : ByteArray), (⟨#[68, 65, 65]⟩ : ByteArray), (⟨#[67, 77, 67]⟩ : ByteArray), (⟨#[83, 84, 67]⟩ : ByteArray), (⟨#[67, 76, 67]⟩ : ByteArray), (⟨#[83, 84, 73]⟩ : ByteArray), (⟨#[67, 76, 73]⟩ : ByteArray), (⟨#[72, 76, 84]⟩ : ByteArray), (⟨#[78, 79, 80]⟩ : ByteArray), (⟨#[73, 78]⟩ : ByteArray), (⟨#[79, 85, 84]⟩ : ByteArray), (⟨#[74, 77, 80]⟩ : ByteArray), (⟨#[74, 77, 80, 83]⟩ : ByteArray), (⟨#[67, 65, 76, 76]⟩ : ByteArray), (⟨#[82, 69, 84]⟩ : ByteArray), (⟨#[]⟩ : ByteArray), (⟨#[]⟩ : ByteArray), (⟨#[]⟩ : ByteArray), (⟨#[]⟩ : ByteArray), (⟨#[]⟩ : ByteArray), (⟨#[]⟩ : ByteArray), (⟨#[74, 66]⟩ : ByteArray), (⟨#[74, 78, 66]⟩ : ByteArray), (⟨#[74, 90]⟩ : ByteArray), (⟨#[74, 78, 90]⟩ : ByteArray), (⟨#[]⟩ : ByteArray), (⟨#[]⟩ : ByteArray), (⟨#[74, 83]⟩ : ByteArray), (⟨#[74, 78, 83]⟩ : ByteArray), (⟨#[74, 80]⟩ : ByteArray), (⟨#[74, 78, 80]⟩ : ByteArray)]
def argsR : List ByteArray := [(⟨#[]⟩ : ByteArray), (⟨#[65, 76]⟩ : ByteArray), (⟨#[67, 76]⟩ : ByteArray), (⟨#[68, 76]⟩ : ByteArray), (⟨#[66, 76]⟩ : ByteArray), (⟨#[65, 72]⟩ : ByteArray), (⟨#[67, 72]⟩ : ByteArray), (⟨#[68, 72]⟩ : ByteArray), (⟨#[66, 72]⟩ : ByteArray), (⟨#[65, 88]⟩ : ByteArray), (⟨#[67, 88]⟩ : ByteArray), (⟨#[68, 88]⟩ : ByteArray), (⟨#[66, 88]⟩ : ByteArray), (⟨#[83, 80]⟩ : ByteArray), (⟨#[66, 80]⟩ : ByteArray), (⟨#[83, 73]⟩ : ByteArray), (⟨#[68, 73]⟩ : ByteArray), (⟨#[91, 66, 88, 93]⟩ : ByteArray), (⟨#[91, 83, 73, 93]⟩ : ByteArray), (⟨#[91, 110, 110, 93]⟩ : ByteArray), (⟨#[110, 110]⟩ : ByteArray)]
set_option maxHeartbeats 8000000 in
set_option maxRecDepth 100000 in
theorem namesR_calls (w : World) : Calls Tryd.prog 99 #[] w fun e w' => ∃ b, e = .returned (.slice (some ⟨b, 0, none⟩) 52 52) ∧ StrsAt w' b namesR ∧ Below w.heap.size w w' := by
  have HW0 := Aside0.mk (Below.refl w.heap.size w)
  go_enter Tryd.func99, Tryd.ntmps99
  go_wp2_with ((with_reducible refine gate_dst (N := 1) rfl ?_); refine lit9_event ?hg (N := 1) ?hd (cs := (namesR.map Value.string).toArray) (n := 52) ?hr ?_; (case hd => rfl); (case hg => rfl); (case hr => first | (go_simp; done) | (go_simp; rfl)); intro d hd2 w2 hw2; have HW2 := Aside0.mk (show Below w.heap.size w w2 from (by rw [hw2]; exact below_alloc (Below.refl _ _) _)); have HP2 := Aside0.mk (show StrsAt w2 d namesR from (by rw [hw2, hd2]; exact blk_new w _)); clear hw2 hd2)
  go_ret
  exact ⟨d, rfl, HP2.out, HW2.out⟩
set_option maxHeartbeats 8000000 in
set_option maxRecDepth 100000 in
theorem argsR_calls (w : World) : Calls Tryd.prog 97 #[] w fun e w' => ∃ b, e = .returned (.slice (some ⟨b, 0, none⟩) 21 21) ∧ StrsAt w' b argsR ∧ Below w.heap.size w w' := by
  have HW0 := Aside0.mk (Below.refl w.heap.size w)
  go_enter Tryd.func97, Tryd.ntmps97
  go_wp2_with ((with_reducible refine gate_dst (N := 1) rfl ?_); refine lit9_event ?hg (N := 1) ?hd (cs := (argsR.map Value.string).toArray) (n := 21) ?hr ?_; (case hd => rfl); (case hg => rfl); (case hr => first | (go_simp; done) | (go_simp; rfl)); intro d hd2 w2 hw2; have HW2 := Aside0.mk (show Below w.heap.size w w2 from (by rw [hw2]; exact below_alloc (Below.refl _ _) _)); have HP2 := Aside0.mk (show StrsAt w2 d argsR from (by rw [hw2, hd2]; exact blk_new w _)); clear hw2 hd2)
  go_ret
  exact ⟨d, rfl, HP2.out, HW2.out⟩
end Go.Proofs.YtejhagejjogbaaaDoor.Fun9
