import Derived.Test.YtejhagejjogbaaaDoorKaM15
import Derived.Test.YtejhagejjogbaaaDoorKaM8
import Derived.Test.YtejhagejjogbaaaDoorKaM11
import Derived.Test.YtejhagejjogbaaaDoorKaM14
import Derived.Test.YtejhagejjogbaaaDoorKaM6
import Derived.Test.YtejhagejjogbaaaDoorKaM5
import Derived.Test.YtejhagejjogbaaaDoorKaM13
import Derived.Test.YtejhagejjogbaaaDoorKaM4
section
namespace Go.Proofs.YtejhagejjogbaaaDoor.Ee
open Go.RowKit Go.Proofs.YtejhagejjogbaaaDoorW.PrintWords Go.Proofs.YtejhagejjogbaaaDoorW.PrintLast Go.Proofs.YtejhagejjogbaaaDoor.Qg
set_option maxRecDepth 100000
theorem alive5 : Ev (fun k => pidginlaw05_alive.f k) true := Ev.of pidginlaw05_alive.mono (k := 40) (by decide +kernel)
end Go.Proofs.YtejhagejjogbaaaDoor.Ee
end
section
namespace Go.Proofs.YtejhagejjogbaaaDoor.Ee
open Go.RowKit Go.Proofs.YtejhagejjogbaaaDoorW.PrintWords Go.Proofs.YtejhagejjogbaaaDoorW.PrintLast Go.Proofs.YtejhagejjogbaaaDoorW.PrintMore Go.Proofs.YtejhagejjogbaaaDoor.Given Go.Proofs.YtejhagejjogbaaaDoor.Pn Go.Proofs.YtejhagejjogbaaaDoor.Pa Go.Proofs.YtejhagejjogbaaaDoor.Qa Go.Proofs.YtejhagejjogbaaaDoor.Qc Go.Proofs.YtejhagejjogbaaaDoor.Qf Go.Proofs.YtejhagejjogbaaaDoor.Qg Go.Proofs.YtejhagejjogbaaaDoor.Num Go.Proofs.YtejhagejjogbaaaDoor.AnyNot Go.Proofs.YtejhagejjogbaaaDoor.EvB Go.Proofs.YtejhagejjogbaaaDoor.EvC Go.Proofs.YtejhagejjogbaaaDoor.LawC Go.Proofs.YtejhagejjogbaaaDoor.Right.R
set_option linter.unusedSimpArgs false
set_option linter.unusedVariables false
theorem num_right (n : Nat) (x : Int) : rightN (n + 1) (numE x) = true := by simp [rightN, condR, numE, bindsL]
theorem num_ok (n : Nat) (x : Int) : okB (n + 1) (numE x) = true := rfl
theorem u16_range {n : Int} (h : (Lit.int .u16 n).wf = true) : 0 ≤ n ∧ n ≤ 65535 := by
  simp only [Lit.wf, Bool.and_eq_true, decide_eq_true_eq] at h
  have h1 : IntKind.u16.min = 0 := by decide
  have h2 : IntKind.u16.max = 65535 := by decide
  omega
end Go.Proofs.YtejhagejjogbaaaDoor.Ee
end
section
namespace Go.Proofs.YtejhagejjogbaaaDoor.SumsC
open Go.RowKit Go.Proofs.YtejhagejjogbaaaDoorW.PrintWords Go.Proofs.YtejhagejjogbaaaDoorW.PrintLast Go.Proofs.YtejhagejjogbaaaDoorW.PrintMore Go.Proofs.YtejhagejjogbaaaDoor.Given Go.Proofs.YtejhagejjogbaaaDoor.Pn Go.Proofs.YtejhagejjogbaaaDoor.Pa Go.Proofs.YtejhagejjogbaaaDoor.Pb Go.Proofs.YtejhagejjogbaaaDoor.Qa Go.Proofs.YtejhagejjogbaaaDoor.Qc Go.Proofs.YtejhagejjogbaaaDoor.Qf Go.Proofs.YtejhagejjogbaaaDoor.Qg Go.Proofs.YtejhagejjogbaaaDoor.Num Go.Proofs.YtejhagejjogbaaaDoor.PsrC Go.Proofs.YtejhagejjogbaaaDoor.PsrD Go.Proofs.YtejhagejjogbaaaDoor.PsrF Go.Proofs.YtejhagejjogbaaaDoor.PsrI.R Go.Proofs.YtejhagejjogbaaaDoor.EvC Go.Proofs.YtejhagejjogbaaaDoor.LawC
set_option linter.unusedVariables false
set_option linter.unusedSimpArgs false
abbrev opE (op : Array UInt8) (l : List S50) : S50 := ⟨⟨op⟩, 0, ⟨#[]⟩, l⟩
def Bx (W : World) (g d : Nat) (e : S50) : Prop :=
  W.heap[g]? = some (.cells #[.string e.f0, .int .u16 e.f1, .string e.f2, .slice (some ⟨d, 0, none⟩) e.f3.length e.f3.length] 50 (0, 0)) ∧ Kd.C k50 W (some ⟨d, 0, none⟩) e.f3.length e.f3
def Bxs (W : World) (l : List (Nat × Nat × S50)) : Prop := ∀ p ∈ l, Bx W p.1 p.2.1 p.2.2
theorem Bxs.below {W W1 : World} {l : List (Nat × Nat × S50)} (h : Bxs W l) (hb : Below W.heap.size W W1) : Bxs W1 l := fun p hp => ⟨blk_below (h p hp).1 hb, Kd.C_below (h p hp).2 hb⟩
theorem Bxs.cons {W : World} {g d : Nat} {e : S50} {l : List (Nat × Nat × S50)} (h : Bx W g d e) (hl : Bxs W l) : Bxs W ((g, d, e) :: l) := by
  intro p hp
  rcases List.mem_cons.1 hp with rfl | hp
  · exact h
  · exact hl p hp
set_option maxHeartbeats 32000000 in
set_option maxRecDepth 100000 in
theorem sums_calls (k : Nat) (a b c : Int) (tx : ByteArray) (ts : List S41) (w : World) (hG : Aside0 (G0 w))
    (h1 : evalT k (opE #[45] [(opE #[45] [numE a, numE b]), numE c]) 0 (fun _ => (0, 3)) = some ((IntKind.u16.wrap (IntKind.u16.wrap (a - b) - c)), 0)) (h2 : evalT k (opE #[45] [numE a, (opE #[43] [numE b, numE c])]) 0 (fun _ => (0, 3)) = some ((IntKind.u16.wrap (IntKind.u16.wrap (a - b) - c)), 0))
    (h3 : evalT k (opE #[78, 79, 84] [(opE #[78, 79, 84] [numE a])]) 0 (fun _ => (0, 3)) = some (a, 0)) (h4 : evalT k (opE #[78, 69, 71] [(opE #[78, 69, 71] [numE a])]) 0 (fun _ => (0, 3)) = some (a, 0))
    (h5 : expr_Show.f k ⟨#[45]⟩ 0 ⟨#[]⟩ [(opE #[45] [numE a, numE b]), numE c] = some (tx, 0)) (h6 : token_Line.f k tx = some (ts, 0)) (h7 : expr_All.f k ts = some (⟨#[45]⟩, 0, ⟨#[]⟩, [(opE #[45] [numE a, numE b]), numE c], 0))
    (h8 : pidginref05_Same.f k ⟨#[45]⟩ 0 ⟨#[]⟩ [(opE #[45] [numE a, numE b]), numE c] ⟨#[45]⟩ 0 ⟨#[]⟩ [(opE #[45] [numE a, numE b]), numE c] = some true) (h9 : pidginlaw05_alive.f k = some true) :
    Calls Tryd.prog 12 #[.int .u16 a, .int .u16 b, .int .u16 c] w fun e w' => e = .returned (.bool true) ∧ Below w.heap.size w w' := by
  have hu50 := Tryd.underlying50
  have H1 := Aside0.mk h1
  have H2 := Aside0.mk h2
  have H3 := Aside0.mk h3
  have H4 := Aside0.mk h4
  have H5 := Aside0.mk h5
  have H6 := Aside0.mk h6
  have H7 := Aside0.mk h7
  have H8 := Aside0.mk h8
  have H9 := Aside0.mk h9
  clear h1 h2 h3 h4 h5 h6 h7 h8 h9
  have HW0 := Aside0.mk (Below.refl w.heap.size w)
  have HB0 := Aside0.mk (show Bxs w [] from fun _ h => by cases h)
  go_enter Tryd.func12, Tryd.ntmps12
  go_upto_region 3 with (first | (go_at_call 47; refine (num_calls a _).mono ?_; rintro ex w1 ⟨rfl, hb⟩; have HW1 := Aside0.mk (below_step HW0.out hb); have HB1 := Aside0.mk (HB0.out.below hb); clear hb) | (go_at_call 47; refine (num_calls b _).mono ?_; rintro ex w2 ⟨rfl, hb⟩; have HW2 := Aside0.mk (below_step HW1.out hb); have HB2 := Aside0.mk (HB1.out.below hb); clear hb) | ((with_reducible refine gate_dst (N := 32) rfl ?_); refine lit_event ?hg (N := 32) ?hd (cs := #[.string ⟨#[35]⟩, .int .u16 a, .string ⟨#[]⟩, .slice none 0 0, .string ⟨#[35]⟩, .int .u16 b, .string ⟨#[]⟩, .slice none 0 0]) (n := 2) ?hr ?_; (case hd => rfl); (case hg => rfl); (case hr => first | (go_simp; done) | (go_simp; rfl)); intro da hd3 w3 hw3; have hb : Below w2.heap.size w2 w3 := (by rw [hw3]; exact below_alloc (Below.refl _ _) _); have RA_3 := Aside0.mk (show RE w3 w.heap.size (fun _ => True) (some ⟨da, 0, none⟩) 2 [numE a, numE b] from (by rw [hw3, hd3]; exact lit2 (e := numE a) (e' := numE b) (re_nil _ _ _) (re_nil _ _ _) HW2.out.size)); have HW3 := Aside0.mk (below_step HW2.out hb); have HB3 := Aside0.mk (HB2.out.below hb); clear hb hw3 hd3) | (go_at_call 47; refine (num_calls c _).mono ?_; rintro ex w4 ⟨rfl, hb⟩; have HW4 := Aside0.mk (below_step HW3.out hb); have HB4 := Aside0.mk (HB3.out.below hb); have RA_4 := Aside0.mk (RE_below RA_3.out hb); clear hb) | ((with_reducible refine gate_dst (N := 37) rfl ?_); refine lit_event ?hg (N := 37) ?hd (cs := #[.string ⟨#[45]⟩, .int .u16 0, .string ⟨#[]⟩, .slice (some ⟨da, 0, none⟩) 2 2, .string ⟨#[35]⟩, .int .u16 c, .string ⟨#[]⟩, .slice none 0 0]) (n := 2) ?hr ?_; (case hd => rfl); (case hg => rfl); (case hr => first | (go_simp; done) | (go_simp; rfl)); intro db hd5 w5 hw5; have hb : Below w4.heap.size w4 w5 := (by rw [hw5]; exact below_alloc (Below.refl _ _) _); have RB_5 := Aside0.mk (show RE w5 w.heap.size (fun _ => True) (some ⟨db, 0, none⟩) 2 [(opE #[45] [numE a, numE b]), numE c] from (by rw [hw5, hd5]; exact lit2 (e := (opE #[45] [numE a, numE b])) (e' := numE c) RA_4.out (re_nil _ _ _) HW4.out.size)); have HW5 := Aside0.mk (below_step HW4.out hb); have HB5 := Aside0.mk (HB4.out.below hb); have RA_5 := Aside0.mk (RE_below RA_4.out hb); clear hb hw5 hd5) | ((with_reducible refine gate_dst (N := 8) rfl ?_); refine box_event ?hg (N := 8) ?hd (cs := #[.string (⟨#[]⟩ : ByteArray), .int .u16 0, .string (⟨#[]⟩ : ByteArray), .slice none 0 0]) (t := 50) ?hr ?_; (case hd => rfl); (case hg => rfl); (case hr => first | (go_simp; done) | (go_simp; rfl)); intro g8 hg w6 hbox hb; have HZ6 := Aside0.mk hb; have BK6 := Aside0.mk hbox; have HE6 := Aside0.mk hg; obtain ⟨⟨x0, x1, x2, x3⟩, ⟨f0, f1, f2, f3⟩⟩ := blk50 hbox; clear hb hbox hg) | ((with_reducible refine gate_store (t := 50) (p := 8) rfl ?_); refine store_event (t := 50) (p := 8) (v := ?vo8) ?hg ?ho ?hN (w1 := put50 w6 g8 (.string ⟨#[45]⟩) (.int .u16 0) (.string ⟨#[]⟩) (.slice (some ⟨db, 0, none⟩) 2 2)) ?hr ?_; (case ho => rfl); (case hg => rfl); (case hN => rfl); (case hr => first | (go_simp; done) | (go_simp; rfl)); intro w7 hw7; have hb : Below w5.heap.size w5 w7 := (by rw [hw7]; exact below_put HZ6.out (Nat.le_of_eq HE6.out.symm)); have HW7 := Aside0.mk (below_step HW5.out hb); have RB_7 := Aside0.mk (RE_below RB_5.out hb); have HB7 := Aside0.mk (show Bxs w7 ([(g8, db, (opE #[45] [(opE #[45] [numE a, numE b]), numE c]))]) from Bxs.cons (d := db) (show Bx w7 g8 db (opE #[45] [(opE #[45] [numE a, numE b]), numE c]) from ⟨(by rw [hw7]; exact put50_blk BK6.out), (Kd.R_reads' RB_7.out).2.2⟩) (HB5.out.below hb)); clear hb hw7 x0 x1 x2 x3 f0 f1 f2 f3))
  go_upto_region 4 with (first | (go_at_call 47; refine (num_calls a _).mono ?_; rintro ex w8 ⟨rfl, hb⟩; have HW8 := Aside0.mk (below_step HW7.out hb); have HB8 := Aside0.mk (HB7.out.below hb); clear hb) | (go_at_call 47; refine (num_calls b _).mono ?_; rintro ex w9 ⟨rfl, hb⟩; have HW9 := Aside0.mk (below_step HW8.out hb); have HB9 := Aside0.mk (HB8.out.below hb); clear hb) | (go_at_call 47; refine (num_calls c _).mono ?_; rintro ex w10 ⟨rfl, hb⟩; have HW10 := Aside0.mk (below_step HW9.out hb); have HB10 := Aside0.mk (HB9.out.below hb); clear hb) | ((with_reducible refine gate_dst (N := 48) rfl ?_); refine lit_event ?hg (N := 48) ?hd (cs := #[.string ⟨#[35]⟩, .int .u16 b, .string ⟨#[]⟩, .slice none 0 0, .string ⟨#[35]⟩, .int .u16 c, .string ⟨#[]⟩, .slice none 0 0]) (n := 2) ?hr ?_; (case hd => rfl); (case hg => rfl); (case hr => first | (go_simp; done) | (go_simp; rfl)); intro dc hd11 w11 hw11; have hb : Below w10.heap.size w10 w11 := (by rw [hw11]; exact below_alloc (Below.refl _ _) _); have RC_11 := Aside0.mk (show RE w11 w.heap.size (fun _ => True) (some ⟨dc, 0, none⟩) 2 [numE b, numE c] from (by rw [hw11, hd11]; exact lit2 (e := numE b) (e' := numE c) (re_nil _ _ _) (re_nil _ _ _) HW10.out.size)); have HW11 := Aside0.mk (below_step HW10.out hb); have HB11 := Aside0.mk (HB10.out.below hb); clear hb hw11 hd11) | ((with_reducible refine gate_dst (N := 50) rfl ?_); refine lit_event ?hg (N := 50) ?hd (cs := #[.string ⟨#[35]⟩, .int .u16 a, .string ⟨#[]⟩, .slice none 0 0, .string ⟨#[43]⟩, .int .u16 0, .string ⟨#[]⟩, .slice (some ⟨dc, 0, none⟩) 2 2]) (n := 2) ?hr ?_; (case hd => rfl); (case hg => rfl); (case hr => first | (go_simp; done) | (go_simp; rfl)); intro dd hd12 w12 hw12; have hb : Below w11.heap.size w11 w12 := (by rw [hw12]; exact below_alloc (Below.refl _ _) _); have RD_12 := Aside0.mk (show RE w12 w.heap.size (fun _ => True) (some ⟨dd, 0, none⟩) 2 [numE a, (opE #[43] [numE b, numE c])] from (by rw [hw12, hd12]; exact lit2 (e := numE a) (e' := (opE #[43] [numE b, numE c])) (re_nil _ _ _) RC_11.out HW11.out.size)); have HW12 := Aside0.mk (below_step HW11.out hb); have HB12 := Aside0.mk (HB11.out.below hb); have RC_12 := Aside0.mk (RE_below RC_11.out hb); clear hb hw12 hd12) | ((with_reducible refine gate_dst (N := 9) rfl ?_); refine box_event ?hg (N := 9) ?hd (cs := #[.string (⟨#[]⟩ : ByteArray), .int .u16 0, .string (⟨#[]⟩ : ByteArray), .slice none 0 0]) (t := 50) ?hr ?_; (case hd => rfl); (case hg => rfl); (case hr => first | (go_simp; done) | (go_simp; rfl)); intro g9 hg w13 hbox hb; have HZ13 := Aside0.mk hb; have BK13 := Aside0.mk hbox; have HE13 := Aside0.mk hg; obtain ⟨⟨x0, x1, x2, x3⟩, ⟨f0, f1, f2, f3⟩⟩ := blk50 hbox; clear hb hbox hg) | ((with_reducible refine gate_store (t := 50) (p := 9) rfl ?_); refine store_event (t := 50) (p := 9) (v := ?vo9) ?hg ?ho ?hN (w1 := put50 w13 g9 (.string ⟨#[45]⟩) (.int .u16 0) (.string ⟨#[]⟩) (.slice (some ⟨dd, 0, none⟩) 2 2)) ?hr ?_; (case ho => rfl); (case hg => rfl); (case hN => rfl); (case hr => first | (go_simp; done) | (go_simp; rfl)); intro w14 hw14; have hb : Below w12.heap.size w12 w14 := (by rw [hw14]; exact below_put HZ13.out (Nat.le_of_eq HE13.out.symm)); have HW14 := Aside0.mk (below_step HW12.out hb); have RD_14 := Aside0.mk (RE_below RD_12.out hb); have HB14 := Aside0.mk (show Bxs w14 ([(g9, dd, (opE #[45] [numE a, (opE #[43] [numE b, numE c])])), (g8, db, (opE #[45] [(opE #[45] [numE a, numE b]), numE c]))]) from Bxs.cons (d := dd) (show Bx w14 g9 dd (opE #[45] [numE a, (opE #[43] [numE b, numE c])]) from ⟨(by rw [hw14]; exact put50_blk BK13.out), (Kd.R_reads' RD_14.out).2.2⟩) (HB12.out.below hb)); clear hb hw14 x0 x1 x2 x3 f0 f1 f2 f3))
  go_upto_region 5 with (first | (go_at_call 47; refine (num_calls a _).mono ?_; rintro ex w15 ⟨rfl, hb⟩; have HW15 := Aside0.mk (below_step HW14.out hb); have HB15 := Aside0.mk (HB14.out.below hb); clear hb) | ((with_reducible refine gate_dst (N := 55) rfl ?_); refine lit_event ?hg (N := 55) ?hd (cs := #[.string ⟨#[35]⟩, .int .u16 a, .string ⟨#[]⟩, .slice none 0 0]) (n := 1) ?hr ?_; (case hd => rfl); (case hg => rfl); (case hr => first | (go_simp; done) | (go_simp; rfl)); intro de hd16 w16 hw16; have hb : Below w15.heap.size w15 w16 := (by rw [hw16]; exact below_alloc (Below.refl _ _) _); have RF_16 := Aside0.mk (show RE w16 w.heap.size (fun _ => True) (some ⟨de, 0, none⟩) 1 [numE a] from (by rw [hw16, hd16]; exact lit1 (e := numE a) (re_nil _ _ _) HW15.out.size)); have HW16 := Aside0.mk (below_step HW15.out hb); have HB16 := Aside0.mk (HB15.out.below hb); clear hb hw16 hd16) | ((with_reducible refine gate_dst (N := 57) rfl ?_); refine lit_event ?hg (N := 57) ?hd (cs := #[.string ⟨#[78, 79, 84]⟩, .int .u16 0, .string ⟨#[]⟩, .slice (some ⟨de, 0, none⟩) 1 1]) (n := 1) ?hr ?_; (case hd => rfl); (case hg => rfl); (case hr => first | (go_simp; done) | (go_simp; rfl)); intro df hd17 w17 hw17; have hb : Below w16.heap.size w16 w17 := (by rw [hw17]; exact below_alloc (Below.refl _ _) _); have RG_17 := Aside0.mk (show RE w17 w.heap.size (fun _ => True) (some ⟨df, 0, none⟩) 1 [(opE #[78, 79, 84] [numE a])] from (by rw [hw17, hd17]; exact lit1 (e := (opE #[78, 79, 84] [numE a])) RF_16.out HW16.out.size)); have HW17 := Aside0.mk (below_step HW16.out hb); have HB17 := Aside0.mk (HB16.out.below hb); have RF_17 := Aside0.mk (RE_below RF_16.out hb); clear hb hw17 hd17) | ((with_reducible refine gate_dst (N := 10) rfl ?_); refine box_event ?hg (N := 10) ?hd (cs := #[.string (⟨#[]⟩ : ByteArray), .int .u16 0, .string (⟨#[]⟩ : ByteArray), .slice none 0 0]) (t := 50) ?hr ?_; (case hd => rfl); (case hg => rfl); (case hr => first | (go_simp; done) | (go_simp; rfl)); intro g10 hg w18 hbox hb; have HZ18 := Aside0.mk hb; have BK18 := Aside0.mk hbox; have HE18 := Aside0.mk hg; obtain ⟨⟨x0, x1, x2, x3⟩, ⟨f0, f1, f2, f3⟩⟩ := blk50 hbox; clear hb hbox hg) | ((with_reducible refine gate_store (t := 50) (p := 10) rfl ?_); refine store_event (t := 50) (p := 10) (v := ?vo10) ?hg ?ho ?hN (w1 := put50 w18 g10 (.string ⟨#[78, 79, 84]⟩) (.int .u16 0) (.string ⟨#[]⟩) (.slice (some ⟨df, 0, none⟩) 1 1)) ?hr ?_; (case ho => rfl); (case hg => rfl); (case hN => rfl); (case hr => first | (go_simp; done) | (go_simp; rfl)); intro w19 hw19; have hb : Below w17.heap.size w17 w19 := (by rw [hw19]; exact below_put HZ18.out (Nat.le_of_eq HE18.out.symm)); have HW19 := Aside0.mk (below_step HW17.out hb); have RG_19 := Aside0.mk (RE_below RG_17.out hb); have HB19 := Aside0.mk (show Bxs w19 ([(g10, df, (opE #[78, 79, 84] [(opE #[78, 79, 84] [numE a])])), (g9, dd, (opE #[45] [numE a, (opE #[43] [numE b, numE c])])), (g8, db, (opE #[45] [(opE #[45] [numE a, numE b]), numE c]))]) from Bxs.cons (d := df) (show Bx w19 g10 df (opE #[78, 79, 84] [(opE #[78, 79, 84] [numE a])]) from ⟨(by rw [hw19]; exact put50_blk BK18.out), (Kd.R_reads' RG_19.out).2.2⟩) (HB17.out.below hb)); clear hb hw19 x0 x1 x2 x3 f0 f1 f2 f3))
  go_upto_region 6 with (first | (go_at_call 47; refine (num_calls a _).mono ?_; rintro ex w20 ⟨rfl, hb⟩; have HW20 := Aside0.mk (below_step HW19.out hb); have HB20 := Aside0.mk (HB19.out.below hb); clear hb) | ((with_reducible refine gate_dst (N := 62) rfl ?_); refine lit_event ?hg (N := 62) ?hd (cs := #[.string ⟨#[35]⟩, .int .u16 a, .string ⟨#[]⟩, .slice none 0 0]) (n := 1) ?hr ?_; (case hd => rfl); (case hg => rfl); (case hr => first | (go_simp; done) | (go_simp; rfl)); intro dg hd21 w21 hw21; have hb : Below w20.heap.size w20 w21 := (by rw [hw21]; exact below_alloc (Below.refl _ _) _); have RH_21 := Aside0.mk (show RE w21 w.heap.size (fun _ => True) (some ⟨dg, 0, none⟩) 1 [numE a] from (by rw [hw21, hd21]; exact lit1 (e := numE a) (re_nil _ _ _) HW20.out.size)); have HW21 := Aside0.mk (below_step HW20.out hb); have HB21 := Aside0.mk (HB20.out.below hb); clear hb hw21 hd21) | ((with_reducible refine gate_dst (N := 64) rfl ?_); refine lit_event ?hg (N := 64) ?hd (cs := #[.string ⟨#[78, 69, 71]⟩, .int .u16 0, .string ⟨#[]⟩, .slice (some ⟨dg, 0, none⟩) 1 1]) (n := 1) ?hr ?_; (case hd => rfl); (case hg => rfl); (case hr => first | (go_simp; done) | (go_simp; rfl)); intro dh hd22 w22 hw22; have hb : Below w21.heap.size w21 w22 := (by rw [hw22]; exact below_alloc (Below.refl _ _) _); have RI_22 := Aside0.mk (show RE w22 w.heap.size (fun _ => True) (some ⟨dh, 0, none⟩) 1 [(opE #[78, 69, 71] [numE a])] from (by rw [hw22, hd22]; exact lit1 (e := (opE #[78, 69, 71] [numE a])) RH_21.out HW21.out.size)); have HW22 := Aside0.mk (below_step HW21.out hb); have HB22 := Aside0.mk (HB21.out.below hb); have RH_22 := Aside0.mk (RE_below RH_21.out hb); clear hb hw22 hd22) | ((with_reducible refine gate_dst (N := 11) rfl ?_); refine box_event ?hg (N := 11) ?hd (cs := #[.string (⟨#[]⟩ : ByteArray), .int .u16 0, .string (⟨#[]⟩ : ByteArray), .slice none 0 0]) (t := 50) ?hr ?_; (case hd => rfl); (case hg => rfl); (case hr => first | (go_simp; done) | (go_simp; rfl)); intro g11 hg w23 hbox hb; have HZ23 := Aside0.mk hb; have BK23 := Aside0.mk hbox; have HE23 := Aside0.mk hg; obtain ⟨⟨x0, x1, x2, x3⟩, ⟨f0, f1, f2, f3⟩⟩ := blk50 hbox; clear hb hbox hg) | ((with_reducible refine gate_store (t := 50) (p := 11) rfl ?_); refine store_event (t := 50) (p := 11) (v := ?vo11) ?hg ?ho ?hN (w1 := put50 w23 g11 (.string ⟨#[78, 69, 71]⟩) (.int .u16 0) (.string ⟨#[]⟩) (.slice (some ⟨dh, 0, none⟩) 1 1)) ?hr ?_; (case ho => rfl); (case hg => rfl); (case hN => rfl); (case hr => first | (go_simp; done) | (go_simp; rfl)); intro w24 hw24; have hb : Below w22.heap.size w22 w24 := (by rw [hw24]; exact below_put HZ23.out (Nat.le_of_eq HE23.out.symm)); have HW24 := Aside0.mk (below_step HW22.out hb); have RI_24 := Aside0.mk (RE_below RI_22.out hb); have HB24 := Aside0.mk (show Bxs w24 ([(g11, dh, (opE #[78, 69, 71] [(opE #[78, 69, 71] [numE a])])), (g10, df, (opE #[78, 79, 84] [(opE #[78, 79, 84] [numE a])])), (g9, dd, (opE #[45] [numE a, (opE #[43] [numE b, numE c])])), (g8, db, (opE #[45] [(opE #[45] [numE a, numE b]), numE c]))]) from Bxs.cons (d := dh) (show Bx w24 g11 dh (opE #[78, 69, 71] [(opE #[78, 69, 71] [numE a])]) from ⟨(by rw [hw24]; exact put50_blk BK23.out), (Kd.R_reads' RI_24.out).2.2⟩) (HB22.out.below hb)); clear hb hw24 x0 x1 x2 x3 f0 f1 f2 f3))
  have Qd := HB24.out (g8, db, (opE #[45] [(opE #[45] [numE a, numE b]), numE c])) (by simp)
  obtain ⟨⟨x0, x1, x2, x3⟩, ⟨f0, f1, f2, f3⟩⟩ := blk50 (show w24.heap[g8]? = some (.cells #[.string ⟨#[45]⟩, .int .u16 0, .string ⟨#[]⟩, .slice (some ⟨db, 0, none⟩) 2 2] 50 (0, 0)) from Qd.1)
  have Cd := Aside0.mk Qd.2
  clear Qd
  go_upto_region 7 with (first | (go_at_call 40; refine (eval_nil k ((opE #[45] [(opE #[45] [numE a, numE b]), numE c])) 0 (IntKind.u16.wrap (IntKind.u16.wrap (a - b) - c)) 0 (some ⟨db, 0, none⟩) 2 _ H1.out Cd.out (Nat.le_refl 2)).mono ?_; rintro ex w25 ⟨rfl, hb⟩; have HW25 := Aside0.mk (below_step HW24.out hb); have HB25 := Aside0.mk (HB24.out.below hb); clear hb))
  clear x0 x1 x2 x3 f0 f1 f2 f3
  have Qe := HB25.out (g9, dd, (opE #[45] [numE a, (opE #[43] [numE b, numE c])])) (by simp)
  obtain ⟨⟨x0, x1, x2, x3⟩, ⟨f0, f1, f2, f3⟩⟩ := blk50 (show w25.heap[g9]? = some (.cells #[.string ⟨#[45]⟩, .int .u16 0, .string ⟨#[]⟩, .slice (some ⟨dd, 0, none⟩) 2 2] 50 (0, 0)) from Qe.1)
  have Ce := Aside0.mk Qe.2
  clear Qe
  go_upto_region 8 with (first | (go_at_call 40; refine (eval_nil k ((opE #[45] [numE a, (opE #[43] [numE b, numE c])])) 0 (IntKind.u16.wrap (IntKind.u16.wrap (a - b) - c)) 0 (some ⟨dd, 0, none⟩) 2 _ H2.out Ce.out (Nat.le_refl 2)).mono ?_; rintro ex w26 ⟨rfl, hb⟩; have HW26 := Aside0.mk (below_step HW25.out hb); have HB26 := Aside0.mk (HB25.out.below hb); clear hb))
  clear x0 x1 x2 x3 f0 f1 f2 f3
  have Qf := HB26.out (g10, df, (opE #[78, 79, 84] [(opE #[78, 79, 84] [numE a])])) (by simp)
  obtain ⟨⟨x0, x1, x2, x3⟩, ⟨f0, f1, f2, f3⟩⟩ := blk50 (show w26.heap[g10]? = some (.cells #[.string ⟨#[78, 79, 84]⟩, .int .u16 0, .string ⟨#[]⟩, .slice (some ⟨df, 0, none⟩) 1 1] 50 (0, 0)) from Qf.1)
  have Cf := Aside0.mk Qf.2
  clear Qf
  go_upto_region 9 with (first | (go_at_call 40; refine (eval_nil k ((opE #[78, 79, 84] [(opE #[78, 79, 84] [numE a])])) 0 a 0 (some ⟨df, 0, none⟩) 1 _ H3.out Cf.out (Nat.le_refl 1)).mono ?_; rintro ex w27 ⟨rfl, hb⟩; have HW27 := Aside0.mk (below_step HW26.out hb); have HB27 := Aside0.mk (HB26.out.below hb); clear hb))
  clear x0 x1 x2 x3 f0 f1 f2 f3
  have Qg := HB27.out (g11, dh, (opE #[78, 69, 71] [(opE #[78, 69, 71] [numE a])])) (by simp)
  obtain ⟨⟨x0, x1, x2, x3⟩, ⟨f0, f1, f2, f3⟩⟩ := blk50 (show w27.heap[g11]? = some (.cells #[.string ⟨#[78, 69, 71]⟩, .int .u16 0, .string ⟨#[]⟩, .slice (some ⟨dh, 0, none⟩) 1 1] 50 (0, 0)) from Qg.1)
  have Cg := Aside0.mk Qg.2
  clear Qg
  go_upto_region 10 with (first | (go_at_call 40; refine (eval_nil k ((opE #[78, 69, 71] [(opE #[78, 69, 71] [numE a])])) 0 a 0 (some ⟨dh, 0, none⟩) 1 _ H4.out Cg.out (Nat.le_refl 1)).mono ?_; rintro ex w28 ⟨rfl, hb⟩; have HW28 := Aside0.mk (below_step HW27.out hb); have HB28 := Aside0.mk (HB27.out.below hb); clear hb))
  clear x0 x1 x2 x3 f0 f1 f2 f3
  have Qs := HB28.out (g8, db, (opE #[45] [(opE #[45] [numE a, numE b]), numE c])) (by simp)
  obtain ⟨⟨x0, x1, x2, x3⟩, ⟨f0, f1, f2, f3⟩⟩ := blk50 (show w28.heap[g8]? = some (.cells #[.string ⟨#[45]⟩, .int .u16 0, .string ⟨#[]⟩, .slice (some ⟨db, 0, none⟩) 2 2] 50 (0, 0)) from Qs.1)
  have Cs := Aside0.mk Qs.2
  clear Qs
  go_upto_region 11 with (first | (go_at_call 44; refine (expr_Show.calls k ⟨#[45]⟩ 0 ⟨#[]⟩ (some ⟨db, 0, none⟩) 2 [(opE #[45] [numE a, numE b]), numE c] tx 0 _ ⟨G0.below hG.out HW28.out⟩ Cs.out (Nat.le_refl 2) H5.out).mono ?_; rintro ex w29 ⟨rfl, hb⟩; have HW29 := Aside0.mk (below_step HW28.out hb); have HB29 := Aside0.mk (HB28.out.below hb); clear hb))
  clear x0 x1 x2 x3 f0 f1 f2 f3
  go_upto_region 12 with (first | (go_at_call 28; refine (token_Line.calls k tx ts 0 _ ⟨G0.below hG.out HW29.out⟩ H6.out).mono ?_; rintro ex w30 ⟨v1, rfl, ho, hb⟩; have HO1 := Aside0.mk ho; have HW30 := Aside0.mk (below_step HW29.out hb); have HB30 := Aside0.mk (HB29.out.below hb); obtain ⟨At, ct, rfl⟩ := Kd.R_slice HO1.out; clear hb ho))
  go_upto_region 13 with (first | (go_at_call 45; refine (expr_All.calls k At ct ts ⟨#[45]⟩ 0 ⟨#[]⟩ [(opE #[45] [numE a, numE b]), numE c] 0 _ (Kd.R_reads' HO1.out).2.2 (Kd.R_reads' HO1.out).2.1 H7.out).mono ?_; rintro ex w31 ⟨v2, rfl, ho, hb⟩; have HO2 := Aside0.mk ho; have HW31 := Aside0.mk (below_step HW30.out hb); have HB31 := Aside0.mk (HB30.out.below hb); obtain ⟨Ah, ch, rfl⟩ := Kd.R_slice HO2.out; clear hb ho) | ((with_reducible refine gate_dst (N := 24) rfl ?_); refine box_event ?hg (N := 24) ?hd (cs := #[.string (⟨#[]⟩ : ByteArray), .int .u16 0, .string (⟨#[]⟩ : ByteArray), .slice none 0 0]) (t := 50) ?hr ?_; (case hd => rfl); (case hg => rfl); (case hr => first | (go_simp; done) | (go_simp; rfl)); intro g24 hg w32 hbox hb; have HZ32 := Aside0.mk hb; have BK32 := Aside0.mk hbox; have HE32 := Aside0.mk hg; obtain ⟨⟨x0, x1, x2, x3⟩, ⟨f0, f1, f2, f3⟩⟩ := blk50 hbox; clear hb hbox hg) | ((with_reducible refine gate_store (t := 50) (p := 24) rfl ?_); refine store_event (t := 50) (p := 24) (v := ?vo24) ?hg ?ho ?hN (w1 := put50 w32 g24 (.string ⟨#[45]⟩) (.int .u16 0) (.string ⟨#[]⟩) (.slice Ah 2 ch)) ?hr ?_; (case ho => rfl); (case hg => rfl); (case hN => rfl); (case hr => first | (go_simp; done) | (go_simp; rfl)); intro w33 hw33; have hb : Below w31.heap.size w31 w33 := (by rw [hw33]; exact below_put HZ32.out (Nat.le_of_eq HE32.out.symm)); have HW33 := Aside0.mk (below_step HW31.out hb); have HB33 := Aside0.mk (HB31.out.below hb); have HH := Aside0.mk (show w33.heap[g24]? = some (.cells #[.string ⟨#[45]⟩, .int .u16 0, .string ⟨#[]⟩, .slice Ah 2 ch] 50 (0, 0)) from (by rw [hw33]; exact put50_blk BK32.out)); have HO3 := Aside0.mk (RE_below HO2.out hb); clear hb hw33 x0 x1 x2 x3 f0 f1 f2 f3))
  have Qz := HB33.out (g8, db, (opE #[45] [(opE #[45] [numE a, numE b]), numE c])) (by simp)
  obtain ⟨⟨x0, x1, x2, x3⟩, ⟨f0, f1, f2, f3⟩⟩ := blk50 (show w33.heap[g8]? = some (.cells #[.string ⟨#[45]⟩, .int .u16 0, .string ⟨#[]⟩, .slice (some ⟨db, 0, none⟩) 2 2] 50 (0, 0)) from Qz.1)
  have Cz := Aside0.mk Qz.2
  clear Qz
  obtain ⟨⟨y0, y1, y2, y3⟩, ⟨e0, e1, e2, e3⟩⟩ := blk50 HH.out
  go_wp2_with (first | (go_at_call 46; refine (pidginref05_Same.calls k ⟨#[45]⟩ 0 ⟨#[]⟩ Ah ch [(opE #[45] [numE a, numE b]), numE c] ⟨#[45]⟩ 0 ⟨#[]⟩ (some ⟨db, 0, none⟩) 2 [(opE #[45] [numE a, numE b]), numE c] true _ (Kd.R_reads' HO3.out).2.2 (Kd.R_reads' HO3.out).2.1 Cz.out (Nat.le_refl 2) H8.out).mono ?_; rintro ex w34 ⟨rfl, hb⟩; have HW34 := Aside0.mk (below_step HW33.out hb); clear hb) | (go_at_call 39; refine (pidginlaw05_alive.calls k true _ ⟨G0.below hG.out HW34.out⟩ H9.out).mono ?_; rintro ex w35 ⟨rfl, hb⟩; have HW35 := Aside0.mk (below_step HW34.out hb); clear hb))
  go_ret
  exact ⟨rfl, HW35.out⟩
end Go.Proofs.YtejhagejjogbaaaDoor.SumsC
end
section
namespace Go.Proofs.YtejhagejjogbaaaDoor.Ee
open Go.RowKit Go.Proofs.YtejhagejjogbaaaDoorW.PrintWords Go.Proofs.YtejhagejjogbaaaDoorW.PrintLast Go.Proofs.YtejhagejjogbaaaDoorW.PrintMore Go.Proofs.YtejhagejjogbaaaDoor.Given Go.Proofs.YtejhagejjogbaaaDoor.Pn Go.Proofs.YtejhagejjogbaaaDoor.Pa Go.Proofs.YtejhagejjogbaaaDoor.Pb Go.Proofs.YtejhagejjogbaaaDoor.Qa Go.Proofs.YtejhagejjogbaaaDoor.Qc Go.Proofs.YtejhagejjogbaaaDoor.Qf Go.Proofs.YtejhagejjogbaaaDoor.Qg Go.Proofs.YtejhagejjogbaaaDoor.Num Go.Proofs.YtejhagejjogbaaaDoor.AnyNot Go.Proofs.YtejhagejjogbaaaDoor.EvB Go.Proofs.YtejhagejjogbaaaDoor.EvC Go.Proofs.YtejhagejjogbaaaDoor.LawC Go.Proofs.YtejhagejjogbaaaDoor.Right.R Go.Proofs.YtejhagejjogbaaaDoor.Par Go.Proofs.YtejhagejjogbaaaDoor.SameC Go.Proofs.YtejhagejjogbaaaDoor.Tk Go.Proofs.YtejhagejjogbaaaDoor.PsrI.R Go.Proofs.YtejhagejjogbaaaDoor.SumsC
set_option linter.unusedSimpArgs false
set_option linter.unusedVariables false
theorem notU_eq {x : Int} (h0 : 0 ≤ x) (h1 : x ≤ 65535) : notU x = 65535 - x := by
  unfold notU Go.bits
  show IntKind.u16.wrap ((BitVec.ofInt 16 65535 ^^^ BitVec.ofInt 16 x).toNat : Int) = _
  have e : BitVec.ofInt 16 65535 = BitVec.allOnes 16 := by decide
  rw [e, ← BitVec.not_def, BitVec.toNat_not, BitVec.toNat_ofInt]
  show (((2 ^ 16 - 1 - (x % ((2 ^ 16 : Nat) : Int)).toNat : Nat)) : Int) % 65536 = _
  have h2 : x % ((2 ^ 16 : Nat) : Int) = x := Int.emod_eq_of_lt h0 (by omega)
  rw [h2]
  omega
theorem notU_two {x : Int} (h0 : 0 ≤ x) (h1 : x ≤ 65535) : notU (notU x) = x := by
  rw [notU_eq h0 h1, notU_eq (by omega) (by omega)]; omega
theorem negU_two {x : Int} (h0 : 0 ≤ x) (h1 : x ≤ 65535) : negU (negU x) = x := by
  show (-((-x) % 65536)) % 65536 = x
  omega
theorem ev_num (F : ByteArray → Int × Int) (k : Nat) (z : Int) : evalP 0 F (k + 1) (numE z) = some (z, 0) := by rw [evalP]; exact if_pos rfl
theorem ev_bin {F : ByteArray → Int × Int} {k : Nat} {op : Array UInt8} {A B : S50} {x y : Int} (h : op.toList ≠ [35] ∧ op.toList ≠ [36] ∧ op.toList ≠ [110] ∧ op.toList ≠ [78, 79, 84] ∧ op.toList ≠ [78, 69, 71])
    (hx : evalP 0 F k A = some (x, 0)) (hy : evalP 0 F k B = some (y, 0)) : evalP 0 F (k + 1) (opE op [A, B]) = expr_two.f ⟨op⟩ x y := by
  rw [evalP]
  simp only [if_neg h.1, if_neg h.2.1, if_neg h.2.2.1, if_neg h.2.2.2.1, if_neg h.2.2.2.2, hx, hy, if_true]
theorem ev_not {F : ByteArray → Int × Int} {k : Nat} {A : S50} {x : Int} (hx : evalP 0 F k A = some (x, 0)) : evalP 0 F (k + 1) (opE #[78, 79, 84] [A]) = some (notU x, 0) := by
  rw [evalP]
  simp only [if_neg (show ¬ (#[78, 79, 84] : Array UInt8).toList = [35] by decide), if_neg (show ¬ (#[78, 79, 84] : Array UInt8).toList = [36] by decide), if_neg (show ¬ (#[78, 79, 84] : Array UInt8).toList = [110] by decide), hx, if_true]
theorem ev_neg {F : ByteArray → Int × Int} {k : Nat} {A : S50} {x : Int} (hx : evalP 0 F k A = some (x, 0)) : evalP 0 F (k + 1) (opE #[78, 69, 71] [A]) = some (negU x, 0) := by
  rw [evalP]
  simp only [if_neg (show ¬ (#[78, 69, 71] : Array UInt8).toList = [35] by decide), if_neg (show ¬ (#[78, 69, 71] : Array UInt8).toList = [36] by decide), if_neg (show ¬ (#[78, 69, 71] : Array UInt8).toList = [110] by decide), if_neg (show ¬ (#[78, 69, 71] : Array UInt8).toList = [78, 79, 84] by decide), hx, if_true]
theorem two_sub (x y : Int) : expr_two.f (⟨#[45]⟩ : ByteArray) x y = some (IntKind.u16.wrap (x - y), 0) := by unfold expr_two.f; simp only [Lib.toList_data]; rfl
theorem two_add (x y : Int) : expr_two.f (⟨#[43]⟩ : ByteArray) x y = some (IntKind.u16.wrap (x + y), 0) := by unfold expr_two.f; simp only [Lib.toList_data]; rfl
theorem op_right {n : Nat} {op : Array UInt8} {l : List S50} (m : Nat) (hm : l.length = m) (h : (bindsL op.toList).1 ≠ 0 ∧ op.toList ≠ [110] ∧ (m : Int) = (bindsL op.toList).2) (hl : l.all (rightN n) = true) : rightN (n + 1) (opE op l) = true := by
  subst hm
  rw [rightN]
  simp only [hl, Bool.and_true, condR, if_neg h.2.1, decide_eq_true h.1, decide_eq_true h.2.2, Bool.true_and]
  rfl
theorem op_ok {n : Nat} {op : Array UInt8} {l : List S50} (hl : l.all (okB n) = true) : okB (n + 1) (opE op l) = true := by
  rw [okB, hl]; rfl
theorem op_light {n : Nat} {op : Array UInt8} {l : List S50} (m : Nat) (hm : l.length = m) (h : m ≤ 3 ∧ (⟨op⟩ : ByteArray).size ≤ 50) (hl : l.all (lightN n) = true) : lightN (n + 1) (opE op l) = true := by
  subst hm
  rw [lightN]
  simp only [hl, Bool.and_true, decide_eq_true h.1, decide_eq_true h.2, Bool.true_and]
  rfl
theorem num_light (n : Nat) (x : Int) : lightN (n + 1) (numE x) = true := rfl
theorem two_all {p : S50 → Bool} {a b : S50} (ha : p a = true) (hb : p b = true) : [a, b].all p = true := by simp [ha, hb]
theorem one_all {p : S50 → Bool} {a : S50} (ha : p a = true) : [a].all p = true := by simp [ha]
theorem rt_of (e : S50) (hk : okB 24 e = true) (hr : rightN 24 e = true) : expr_Right.f e.f0 e.f1 e.f2 e.f3 = some 0 := by
  rw [Right_at e hk, hr]; rfl
theorem evalT_of {e : S50} {F : ByteArray → Int × Int} {r : Int × Int} (hk : okB 24 e = true) (hr : rightN 24 e = true) (h : ∀ k, evalP 0 F (k + 3) e = some r) : Ev (fun k => evalT k e 0 F) r := by
  refine ⟨3, fun k hk' => ?_⟩
  obtain ⟨m, rfl⟩ : ∃ m, k = m + 3 := ⟨k - 3, by omega⟩
  show evalT (m + 3) e 0 F = some r
  unfold evalT
  simp only [rt_of e hk hr, if_true, h m]
theorem num_good {x : Int} (h0 : 0 ≤ x) (h1 : x ≤ 65535) : NumOk (numE x) := .mk _ _ _ _ h0 h1 (fun x hx => by cases hx)
theorem op_good' {op : Array UInt8} {l : List S50} (h : ∀ x ∈ l, NumOk x) : NumOk (opE op l) := .mk _ _ _ _ (Int.le_refl 0) (by decide) h
theorem num_tok (n : Nat) (x : Int) (want : Int) (hw : want ≤ 7) : etN (n + 1) (numE x) want = [⟨2, ⟨#[]⟩, x⟩] := by
  rw [etN, if_neg (show ¬ (bindsL (numE x).f0.data.toList).1 < want from by show ¬ (7 : Int) < want; omega)]
  rfl
theorem sub_tok (n : Nat) (A B : S50) (want : Int) (hw : want ≤ 4) : etN (n + 1) (opE #[45] [A, B]) want = etN n A 4 ++ ⟨4, ⟨#[45]⟩, 0⟩ :: etN n B 5 := by
  rw [etN, if_neg (show ¬ (bindsL (opE #[45] [A, B]).f0.data.toList).1 < want from by show ¬ (4 : Int) < want; omega)]
  rfl
abbrev DE (a b c : Int) : S50 := opE #[45] [opE #[45] [numE a, numE b], numE c]
theorem D_toks (a b c : Int) : etN 24 (DE a b c) 1 = [⟨2, ⟨#[]⟩, a⟩, ⟨4, ⟨#[45]⟩, 0⟩, ⟨2, ⟨#[]⟩, b⟩, ⟨4, ⟨#[45]⟩, 0⟩, ⟨2, ⟨#[]⟩, c⟩] := by
  rw [DE, sub_tok 23 _ _ 1 (by decide), sub_tok 22 _ _ 4 (by decide), num_tok 21 a 4 (by decide), num_tok 21 b 5 (by decide), num_tok 22 c 5 (by decide)]
  rfl
theorem D_len {a b c : Int} (a0 : 0 ≤ a) (a1 : a ≤ 65535) (b0 : 0 ≤ b) (b1 : b ≤ 65535) (c0 : 0 ≤ c) (c1 : c ≤ 65535) : (joinT (etN 24 (DE a b c) 1)).length ≤ 200 := by
  rw [D_toks]
  simp only [joinT_cons, joinT_one, List.length_append, List.length_cons]
  have e : ∀ x : Int, showT ⟨2, ⟨#[]⟩, x⟩ = showL x.toNat := fun x => rfl
  have m : (showT ⟨4, ⟨#[45]⟩, 0⟩).length = 1 := rfl
  rw [e, e, e, m]
  have h1 := (show_len a.toNat (by omega)).2
  have h2 := (show_len b.toNat (by omega)).2
  have h3 := (show_len c.toNat (by omega)).2
  omega
theorem sums_facts (a b c : Int) (wa : (Lit.int .u16 a).wf = true) (wb : (Lit.int .u16 b).wf = true) (wc : (Lit.int .u16 c).wf = true) : ∃ k tx ts,
    evalT k (DE a b c) 0 (fun _ => (0, 3)) = some (IntKind.u16.wrap (IntKind.u16.wrap (a - b) - c), 0) ∧
    evalT k (opE #[45] [numE a, opE #[43] [numE b, numE c]]) 0 (fun _ => (0, 3)) = some (IntKind.u16.wrap (IntKind.u16.wrap (a - b) - c), 0) ∧
    evalT k (opE #[78, 79, 84] [opE #[78, 79, 84] [numE a]]) 0 (fun _ => (0, 3)) = some (a, 0) ∧
    evalT k (opE #[78, 69, 71] [opE #[78, 69, 71] [numE a]]) 0 (fun _ => (0, 3)) = some (a, 0) ∧
    expr_Show.f k ⟨#[45]⟩ 0 ⟨#[]⟩ [opE #[45] [numE a, numE b], numE c] = some (tx, 0) ∧ token_Line.f k tx = some (ts, 0) ∧
    expr_All.f k ts = some (⟨#[45]⟩, 0, ⟨#[]⟩, [opE #[45] [numE a, numE b], numE c], 0) ∧
    pidginref05_Same.f k ⟨#[45]⟩ 0 ⟨#[]⟩ [opE #[45] [numE a, numE b], numE c] ⟨#[45]⟩ 0 ⟨#[]⟩ [opE #[45] [numE a, numE b], numE c] = some true ∧ pidginlaw05_alive.f k = some true := by
  obtain ⟨a0, a1⟩ := u16_range wa
  obtain ⟨b0, b1⟩ := u16_range wb
  obtain ⟨c0, c1⟩ := u16_range wc
  have rD : rightN 24 (DE a b c) = true := op_right 2 rfl (by decide) (two_all (op_right 2 rfl (by decide) (two_all (num_right _ _) (num_right _ _))) (num_right _ _))
  have kD : okB 24 (DE a b c) = true := op_ok (two_all (op_ok (two_all (num_ok _ _) (num_ok _ _))) (num_ok _ _))
  have lD : lightN 40 (DE a b c) = true := op_light 2 rfl (by decide) (two_all (op_light 2 rfl (by decide) (two_all (num_light _ _) (num_light _ _))) (num_light _ _))
  have nD : NumOk (DE a b c) := op_good' (by
    intro x hx
    rcases List.mem_cons.1 hx with rfl | hx
    · refine op_good' ?_
      intro x hx
      rcases List.mem_cons.1 hx with rfl | hx
      · exact num_good a0 a1
      · obtain rfl := List.mem_singleton.1 hx; exact num_good b0 b1
    · obtain rfl := List.mem_singleton.1 hx; exact num_good c0 c1)
  have oM : (#[45] : Array UInt8).toList ≠ [35] ∧ (#[45] : Array UInt8).toList ≠ [36] ∧ (#[45] : Array UInt8).toList ≠ [110] ∧ (#[45] : Array UInt8).toList ≠ [78, 79, 84] ∧ (#[45] : Array UInt8).toList ≠ [78, 69, 71] := by decide
  have oP : (#[43] : Array UInt8).toList ≠ [35] ∧ (#[43] : Array UInt8).toList ≠ [36] ∧ (#[43] : Array UInt8).toList ≠ [110] ∧ (#[43] : Array UInt8).toList ≠ [78, 79, 84] ∧ (#[43] : Array UInt8).toList ≠ [78, 69, 71] := by decide
  obtain ⟨K1, h1⟩ : Ev (fun k => evalT k (DE a b c) 0 (fun _ => (0, 3))) (IntKind.u16.wrap (IntKind.u16.wrap (a - b) - c), 0) :=
    evalT_of kD rD fun k => (ev_bin oM ((ev_bin oM (ev_num _ k a) (ev_num _ k b)).trans (two_sub a b)) (ev_num _ (k + 1) c)).trans (two_sub _ _)
  obtain ⟨K2, h2⟩ : Ev (fun k => evalT k (opE #[45] [numE a, opE #[43] [numE b, numE c]]) 0 (fun _ => (0, 3))) (IntKind.u16.wrap (IntKind.u16.wrap (a - b) - c), 0) :=
    evalT_of (op_ok (two_all (num_ok _ _) (op_ok (two_all (num_ok _ _) (num_ok _ _))))) (op_right 2 rfl (by decide) (two_all (num_right _ _) (op_right 2 rfl (by decide) (two_all (num_right _ _) (num_right _ _)))))
      fun k => (ev_bin oM (ev_num _ (k + 1) a) ((ev_bin oP (ev_num _ k b) (ev_num _ k c)).trans (two_add b c))).trans ((two_sub _ _).trans (by
        have e : IntKind.u16.wrap (a - IntKind.u16.wrap (b + c)) = IntKind.u16.wrap (IntKind.u16.wrap (a - b) - c) := by
          show (a - (b + c) % 65536) % 65536 = ((a - b) % 65536 - c) % 65536
          omega
        rw [e]))
  obtain ⟨K3, h3⟩ : Ev (fun k => evalT k (opE #[78, 79, 84] [opE #[78, 79, 84] [numE a]]) 0 (fun _ => (0, 3))) (a, 0) :=
    evalT_of (op_ok (one_all (op_ok (one_all (num_ok _ _))))) (op_right 1 rfl (by decide) (one_all (op_right 1 rfl (by decide) (one_all (num_right _ _)))))
      fun k => (ev_not (ev_not (ev_num _ k a))).trans (by rw [notU_two a0 a1])
  obtain ⟨K4, h4⟩ : Ev (fun k => evalT k (opE #[78, 69, 71] [opE #[78, 69, 71] [numE a]]) 0 (fun _ => (0, 3))) (a, 0) :=
    evalT_of (op_ok (one_all (op_ok (one_all (num_ok _ _))))) (op_right 1 rfl (by decide) (one_all (op_right 1 rfl (by decide) (one_all (num_right _ _)))))
      fun k => (ev_neg (ev_neg (ev_num _ k a))).trans (by rw [negU_two a0 a1])
  have sh := Show_ev (DE a b c) lD nD
  rw [if_pos rD] at sh
  obtain ⟨K5, h5⟩ := sh
  have hsz : ¬ 200 < (⟨(joinT (etN 24 (DE a b c) 1)).toArray⟩ : ByteArray).size := by
    have := D_len a0 a1 b0 b1 c0 c1
    show ¬ 200 < (joinT (etN 24 (DE a b c) 1)).toArray.size
    rw [List.size_toArray]; omega
  have ln := line_ev ⟨(joinT (etN 24 (DE a b c) 1)).toArray⟩
  rw [line_et rD nD _ (Llist _) hsz] at ln
  obtain ⟨K6, h6⟩ := ln
  obtain ⟨K7, h7⟩ := all_right (DE a b c) rD (by rw [D_toks]; show (5 : Nat) ≤ 200; decide)
  obtain ⟨K8, h8⟩ := ref_same 40 (DE a b c) lD
  obtain ⟨K9, h9⟩ := alive5
  refine ⟨K1 + K2 + K3 + K4 + K5 + K6 + K7 + K8 + K9, _, _, h1 _ (by omega), h2 _ (by omega), h3 _ (by omega), h4 _ (by omega), h5 _ (by omega), h6 _ (by omega), h7 _ (by omega), h8 _ (by omega), h9 _ (by omega)⟩
theorem ExprSums_calls (a b c : Int) (wa : (Lit.int .u16 a).wf = true) (wb : (Lit.int .u16 b).wf = true) (wc : (Lit.int .u16 c).wf = true) (w : World) (hG : Aside0 (G0 w)) :
    Calls Tryd.prog 12 #[.int .u16 a, .int .u16 b, .int .u16 c] w fun e w' => e = .returned (.bool true) ∧ Below w.heap.size w w' := by
  obtain ⟨k, tx, ts, h1, h2, h3, h4, h5, h6, h7, h8, h9⟩ := sums_facts a b c wa wb wc
  exact sums_calls k a b c tx ts w hG h1 h2 h3 h4 h5 h6 h7 h8 h9
end Go.Proofs.YtejhagejjogbaaaDoor.Ee
end
