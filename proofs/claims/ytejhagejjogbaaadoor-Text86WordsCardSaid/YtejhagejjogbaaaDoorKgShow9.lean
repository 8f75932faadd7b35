import Derived.Test.YtejhagejjogbaaaDoorKgFun9
import Derived.Test.YtejhagejjogbaaaDoorKgTokRep
namespace Go.Proofs.YtejhagejjogbaaaDoor.Show9
open Go.RowKit Go.Proofs.YtejhagejjogbaaaDoorW.PrintWords Go.Proofs.YtejhagejjogbaaaDoorW.PrintLast Go.Proofs.YtejhagejjogbaaaDoorW.PrintMore Go.Proofs.YtejhagejjogbaaaDoor.Tab9 Go.Proofs.YtejhagejjogbaaaDoor.Lay9 Go.Proofs.YtejhagejjogbaaaDoor.Words9 Go.Proofs.YtejhagejjogbaaaDoor.Codes9 Go.Proofs.YtejhagejjogbaaaDoor.Fun9 Go.Proofs.YtejhagejjogbaaaDoor.TokJoin Go.Proofs.YtejhagejjogbaaaDoor.TokRep
set_option linter.unusedVariables false
set_option linter.unusedSimpArgs false
theorem blk68 {W : World} {b : Nat} {a0 a1 a2 a3 : Value} (h : W.heap[b]? = some (.cells #[a0, a1, a2, a3] 68 (0, 0))) : (W.cell? ⟨b, 0, none⟩ = some a0 ∧ W.cell? ⟨b, 1, none⟩ = some a1 ∧ W.cell? ⟨b, 2, none⟩ = some a2 ∧ W.cell? ⟨b, 3, none⟩ = some a3) ∧ (W.frozen? ⟨b, 0, none⟩ = false ∧ W.frozen? ⟨b, 1, none⟩ = false ∧ W.frozen? ⟨b, 2, none⟩ = false ∧ W.frozen? ⟨b, 3, none⟩ = false) :=
  ⟨⟨(blk_cell h 0).trans rfl, (blk_cell h 1).trans rfl, (blk_cell h 2).trans rfl, (blk_cell h 3).trans rfl⟩, ⟨blk_frozen h 0, blk_frozen h 1, blk_frozen h 2, blk_frozen h 3⟩⟩
theorem idx104_0 (a b : Value) (W : World) : (Instr.index 104 (.agg #[a, b]) (.int .i64 0)).run Tryd.prog W = .ok a W := by kernel_rfl
theorem idx104_1 (a b : Value) (W : World) : (Instr.index 104 (.agg #[a, b]) (.int .i64 1)).run Tryd.prog W = .ok b W := by kernel_rfl
theorem info9 : (Tryd.prog.info? 9).map (fun i => (i.zero, i.size, i.bytes)) = some (some (.string ByteArray.empty), 1, 16) := by kernel_rfl
def shownL (a b r q : ByteArray) (k : Nat) : List ByteArray := (if 1 ≤ k then (if (a.toList == ([] : List UInt8)) = true then [] else [r]) else []) ++ (if 2 ≤ k then (if (b.toList == ([] : List UInt8)) = true then [] else [q]) else [])
section
variable (op D S n : Int) (w : World)
set_option maxHeartbeats 8000000 in
set_option maxRecDepth 100000 in
theorem Show_no (k : Int) (hk : (k != 0) = true) (hG : G9 w) (hR : ∀ w, G9 w → Calls Tryd.prog 85 #[.agg #[.int .i64 op, .int .i64 D, .int .i64 S, .int .u16 n]] w fun e w' => e = .returned (.int .i64 k) ∧ Below w.heap.size w w') :
    Calls Tryd.prog 50 #[.agg #[.int .i64 op, .int .i64 D, .int .i64 S, .int .u16 n]] w fun e w' => e = .returned (.tuple #[.string ⟨#[]⟩, .int .i64 k]) ∧ Below w.heap.size w w' := by
  have hu68 := Tryd.underlying68
  have HG := Aside0.mk hG
  have HR := Aside0.mk hR
  clear hG hR
  have HW0 := Aside0.mk (Below.refl w.heap.size w)
  go_enter Tryd.func50, Tryd.ntmps50
  go_wp2_with (first | ((with_reducible refine gate_dst (N := 1) rfl ?_); refine box_event ?hg (N := 1) ?hd (cs := #[.int .i64 op, .int .i64 D, .int .i64 S, .int .u16 n]) (t := 68) ?hr ?_; (case hd => rfl); (case hg => rfl); (case hr => first | (go_simp; done) | (go_simp; rfl)); intro b hg w1 hbox hb; have HW1 := Aside0.mk (below_step HW0.out hb); have BK1 := Aside0.mk hbox; obtain ⟨⟨x0, x1, x2, x3⟩, ⟨f0, f1, f2, f3⟩⟩ := blk68 hbox; clear hb hbox hg) | (go_at_call 85; (with_reducible refine (HR.out _ (HG.out.below HW1.out)).mono ?_); rintro ex w2 ⟨rfl, hb⟩; have HW2 := Aside0.mk (below_step HW1.out hb); have BK2 := Aside0.mk (blk_below BK1.out hb); clear hb x0 x1 x2 x3 f0 f1 f2 f3; obtain ⟨⟨x0, x1, x2, x3⟩, ⟨f0, f1, f2, f3⟩⟩ := blk68 BK2.out))
  go_ret2
  exact ⟨rfl, HW2.out⟩
theorem shownL_len (a b r q : ByteArray) (k : Nat) : (shownL a b r q k).length ≤ 2 := by
  unfold shownL
  rw [List.length_append]
  have h1 : (if 1 ≤ k then (if (a.toList == ([] : List UInt8)) = true then [] else [r]) else []).length ≤ 1 := by split <;> (try split) <;> simp
  have h2 : (if 2 ≤ k then (if (b.toList == ([] : List UInt8)) = true then [] else [q]) else []).length ≤ 1 := by split <;> (try split) <;> simp
  omega
set_option maxHeartbeats 8000000 in
set_option maxRecDepth 100000 in
theorem Show_ok (hG : G9 w) (hop : op ≤ 9223372036854775807) (hD : D ≤ 9223372036854775807) (hS : S ≤ 9223372036854775807) (hn0 : 0 ≤ n) (hn1 : n ≤ 65535) (hR : ∀ w, G9 w → Calls Tryd.prog 85 #[.agg #[.int .i64 op, .int .i64 D, .int .i64 S, .int .u16 n]] w fun e w' => e = .returned (.int .i64 0) ∧ Below w.heap.size w w')
    (r q j : ByteArray) (hr : strings_Replace.f (argB D) ⟨#[110, 110]⟩ ⟨(Lib.itoa n).toArray⟩ 1 = some r) (hq : strings_Replace.f (argB S) ⟨#[110, 110]⟩ ⟨(Lib.itoa n).toArray⟩ 1 = some q)
    (hj : strings_Join.f (shownL (argB D) (argB S) r q 2) ⟨#[44]⟩ = some j) (hs : (nameB op).size + 1 + j.size ≤ 1000) (ha : ascii (nameB op ++ ⟨#[32]⟩ ++ j) = true) :
    Calls Tryd.prog 50 #[.agg #[.int .i64 op, .int .i64 D, .int .i64 S, .int .u16 n]] w fun e w' => e = .returned (.tuple #[.string ⟨(Lib.trimSpace ((nameB op).data.toList ++ 32 :: j.data.toList)).toArray⟩, .int .i64 0]) ∧ Below w.heap.size w w' := by
  have hu68 := Tryd.underlying68
  have hi0 := idx104_0
  have hi1 := idx104_1
  have HG := Aside0.mk hG
  have HR := Aside0.mk hR
  have HP := Aside0.mk hop
  have HD := Aside0.mk hD
  have HS := Aside0.mk hS
  have HN0 := Aside0.mk hn0
  have HN1 := Aside0.mk hn1
  have Hr := Aside0.mk hr
  have Hq := Aside0.mk hq
  have Hj := Aside0.mk hj
  have Hs := Aside0.mk (show (nameB op ++ ⟨#[32]⟩ ++ j).size ≤ 1000 from by rw [ByteArray.size_append, ByteArray.size_append]; exact hs)
  have Ha := Aside0.mk ha
  have hz1 : ¬ 9223372036854775807 < (nameB op).size + 1 := by omega
  have hz2 : ¬ 9223372036854775807 < (nameB op).size + 1 + j.size := by omega
  have hnw : wrap64 n = n := w64 (by omega) (by omega)
  clear hG hR hop hD hS hn0 hn1 hr hq hj hs ha
  have HW0 := Aside0.mk (Below.refl w.heap.size w)
  go_enter Tryd.func50, Tryd.ntmps50
  go_wp2_with (first | ((with_reducible refine gate_dst (N := 1) rfl ?_); refine box_event ?hg (N := 1) ?hd (cs := #[.int .i64 op, .int .i64 D, .int .i64 S, .int .u16 n]) (t := 68) ?hr ?_; (case hd => rfl); (case hg => rfl); (case hr => first | (go_simp; done) | (go_simp; rfl)); intro b hg w1 hbox hb; have HW1 := Aside0.mk (below_step HW0.out hb); have BK1 := Aside0.mk hbox; obtain ⟨⟨x0, x1, x2, x3⟩, ⟨f0, f1, f2, f3⟩⟩ := blk68 hbox; clear hb hbox hg) | (go_at_call 85; (with_reducible refine (HR.out _ (HG.out.below HW1.out)).mono ?_); rintro ex w2 ⟨rfl, hb⟩; have HW2 := Aside0.mk (below_step HW1.out hb); have BK2 := Aside0.mk (blk_below BK1.out hb); clear hb x0 x1 x2 x3 f0 f1 f2 f3; obtain ⟨⟨x0, x1, x2, x3⟩, ⟨f0, f1, f2, f3⟩⟩ := blk68 BK2.out))
  go_loopw [5, 19] (fun v5 v19 wr => ∃ k : Nat, k ≤ 2 ∧ v19 = .int .i64 k ∧ Aside0 (Below w.heap.size w wr) ∧ Aside0 (wr.heap[b]? = some (.cells #[.int .i64 op, .int .i64 D, .int .i64 S, .int .u16 n] 68 (0, 0))) ∧ Aside0 (Kd.string.R 9 wr w.heap.size (fun k_ => k_ ≠ b) v5 (shownL (argB D) (argB S) r q k))) (fun _ v _ => 2 - (intOf v).toNat)
  case atStart => exact ⟨0, by omega, rfl, HW2, BK2, ⟨Kd.R_nil _ _ _ _ _⟩⟩
  case round =>
    clear x0 x1 x2 x3 f0 f1 f2 f3
    obtain ⟨k, hk, rfl, HB, BK, HO⟩ := hrel
    obtain ⟨⟨x0, x1, x2, x3⟩, ⟨f0, f1, f2, f3⟩⟩ := blk68 BK.out
    obtain rfl | rfl | rfl : k = 0 ∨ k = 1 ∨ k = 2 := by omega
    · cases e0 : ((argB D).toList == ([] : List UInt8)) with
      | true =>
        have HX := Aside0.mk (show shownL (argB D) (argB S) r q 0 = shownL (argB D) (argB S) r q 1 from (by unfold shownL; rw [e0]; simp))
        go_wp2_with (go_at_call 58; (with_reducible refine (Arg_calls D HD.out _ (HG.out.below HB.out)).mono ?_); rintro ex w3 ⟨rfl, hb⟩; have HW3 := Aside0.mk (below_step HB.out hb); have BK3 := Aside0.mk (blk_below BK.out hb); have HO3 := Aside0.mk (Kd.R_below HO.out hb); clear hb x0 x1 x2 x3 f0 f1 f2 f3; obtain ⟨⟨x0, x1, x2, x3⟩, ⟨f0, f1, f2, f3⟩⟩ := blk68 BK3.out)
        exact ⟨⟨1, by omega, rfl, HW3, BK3, by rw [← HX.out]; exact HO3⟩, by decide⟩
      | false =>
        have HX := Aside0.mk (show shownL (argB D) (argB S) r q 0 ++ [r] = shownL (argB D) (argB S) r q 1 from (by unfold shownL; rw [e0]; simp))
        go_wp2_with (first | (go_at_call 58; (with_reducible refine (Arg_calls D HD.out _ (HG.out.below HB.out)).mono ?_); rintro ex w3 ⟨rfl, hb⟩; have HW3 := Aside0.mk (below_step HB.out hb); have BK3 := Aside0.mk (blk_below BK.out hb); have HO3 := Aside0.mk (Kd.R_below HO.out hb); clear hb x0 x1 x2 x3 f0 f1 f2 f3; obtain ⟨⟨x0, x1, x2, x3⟩, ⟨f0, f1, f2, f3⟩⟩ := blk68 BK3.out) | (go_at_call 87; (with_reducible refine (itoa_calls n HN0.out HN1.out _ (HG.out.below HW3.out)).mono ?_); rintro ex w4 ⟨rfl, hb⟩; have HW4 := Aside0.mk (below_step HW3.out hb); have BK4 := Aside0.mk (blk_below BK3.out hb); have HO4 := Aside0.mk (Kd.R_below HO3.out hb); clear hb x0 x1 x2 x3 f0 f1 f2 f3; obtain ⟨⟨x0, x1, x2, x3⟩, ⟨f0, f1, f2, f3⟩⟩ := blk68 BK4.out) | (go_at_call 86; (with_reducible refine (strings_Replace.calls (argB D) ⟨#[110, 110]⟩ ⟨(Lib.itoa n).toArray⟩ 1 r _ (Aside0.mk (HG.out.below HW4.out).g) Hr.out).mono ?_); rintro ex w5 ⟨rfl, hb⟩; have HW5 := Aside0.mk (below_step HW4.out hb); have BK5 := Aside0.mk (blk_below BK4.out hb); have HO5 := Aside0.mk (Kd.R_below HO4.out hb); clear hb x0 x1 x2 x3 f0 f1 f2 f3; obtain ⟨⟨x0, x1, x2, x3⟩, ⟨f0, f1, f2, f3⟩⟩ := blk68 BK5.out) | (at_builtin; refine Kd.R_append Kd.string (w0 := w) w.heap.size rfl _ _ 89 9 (.string ByteArray.empty) 16 rfl Tryd.underlying89 info9 rfl (by decide) (by decide) u5 (shownL (argB D) (argB S) r q 0) r [.string r] (fun k_ => k_ ≠ b) (fun _ => False) rfl rfl rfl (fun _ h => h.elim) (fun k_ hk => (by have := blk_lt BK5.out; omega)) HO5.out HW5.out (below_size HW5.out) (by have := HX.out; rw [show (shownL (argB D) (argB S) r q 0).length + 1 = (shownL (argB D) (argB S) r q 0 ++ [r]).length from (by simp), this]; have := shownL_len (argB D) (argB S) r q 1; omega) ?_; intro v6 w6 ho hb hg hat; have HW6 := Aside0.mk hb; have HO6 := Aside0.mk (HX.out ▸ ho); have BK6 := Aside0.mk (blk_grown BK5.out hg (Kd.R_away HO5.out (fun _ hk => hk))); clear ho hb hg hat x0 x1 x2 x3 f0 f1 f2 f3))
        exact ⟨⟨1, by omega, rfl, HW6, BK6, HO6⟩, by decide⟩
    · cases e1 : ((argB S).toList == ([] : List UInt8)) with
      | true =>
        have HX := Aside0.mk (show shownL (argB D) (argB S) r q 1 = shownL (argB D) (argB S) r q 2 from (by unfold shownL; rw [e1]; simp))
        go_wp2_with (go_at_call 58; (with_reducible refine (Arg_calls S HS.out _ (HG.out.below HB.out)).mono ?_); rintro ex w3 ⟨rfl, hb⟩; have HW3 := Aside0.mk (below_step HB.out hb); have BK3 := Aside0.mk (blk_below BK.out hb); have HO3 := Aside0.mk (Kd.R_below HO.out hb); clear hb x0 x1 x2 x3 f0 f1 f2 f3; obtain ⟨⟨x0, x1, x2, x3⟩, ⟨f0, f1, f2, f3⟩⟩ := blk68 BK3.out)
        exact ⟨⟨2, by omega, rfl, HW3, BK3, by rw [← HX.out]; exact HO3⟩, by decide⟩
      | false =>
        have HX := Aside0.mk (show shownL (argB D) (argB S) r q 1 ++ [q] = shownL (argB D) (argB S) r q 2 from (by unfold shownL; rw [e1]; simp))
        go_wp2_with (first | (go_at_call 58; (with_reducible refine (Arg_calls S HS.out _ (HG.out.below HB.out)).mono ?_); rintro ex w3 ⟨rfl, hb⟩; have HW3 := Aside0.mk (below_step HB.out hb); have BK3 := Aside0.mk (blk_below BK.out hb); have HO3 := Aside0.mk (Kd.R_below HO.out hb); clear hb x0 x1 x2 x3 f0 f1 f2 f3; obtain ⟨⟨x0, x1, x2, x3⟩, ⟨f0, f1, f2, f3⟩⟩ := blk68 BK3.out) | (go_at_call 87; (with_reducible refine (itoa_calls n HN0.out HN1.out _ (HG.out.below HW3.out)).mono ?_); rintro ex w4 ⟨rfl, hb⟩; have HW4 := Aside0.mk (below_step HW3.out hb); have BK4 := Aside0.mk (blk_below BK3.out hb); have HO4 := Aside0.mk (Kd.R_below HO3.out hb); clear hb x0 x1 x2 x3 f0 f1 f2 f3; obtain ⟨⟨x0, x1, x2, x3⟩, ⟨f0, f1, f2, f3⟩⟩ := blk68 BK4.out) | (go_at_call 86; (with_reducible refine (strings_Replace.calls (argB S) ⟨#[110, 110]⟩ ⟨(Lib.itoa n).toArray⟩ 1 q _ (Aside0.mk (HG.out.below HW4.out).g) Hq.out).mono ?_); rintro ex w5 ⟨rfl, hb⟩; have HW5 := Aside0.mk (below_step HW4.out hb); have BK5 := Aside0.mk (blk_below BK4.out hb); have HO5 := Aside0.mk (Kd.R_below HO4.out hb); clear hb x0 x1 x2 x3 f0 f1 f2 f3; obtain ⟨⟨x0, x1, x2, x3⟩, ⟨f0, f1, f2, f3⟩⟩ := blk68 BK5.out) | (at_builtin; refine Kd.R_append Kd.string (w0 := w) w.heap.size rfl _ _ 89 9 (.string ByteArray.empty) 16 rfl Tryd.underlying89 info9 rfl (by decide) (by decide) u5 (shownL (argB D) (argB S) r q 1) q [.string q] (fun k_ => k_ ≠ b) (fun _ => False) rfl rfl rfl (fun _ h => h.elim) (fun k_ hk => (by have := blk_lt BK5.out; omega)) HO5.out HW5.out (below_size HW5.out) (by have := HX.out; rw [show (shownL (argB D) (argB S) r q 1).length + 1 = (shownL (argB D) (argB S) r q 1 ++ [q]).length from (by simp), this]; have := shownL_len (argB D) (argB S) r q 2; omega) ?_; intro v6 w6 ho hb hg hat; have HW6 := Aside0.mk hb; have HO6 := Aside0.mk (HX.out ▸ ho); have BK6 := Aside0.mk (blk_grown BK5.out hg (Kd.R_away HO5.out (fun _ hk => hk))); clear ho hb hg hat x0 x1 x2 x3 f0 f1 f2 f3))
        exact ⟨⟨2, by omega, rfl, HW6, BK6, HO6⟩, by decide⟩
    · obtain ⟨A, c, rfl, hlc, hC⟩ := Kd.R_reads HO.out
      have HC := Aside0.mk hC
      have HL := Aside0.mk hlc
      clear hC hlc
      go_wp2_with (first | (go_at_call 53; (with_reducible refine (Name_calls op HP.out _ (HG.out.below HB.out)).mono ?_); rintro ex w3 ⟨rfl, hb⟩; have HW3 := Aside0.mk (below_step HB.out hb); have HC3 := Aside0.mk (Kd.C_below HC.out hb); clear hb) | (go_at_call 72; (with_reducible refine (strings_Join.calls A c (shownL (argB D) (argB S) r q 2) ⟨#[44]⟩ j _ HC3.out HL.out Hj.out).mono ?_); rintro ex w4 ⟨rfl, hb⟩; have HW4 := Aside0.mk (below_step HW3.out hb); clear hb) | (go_at_call 88; (with_reducible refine (trim_calls _ _ (HG.out.below HW4.out) Hs.out Ha.out).mono ?_); rintro ex w5 ⟨rfl, hb⟩; have HW5 := Aside0.mk (below_step HW4.out hb); clear hb))
      go_ret2
      exact ⟨rfl, HW5.out⟩
end
end Go.Proofs.YtejhagejjogbaaaDoor.Show9
