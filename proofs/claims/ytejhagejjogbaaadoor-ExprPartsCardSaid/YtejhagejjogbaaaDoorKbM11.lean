import Derived.Test.YtejhagejjogbaaaDoorKbM10
section
namespace Go.Proofs.YtejhagejjogbaaaDoor.PsrG
open Go.RowKit Go.Proofs.YtejhagejjogbaaaDoorW.PrintWords Go.Proofs.YtejhagejjogbaaaDoorW.PrintLast Go.Proofs.YtejhagejjogbaaaDoorW.PrintMore Go.Proofs.YtejhagejjogbaaaDoor.Given Go.Proofs.YtejhagejjogbaaaDoor.Pn Go.Proofs.YtejhagejjogbaaaDoor.Pa Go.Proofs.YtejhagejjogbaaaDoor.Qa Go.Proofs.YtejhagejjogbaaaDoor.Par Go.Proofs.YtejhagejjogbaaaDoor.Num Go.Proofs.YtejhagejjogbaaaDoor.PsrA Go.Proofs.YtejhagejjogbaaaDoor.PsrB Go.Proofs.YtejhagejjogbaaaDoor.PsrC Go.Proofs.YtejhagejjogbaaaDoor.PsrD Go.Proofs.YtejhagejjogbaaaDoor.PsrE Go.Proofs.YtejhagejjogbaaaDoor.PsrF
set_option linter.unusedVariables false
set_option linter.unusedSimpArgs false
theorem lit_Rok {W : World} {base : Nat} {ok : Nat → Prop} {xs : List S50} {inner : List Value} (hrep : Reps (k50.M W base ok) 4 xs inner) (hok : ok W.heap.size) (hbase : base ≤ W.heap.size) (hm : xs.length ≤ 1000) :
    RE (W.alloc (.cells inner.toArray 50)) base ok (some ⟨W.heap.size, 0, none⟩) xs.length xs := by
  refine ⟨fun k hk => ?_, inner, ?_, ?_⟩
  · have : W.heap.size = k := by simpa [Value.ownBlock] using hk
    subst this
    exact hok
  · have h2 := World.ownsRow_lit (base := base) (e := 50) (size := 4) W inner.toArray xs.length hbase (by simp [maxLen]; omega) (by simpa using hrep.1)
    have h3 : (W.alloc (.cells inner.toArray 50)).ownsRow base 50 4 (.slice (some ⟨W.heap.size, 0, none⟩) xs.length xs.length) xs.length inner := by simpa using h2
    exact h3
  · refine hrep.imp_ (fun p c hp => k50.M_mono (fun k hk => ⟨hk.1, fun he => ?_⟩) (Kd.M_below (k50.M_bound hp) (below_alloc (Below.refl _ _) _)))
    have h3 : k = W.heap.size := by simpa [Value.ownBlock] using he
    have := hk.2.2.1
    omega
theorem lit2ok {W : World} {base : Nat} {ok : Nat → Prop} {A A' : Option Addr} {c c' : Nat} {e e' : S50} (h : RE W base ok A c e.f3) (h' : RE W base ok A' c' e'.f3) (hok : ok W.heap.size) (hbase : base ≤ W.heap.size) :
    RE (W.alloc (.cells #[.string e.f0, .int .u16 e.f1, .string e.f2, .slice A e.f3.length c, .string e'.f0, .int .u16 e'.f1, .string e'.f2, .slice A' e'.f3.length c'] 50)) base ok (some ⟨W.heap.size, 0, none⟩) 2 [e, e'] :=
  lit_Rok (xs := [e, e']) (inner := [.string e.f0, .int .u16 e.f1, .string e.f2, .slice A e.f3.length c, .string e'.f0, .int .u16 e'.f1, .string e'.f2, .slice A' e'.f3.length c']) (Reps.c4 (k50_mkM W base _ e h) (Reps.c4 (k50_mkM W base _ e' h') (Reps.none _ _))) hok hbase (by simp)
section
variable {P : Program} {ops : Array Oper} {o : Oper} {a : Act} {Q : Exit → Act → World → Prop} {Kc : Act → World → Prop}
theorem lit_step {W : World} (hw : Region.wanted o (yielded ops a.tmps) = true) {N : Tmp} (_hd : o.dst = some N) {cs : Array Value} {n : Nat}
    (hrun : (execOp a.eval o).run P W = .ok (.value (.slice (some ⟨W.heap.size, 0, none⟩) n n)) (W.alloc (.cells cs 50)))
    (h : ∀ g', g' = W.heap.size → ∀ w1, w1 = W.alloc (.cells cs 50) → Kc (a.put o.dst (.slice (some ⟨g', 0, none⟩) n n)) w1) : if Region.wanted o (yielded ops a.tmps) = true then Oper.wp P o a W Kc Q else Kc (a.put o.dst undef) W :=
  event_step hw hrun (h _ rfl _ rfl)
theorem store_step {W w1 : World} (hw : Region.wanted o (yielded ops a.tmps) = true) (hN : o.dst = none) (hrun : (execOp a.eval o).run P W = .ok .skip w1) (h : ∀ w', w' = w1 → Kc a w') :
    if Region.wanted o (yielded ops a.tmps) = true then Oper.wp P o a W Kc Q else Kc (a.put none undef) W := by
  rw [if_pos hw]
  unfold Oper.wp
  rw [hrun]
  show Kc (a.put o.dst undef) w1
  rw [hN]
  exact h _ rfl
end
theorem op_some {l : List S41} {r : Int} {s : ByteArray} (h : opP l r = some s) : ∃ t l', l = t :: l' := by
  cases l with
  | nil =>
    unfold opP at h
    split at h
    · cases h
    · split at h
      · cases h
      · split at h
        · cases h
        · cases h
  | cons t l' => exact ⟨t, l', rfl⟩
structure LI (w0 w w' : World) (g b d : Nat) (A : Option Addr) (c : Nat) (e : S50) (s : PS) : Prop where
  kb : w'.heap[b]? = some (.cells #[.string (⟨#[]⟩ : ByteArray), .int .u16 0, .string (⟨#[]⟩ : ByteArray), .slice none 0 0] 50 (0, 0))
  kd : w'.heap[d]? = some (.cells #[.string e.f0, .int .u16 e.f1, .string e.f2, .slice A e.f3.length c] 50 (0, 0))
  re : RE w' w.heap.size (fun k => k ≠ d ∧ k ≠ b ∧ k ≠ g) A c e.f3
  st : St w0 w' g s.l s.k s.o
  kp : KeepBut w w' g none
section
variable {w0 w w' W : World} {g b d : Nat} {A : Option Addr} {c : Nat} {e : S50} {s : PS}
theorem LI.below (h : LI w0 w w' g b d A c e s) (hb : Below w'.heap.size w' W) : LI w0 w W g b d A c e s :=
  ⟨blk_below h.kb hb, blk_below h.kd hb, Kd.R_below h.re hb, h.st.below hb, h.kp.trans (KeepBut.of_below hb g none) (.inl rfl)⟩
theorem LI.keep {t : PS} (h : LI w0 w w' g b d A c e s) (hk : KeepBut w' W g none) (hs : St w0 W g t.l t.k t.o) (n1 : b ≠ g) (n2 : d ≠ g) : LI w0 w W g b d A c e t :=
  ⟨hk.blk h.kb n1 (by simp), hk.blk h.kd n2 (by simp), Kd.R_keep h.re hk (fun _ h => h.2.2), hs, h.kp.trans hk (.inl rfl)⟩
end
theorem RE_put {W : World} {base b : Nat} {ok : Nat → Prop} {A : Option Addr} {c : Nat} {xs : List S50} {x0 x1 x2 x3 : Value} (h : RE W base ok A c xs) (hb : ∀ k, ok k → k ≠ b) : RE (put50 W b x0 x1 x2 x3) base ok A c xs := by
  refine Kd.R_far (p := ⟨b, 3, none⟩) ?_ hb _
  refine Kd.R_far (p := ⟨b, 2, none⟩) ?_ hb _
  refine Kd.R_far (p := ⟨b, 1, none⟩) ?_ hb _
  exact Kd.R_far (p := ⟨b, 0, none⟩) h hb _
set_option maxHeartbeats 32000000 in
set_option maxRecDepth 100000 in
theorem binary_calls (n : Nat) (IU : UnaryAt n) (IB : ∀ m, m ≤ n → BinAt m) : BinAt (n + 1) := by
  intro r s e t w0 w g h hS
  obtain ⟨l, k, o⟩ := s
  rw [binP] at h
  have hu50 := Tryd.underlying50
  have HS := Aside0.mk hS
  have IU' := Aside0.mk IU
  have IB' := Aside0.mk IB
  have hglt := hS.lt
  have hw0 := hS.base.size
  clear hS IB IU
  simp only at h HS
  by_cases hr : r = 3 ∨ r = 6
  · rw [if_pos hr] at h
    have HB := Aside0.mk h
    clear h
    by_cases hr3 : r = 3
    · have hb3 : (r == 3) = true := beq_iff_eq.mpr hr3
      clear hr hr3
      go_enter Tryd.func125, Tryd.ntmps125
      go_wp2_with (first
        | ((with_reducible refine gate_dst (N := 4) rfl ?_); refine box_event ?hg (N := 4) ?hd (cs := #[.string (⟨#[]⟩ : ByteArray), .int .u16 0, .string (⟨#[]⟩ : ByteArray), .slice none 0 0]) (t := 50) ?hr ?_; (case hd => rfl); (case hg => rfl); (case hr => first | (go_simp; done) | (go_simp; rfl)); intro b hg w1 hbox hb; have HWb := Aside0.mk hb; have BKb := Aside0.mk hbox; have HEb := Aside0.mk hg; obtain ⟨⟨x0, x1, x2, x3⟩, ⟨f0, f1, f2, f3⟩⟩ := blk50 hbox; have HS1 := Aside0.mk (HS.out.below hb); have n1 : g ≠ b := (by omega); have n2 : b ≠ g := (by omega); clear hb hbox hg)
        | (go_at_call 152; refine (IU'.out r ⟨l, k, o⟩ _ _ w0 _ g HB.out HS1.out).mono ?_; rintro e' w4 ⟨A2, c2, rfl, hR, hS4, hK4⟩; have BK4 := Aside0.mk (hK4.blk BKb.out n2 (by simp)); have HS4 := Aside0.mk hS4; have HK4 := Aside0.mk hK4; have HR4 := Aside0.mk hR; obtain ⟨⟨z0, z1, z2, z3⟩, ⟨p0, p1, p2, p3⟩⟩ := blk50 BK4.out; clear hS4 hK4 hR))
      refine bodyPost_ret (results_cell_row rfl _ _ b 50 #[.string e.f0, .int .u16 e.f1, .string e.f2, .slice A2 e.f3.length c2] (0, 0) _ rfl ?hblk Tryd.underlying50 rfl (by kernel_rfl)) rfl ?_
      case hblk => exact put50_blk BK4.out
      exact post_new (e := e) (t := t) (base := w1.heap.size) HS4.out
        ((KeepBut.of_below HWb.out g none).trans HK4.out (.inl rfl)) n1 (by have := HEb.out; omega) hw0
        HR4.out (blk_lt BKb.out)
    · have hr6 : r = 6 := hr.resolve_left hr3
      have hb3 : (r == 3) = false := beq_eq_false_iff_ne.mpr hr3
      have hb6 : (r == 6) = true := beq_iff_eq.mpr hr6
      clear hr hr3 hr6
      go_enter Tryd.func125, Tryd.ntmps125
      go_wp2_with (first
        | ((with_reducible refine gate_dst (N := 4) rfl ?_); refine box_event ?hg (N := 4) ?hd (cs := #[.string (⟨#[]⟩ : ByteArray), .int .u16 0, .string (⟨#[]⟩ : ByteArray), .slice none 0 0]) (t := 50) ?hr ?_; (case hd => rfl); (case hg => rfl); (case hr => first | (go_simp; done) | (go_simp; rfl)); intro b hg w1 hbox hb; have HWb := Aside0.mk hb; have BKb := Aside0.mk hbox; have HEb := Aside0.mk hg; obtain ⟨⟨x0, x1, x2, x3⟩, ⟨f0, f1, f2, f3⟩⟩ := blk50 hbox; have HS1 := Aside0.mk (HS.out.below hb); have n1 : g ≠ b := (by omega); have n2 : b ≠ g := (by omega); clear hb hbox hg)
        | (go_at_call 152; refine (IU'.out r ⟨l, k, o⟩ _ _ w0 _ g HB.out HS1.out).mono ?_; rintro e' w4 ⟨A2, c2, rfl, hR, hS4, hK4⟩; have BK4 := Aside0.mk (hK4.blk BKb.out n2 (by simp)); have HS4 := Aside0.mk hS4; have HK4 := Aside0.mk hK4; have HR4 := Aside0.mk hR; obtain ⟨⟨z0, z1, z2, z3⟩, ⟨p0, p1, p2, p3⟩⟩ := blk50 BK4.out; clear hS4 hK4 hR))
      refine bodyPost_ret (results_cell_row rfl _ _ b 50 #[.string e.f0, .int .u16 e.f1, .string e.f2, .slice A2 e.f3.length c2] (0, 0) _ rfl ?hblk Tryd.underlying50 rfl (by kernel_rfl)) rfl ?_
      case hblk => exact put50_blk BK4.out
      exact post_new (e := e) (t := t) (base := w1.heap.size) HS4.out
        ((KeepBut.of_below HWb.out g none).trans HK4.out (.inl rfl)) n1 (by have := HEb.out; omega) hw0
        HR4.out (blk_lt BKb.out)
  · rw [if_neg hr] at h
    have hb3 : (r == 3) = false := beq_eq_false_iff_ne.mpr (fun e => hr (Or.inl e))
    have hb6 : (r == 6) = false := beq_eq_false_iff_ne.mpr (fun e => hr (Or.inr e))
    cases hb : binP n (wrap64 (r + 1)) ⟨l, k, o⟩ with
    | none => rw [hb] at h; cases h
    | some y =>
      obtain ⟨e1, t1⟩ := y
      rw [hb] at h
      simp only at h
      have HB := Aside0.mk hb
      have HL := Aside0.mk h
      clear h hb hr
      go_enter Tryd.func125, Tryd.ntmps125
      go_wp2_with (first
        | ((with_reducible refine gate_dst (N := 4) rfl ?_); refine box_event ?hg (N := 4) ?hd (cs := #[.string (⟨#[]⟩ : ByteArray), .int .u16 0, .string (⟨#[]⟩ : ByteArray), .slice none 0 0]) (t := 50) ?hr ?_; (case hd => rfl); (case hg => rfl); (case hr => first | (go_simp; done) | (go_simp; rfl)); intro b hg w1 hbox hb; have HWb := Aside0.mk hb; have BKb := Aside0.mk hbox; have HEb := Aside0.mk hg; obtain ⟨⟨x0, x1, x2, x3⟩, ⟨f0, f1, f2, f3⟩⟩ := blk50 hbox; have HS1 := Aside0.mk (HS.out.below hb); have n1 : g ≠ b := (by omega); have n2 : b ≠ g := (by omega); clear hb hbox hg)
        | (go_at_call 125; refine (IB'.out n (Nat.le_refl _) (wrap64 (r + 1)) ⟨l, k, o⟩ _ _ w0 _ g HB.out HS1.out).mono ?_; rintro e' w2 ⟨A2, c2, rfl, hR, hS2, hK2⟩; have BK2 := Aside0.mk (hK2.blk BKb.out n2 (by simp)); have HS2 := Aside0.mk hS2; have HK2 := Aside0.mk hK2; have HR2 := Aside0.mk hR; have hlt2 := blk_lt BK2.out; have hglt2 := hS2.lt; clear hS2 hK2 hR)
        | ((with_reducible refine gate_dst (N := 5) rfl ?_); refine box_event ?hg (N := 5) ?hd (cs := #[.string (⟨#[]⟩ : ByteArray), .int .u16 0, .string (⟨#[]⟩ : ByteArray), .slice none 0 0]) (t := 50) ?hr ?_; (case hd => rfl); (case hg => rfl); (case hr => first | (go_simp; done) | (go_simp; rfl)); intro d hg w3 hbox hb; have HWd := Aside0.mk hb; have BKd := Aside0.mk hbox; have HEd := Aside0.mk hg; obtain ⟨⟨x0, x1, x2, x3⟩, ⟨f0, f1, f2, f3⟩⟩ := blk50 hbox; have n3 : g ≠ d := (by omega); have n4 : d ≠ g := (by omega); have n5 : b ≠ d := (by omega); have n6 : d ≠ b := (by omega); obtain ⟨Az, cz, zl, zk, zo, gl, gk, go⟩ := St_cells (HS2.out.below hb); clear hb hbox hg))
      have hbw1 := blk_lt BKb.out
      have LI0 := Aside0.mk (show LI w0 w (put50 w3 d (.string e1.f0) (.int .u16 e1.f1) (.string e1.f2) (.slice A2 e1.f3.length c2)) g b d A2 c2 e1 t1 from by
        have hB3 := below_put (b := d) (x0 := .string e1.f0) (x1 := .int .u16 e1.f1) (x2 := .string e1.f2) (x3 := .slice A2 e1.f3.length c2) HWd.out (by have := HEd.out; omega)
        refine ⟨blk_below BK2.out hB3, put50_blk BKd.out, ?_, HS2.out.below hB3, ((KeepBut.of_below HWb.out g none).trans HK2.out (.inl rfl)).trans (KeepBut.of_below hB3 g none) (.inl rfl)⟩
        refine Kd.R_lower (Kd.R_below (Kd.R_mono (Kd.R_bound HR2.out) (fun k hk => ?_)) hB3) (by have := HEb.out; omega)
        have h1 := hk.2.1
        have h2 := hk.2.2.1
        have h3 := HEd.out
        have h4 := HEb.out
        exact ⟨by omega, by omega, by omega⟩)
      clear x0 x1 x2 x3 f0 f1 f2 f3
      go_loopg [6, 7] n (fun kq v6 v7 w' => ∃ (e2 : S50) (A3 : Option Addr) (c3 : Nat) (s2 : PS), Aside0 (loopP kq r e2 s2 = some (e, t)) ∧ Aside0 (kq ≤ n) ∧ Aside0 (LI w0 w w' g b d A3 c3 e2 s2))
      case atStart => exact ⟨e1, A2, c2, t1, HL, ⟨Nat.le_refl _⟩, LI0⟩
      case round =>
        obtain ⟨e2, A3, c3, s2, HA, HQ, LI1⟩ := hrel
        obtain ⟨l2, k2, o2⟩ := s2
        clear LI0 HL HB
        obtain ⟨Ay, cy, yl, yk, yo, hl, hk', ho⟩ := St_cells LI1.out.st
        simp only at yl yk yo
        cases gk with
        | zero => exact absurd HA.out (by simp [loopP])
        | succ k1 =>
          have h := HA.out
          clear HA
          rw [loopP] at h
          simp only at h
          by_cases hk0 : k2 = 0
          · rw [if_pos hk0] at h
            have hkb : (k2 == 0) = true := beq_iff_eq.mpr hk0
            cases ho2 : opP l2 r with
            | none =>
              rw [ho2] at h
              obtain ⟨rfl, rfl⟩ := Prod.mk.inj (Option.some.inj h)
              have HO := Aside0.mk ho2
              clear h ho2 hk0
              go_wp2_with (go_at_call 153; refine (operator_calls LI1.out.st r).mono ?_; rintro e' w2 ⟨rfl, hb2⟩; rw [HO.out]; have LI2 := Aside0.mk (LI1.out.below hb2); obtain ⟨⟨x0, x1, x2, x3⟩, ⟨f0, f1, f2, f3⟩⟩ := blk50 LI2.out.kb; obtain ⟨⟨u0, u1, u2, u3⟩, ⟨v0, v1, v2, v3⟩⟩ := blk50 LI2.out.kd; clear hb2)
              exact bodyPost_ret (results_cell_row rfl _ _ b 50 #[.string e2.f0, .int .u16 e2.f1, .string e2.f2, .slice A3 e2.f3.length c3] (0, 0) _ rfl (put50_blk LI2.out.kb) Tryd.underlying50 rfl (by kernel_rfl)) rfl (post_put (e := e2) (base := w.heap.size) LI2.out.st LI2.out.kp n1 (by have := HEb.out; omega) hw0 (Kd.R_mono LI2.out.re (fun _ h => h.2.1)) (Nat.le_refl _))
            | some op =>
              obtain ⟨t0, l', rfl⟩ := op_some ho2
              rw [ho2] at h
              simp only [List.drop_one, List.tail_cons] at h
              cases hb : binP k1 (wrap64 (r + 1)) ⟨l', k2, o2⟩ with
              | none => rw [hb] at h; cases h
              | some y =>
                obtain ⟨e3, t3⟩ := y
                rw [hb] at h
                simp only at h
                have HA' := Aside0.mk h
                have HB := Aside0.mk hb
                have HO := Aside0.mk ho2
                clear h hb ho2 hk0
                go_wp2_with (first | (go_at_call 153; refine (operator_calls LI1.out.st r).mono ?_; rintro e' w2 ⟨rfl, hb2⟩; rw [HO.out]; have LI2 := Aside0.mk (LI1.out.below hb2); obtain ⟨⟨x0, x1, x2, x3⟩, ⟨f0, f1, f2, f3⟩⟩ := blk50 LI2.out.kb; obtain ⟨⟨u0, u1, u2, u3⟩, ⟨v0, v1, v2, v3⟩⟩ := blk50 LI2.out.kd; clear hb2) | (go_at_call 154; refine (skip_calls LI2.out.st).mono ?_; rintro e' w3 ⟨rfl, hS3, hK3⟩; have LI3 := Aside0.mk (LI.keep (t := ⟨l', k2, o2⟩) LI2.out hK3 hS3 n2 n4); clear hS3 hK3 x0 x1 x2 x3 f0 f1 f2 f3 u0 u1 u2 u3 v0 v1 v2 v3))
                have LI4 := Aside0.mk (show LI w0 w w3.drew g b d A3 c3 e2 ⟨l', k2, o2⟩ from LI3.out.below (below_drew1 (Below.refl _ _)))
                refine start_ (n := 9) (S := fun w' => w'.cell? ⟨d, 0, none⟩ = some (.string e2.f0) ∧ w'.cell? ⟨d, 1, none⟩ = some (.int .u16 e2.f1) ∧ w'.cell? ⟨d, 2, none⟩ = some (.string e2.f2) ∧ w'.cell? ⟨d, 3, none⟩ = some (.slice A3 e2.f3.length c3)) (ds := [8]) #[false, false, false, false, false, false, false, false, false] (by kernel_rfl) rfl rfl (blk50 LI4.out.kd).1 (fun hHeld => ?_)
                clear LI1 LI2 LI3
                generalize w3.drew = w4 at LI4 hHeld ⊢
                refine pure_ (i := 0) (N := some 38) (v := ?_) (a' := ?_) #[true, false, false, false, false, false, false, false, false] rfl rfl (by kernel_rfl) (fun _ _ _ h => h) (Or.inl ⟨by rfl, ?_⟩) ?_ ?_
                rotate_left
                · intro w'
                  go_simp
                  with_reducible rfl
                rotate_left
                · simp only [Act.put, List.setIfInBounds_toArray, List.set_cons_zero, List.set_cons_succ, i64_w, i32_w]
                  rfl
                refine pure_ (i := 2) (N := some 40) (v := ?_) (a' := ?_) #[true, false, true, false, false, false, false, false, false] rfl rfl (by kernel_rfl) (fun _ _ _ h => h) (Or.inl ⟨by rfl, ?_⟩) ?_ ?_
                rotate_left
                · intro w'
                  go_simp
                  with_reducible rfl
                rotate_left
                · simp only [Act.put, List.setIfInBounds_toArray, List.set_cons_zero, List.set_cons_succ, i64_w, i32_w]
                  rfl
                refine pure_ (i := 3) (N := some 41) (v := ?_) (a' := ?_) #[true, false, true, true, false, false, false, false, false] rfl rfl (by kernel_rfl) (fun _ _ _ h => h) (Or.inl ⟨by rfl, ?_⟩) ?_ ?_
                rotate_left
                · intro w'
                  go_simp
                  with_reducible rfl
                rotate_left
                · simp only [Act.put, List.setIfInBounds_toArray, List.set_cons_zero, List.set_cons_succ, i64_w, i32_w]
                  rfl
                refine pure_ (i := 4) (N := some 42) (v := ?_) (a' := ?_) #[true, false, true, true, true, false, false, false, false] rfl rfl (by kernel_rfl) (fun _ _ _ h => h) (Or.inl ⟨by rfl, ?_⟩) ?_ ?_
                rotate_left
                · intro w'
                  go_simp
                  with_reducible rfl
                rotate_left
                · simp only [Act.put, List.setIfInBounds_toArray, List.set_cons_zero, List.set_cons_succ, i64_w, i32_w]
                  rfl
                refine take_ (i := 1) (N := some 39) (v := ?_) (a' := ?_) #[true, true, true, true, true, false, false, false, false] rfl rfl (by kernel_rfl) (fun _ _ _ h => h) (Or.inl ⟨by rfl, ?_⟩) hHeld ?_ ?_
                rotate_left
                · rintro w' ⟨s0, s1, s2, s3⟩
                  go_simp
                  with_reducible rfl
                rotate_left
                · simp only [Act.put, List.setIfInBounds_toArray, List.set_cons_zero, List.set_cons_succ, i64_w, i32_w]
                  rfl
                refine one_ (i := 5) (N := some 43) #[true, true, true, true, true, true, false, false, false] rfl rfl (by kernel_rfl) (by decide) (fun K hK => ?_)
                refine goes_ Tryd.func125 (by kernel_rfl) rfl #[.pointer (some ⟨g, 0, none⟩), .int .i64 (wrap64 (r + 1))] (by rfl) rfl rfl (by (try simp only [List.map_toArray, List.map_cons, List.map_nil]); first | done | rfl) ?_
                refine (IB'.out k1 (by have := HQ.out; omega) (wrap64 (r + 1)) ⟨l', k2, o2⟩ _ _ w0 _ g HB.out LI4.out.st).mono ?_
                rintro e' w5 ⟨A5, c5, rfl, hR, hS5, hK5⟩
                refine ⟨_, rfl, ?_⟩
                have LI5 := Aside0.mk (LI.keep (t := t3) LI4.out hK5 hS5 n2 n4)
                have HR5 := Aside0.mk (Kd.R_mono (Kd.R_bound hR) (ok' := fun k => k ≠ d ∧ k ≠ b ∧ k ≠ g) (fun k hk => by
                  have h1 := hk.2.1
                  have h2 := blk_lt LI4.out.kd
                  have h3 := blk_lt LI4.out.kb
                  have h4 := LI4.out.st.lt
                  exact ⟨by omega, by omega, by omega⟩))
                have HZ5 := Aside0.mk hK5.1
                clear hR hS5 hK5
                refine hK.out _ _ (blk50 LI5.out.kd).1 (fun hHeld => ?_)
                clear hK K
                refine norm_ (a' := ?_) ?_ ?_
                rotate_left
                · show Act.put _ (some 43) _ = _
                  simp only [Act.put, List.setIfInBounds_toArray, List.set_cons_zero, List.set_cons_succ, i64_w, i32_w]
                  rfl
                refine one_ (i := 6) (N := some 44) #[true, true, true, true, true, true, true, false, false] rfl rfl (by kernel_rfl) (by decide) (fun K hK => ?_)
                refine lit_step ?hw (N := 44) ?hd (cs := #[.string e2.f0, .int .u16 e2.f1, .string e2.f2, .slice A3 e2.f3.length c3, .string e3.f0, .int .u16 e3.f1, .string e3.f2, .slice A5 e3.f3.length c5]) (n := 2) ?hr ?_
                case hw => rfl
                case hd => rfl
                case hr => first | (go_simp; done) | (go_simp; rfl)
                intro q hq w6 hw6
                have hb6' : Below w5.heap.size w5 w6 := by rw [hw6]; exact below_alloc (Below.refl _ _) _
                have hsz : w.heap.size ≤ w5.heap.size := LI5.out.kp.1
                have h45 := HZ5.out
                have HR6 := Aside0.mk (show RE w6 w.heap.size (fun k => k ≠ d ∧ k ≠ b ∧ k ≠ g) (some ⟨q, 0, none⟩) 2 [e2, e3] from by
                  rw [hw6, hq]
                  have h2 := blk_lt LI5.out.kd
                  have h3 := blk_lt LI5.out.kb
                  have h4 := LI5.out.st.lt
                  exact lit2ok LI5.out.re (Kd.R_lower HR5.out LI4.out.kp.1) ⟨by omega, by omega, by omega⟩ hsz)
                have LI6 := Aside0.mk (LI5.out.below hb6')
                clear hb6' hw6 hq LI4 LI5 HR5 HZ5 h45
                refine hK.out _ _ (blk50 LI6.out.kd).1 (fun hHeld => ?_)
                clear hK K
                refine norm_ (a' := ?_) ?_ ?_
                rotate_left
                · show Act.put _ (some 44) _ = _
                  simp only [Act.put, List.setIfInBounds_toArray, List.set_cons_zero, List.set_cons_succ, i64_w, i32_w]
                  rfl
                refine pure_ (i := 7) (N := some 45) (v := ?_) (a' := ?_) #[true, true, true, true, true, true, true, true, false] rfl rfl (by kernel_rfl) (fun _ _ _ h => h) (Or.inl ⟨by rfl, ?_⟩) ?_ ?_
                rotate_left
                · intro w'
                  go_simp
                  with_reducible rfl
                rotate_left
                · simp only [Act.put, List.setIfInBounds_toArray, List.set_cons_zero, List.set_cons_succ, i64_w, i32_w]
                  rfl
                refine last_ (i := 8) (N := none) #[true, true, true, true, true, true, true, true, true] rfl rfl (by kernel_rfl) (by decide) (fun K hK => ?_)
                obtain ⟨⟨u0, u1, u2, u3⟩, ⟨v0, v1, v2, v3⟩⟩ := blk50 LI6.out.kd
                refine store_step ?hw ?hd (w1 := put50 w6 d (.string op) (.int .u16 0) (.string ⟨#[]⟩) (.slice (some ⟨q, 0, none⟩) 2 2)) ?hr ?_
                case hw => rfl
                case hd => rfl
                case hr => first | (go_simp; done) | (go_simp; rfl)
                intro w7 hw7
                have LI7 := Aside0.mk (show LI w0 w w7 g b d (some ⟨q, 0, none⟩) 2 ⟨op, 0, ⟨#[]⟩, [e2, e3]⟩ t3 from by
                  rw [hw7]
                  refine ⟨put50_far LI6.out.kb n5, put50_blk LI6.out.kd, ?_, put50_St LI6.out.st n3 (by have := HEd.out; have := HS2.out.base.size; omega), put50_keep LI6.out.kp (by have := HEd.out; have := HEb.out; omega)⟩
                  exact RE_put HR6.out (fun _ h => h.1))
                clear hw7 u0 u1 u2 u3 v0 v1 v2 v3
                refine hK.out _ _ ?_
                clear hK K
                refine done_ (by kernel_rfl) ?_
                (try go_wp2)
                go_roundg k1
                case measure => omega
                case rel => exact ⟨⟨op, 0, ⟨#[]⟩, [e2, e3]⟩, _, _, t3, HA', ⟨by have := HQ.out; omega⟩, LI7⟩
          · rw [if_neg hk0] at h
            obtain ⟨rfl, rfl⟩ := Prod.mk.inj (Option.some.inj h)
            have hkb : (k2 == 0) = false := beq_eq_false_iff_ne.mpr hk0
            clear h hk0
            have LI2 := LI1
            obtain ⟨⟨x0, x1, x2, x3⟩, ⟨f0, f1, f2, f3⟩⟩ := blk50 LI2.out.kb
            obtain ⟨⟨u0, u1, u2, u3⟩, ⟨v0, v1, v2, v3⟩⟩ := blk50 LI2.out.kd
            go_wp2
            exact bodyPost_ret (results_cell_row rfl _ _ b 50 #[.string e2.f0, .int .u16 e2.f1, .string e2.f2, .slice A3 e2.f3.length c3] (0, 0) _ rfl (put50_blk LI2.out.kb) Tryd.underlying50 rfl (by kernel_rfl)) rfl (post_put (e := e2) (base := w.heap.size) LI2.out.st LI2.out.kp n1 (by have := HEb.out; omega) hw0 (Kd.R_mono LI2.out.re (fun _ h => h.2.1)) (Nat.le_refl _))
end Go.Proofs.YtejhagejjogbaaaDoor.PsrG
end
section
namespace Go.Proofs.YtejhagejjogbaaaDoor.EvA
open Go.RowKit Go.Proofs.YtejhagejjogbaaaDoorW.PrintWords Go.Proofs.YtejhagejjogbaaaDoorW.PrintLast Go.Proofs.YtejhagejjogbaaaDoorW.PrintMore
set_option linter.unusedVariables false
set_option linter.unusedSimpArgs false
section
variable {P : Program} {ops : Array Oper} {Q : Exit → Act → World → Prop}
theorem enterF {oi : Oper} {a : Act} {w : World} {f : FuncId} {fn : Func} {xs : Array Operand} {ts : Array TypeId} {p : Operand} {caps : Array Value} (hf : P.funcs[f]? = some fn) (hname : (fn.name == "runtime.NumGoroutine") = false) (hb : fn.body.isSome = true) (args : Array Value)
    (hop : oi.op = .call { callee := .value p, args := xs, argTypes := ts }) (hv : a.eval p = .func (.func f) #[] caps) (hargs : xs.map a.eval = args) : (execOp a.eval oi).run P w = .ok (.enter f (args ++ caps)) w := by
  have he := enters_ hf hname hb (args ++ caps) w
  unfold execOp
  simp [hop, resolve, Deferred.ofValue, invoke, hv, hargs, he]
end
end Go.Proofs.YtejhagejjogbaaaDoor.EvA
end
section
namespace Go.Proofs.YtejhagejjogbaaaDoor.PsrH
open Go.RowKit Go.Proofs.YtejhagejjogbaaaDoorW.PrintWords Go.Proofs.YtejhagejjogbaaaDoorW.PrintLast Go.Proofs.YtejhagejjogbaaaDoorW.PrintMore Go.Proofs.YtejhagejjogbaaaDoor.Given Go.Proofs.YtejhagejjogbaaaDoor.Pn Go.Proofs.YtejhagejjogbaaaDoor.Pa Go.Proofs.YtejhagejjogbaaaDoor.Qa Go.Proofs.YtejhagejjogbaaaDoor.Par Go.Proofs.YtejhagejjogbaaaDoor.Num Go.Proofs.YtejhagejjogbaaaDoor.AnyNot Go.Proofs.YtejhagejjogbaaaDoor.PsrA Go.Proofs.YtejhagejjogbaaaDoor.PsrB Go.Proofs.YtejhagejjogbaaaDoor.PsrC Go.Proofs.YtejhagejjogbaaaDoor.PsrD Go.Proofs.YtejhagejjogbaaaDoor.PsrE Go.Proofs.YtejhagejjogbaaaDoor.PsrF Go.Proofs.YtejhagejjogbaaaDoor.PsrG
set_option linter.unusedVariables false
set_option linter.unusedSimpArgs false
structure AI (w0 w w' : World) (g b q : Nat) (t : S41) (s : PS) : Prop where
  kb : w'.heap[b]? = some (.cells #[.string (⟨#[]⟩ : ByteArray), .int .u16 0, .string (⟨#[]⟩ : ByteArray), .slice none 0 0] 50 (0, 0))
  kq : w'.heap[q]? = some (.cells #[.int .i64 t.f0, .string t.f1, .int .u16 t.f2] 41 (0, 0))
  st : St w0 w' g s.l s.k s.o
  kp : KeepBut w w' g none
section
variable {w0 w w' W : World} {g b q : Nat} {t : S41} {s : PS}
theorem AI.below (h : AI w0 w w' g b q t s) (hb : Below w'.heap.size w' W) : AI w0 w W g b q t s :=
  ⟨blk_below h.kb hb, blk_below h.kq hb, h.st.below hb, h.kp.trans (KeepBut.of_below hb g none) (.inl rfl)⟩
theorem AI.keep {u : PS} (h : AI w0 w w' g b q t s) (hk : KeepBut w' W g none) (hs : St w0 W g u.l u.k u.o) (n1 : b ≠ g) (n2 : q ≠ g) : AI w0 w W g b q t u :=
  ⟨hk.blk h.kb n1 (by simp), hk.blk h.kq n2 (by simp), hs, h.kp.trans hk (.inl rfl)⟩
theorem blk41 {a0 a1 a2 : Value} (h : W.heap[b]? = some (.cells #[a0, a1, a2] 41 (0, 0))) :
    (W.cell? ⟨b, 0, none⟩ = some a0 ∧ W.cell? ⟨b, 1, none⟩ = some a1 ∧ W.cell? ⟨b, 2, none⟩ = some a2) ∧ (W.frozen? ⟨b, 0, none⟩ = false ∧ W.frozen? ⟨b, 1, none⟩ = false ∧ W.frozen? ⟨b, 2, none⟩ = false) :=
  ⟨⟨(blk_cell h 0).trans rfl, (blk_cell h 1).trans rfl, (blk_cell h 2).trans rfl⟩, ⟨blk_frozen h 0, blk_frozen h 1, blk_frozen h 2⟩⟩
abbrev put41 (W : World) (b : Nat) (x0 x1 x2 : Value) : World := ((W.setCell ⟨b, 0, none⟩ x0).setCell ⟨b, 1, none⟩ x1).setCell ⟨b, 2, none⟩ x2
theorem put41_blk {z0 z1 z2 x0 x1 x2 : Value} (h : W.heap[b]? = some (.cells #[z0, z1, z2] 41 (0, 0))) : (put41 W b x0 x1 x2).heap[b]? = some (.cells #[x0, x1, x2] 41 (0, 0)) := by
  refine blk_put (cs := #[x0, x1, z2]) ?_ 2 _ rfl
  refine blk_put (cs := #[x0, z1, z2]) ?_ 1 _ rfl
  exact blk_put (cs := #[z0, z1, z2]) h 0 _ rfl
theorem below_put41 {W1 : World} {x0 x1 x2 : Value} (h : Below W.heap.size W W1) (hb : W.heap.size ≤ b) : Below W.heap.size W (put41 W1 b x0 x1 x2) :=
  below_set (below_set (below_set h hb) hb) hb
theorem post_leaf {e : S50} {u : PS} (hS : St w0 W g u.l u.k u.o) (hK : KeepBut w W g none) (hne : g ≠ b) (hwb : w.heap.size ≤ b) (hw0 : w0.heap.size ≤ w.heap.size) (he : e.f3 = []) :
    Post w0 w g e u (.returned (.agg #[.string e.f0, .int .u16 e.f1, .string e.f2, .slice none 0 0])) (put50 W b (.string e.f0) (.int .u16 e.f1) (.string e.f2) (.slice none 0 0)) := by
  have := post_put (e := e) (t := u) (base := w.heap.size) (A := none) (c := 0) hS hK hne hwb hw0 (by rw [he]; exact re_nil _ _ _) (Nat.le_refl _)
  unfold agg50 at this
  rw [he] at this
  exact this
end
theorem word_calls (a : ByteArray) (w : World) : Calls Tryd.prog 144 #[.string a] w fun e w' => e = .returned (.bool (wordL a.data.toList)) ∧ Drawn0 w w' := expr_word.calls a _ w (Right.word_at a)
theorem value_calls (a : ByteArray) (w : World) : Calls Tryd.prog 24 #[.string a] w fun e w' => e = .returned (.tuple #[.int .u16 (valP a).1, .int .i64 (valP a).2]) ∧ Below w.heap.size w w' := by
  refine number_Value.calls a _ _ w ?_
  unfold number_Value.f valP
  split <;> rfl
theorem streq {a : ByteArray} {l : List UInt8} (h : a.data.toList = l) : (a.toList == l) = true ∧ (a.toList != l) = false := by
  have : a.toList = l := (Lib.toList_data a).trans h
  exact ⟨beq_iff_eq.mpr this, bne_eq_false_iff_eq.mpr this⟩
theorem strne {a : ByteArray} {l : List UInt8} (h : ¬ a.data.toList = l) : (a.toList == l) = false ∧ (a.toList != l) = true := by
  have : ¬ a.toList = l := fun e => h ((Lib.toList_data a).symm.trans e)
  exact ⟨beq_eq_false_iff_ne.mpr this, bne_iff_ne.mpr this⟩
set_option maxHeartbeats 32000000 in
set_option maxRecDepth 100000 in
theorem atom_calls (n : Nat) (IW : WithinAt n) : AtomAt (n + 1) := by
  intro s e u w0 w g h hS
  obtain ⟨l, k, o⟩ := s
  rw [atomP] at h
  have hu50 := Tryd.underlying50
  have hu41 := Tryd.underlying41
  have HS := Aside0.mk hS
  have IW' := Aside0.mk IW
  have hglt := hS.lt
  have hw0 := hS.base.size
  clear hS IW
  simp only at h HS
  cases l with
  | nil =>
    simp only at h
    obtain ⟨he, ht⟩ := Prod.mk.inj (Option.some.inj h)
    obtain rfl : e0 = e := he
    have HT := Aside0.mk ht.symm
    clear ht h
    go_enter Tryd.func173, Tryd.ntmps173
    go_wp2_with (first
      | ((with_reducible refine gate_dst (N := 2) rfl ?_); refine box_event ?hg (N := 2) ?hd (cs := #[.string (⟨#[]⟩ : ByteArray), .int .u16 0, .string (⟨#[]⟩ : ByteArray), .slice none 0 0]) (t := 50) ?hr ?_; (case hd => rfl); (case hg => rfl); (case hr => first | (go_simp; done) | (go_simp; rfl)); intro b hg w1 hbox hb; have HWb := Aside0.mk hb; have BKb := Aside0.mk hbox; have HEb := Aside0.mk hg; obtain ⟨⟨x0, x1, x2, x3⟩, ⟨f0, f1, f2, f3⟩⟩ := blk50 hbox; have HS1 := Aside0.mk (HS.out.below hb); have n1 : g ≠ b := (by omega); have n2 : b ≠ g := (by omega); obtain ⟨Az, cz, zl, zk, zo, gl, gk, go⟩ := St_cells HS1.out; clear hb hbox hg)
      | (go_at_call 192; refine (fail_calls' HS1.out 2).mono ?_; rintro e' w5 ⟨A2, c2, rfl, hR, hS5, hK5⟩; have BK5 := Aside0.mk (hK5.blk BKb.out n2 (by simp)); have HS5 := Aside0.mk hS5; have HK5 := Aside0.mk hK5; have HR5 := Aside0.mk hR; obtain ⟨⟨z0, z1, z2, z3⟩, ⟨p0, p1, p2, p3⟩⟩ := blk50 BK5.out; clear hS5 hK5 hR))
    rw [HT.out]
    exact bodyPost_ret (results_cell_row rfl _ _ b 50 #[.string e0.f0, .int .u16 e0.f1, .string e0.f2, .slice A2 e0.f3.length c2] (0, 0) _ rfl (put50_blk BK5.out) Tryd.underlying50 rfl (by kernel_rfl)) rfl (post_new (e := e0) (base := w1.heap.size) HS5.out ((KeepBut.of_below HWb.out g none).trans HK5.out (.inl rfl)) n1 (by have := HEb.out; omega) hw0 HR5.out (blk_lt BKb.out))
  | cons t l =>
    simp only at h
    by_cases h1 : t.f0 = 1
    · rw [if_pos h1] at h
      have d1 : (t.f0 == 1) = true := beq_iff_eq.mpr h1
      cases hw : wordL t.f1.data.toList with
      | true =>
        rw [hw, if_pos rfl] at h
        (obtain ⟨he, ht⟩ := Prod.mk.inj (Option.some.inj h); obtain rfl : e0 = e := he; have HT := Aside0.mk (show u = ⟨l, if k = 0 then 2 else k, o⟩ from ht.symm); clear ht h)
        have HX := Aside0.mk hw
        clear hw h1
        go_enter Tryd.func173, Tryd.ntmps173
        go_wp2_with (first | ((with_reducible refine gate_dst (N := 2) rfl ?_); refine box_event ?hg (N := 2) ?hd (cs := #[.string (⟨#[]⟩ : ByteArray), .int .u16 0, .string (⟨#[]⟩ : ByteArray), .slice none 0 0]) (t := 50) ?hr ?_; (case hd => rfl); (case hg => rfl); (case hr => first | (go_simp; done) | (go_simp; rfl)); intro b hg w1 hbox hb; have HWb := Aside0.mk hb; have BKb := Aside0.mk hbox; have HEb := Aside0.mk hg; obtain ⟨⟨x0, x1, x2, x3⟩, ⟨f0, f1, f2, f3⟩⟩ := blk50 hbox; have HS1 := Aside0.mk (HS.out.below hb); have n1 : g ≠ b := (by omega); have n2 : b ≠ g := (by omega); obtain ⟨Az, cz, zl, zk, zo, gl, gk, go⟩ := St_cells HS1.out; clear hb hbox hg) | (go_at_call 154; refine (skip_calls HS1.out).mono ?_; rintro e' w2 ⟨rfl, hS2, hK2⟩; have BK2 := Aside0.mk (hK2.blk BKb.out n2 (by simp)); have HS2 := Aside0.mk hS2; have HK2 := Aside0.mk hK2; have hlt2 := blk_lt BK2.out; have hglt2 := hS2.lt; clear hS2 hK2 zl zk zo gl gk go x0 x1 x2 x3 f0 f1 f2 f3) | ((with_reducible refine gate_dst (N := 3) rfl ?_); refine box_event ?hg (N := 3) ?hd (cs := #[.int .i64 0, .string (⟨#[]⟩ : ByteArray), .int .u16 0]) (t := 41) ?hr ?_; (case hd => rfl); (case hg => rfl); (case hr => first | (go_simp; done) | (go_simp; rfl)); intro q hq w3 hbox hb; have HW3 := Aside0.mk hb; have BQ3 := Aside0.mk hbox; have HE3 := Aside0.mk hq; have n3 : g ≠ q := (by omega); have n4 : q ≠ g := (by omega); have n5 : b ≠ q := (by omega); have n6 : q ≠ b := (by omega); obtain ⟨⟨x0, x1, x2⟩, ⟨f0, f1, f2⟩⟩ := blk41 hbox; clear hb hbox hq) | ((with_reducible refine gate_store (t := 41) (p := 3) rfl ?_); refine store_event (t := 41) (p := 3) (v := ?vo) ?hg ?ho ?hN (w1 := put41 w3 q (.int .i64 t.f0) (.string t.f1) (.int .u16 t.f2)) ?hr ?_; (case ho => rfl); (case hg => rfl); (case hN => rfl); (case hr => first | (go_simp; done) | (go_simp; rfl)); intro w4 hw4; have hb4 := (show Below w2.heap.size w2 w4 from (by rw [hw4]; exact below_put41 HW3.out (by have := HE3.out; omega))); have AI4 := Aside0.mk (show AI w0 w w4 g b q t ⟨l, k, o⟩ from ⟨blk_below BK2.out hb4, (by rw [hw4]; exact put41_blk BQ3.out), HS2.out.below hb4, ((KeepBut.of_below HWb.out g none).trans HK2.out (.inl rfl)).trans (KeepBut.of_below hb4 g none) (.inl rfl)⟩); obtain ⟨⟨y0, y1, y2⟩, _⟩ := blk41 AI4.out.kq; obtain ⟨⟨z0, z1, z2, z3⟩, ⟨p0, p1, p2, p3⟩⟩ := blk50 AI4.out.kb; clear hb4 hw4 x0 x1 x2 f0 f1 f2) | (go_at_call 144; refine (word_calls t.f1 w4).mono ?_; rintro e' w5 ⟨rfl, ⟨nd, rfl⟩⟩; rw [HX.out]) | (go_at_call 192; refine (fail_calls' (St.below AI4.out.st (by first | exact Below.refl _ _ | exact pw_below_drewN (Below.refl _ _) _)) 2).mono ?_; rintro e' w6 ⟨A2, c2, rfl, hR, hS6, hK6⟩; have AI6 := Aside0.mk ((AI4.out.below (by first | exact Below.refl _ _ | exact pw_below_drewN (Below.refl _ _) _)).keep (u := ⟨l, if k = 0 then 2 else k, o⟩) hK6 hS6 n2 n4); have HR6 := Aside0.mk hR; have HL6 := Aside0.mk (show b < _ from blk_lt (AI4.out.below (by first | exact Below.refl _ _ | exact pw_below_drewN (Below.refl _ _) _)).kb); clear hS6 hK6 hR z0 z1 z2 z3 p0 p1 p2 p3; obtain ⟨⟨z0, z1, z2, z3⟩, ⟨p0, p1, p2, p3⟩⟩ := blk50 AI6.out.kb))
        rw [HT.out]; exact bodyPost_ret (results_cell_row rfl _ _ b 50 #[.string e0.f0, .int .u16 e0.f1, .string e0.f2, .slice A2 e0.f3.length c2] (0, 0) _ rfl (put50_blk AI6.out.kb) Tryd.underlying50 rfl (by kernel_rfl)) rfl (post_new (e := e0) (base := _) AI6.out.st AI6.out.kp n1 (by have := HEb.out; omega) hw0 HR6.out HL6.out)
      | false =>
        rw [hw, if_neg (by decide)] at h
        obtain ⟨rfl, rfl⟩ := Prod.mk.inj (Option.some.inj h)
        have HX := Aside0.mk hw
        clear hw h1 h
        go_enter Tryd.func173, Tryd.ntmps173
        go_wp2_with (first | ((with_reducible refine gate_dst (N := 2) rfl ?_); refine box_event ?hg (N := 2) ?hd (cs := #[.string (⟨#[]⟩ : ByteArray), .int .u16 0, .string (⟨#[]⟩ : ByteArray), .slice none 0 0]) (t := 50) ?hr ?_; (case hd => rfl); (case hg => rfl); (case hr => first | (go_simp; done) | (go_simp; rfl)); intro b hg w1 hbox hb; have HWb := Aside0.mk hb; have BKb := Aside0.mk hbox; have HEb := Aside0.mk hg; obtain ⟨⟨x0, x1, x2, x3⟩, ⟨f0, f1, f2, f3⟩⟩ := blk50 hbox; have HS1 := Aside0.mk (HS.out.below hb); have n1 : g ≠ b := (by omega); have n2 : b ≠ g := (by omega); obtain ⟨Az, cz, zl, zk, zo, gl, gk, go⟩ := St_cells HS1.out; clear hb hbox hg) | (go_at_call 154; refine (skip_calls HS1.out).mono ?_; rintro e' w2 ⟨rfl, hS2, hK2⟩; have BK2 := Aside0.mk (hK2.blk BKb.out n2 (by simp)); have HS2 := Aside0.mk hS2; have HK2 := Aside0.mk hK2; have hlt2 := blk_lt BK2.out; have hglt2 := hS2.lt; clear hS2 hK2 zl zk zo gl gk go x0 x1 x2 x3 f0 f1 f2 f3) | ((with_reducible refine gate_dst (N := 3) rfl ?_); refine box_event ?hg (N := 3) ?hd (cs := #[.int .i64 0, .string (⟨#[]⟩ : ByteArray), .int .u16 0]) (t := 41) ?hr ?_; (case hd => rfl); (case hg => rfl); (case hr => first | (go_simp; done) | (go_simp; rfl)); intro q hq w3 hbox hb; have HW3 := Aside0.mk hb; have BQ3 := Aside0.mk hbox; have HE3 := Aside0.mk hq; have n3 : g ≠ q := (by omega); have n4 : q ≠ g := (by omega); have n5 : b ≠ q := (by omega); have n6 : q ≠ b := (by omega); obtain ⟨⟨x0, x1, x2⟩, ⟨f0, f1, f2⟩⟩ := blk41 hbox; clear hb hbox hq) | ((with_reducible refine gate_store (t := 41) (p := 3) rfl ?_); refine store_event (t := 41) (p := 3) (v := ?vo) ?hg ?ho ?hN (w1 := put41 w3 q (.int .i64 t.f0) (.string t.f1) (.int .u16 t.f2)) ?hr ?_; (case ho => rfl); (case hg => rfl); (case hN => rfl); (case hr => first | (go_simp; done) | (go_simp; rfl)); intro w4 hw4; have hb4 := (show Below w2.heap.size w2 w4 from (by rw [hw4]; exact below_put41 HW3.out (by have := HE3.out; omega))); have AI4 := Aside0.mk (show AI w0 w w4 g b q t ⟨l, k, o⟩ from ⟨blk_below BK2.out hb4, (by rw [hw4]; exact put41_blk BQ3.out), HS2.out.below hb4, ((KeepBut.of_below HWb.out g none).trans HK2.out (.inl rfl)).trans (KeepBut.of_below hb4 g none) (.inl rfl)⟩); obtain ⟨⟨y0, y1, y2⟩, _⟩ := blk41 AI4.out.kq; obtain ⟨⟨z0, z1, z2, z3⟩, ⟨p0, p1, p2, p3⟩⟩ := blk50 AI4.out.kb; clear hb4 hw4 x0 x1 x2 f0 f1 f2) | (go_at_call 144; refine (word_calls t.f1 w4).mono ?_; rintro e' w5 ⟨rfl, ⟨nd, rfl⟩⟩; rw [HX.out]))
        exact bodyPost_ret (results_cell_row rfl _ _ b 50 #[.string (⟨⟨#[110]⟩, 0, t.f1, []⟩ : S50).f0, .int .u16 (⟨⟨#[110]⟩, 0, t.f1, []⟩ : S50).f1, .string (⟨⟨#[110]⟩, 0, t.f1, []⟩ : S50).f2, .slice none 0 0] (0, 0) _ rfl (put50_blk (blk_below AI4.out.kb (by first | exact Below.refl _ _ | exact pw_below_drewN (Below.refl _ _) _))) Tryd.underlying50 rfl (by kernel_rfl)) rfl (post_leaf (e := ⟨⟨#[110]⟩, 0, t.f1, []⟩) (St.below AI4.out.st (by first | exact Below.refl _ _ | exact pw_below_drewN (Below.refl _ _) _)) (AI4.out.below (by first | exact Below.refl _ _ | exact pw_below_drewN (Below.refl _ _) _)).kp n1 (by have := HEb.out; omega) hw0 rfl)
    rw [if_neg h1] at h
    have d1 : (t.f0 == 1) = false := beq_eq_false_iff_ne.mpr h1
    by_cases h2 : t.f0 = 2
    · rw [if_pos h2] at h
      have d2 : (t.f0 == 2) = true := beq_iff_eq.mpr h2
      obtain ⟨rfl, rfl⟩ := Prod.mk.inj (Option.some.inj h)
      clear h1 h2 h
      go_enter Tryd.func173, Tryd.ntmps173
      go_wp2_with (first | ((with_reducible refine gate_dst (N := 2) rfl ?_); refine box_event ?hg (N := 2) ?hd (cs := #[.string (⟨#[]⟩ : ByteArray), .int .u16 0, .string (⟨#[]⟩ : ByteArray), .slice none 0 0]) (t := 50) ?hr ?_; (case hd => rfl); (case hg => rfl); (case hr => first | (go_simp; done) | (go_simp; rfl)); intro b hg w1 hbox hb; have HWb := Aside0.mk hb; have BKb := Aside0.mk hbox; have HEb := Aside0.mk hg; obtain ⟨⟨x0, x1, x2, x3⟩, ⟨f0, f1, f2, f3⟩⟩ := blk50 hbox; have HS1 := Aside0.mk (HS.out.below hb); have n1 : g ≠ b := (by omega); have n2 : b ≠ g := (by omega); obtain ⟨Az, cz, zl, zk, zo, gl, gk, go⟩ := St_cells HS1.out; clear hb hbox hg) | (go_at_call 154; refine (skip_calls HS1.out).mono ?_; rintro e' w2 ⟨rfl, hS2, hK2⟩; have BK2 := Aside0.mk (hK2.blk BKb.out n2 (by simp)); have HS2 := Aside0.mk hS2; have HK2 := Aside0.mk hK2; have hlt2 := blk_lt BK2.out; have hglt2 := hS2.lt; clear hS2 hK2 zl zk zo gl gk go x0 x1 x2 x3 f0 f1 f2 f3) | ((with_reducible refine gate_dst (N := 3) rfl ?_); refine box_event ?hg (N := 3) ?hd (cs := #[.int .i64 0, .string (⟨#[]⟩ : ByteArray), .int .u16 0]) (t := 41) ?hr ?_; (case hd => rfl); (case hg => rfl); (case hr => first | (go_simp; done) | (go_simp; rfl)); intro q hq w3 hbox hb; have HW3 := Aside0.mk hb; have BQ3 := Aside0.mk hbox; have HE3 := Aside0.mk hq; have n3 : g ≠ q := (by omega); have n4 : q ≠ g := (by omega); have n5 : b ≠ q := (by omega); have n6 : q ≠ b := (by omega); obtain ⟨⟨x0, x1, x2⟩, ⟨f0, f1, f2⟩⟩ := blk41 hbox; clear hb hbox hq) | ((with_reducible refine gate_store (t := 41) (p := 3) rfl ?_); refine store_event (t := 41) (p := 3) (v := ?vo) ?hg ?ho ?hN (w1 := put41 w3 q (.int .i64 t.f0) (.string t.f1) (.int .u16 t.f2)) ?hr ?_; (case ho => rfl); (case hg => rfl); (case hN => rfl); (case hr => first | (go_simp; done) | (go_simp; rfl)); intro w4 hw4; have hb4 := (show Below w2.heap.size w2 w4 from (by rw [hw4]; exact below_put41 HW3.out (by have := HE3.out; omega))); have AI4 := Aside0.mk (show AI w0 w w4 g b q t ⟨l, k, o⟩ from ⟨blk_below BK2.out hb4, (by rw [hw4]; exact put41_blk BQ3.out), HS2.out.below hb4, ((KeepBut.of_below HWb.out g none).trans HK2.out (.inl rfl)).trans (KeepBut.of_below hb4 g none) (.inl rfl)⟩); obtain ⟨⟨y0, y1, y2⟩, _⟩ := blk41 AI4.out.kq; obtain ⟨⟨z0, z1, z2, z3⟩, ⟨p0, p1, p2, p3⟩⟩ := blk50 AI4.out.kb; clear hb4 hw4 x0 x1 x2 f0 f1 f2))
      exact bodyPost_ret (results_cell_row rfl _ _ b 50 #[.string (⟨⟨#[35]⟩, t.f2, ⟨#[]⟩, []⟩ : S50).f0, .int .u16 (⟨⟨#[35]⟩, t.f2, ⟨#[]⟩, []⟩ : S50).f1, .string (⟨⟨#[35]⟩, t.f2, ⟨#[]⟩, []⟩ : S50).f2, .slice none 0 0] (0, 0) _ rfl (put50_blk (blk_below AI4.out.kb (by first | exact Below.refl _ _ | exact pw_below_drewN (Below.refl _ _) _))) Tryd.underlying50 rfl (by kernel_rfl)) rfl (post_leaf (e := ⟨⟨#[35]⟩, t.f2, ⟨#[]⟩, []⟩) (St.below AI4.out.st (by first | exact Below.refl _ _ | exact pw_below_drewN (Below.refl _ _) _)) (AI4.out.below (by first | exact Below.refl _ _ | exact pw_below_drewN (Below.refl _ _) _)).kp n1 (by have := HEb.out; omega) hw0 rfl)
    rw [if_neg h2] at h
    have d2 : (t.f0 == 2) = false := beq_eq_false_iff_ne.mpr h2
    by_cases h3 : t.f0 = 3
    · rw [if_pos h3] at h
      have d3 : (t.f0 == 3) = true := beq_iff_eq.mpr h3
      by_cases hv : (valP t.f1).2 = 0
      · rw [if_pos hv] at h
        obtain ⟨rfl, rfl⟩ := Prod.mk.inj (Option.some.inj h)
        have HX := Aside0.mk hv
        clear h1 h2 h3 h hv
        go_enter Tryd.func173, Tryd.ntmps173
        go_wp2_with (first | ((with_reducible refine gate_dst (N := 2) rfl ?_); refine box_event ?hg (N := 2) ?hd (cs := #[.string (⟨#[]⟩ : ByteArray), .int .u16 0, .string (⟨#[]⟩ : ByteArray), .slice none 0 0]) (t := 50) ?hr ?_; (case hd => rfl); (case hg => rfl); (case hr => first | (go_simp; done) | (go_simp; rfl)); intro b hg w1 hbox hb; have HWb := Aside0.mk hb; have BKb := Aside0.mk hbox; have HEb := Aside0.mk hg; obtain ⟨⟨x0, x1, x2, x3⟩, ⟨f0, f1, f2, f3⟩⟩ := blk50 hbox; have HS1 := Aside0.mk (HS.out.below hb); have n1 : g ≠ b := (by omega); have n2 : b ≠ g := (by omega); obtain ⟨Az, cz, zl, zk, zo, gl, gk, go⟩ := St_cells HS1.out; clear hb hbox hg) | (go_at_call 154; refine (skip_calls HS1.out).mono ?_; rintro e' w2 ⟨rfl, hS2, hK2⟩; have BK2 := Aside0.mk (hK2.blk BKb.out n2 (by simp)); have HS2 := Aside0.mk hS2; have HK2 := Aside0.mk hK2; have hlt2 := blk_lt BK2.out; have hglt2 := hS2.lt; clear hS2 hK2 zl zk zo gl gk go x0 x1 x2 x3 f0 f1 f2 f3) | ((with_reducible refine gate_dst (N := 3) rfl ?_); refine box_event ?hg (N := 3) ?hd (cs := #[.int .i64 0, .string (⟨#[]⟩ : ByteArray), .int .u16 0]) (t := 41) ?hr ?_; (case hd => rfl); (case hg => rfl); (case hr => first | (go_simp; done) | (go_simp; rfl)); intro q hq w3 hbox hb; have HW3 := Aside0.mk hb; have BQ3 := Aside0.mk hbox; have HE3 := Aside0.mk hq; have n3 : g ≠ q := (by omega); have n4 : q ≠ g := (by omega); have n5 : b ≠ q := (by omega); have n6 : q ≠ b := (by omega); obtain ⟨⟨x0, x1, x2⟩, ⟨f0, f1, f2⟩⟩ := blk41 hbox; clear hb hbox hq) | ((with_reducible refine gate_store (t := 41) (p := 3) rfl ?_); refine store_event (t := 41) (p := 3) (v := ?vo) ?hg ?ho ?hN (w1 := put41 w3 q (.int .i64 t.f0) (.string t.f1) (.int .u16 t.f2)) ?hr ?_; (case ho => rfl); (case hg => rfl); (case hN => rfl); (case hr => first | (go_simp; done) | (go_simp; rfl)); intro w4 hw4; have hb4 := (show Below w2.heap.size w2 w4 from (by rw [hw4]; exact below_put41 HW3.out (by have := HE3.out; omega))); have AI4 := Aside0.mk (show AI w0 w w4 g b q t ⟨l, k, o⟩ from ⟨blk_below BK2.out hb4, (by rw [hw4]; exact put41_blk BQ3.out), HS2.out.below hb4, ((KeepBut.of_below HWb.out g none).trans HK2.out (.inl rfl)).trans (KeepBut.of_below hb4 g none) (.inl rfl)⟩); obtain ⟨⟨y0, y1, y2⟩, _⟩ := blk41 AI4.out.kq; obtain ⟨⟨z0, z1, z2, z3⟩, ⟨p0, p1, p2, p3⟩⟩ := blk50 AI4.out.kb; clear hb4 hw4 x0 x1 x2 f0 f1 f2) | (go_at_call 24; refine (value_calls t.f1 w4).mono ?_; rintro e' w5 ⟨rfl, hb5⟩; rw [HX.out]; have AI5 := Aside0.mk (AI4.out.below hb5); clear hb5 y0 y1 y2 z0 z1 z2 z3 p0 p1 p2 p3 AI4; have AI4 := AI5; clear AI5; obtain ⟨⟨z0, z1, z2, z3⟩, ⟨p0, p1, p2, p3⟩⟩ := blk50 AI4.out.kb))
        exact bodyPost_ret (results_cell_row rfl _ _ b 50 #[.string (⟨⟨#[35]⟩, (valP t.f1).1, ⟨#[]⟩, []⟩ : S50).f0, .int .u16 (⟨⟨#[35]⟩, (valP t.f1).1, ⟨#[]⟩, []⟩ : S50).f1, .string (⟨⟨#[35]⟩, (valP t.f1).1, ⟨#[]⟩, []⟩ : S50).f2, .slice none 0 0] (0, 0) _ rfl (put50_blk (blk_below AI4.out.kb (by first | exact Below.refl _ _ | exact pw_below_drewN (Below.refl _ _) _))) Tryd.underlying50 rfl (by kernel_rfl)) rfl (post_leaf (e := ⟨⟨#[35]⟩, (valP t.f1).1, ⟨#[]⟩, []⟩) (St.below AI4.out.st (by first | exact Below.refl _ _ | exact pw_below_drewN (Below.refl _ _) _)) (AI4.out.below (by first | exact Below.refl _ _ | exact pw_below_drewN (Below.refl _ _) _)).kp n1 (by have := HEb.out; omega) hw0 rfl)
      · rw [if_neg hv] at h
        obtain ⟨vk, hvk⟩ : ∃ x, (valP t.f1).2 = x := ⟨_, rfl⟩
        rw [hvk] at h hv
        have HX := Aside0.mk hvk
        have dv : (vk != 0) = true := bne_iff_ne.mpr hv
        (obtain ⟨he, ht⟩ := Prod.mk.inj (Option.some.inj h); obtain rfl : e0 = e := he; have HT := Aside0.mk (show u = ⟨l, if k = 0 then vk else k, o⟩ from ht.symm); clear ht h)
        clear h1 h2 h3 hv hvk
        go_enter Tryd.func173, Tryd.ntmps173
        go_wp2_with (first | ((with_reducible refine gate_dst (N := 2) rfl ?_); refine box_event ?hg (N := 2) ?hd (cs := #[.string (⟨#[]⟩ : ByteArray), .int .u16 0, .string (⟨#[]⟩ : ByteArray), .slice none 0 0]) (t := 50) ?hr ?_; (case hd => rfl); (case hg => rfl); (case hr => first | (go_simp; done) | (go_simp; rfl)); intro b hg w1 hbox hb; have HWb := Aside0.mk hb; have BKb := Aside0.mk hbox; have HEb := Aside0.mk hg; obtain ⟨⟨x0, x1, x2, x3⟩, ⟨f0, f1, f2, f3⟩⟩ := blk50 hbox; have HS1 := Aside0.mk (HS.out.below hb); have n1 : g ≠ b := (by omega); have n2 : b ≠ g := (by omega); obtain ⟨Az, cz, zl, zk, zo, gl, gk, go⟩ := St_cells HS1.out; clear hb hbox hg) | (go_at_call 154; refine (skip_calls HS1.out).mono ?_; rintro e' w2 ⟨rfl, hS2, hK2⟩; have BK2 := Aside0.mk (hK2.blk BKb.out n2 (by simp)); have HS2 := Aside0.mk hS2; have HK2 := Aside0.mk hK2; have hlt2 := blk_lt BK2.out; have hglt2 := hS2.lt; clear hS2 hK2 zl zk zo gl gk go x0 x1 x2 x3 f0 f1 f2 f3) | ((with_reducible refine gate_dst (N := 3) rfl ?_); refine box_event ?hg (N := 3) ?hd (cs := #[.int .i64 0, .string (⟨#[]⟩ : ByteArray), .int .u16 0]) (t := 41) ?hr ?_; (case hd => rfl); (case hg => rfl); (case hr => first | (go_simp; done) | (go_simp; rfl)); intro q hq w3 hbox hb; have HW3 := Aside0.mk hb; have BQ3 := Aside0.mk hbox; have HE3 := Aside0.mk hq; have n3 : g ≠ q := (by omega); have n4 : q ≠ g := (by omega); have n5 : b ≠ q := (by omega); have n6 : q ≠ b := (by omega); obtain ⟨⟨x0, x1, x2⟩, ⟨f0, f1, f2⟩⟩ := blk41 hbox; clear hb hbox hq) | ((with_reducible refine gate_store (t := 41) (p := 3) rfl ?_); refine store_event (t := 41) (p := 3) (v := ?vo) ?hg ?ho ?hN (w1 := put41 w3 q (.int .i64 t.f0) (.string t.f1) (.int .u16 t.f2)) ?hr ?_; (case ho => rfl); (case hg => rfl); (case hN => rfl); (case hr => first | (go_simp; done) | (go_simp; rfl)); intro w4 hw4; have hb4 := (show Below w2.heap.size w2 w4 from (by rw [hw4]; exact below_put41 HW3.out (by have := HE3.out; omega))); have AI4 := Aside0.mk (show AI w0 w w4 g b q t ⟨l, k, o⟩ from ⟨blk_below BK2.out hb4, (by rw [hw4]; exact put41_blk BQ3.out), HS2.out.below hb4, ((KeepBut.of_below HWb.out g none).trans HK2.out (.inl rfl)).trans (KeepBut.of_below hb4 g none) (.inl rfl)⟩); obtain ⟨⟨y0, y1, y2⟩, _⟩ := blk41 AI4.out.kq; obtain ⟨⟨z0, z1, z2, z3⟩, ⟨p0, p1, p2, p3⟩⟩ := blk50 AI4.out.kb; clear hb4 hw4 x0 x1 x2 f0 f1 f2) | (go_at_call 24; refine (value_calls t.f1 w4).mono ?_; rintro e' w5 ⟨rfl, hb5⟩; rw [HX.out]; have AI5 := Aside0.mk (AI4.out.below hb5); clear hb5 y0 y1 y2 z0 z1 z2 z3 p0 p1 p2 p3 AI4; have AI4 := AI5; clear AI5; obtain ⟨⟨z0, z1, z2, z3⟩, ⟨p0, p1, p2, p3⟩⟩ := blk50 AI4.out.kb) | (go_at_call 192; refine (fail_calls' (St.below AI4.out.st (by first | exact Below.refl _ _ | exact pw_below_drewN (Below.refl _ _) _)) vk).mono ?_; rintro e' w6 ⟨A2, c2, rfl, hR, hS6, hK6⟩; have AI6 := Aside0.mk ((AI4.out.below (by first | exact Below.refl _ _ | exact pw_below_drewN (Below.refl _ _) _)).keep (u := ⟨l, if k = 0 then vk else k, o⟩) hK6 hS6 n2 n4); have HR6 := Aside0.mk hR; have HL6 := Aside0.mk (show b < _ from blk_lt (AI4.out.below (by first | exact Below.refl _ _ | exact pw_below_drewN (Below.refl _ _) _)).kb); clear hS6 hK6 hR z0 z1 z2 z3 p0 p1 p2 p3; obtain ⟨⟨z0, z1, z2, z3⟩, ⟨p0, p1, p2, p3⟩⟩ := blk50 AI6.out.kb))
        rw [HT.out]; exact bodyPost_ret (results_cell_row rfl _ _ b 50 #[.string e0.f0, .int .u16 e0.f1, .string e0.f2, .slice A2 e0.f3.length c2] (0, 0) _ rfl (put50_blk AI6.out.kb) Tryd.underlying50 rfl (by kernel_rfl)) rfl (post_new (e := e0) (base := _) AI6.out.st AI6.out.kp n1 (by have := HEb.out; omega) hw0 HR6.out HL6.out)
    rw [if_neg h3] at h
    have d3 : (t.f0 == 3) = false := beq_eq_false_iff_ne.mpr h3
    by_cases h4 : t.f0 = 4
    · rw [if_pos h4] at h
      have d4 : (t.f0 == 4) = true := beq_iff_eq.mpr h4
      by_cases hd : t.f1.data.toList = [36]
      · rw [if_pos hd] at h
        obtain ⟨rfl, rfl⟩ := Prod.mk.inj (Option.some.inj h)
        obtain ⟨q1, q2⟩ := streq hd
        clear h1 h2 h3 h4 h hd
        go_enter Tryd.func173, Tryd.ntmps173
        go_wp2_with (first | ((with_reducible refine gate_dst (N := 2) rfl ?_); refine box_event ?hg (N := 2) ?hd (cs := #[.string (⟨#[]⟩ : ByteArray), .int .u16 0, .string (⟨#[]⟩ : ByteArray), .slice none 0 0]) (t := 50) ?hr ?_; (case hd => rfl); (case hg => rfl); (case hr => first | (go_simp; done) | (go_simp; rfl)); intro b hg w1 hbox hb; have HWb := Aside0.mk hb; have BKb := Aside0.mk hbox; have HEb := Aside0.mk hg; obtain ⟨⟨x0, x1, x2, x3⟩, ⟨f0, f1, f2, f3⟩⟩ := blk50 hbox; have HS1 := Aside0.mk (HS.out.below hb); have n1 : g ≠ b := (by omega); have n2 : b ≠ g := (by omega); obtain ⟨Az, cz, zl, zk, zo, gl, gk, go⟩ := St_cells HS1.out; clear hb hbox hg) | (go_at_call 154; refine (skip_calls HS1.out).mono ?_; rintro e' w2 ⟨rfl, hS2, hK2⟩; have BK2 := Aside0.mk (hK2.blk BKb.out n2 (by simp)); have HS2 := Aside0.mk hS2; have HK2 := Aside0.mk hK2; have hlt2 := blk_lt BK2.out; have hglt2 := hS2.lt; clear hS2 hK2 zl zk zo gl gk go x0 x1 x2 x3 f0 f1 f2 f3) | ((with_reducible refine gate_dst (N := 3) rfl ?_); refine box_event ?hg (N := 3) ?hd (cs := #[.int .i64 0, .string (⟨#[]⟩ : ByteArray), .int .u16 0]) (t := 41) ?hr ?_; (case hd => rfl); (case hg => rfl); (case hr => first | (go_simp; done) | (go_simp; rfl)); intro q hq w3 hbox hb; have HW3 := Aside0.mk hb; have BQ3 := Aside0.mk hbox; have HE3 := Aside0.mk hq; have n3 : g ≠ q := (by omega); have n4 : q ≠ g := (by omega); have n5 : b ≠ q := (by omega); have n6 : q ≠ b := (by omega); obtain ⟨⟨x0, x1, x2⟩, ⟨f0, f1, f2⟩⟩ := blk41 hbox; clear hb hbox hq) | ((with_reducible refine gate_store (t := 41) (p := 3) rfl ?_); refine store_event (t := 41) (p := 3) (v := ?vo) ?hg ?ho ?hN (w1 := put41 w3 q (.int .i64 t.f0) (.string t.f1) (.int .u16 t.f2)) ?hr ?_; (case ho => rfl); (case hg => rfl); (case hN => rfl); (case hr => first | (go_simp; done) | (go_simp; rfl)); intro w4 hw4; have hb4 := (show Below w2.heap.size w2 w4 from (by rw [hw4]; exact below_put41 HW3.out (by have := HE3.out; omega))); have AI4 := Aside0.mk (show AI w0 w w4 g b q t ⟨l, k, o⟩ from ⟨blk_below BK2.out hb4, (by rw [hw4]; exact put41_blk BQ3.out), HS2.out.below hb4, ((KeepBut.of_below HWb.out g none).trans HK2.out (.inl rfl)).trans (KeepBut.of_below hb4 g none) (.inl rfl)⟩); obtain ⟨⟨y0, y1, y2⟩, _⟩ := blk41 AI4.out.kq; obtain ⟨⟨z0, z1, z2, z3⟩, ⟨p0, p1, p2, p3⟩⟩ := blk50 AI4.out.kb; clear hb4 hw4 x0 x1 x2 f0 f1 f2))
        exact bodyPost_ret (results_cell_row rfl _ _ b 50 #[.string (⟨⟨#[36]⟩, 0, ⟨#[]⟩, []⟩ : S50).f0, .int .u16 (⟨⟨#[36]⟩, 0, ⟨#[]⟩, []⟩ : S50).f1, .string (⟨⟨#[36]⟩, 0, ⟨#[]⟩, []⟩ : S50).f2, .slice none 0 0] (0, 0) _ rfl (put50_blk (blk_below AI4.out.kb (by first | exact Below.refl _ _ | exact pw_below_drewN (Below.refl _ _) _))) Tryd.underlying50 rfl (by kernel_rfl)) rfl (post_leaf (e := ⟨⟨#[36]⟩, 0, ⟨#[]⟩, []⟩) (St.below AI4.out.st (by first | exact Below.refl _ _ | exact pw_below_drewN (Below.refl _ _) _)) (AI4.out.below (by first | exact Below.refl _ _ | exact pw_below_drewN (Below.refl _ _) _)).kp n1 (by have := HEb.out; omega) hw0 rfl)
      rw [if_neg hd] at h
      obtain ⟨q1, q2⟩ := strne hd
      by_cases hp : t.f1.data.toList = [40]
      · rw [if_pos hp] at h
        obtain ⟨q3, q4⟩ := streq hp
        cases hb : withinP n 1 ⟨l, k, o⟩ with
        | none => rw [hb] at h; cases h
        | some y =>
          obtain ⟨e5, l5, k5, o5⟩ := y
          rw [hb] at h
          simp only at h
          have HB := Aside0.mk hb
          cases ha : atP l5 4 [[41]] with
          | some s5 =>
            obtain ⟨t6, l6, rfl⟩ := at_some ha
            rw [ha, if_pos (show (some s5).isSome = true from rfl), List.drop_one, List.tail_cons] at h
            obtain ⟨rfl, rfl⟩ := Prod.mk.inj (Option.some.inj h)
            have HA := Aside0.mk (show atP (t6 :: l6) 4 (([⟨#[41]⟩] : List ByteArray).map (·.data.toList)) = some s5 from ha)
            clear h1 h2 h3 h4 hd hp h hb ha
            go_enter Tryd.func173, Tryd.ntmps173
            go_wp2_with (first | ((with_reducible refine gate_dst (N := 2) rfl ?_); refine box_event ?hg (N := 2) ?hd (cs := #[.string (⟨#[]⟩ : ByteArray), .int .u16 0, .string (⟨#[]⟩ : ByteArray), .slice none 0 0]) (t := 50) ?hr ?_; (case hd => rfl); (case hg => rfl); (case hr => first | (go_simp; done) | (go_simp; rfl)); intro b hg w1 hbox hb; have HWb := Aside0.mk hb; have BKb := Aside0.mk hbox; have HEb := Aside0.mk hg; obtain ⟨⟨x0, x1, x2, x3⟩, ⟨f0, f1, f2, f3⟩⟩ := blk50 hbox; have HS1 := Aside0.mk (HS.out.below hb); have n1 : g ≠ b := (by omega); have n2 : b ≠ g := (by omega); obtain ⟨Az, cz, zl, zk, zo, gl, gk, go⟩ := St_cells HS1.out; clear hb hbox hg) | (go_at_call 154; refine (skip_calls HS1.out).mono ?_; rintro e' w2 ⟨rfl, hS2, hK2⟩; have BK2 := Aside0.mk (hK2.blk BKb.out n2 (by simp)); have HS2 := Aside0.mk hS2; have HK2 := Aside0.mk hK2; have hlt2 := blk_lt BK2.out; have hglt2 := hS2.lt; clear hS2 hK2 zl zk zo gl gk go x0 x1 x2 x3 f0 f1 f2 f3) | ((with_reducible refine gate_dst (N := 3) rfl ?_); refine box_event ?hg (N := 3) ?hd (cs := #[.int .i64 0, .string (⟨#[]⟩ : ByteArray), .int .u16 0]) (t := 41) ?hr ?_; (case hd => rfl); (case hg => rfl); (case hr => first | (go_simp; done) | (go_simp; rfl)); intro q hq w3 hbox hb; have HW3 := Aside0.mk hb; have BQ3 := Aside0.mk hbox; have HE3 := Aside0.mk hq; have n3 : g ≠ q := (by omega); have n4 : q ≠ g := (by omega); have n5 : b ≠ q := (by omega); have n6 : q ≠ b := (by omega); obtain ⟨⟨x0, x1, x2⟩, ⟨f0, f1, f2⟩⟩ := blk41 hbox; clear hb hbox hq) | ((with_reducible refine gate_store (t := 41) (p := 3) rfl ?_); refine store_event (t := 41) (p := 3) (v := ?vo) ?hg ?ho ?hN (w1 := put41 w3 q (.int .i64 t.f0) (.string t.f1) (.int .u16 t.f2)) ?hr ?_; (case ho => rfl); (case hg => rfl); (case hN => rfl); (case hr => first | (go_simp; done) | (go_simp; rfl)); intro w4 hw4; have hb4 := (show Below w2.heap.size w2 w4 from (by rw [hw4]; exact below_put41 HW3.out (by have := HE3.out; omega))); have AI4 := Aside0.mk (show AI w0 w w4 g b q t ⟨l, k, o⟩ from ⟨blk_below BK2.out hb4, (by rw [hw4]; exact put41_blk BQ3.out), HS2.out.below hb4, ((KeepBut.of_below HWb.out g none).trans HK2.out (.inl rfl)).trans (KeepBut.of_below hb4 g none) (.inl rfl)⟩); obtain ⟨⟨y0, y1, y2⟩, _⟩ := blk41 AI4.out.kq; obtain ⟨⟨z0, z1, z2, z3⟩, ⟨p0, p1, p2, p3⟩⟩ := blk50 AI4.out.kb; clear hb4 hw4 x0 x1 x2 f0 f1 f2) | (go_at_call 172; refine (IW'.out 1 ⟨l, k, o⟩ _ _ w0 _ g HB.out AI4.out.st).mono ?_; rintro e' w5 ⟨A5, c5, rfl, hR, hS5, hK5⟩; have AI5 := Aside0.mk (AI4.out.keep (u := ⟨(t6 :: l6), k5, o5⟩) hK5 hS5 n2 n4); have HR5 := Aside0.mk hR; have hlt5 := blk_lt AI5.out.kb; have hglt5 := AI5.out.st.lt; have HZ5 := Aside0.mk (show b < w4.heap.size ∧ g < w4.heap.size ∧ w.heap.size ≤ w4.heap.size from ⟨blk_lt AI4.out.kb, AI4.out.st.lt, AI4.out.kp.1⟩); clear hS5 hK5 hR y0 y1 y2 z0 z1 z2 z3 p0 p1 p2 p3) | ((with_reducible refine gate_dst (N := 6) rfl ?_); refine box_event ?hg (N := 6) ?hd (cs := #[.string (⟨#[]⟩ : ByteArray), .int .u16 0, .string (⟨#[]⟩ : ByteArray), .slice none 0 0]) (t := 50) ?hr ?_; (case hd => rfl); (case hg => rfl); (case hr => first | (go_simp; done) | (go_simp; rfl)); intro d hg w6 hbox hb; have HWd := Aside0.mk hb; have BKd := Aside0.mk hbox; have HEd := Aside0.mk hg; obtain ⟨⟨x0, x1, x2, x3⟩, ⟨f0, f1, f2, f3⟩⟩ := blk50 hbox; have m3 : g ≠ d := (by omega); have m4 : d ≠ g := (by omega); have m5 : b ≠ d := (by omega); have m6 : d ≠ b := (by omega); clear hb hbox hg) | ((with_reducible refine gate_store (t := 50) (p := 6) rfl ?_); refine store_event (t := 50) (p := 6) (v := ?vo2) ?hg ?ho ?hN (w1 := put50 w6 d (.string e5.f0) (.int .u16 e5.f1) (.string e5.f2) (.slice A5 e5.f3.length c5)) ?hr ?_; (case ho => rfl); (case hg => rfl); (case hN => rfl); (case hr => first | (go_simp; done) | (go_simp; rfl)); intro w7 hw7; have hb7 := (show Below w5.heap.size w5 w7 from (by rw [hw7]; exact below_put HWd.out (by have := HEd.out; omega))); have LI7 := Aside0.mk (show LI w0 w w7 g b d A5 c5 e5 ⟨(t6 :: l6), k5, o5⟩ from ⟨blk_below AI5.out.kb hb7, (by rw [hw7]; exact put50_blk BKd.out), (Kd.R_lower (Kd.R_below (Kd.R_mono (Kd.R_bound HR5.out) (fun k hk => (by have h1 := hk.2.1; have h2 := hk.2.2.1; have h3 := HEd.out; have h4 := HZ5.out; exact ⟨by omega, by omega, by omega⟩))) hb7) HZ5.out.2.2), AI5.out.st.below hb7, AI5.out.kp.trans (KeepBut.of_below hb7 g none) (.inl rfl)⟩); clear hb7 hw7 x0 x1 x2 x3 f0 f1 f2 f3) | (go_at_call 171; refine (at_calls (w0 := w0) (g := g) (l := (t6 :: l6)) (k := k5) (o := o5) 4 _ 1 [⟨#[41]⟩] (St.is (LI7.out.st.below (below_alloc (Below.refl _ _) _))) (LI7.out.st.below (below_alloc (Below.refl _ _) _)).base (lit_C _ [⟨#[41]⟩] _ rfl (by decide)) (by decide) (by decide)).mono ?_; rintro e' w8 ⟨rfl, hd8⟩; rw [HA.out]; have LI8 := Aside0.mk (LI7.out.below (below_step (below_alloc (Below.refl _ _) _) hd8.below)); obtain ⟨⟨x0, x1, x2, x3⟩, ⟨f0, f1, f2, f3⟩⟩ := blk50 LI8.out.kb; obtain ⟨⟨u0, u1, u2, u3⟩, ⟨v0, v1, v2, v3⟩⟩ := blk50 LI8.out.kd; clear hd8) | (go_at_call 154; refine (skip_calls LI8.out.st).mono ?_; rintro e' w9 ⟨rfl, hS9, hK9⟩; have LI9 := Aside0.mk (LI.keep (t := ⟨l6, k5, o5⟩) LI8.out hK9 hS9 n2 m4); clear hS9 hK9 x0 x1 x2 x3 f0 f1 f2 f3 u0 u1 u2 u3 v0 v1 v2 v3; obtain ⟨⟨x0, x1, x2, x3⟩, ⟨f0, f1, f2, f3⟩⟩ := blk50 LI9.out.kb; obtain ⟨⟨u0, u1, u2, u3⟩, ⟨v0, v1, v2, v3⟩⟩ := blk50 LI9.out.kd))
            exact bodyPost_ret (results_cell_row rfl _ _ b 50 #[.string e5.f0, .int .u16 e5.f1, .string e5.f2, .slice A5 e5.f3.length c5] (0, 0) _ rfl (put50_blk LI9.out.kb) Tryd.underlying50 rfl (by kernel_rfl)) rfl (post_put (e := e5) (t := ⟨l6, k5, o5⟩) (base := w.heap.size) LI9.out.st LI9.out.kp n1 (by have := HEb.out; omega) hw0 (Kd.R_mono LI9.out.re (fun _ h => h.2.1)) (Nat.le_refl _))
          | none =>
            rw [ha, if_neg (by simp)] at h
            obtain ⟨he, ht⟩ := Prod.mk.inj (Option.some.inj h)
            obtain rfl : e0 = e := he
            have HT := Aside0.mk (show u = ⟨l5, if k5 = 0 then 2 else k5, o5⟩ from ht.symm)
            have HA := Aside0.mk (show atP l5 4 (([⟨#[41]⟩] : List ByteArray).map (·.data.toList)) = none from ha)
            clear h1 h2 h3 h4 hd hp h hb ha ht
            go_enter Tryd.func173, Tryd.ntmps173
            go_wp2_with (first | ((with_reducible refine gate_dst (N := 2) rfl ?_); refine box_event ?hg (N := 2) ?hd (cs := #[.string (⟨#[]⟩ : ByteArray), .int .u16 0, .string (⟨#[]⟩ : ByteArray), .slice none 0 0]) (t := 50) ?hr ?_; (case hd => rfl); (case hg => rfl); (case hr => first | (go_simp; done) | (go_simp; rfl)); intro b hg w1 hbox hb; have HWb := Aside0.mk hb; have BKb := Aside0.mk hbox; have HEb := Aside0.mk hg; obtain ⟨⟨x0, x1, x2, x3⟩, ⟨f0, f1, f2, f3⟩⟩ := blk50 hbox; have HS1 := Aside0.mk (HS.out.below hb); have n1 : g ≠ b := (by omega); have n2 : b ≠ g := (by omega); obtain ⟨Az, cz, zl, zk, zo, gl, gk, go⟩ := St_cells HS1.out; clear hb hbox hg) | (go_at_call 154; refine (skip_calls HS1.out).mono ?_; rintro e' w2 ⟨rfl, hS2, hK2⟩; have BK2 := Aside0.mk (hK2.blk BKb.out n2 (by simp)); have HS2 := Aside0.mk hS2; have HK2 := Aside0.mk hK2; have hlt2 := blk_lt BK2.out; have hglt2 := hS2.lt; clear hS2 hK2 zl zk zo gl gk go x0 x1 x2 x3 f0 f1 f2 f3) | ((with_reducible refine gate_dst (N := 3) rfl ?_); refine box_event ?hg (N := 3) ?hd (cs := #[.int .i64 0, .string (⟨#[]⟩ : ByteArray), .int .u16 0]) (t := 41) ?hr ?_; (case hd => rfl); (case hg => rfl); (case hr => first | (go_simp; done) | (go_simp; rfl)); intro q hq w3 hbox hb; have HW3 := Aside0.mk hb; have BQ3 := Aside0.mk hbox; have HE3 := Aside0.mk hq; have n3 : g ≠ q := (by omega); have n4 : q ≠ g := (by omega); have n5 : b ≠ q := (by omega); have n6 : q ≠ b := (by omega); obtain ⟨⟨x0, x1, x2⟩, ⟨f0, f1, f2⟩⟩ := blk41 hbox; clear hb hbox hq) | ((with_reducible refine gate_store (t := 41) (p := 3) rfl ?_); refine store_event (t := 41) (p := 3) (v := ?vo) ?hg ?ho ?hN (w1 := put41 w3 q (.int .i64 t.f0) (.string t.f1) (.int .u16 t.f2)) ?hr ?_; (case ho => rfl); (case hg => rfl); (case hN => rfl); (case hr => first | (go_simp; done) | (go_simp; rfl)); intro w4 hw4; have hb4 := (show Below w2.heap.size w2 w4 from (by rw [hw4]; exact below_put41 HW3.out (by have := HE3.out; omega))); have AI4 := Aside0.mk (show AI w0 w w4 g b q t ⟨l, k, o⟩ from ⟨blk_below BK2.out hb4, (by rw [hw4]; exact put41_blk BQ3.out), HS2.out.below hb4, ((KeepBut.of_below HWb.out g none).trans HK2.out (.inl rfl)).trans (KeepBut.of_below hb4 g none) (.inl rfl)⟩); obtain ⟨⟨y0, y1, y2⟩, _⟩ := blk41 AI4.out.kq; obtain ⟨⟨z0, z1, z2, z3⟩, ⟨p0, p1, p2, p3⟩⟩ := blk50 AI4.out.kb; clear hb4 hw4 x0 x1 x2 f0 f1 f2) | (go_at_call 172; refine (IW'.out 1 ⟨l, k, o⟩ _ _ w0 _ g HB.out AI4.out.st).mono ?_; rintro e' w5 ⟨A5, c5, rfl, hR, hS5, hK5⟩; have AI5 := Aside0.mk (AI4.out.keep (u := ⟨(l5), k5, o5⟩) hK5 hS5 n2 n4); have HR5 := Aside0.mk hR; have hlt5 := blk_lt AI5.out.kb; have hglt5 := AI5.out.st.lt; have HZ5 := Aside0.mk (show b < w4.heap.size ∧ g < w4.heap.size ∧ w.heap.size ≤ w4.heap.size from ⟨blk_lt AI4.out.kb, AI4.out.st.lt, AI4.out.kp.1⟩); clear hS5 hK5 hR y0 y1 y2 z0 z1 z2 z3 p0 p1 p2 p3) | ((with_reducible refine gate_dst (N := 6) rfl ?_); refine box_event ?hg (N := 6) ?hd (cs := #[.string (⟨#[]⟩ : ByteArray), .int .u16 0, .string (⟨#[]⟩ : ByteArray), .slice none 0 0]) (t := 50) ?hr ?_; (case hd => rfl); (case hg => rfl); (case hr => first | (go_simp; done) | (go_simp; rfl)); intro d hg w6 hbox hb; have HWd := Aside0.mk hb; have BKd := Aside0.mk hbox; have HEd := Aside0.mk hg; obtain ⟨⟨x0, x1, x2, x3⟩, ⟨f0, f1, f2, f3⟩⟩ := blk50 hbox; have m3 : g ≠ d := (by omega); have m4 : d ≠ g := (by omega); have m5 : b ≠ d := (by omega); have m6 : d ≠ b := (by omega); clear hb hbox hg) | ((with_reducible refine gate_store (t := 50) (p := 6) rfl ?_); refine store_event (t := 50) (p := 6) (v := ?vo2) ?hg ?ho ?hN (w1 := put50 w6 d (.string e5.f0) (.int .u16 e5.f1) (.string e5.f2) (.slice A5 e5.f3.length c5)) ?hr ?_; (case ho => rfl); (case hg => rfl); (case hN => rfl); (case hr => first | (go_simp; done) | (go_simp; rfl)); intro w7 hw7; have hb7 := (show Below w5.heap.size w5 w7 from (by rw [hw7]; exact below_put HWd.out (by have := HEd.out; omega))); have LI7 := Aside0.mk (show LI w0 w w7 g b d A5 c5 e5 ⟨(l5), k5, o5⟩ from ⟨blk_below AI5.out.kb hb7, (by rw [hw7]; exact put50_blk BKd.out), (Kd.R_lower (Kd.R_below (Kd.R_mono (Kd.R_bound HR5.out) (fun k hk => (by have h1 := hk.2.1; have h2 := hk.2.2.1; have h3 := HEd.out; have h4 := HZ5.out; exact ⟨by omega, by omega, by omega⟩))) hb7) HZ5.out.2.2), AI5.out.st.below hb7, AI5.out.kp.trans (KeepBut.of_below hb7 g none) (.inl rfl)⟩); clear hb7 hw7 x0 x1 x2 x3 f0 f1 f2 f3) | (go_at_call 171; refine (at_calls (w0 := w0) (g := g) (l := (l5)) (k := k5) (o := o5) 4 _ 1 [⟨#[41]⟩] (St.is (LI7.out.st.below (below_alloc (Below.refl _ _) _))) (LI7.out.st.below (below_alloc (Below.refl _ _) _)).base (lit_C _ [⟨#[41]⟩] _ rfl (by decide)) (by decide) (by decide)).mono ?_; rintro e' w8 ⟨rfl, hd8⟩; rw [HA.out]; have LI8 := Aside0.mk (LI7.out.below (below_step (below_alloc (Below.refl _ _) _) hd8.below)); obtain ⟨⟨x0, x1, x2, x3⟩, ⟨f0, f1, f2, f3⟩⟩ := blk50 LI8.out.kb; obtain ⟨⟨u0, u1, u2, u3⟩, ⟨v0, v1, v2, v3⟩⟩ := blk50 LI8.out.kd; clear hd8) | (go_at_call 192; refine (fail_calls' LI8.out.st 2).mono ?_; rintro e' w9 ⟨A2, c2, rfl, hR, hS9, hK9⟩; have HL9 := Aside0.mk (show b < _ from blk_lt LI8.out.kb); have LI9 := Aside0.mk (LI.keep (t := ⟨l5, if k5 = 0 then 2 else k5, o5⟩) LI8.out hK9 hS9 n2 m4); have HR9 := Aside0.mk hR; clear hS9 hK9 hR x0 x1 x2 x3 f0 f1 f2 f3 u0 u1 u2 u3 v0 v1 v2 v3; obtain ⟨⟨x0, x1, x2, x3⟩, ⟨f0, f1, f2, f3⟩⟩ := blk50 LI9.out.kb))
            rw [HT.out]
            exact bodyPost_ret (results_cell_row rfl _ _ b 50 #[.string e0.f0, .int .u16 e0.f1, .string e0.f2, .slice A2 e0.f3.length c2] (0, 0) _ rfl (put50_blk LI9.out.kb) Tryd.underlying50 rfl (by kernel_rfl)) rfl (post_new (e := e0) (base := _) LI9.out.st LI9.out.kp n1 (by have := HEb.out; omega) hw0 HR9.out HL9.out)
      · rw [if_neg hp] at h
        obtain ⟨q3, q4⟩ := strne hp
        (obtain ⟨he, ht⟩ := Prod.mk.inj (Option.some.inj h); obtain rfl : e0 = e := he; have HT := Aside0.mk (show u = ⟨l, if k = 0 then 2 else k, o⟩ from ht.symm); clear ht h)
        clear h1 h2 h3 h4 hd hp
        go_enter Tryd.func173, Tryd.ntmps173
        go_wp2_with (first | ((with_reducible refine gate_dst (N := 2) rfl ?_); refine box_event ?hg (N := 2) ?hd (cs := #[.string (⟨#[]⟩ : ByteArray), .int .u16 0, .string (⟨#[]⟩ : ByteArray), .slice none 0 0]) (t := 50) ?hr ?_; (case hd => rfl); (case hg => rfl); (case hr => first | (go_simp; done) | (go_simp; rfl)); intro b hg w1 hbox hb; have HWb := Aside0.mk hb; have BKb := Aside0.mk hbox; have HEb := Aside0.mk hg; obtain ⟨⟨x0, x1, x2, x3⟩, ⟨f0, f1, f2, f3⟩⟩ := blk50 hbox; have HS1 := Aside0.mk (HS.out.below hb); have n1 : g ≠ b := (by omega); have n2 : b ≠ g := (by omega); obtain ⟨Az, cz, zl, zk, zo, gl, gk, go⟩ := St_cells HS1.out; clear hb hbox hg) | (go_at_call 154; refine (skip_calls HS1.out).mono ?_; rintro e' w2 ⟨rfl, hS2, hK2⟩; have BK2 := Aside0.mk (hK2.blk BKb.out n2 (by simp)); have HS2 := Aside0.mk hS2; have HK2 := Aside0.mk hK2; have hlt2 := blk_lt BK2.out; have hglt2 := hS2.lt; clear hS2 hK2 zl zk zo gl gk go x0 x1 x2 x3 f0 f1 f2 f3) | ((with_reducible refine gate_dst (N := 3) rfl ?_); refine box_event ?hg (N := 3) ?hd (cs := #[.int .i64 0, .string (⟨#[]⟩ : ByteArray), .int .u16 0]) (t := 41) ?hr ?_; (case hd => rfl); (case hg => rfl); (case hr => first | (go_simp; done) | (go_simp; rfl)); intro q hq w3 hbox hb; have HW3 := Aside0.mk hb; have BQ3 := Aside0.mk hbox; have HE3 := Aside0.mk hq; have n3 : g ≠ q := (by omega); have n4 : q ≠ g := (by omega); have n5 : b ≠ q := (by omega); have n6 : q ≠ b := (by omega); obtain ⟨⟨x0, x1, x2⟩, ⟨f0, f1, f2⟩⟩ := blk41 hbox; clear hb hbox hq) | ((with_reducible refine gate_store (t := 41) (p := 3) rfl ?_); refine store_event (t := 41) (p := 3) (v := ?vo) ?hg ?ho ?hN (w1 := put41 w3 q (.int .i64 t.f0) (.string t.f1) (.int .u16 t.f2)) ?hr ?_; (case ho => rfl); (case hg => rfl); (case hN => rfl); (case hr => first | (go_simp; done) | (go_simp; rfl)); intro w4 hw4; have hb4 := (show Below w2.heap.size w2 w4 from (by rw [hw4]; exact below_put41 HW3.out (by have := HE3.out; omega))); have AI4 := Aside0.mk (show AI w0 w w4 g b q t ⟨l, k, o⟩ from ⟨blk_below BK2.out hb4, (by rw [hw4]; exact put41_blk BQ3.out), HS2.out.below hb4, ((KeepBut.of_below HWb.out g none).trans HK2.out (.inl rfl)).trans (KeepBut.of_below hb4 g none) (.inl rfl)⟩); obtain ⟨⟨y0, y1, y2⟩, _⟩ := blk41 AI4.out.kq; obtain ⟨⟨z0, z1, z2, z3⟩, ⟨p0, p1, p2, p3⟩⟩ := blk50 AI4.out.kb; clear hb4 hw4 x0 x1 x2 f0 f1 f2) | (go_at_call 192; refine (fail_calls' (St.below AI4.out.st (by first | exact Below.refl _ _ | exact pw_below_drewN (Below.refl _ _) _)) 2).mono ?_; rintro e' w6 ⟨A2, c2, rfl, hR, hS6, hK6⟩; have AI6 := Aside0.mk ((AI4.out.below (by first | exact Below.refl _ _ | exact pw_below_drewN (Below.refl _ _) _)).keep (u := ⟨l, if k = 0 then 2 else k, o⟩) hK6 hS6 n2 n4); have HR6 := Aside0.mk hR; have HL6 := Aside0.mk (show b < _ from blk_lt (AI4.out.below (by first | exact Below.refl _ _ | exact pw_below_drewN (Below.refl _ _) _)).kb); clear hS6 hK6 hR z0 z1 z2 z3 p0 p1 p2 p3; obtain ⟨⟨z0, z1, z2, z3⟩, ⟨p0, p1, p2, p3⟩⟩ := blk50 AI6.out.kb))
        rw [HT.out]; exact bodyPost_ret (results_cell_row rfl _ _ b 50 #[.string e0.f0, .int .u16 e0.f1, .string e0.f2, .slice A2 e0.f3.length c2] (0, 0) _ rfl (put50_blk AI6.out.kb) Tryd.underlying50 rfl (by kernel_rfl)) rfl (post_new (e := e0) (base := _) AI6.out.st AI6.out.kp n1 (by have := HEb.out; omega) hw0 HR6.out HL6.out)
    · rw [if_neg h4] at h
      have d4 : (t.f0 == 4) = false := beq_eq_false_iff_ne.mpr h4
      (obtain ⟨he, ht⟩ := Prod.mk.inj (Option.some.inj h); obtain rfl : e0 = e := he; have HT := Aside0.mk (show u = ⟨l, if k = 0 then 2 else k, o⟩ from ht.symm); clear ht h)
      clear h1 h2 h3 h4
      go_enter Tryd.func173, Tryd.ntmps173
      go_wp2_with (first | ((with_reducible refine gate_dst (N := 2) rfl ?_); refine box_event ?hg (N := 2) ?hd (cs := #[.string (⟨#[]⟩ : ByteArray), .int .u16 0, .string (⟨#[]⟩ : ByteArray), .slice none 0 0]) (t := 50) ?hr ?_; (case hd => rfl); (case hg => rfl); (case hr => first | (go_simp; done) | (go_simp; rfl)); intro b hg w1 hbox hb; have HWb := Aside0.mk hb; have BKb := Aside0.mk hbox; have HEb := Aside0.mk hg; obtain ⟨⟨x0, x1, x2, x3⟩, ⟨f0, f1, f2, f3⟩⟩ := blk50 hbox; have HS1 := Aside0.mk (HS.out.below hb); have n1 : g ≠ b := (by omega); have n2 : b ≠ g := (by omega); obtain ⟨Az, cz, zl, zk, zo, gl, gk, go⟩ := St_cells HS1.out; clear hb hbox hg) | (go_at_call 154; refine (skip_calls HS1.out).mono ?_; rintro e' w2 ⟨rfl, hS2, hK2⟩; have BK2 := Aside0.mk (hK2.blk BKb.out n2 (by simp)); have HS2 := Aside0.mk hS2; have HK2 := Aside0.mk hK2; have hlt2 := blk_lt BK2.out; have hglt2 := hS2.lt; clear hS2 hK2 zl zk zo gl gk go x0 x1 x2 x3 f0 f1 f2 f3) | ((with_reducible refine gate_dst (N := 3) rfl ?_); refine box_event ?hg (N := 3) ?hd (cs := #[.int .i64 0, .string (⟨#[]⟩ : ByteArray), .int .u16 0]) (t := 41) ?hr ?_; (case hd => rfl); (case hg => rfl); (case hr => first | (go_simp; done) | (go_simp; rfl)); intro q hq w3 hbox hb; have HW3 := Aside0.mk hb; have BQ3 := Aside0.mk hbox; have HE3 := Aside0.mk hq; have n3 : g ≠ q := (by omega); have n4 : q ≠ g := (by omega); have n5 : b ≠ q := (by omega); have n6 : q ≠ b := (by omega); obtain ⟨⟨x0, x1, x2⟩, ⟨f0, f1, f2⟩⟩ := blk41 hbox; clear hb hbox hq) | ((with_reducible refine gate_store (t := 41) (p := 3) rfl ?_); refine store_event (t := 41) (p := 3) (v := ?vo) ?hg ?ho ?hN (w1 := put41 w3 q (.int .i64 t.f0) (.string t.f1) (.int .u16 t.f2)) ?hr ?_; (case ho => rfl); (case hg => rfl); (case hN => rfl); (case hr => first | (go_simp; done) | (go_simp; rfl)); intro w4 hw4; have hb4 := (show Below w2.heap.size w2 w4 from (by rw [hw4]; exact below_put41 HW3.out (by have := HE3.out; omega))); have AI4 := Aside0.mk (show AI w0 w w4 g b q t ⟨l, k, o⟩ from ⟨blk_below BK2.out hb4, (by rw [hw4]; exact put41_blk BQ3.out), HS2.out.below hb4, ((KeepBut.of_below HWb.out g none).trans HK2.out (.inl rfl)).trans (KeepBut.of_below hb4 g none) (.inl rfl)⟩); obtain ⟨⟨y0, y1, y2⟩, _⟩ := blk41 AI4.out.kq; obtain ⟨⟨z0, z1, z2, z3⟩, ⟨p0, p1, p2, p3⟩⟩ := blk50 AI4.out.kb; clear hb4 hw4 x0 x1 x2 f0 f1 f2) | (go_at_call 192; refine (fail_calls' (St.below AI4.out.st (by first | exact Below.refl _ _ | exact pw_below_drewN (Below.refl _ _) _)) 2).mono ?_; rintro e' w6 ⟨A2, c2, rfl, hR, hS6, hK6⟩; have AI6 := Aside0.mk ((AI4.out.below (by first | exact Below.refl _ _ | exact pw_below_drewN (Below.refl _ _) _)).keep (u := ⟨l, if k = 0 then 2 else k, o⟩) hK6 hS6 n2 n4); have HR6 := Aside0.mk hR; have HL6 := Aside0.mk (show b < _ from blk_lt (AI4.out.below (by first | exact Below.refl _ _ | exact pw_below_drewN (Below.refl _ _) _)).kb); clear hS6 hK6 hR z0 z1 z2 z3 p0 p1 p2 p3; obtain ⟨⟨z0, z1, z2, z3⟩, ⟨p0, p1, p2, p3⟩⟩ := blk50 AI6.out.kb))
      rw [HT.out]; exact bodyPost_ret (results_cell_row rfl _ _ b 50 #[.string e0.f0, .int .u16 e0.f1, .string e0.f2, .slice A2 e0.f3.length c2] (0, 0) _ rfl (put50_blk AI6.out.kb) Tryd.underlying50 rfl (by kernel_rfl)) rfl (post_new (e := e0) (base := _) AI6.out.st AI6.out.kp n1 (by have := HEb.out; omega) hw0 HR6.out HL6.out)
theorem all_calls (n : Nat) : (∀ m, m ≤ n → WithinAt m) ∧ (∀ m, m ≤ n → AtomAt m) ∧ (∀ m, m ≤ n → UnaryAt m) ∧ (∀ m, m ≤ n → BinAt m) := by
  induction n with
  | zero =>
    refine ⟨fun m hm => ?_, fun m hm => ?_, fun m hm => ?_, fun m hm => ?_⟩ <;> obtain rfl : m = 0 := by omega
    · intro r s e t w0 w g h; rw [withinP] at h; cases h
    · intro s e t w0 w g h; rw [atomP] at h; cases h
    · intro r s e t w0 w g h; rw [unaryP] at h; cases h
    · intro r s e t w0 w g h; rw [binP] at h; cases h
  | succ n ih =>
    obtain ⟨iw, ia, iu, ib⟩ := ih
    refine ⟨fun m hm => ?_, fun m hm => ?_, fun m hm => ?_, fun m hm => ?_⟩
    · rcases Nat.lt_or_ge m (n + 1) with h | h
      · exact iw m (by omega)
      · obtain rfl : m = n + 1 := by omega
        exact within_calls n (ib n (Nat.le_refl _))
    · rcases Nat.lt_or_ge m (n + 1) with h | h
      · exact ia m (by omega)
      · obtain rfl : m = n + 1 := by omega
        exact atom_calls n (iw n (Nat.le_refl _))
    · rcases Nat.lt_or_ge m (n + 1) with h | h
      · exact iu m (by omega)
      · obtain rfl : m = n + 1 := by omega
        exact unary_calls n (iw n (Nat.le_refl _)) (ia n (Nat.le_refl _)) (ib n (Nat.le_refl _))
    · rcases Nat.lt_or_ge m (n + 1) with h | h
      · exact ib m (by omega)
      · obtain rfl : m = n + 1 := by omega
        exact binary_calls n (iu n (Nat.le_refl _)) ib
theorem bin_all (n : Nat) : BinAt n := (all_calls n).2.2.2 n (Nat.le_refl _)
end Go.Proofs.YtejhagejjogbaaaDoor.PsrH
end
