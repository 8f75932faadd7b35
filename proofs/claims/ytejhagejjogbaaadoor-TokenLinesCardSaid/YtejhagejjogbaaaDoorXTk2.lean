import Derived.Test.YtejhagejjogbaaaDoorXTk1
namespace Go.Proofs.YtejhagejjogbaaaDoor.Tk
open Go.RowKit Go.Proofs.YtejhagejjogbaaaDoor.Given Go.Proofs.YtejhagejjogbaaaDoor.Pn Go.Proofs.YtejhagejjogbaaaDoor.Pa Go.Proofs.YtejhagejjogbaaaDoor.Pb Go.Proofs.YtejhagejjogbaaaDoor.Num Go.Proofs.YtejhagejjogbaaaDoor.TokSpan Go.Proofs.YtejhagejjogbaaaDoorW.PrintWords Go.Proofs.YtejhagejjogbaaaDoorW.PrintLast
set_option linter.unusedSimpArgs false
set_option linter.unusedVariables false
theorem lett_all : ∀ c : Fin 256, pidginref03_Letter.f ((c.val : Nat) : Int) = some (begB (UInt8.ofNat c.val)) := by decide +kernel
theorem lett_at (c : UInt8) : pidginref03_Letter.f (c.toNat : Int) = some (begB c) := by
  have := lett_all ⟨c.toNat, c.toNat_lt⟩
  simpa using this
theorem tail_all : ∀ c : Fin 256, pidginref04_tail.f ((c.val : Nat) : Int) = some (p1 (UInt8.ofNat c.val)) := by decide +kernel
theorem tail_at (c : UInt8) : pidginref04_tail.f (c.toNat : Int) = some (p1 c) := by
  have := tail_all ⟨c.toNat, c.toNat_lt⟩
  simpa using this
theorem alnum_all : ∀ c : Fin 256, pidginref04_alnum.f ((c.val : Nat) : Int) = some (p2 (UInt8.ofNat c.val)) := by decide +kernel
theorem alnum_at (c : UInt8) : pidginref04_alnum.f (c.toNat : Int) = some (p2 c) := by
  have := alnum_all ⟨c.toNat, c.toNat_lt⟩
  simpa using this
theorem mark_all : ∀ c : Fin 256, pidginref04_mark.f 40 ((c.val : Nat) : Int) = some (markB (UInt8.ofNat c.val)) := by decide +kernel
theorem mark_at (c : UInt8) : Ev (fun k => pidginref04_mark.f k (c.toNat : Int)) (markB c) := by
  have := mark_all ⟨c.toNat, c.toNat_lt⟩
  refine Ev.of (pidginref04_mark.mono _) (k := 40) ?_
  simpa using this
theorem next_l0 (x : ByteArray) (hs : x.size ≤ 1000) (d : Nat) : ∀ i : Nat, i + d = x.size → ((L x).take i).all p1 = true →
    Ev (fun k => pidginref04_next.l0 k x (i : Int)) (if 16 < ((L x).takeWhile p1).length then (0, ⟨#[]⟩, 0, 0, 11) else (1, ⟨(((L x).take ((L x).takeWhile p1).length).map up1).toArray⟩, 0, (((L x).takeWhile p1).length : Nat), 0)) := by
  have fin (i : Nat) (hi : i ≤ x.size) (he : ((L x).takeWhile p1).length = i) : Ev (fun k => (pidginref03_Upper.f k (x.extract 0 ((i : Int)).toNat)).bind fun t => some ((1 : Int), t, (0 : Int), (i : Int), (0 : Int))) (1, ⟨(((L x).take i).map up1).toArray⟩, 0, (i : Nat), 0) := by
    rw [Int.toNat_natCast]
    refine Ev.bind (ref_upper _ (by rw [ext_size x _ hi]; omega)) ?_
    rw [upB_eq, L_take]
    exact Ev.now _
  induction d with
  | zero =>
    intro i hi ha
    have he : ((L x).takeWhile p1).length = i := by
      rw [List.take_of_length_le (by rw [L_len]; omega)] at ha
      rw [span_end ha, L_len]; omega
    refine Ev.step (fun k => rfl) ?_
    simp only [pidginref04_next.l0, he]
    by_cases h16 : 16 < i
    · simp only [if_neg (show ¬ (i : Int) < (x.size : Int) by omega), if_pos (show (i : Int) > 16 by omega), if_pos h16]; exact Ev.now _
    · simp only [if_neg (show ¬ (i : Int) < (x.size : Int) by omega), if_neg (show ¬ (i : Int) > 16 by omega), if_neg h16, if_pos (show (0 : Int) ≤ (i : Int) by omega), if_pos (show (i : Int) ≤ (x.size : Int) by omega)]
      exact fin i (by omega) he
  | succ d ih =>
    intro i hi ha
    have hl : i < (L x).length := by rw [L_len]; omega
    refine Ev.step (fun k => rfl) ?_
    simp only [pidginref04_next.l0]
    simp only [if_pos (show (i : Int) < (x.size : Int) by omega), if_pos (show (0 : Int) ≤ (i : Int) by omega), bt_L x i hl, tail_at, Option.bind_some, inc_w (show i ≤ 140737488351300 by omega)]
    cases hp : p1 (L x)[i] with
    | true =>
      simp only [if_true]
      exact ih (i + 1) (by omega) (take_all ha hl hp)
    | false =>
      have he := span_at ha hl hp
      simp only [Bool.false_eq_true, if_false, he]
      by_cases h16 : 16 < i
      · simp only [if_pos (show (i : Int) > 16 by omega), if_pos h16]; exact Ev.now _
      · simp only [if_neg (show ¬ (i : Int) > 16 by omega), if_neg h16, if_pos (show (i : Int) ≤ (x.size : Int) by omega)]
        exact fin i (by omega) he
theorem next_l1 (x : ByteArray) (hs : x.size ≤ 1000) (d : Nat) : ∀ i : Nat, i + d = x.size → ((L x).take i).all p2 = true →
    Ev (fun k => pidginref04_next.l1 k x (i : Int)) (2, ⟨#[]⟩, (parseL (((L x).take ((L x).takeWhile p2).length).map up1)).1, (((L x).takeWhile p2).length : Nat), (parseL (((L x).take ((L x).takeWhile p2).length).map up1)).2) := by
  have fin (i : Nat) (hi : i ≤ x.size) : Ev (fun k => (pidginref03_Parse.f k (x.extract 0 ((i : Int)).toNat)).bind fun t => some ((2 : Int), (⟨#[]⟩ : ByteArray), t.1, (i : Int), t.2)) (2, ⟨#[]⟩, (parseL (((L x).take i).map up1)).1, (i : Nat), (parseL (((L x).take i).map up1)).2) := by
    rw [Int.toNat_natCast]
    refine Ev.bind (ref_parse _ (by rw [ext_size x _ hi]; omega)) ?_
    rw [L_up', L_take]
    exact Ev.now _
  induction d with
  | zero =>
    intro i hi ha
    have he : ((L x).takeWhile p2).length = i := by
      rw [List.take_of_length_le (by rw [L_len]; omega)] at ha
      rw [span_end ha, L_len]; omega
    refine Ev.step (fun k => rfl) ?_
    simp only [pidginref04_next.l1, he]
    simp only [if_neg (show ¬ (i : Int) < (x.size : Int) by omega), if_pos (show (0 : Int) ≤ (i : Int) by omega), if_pos (show (i : Int) ≤ (x.size : Int) by omega)]
    exact fin i (by omega)
  | succ d ih =>
    intro i hi ha
    have hl : i < (L x).length := by rw [L_len]; omega
    refine Ev.step (fun k => rfl) ?_
    simp only [pidginref04_next.l1]
    simp only [if_pos (show (i : Int) < (x.size : Int) by omega), if_pos (show (0 : Int) ≤ (i : Int) by omega), bt_L x i hl, alnum_at, Option.bind_some, inc_w (show i ≤ 140737488351300 by omega)]
    cases hp : p2 (L x)[i] with
    | true =>
      simp only [if_true]
      exact ih (i + 1) (by omega) (take_all ha hl hp)
    | false =>
      have he := span_at ha hl hp
      simp only [Bool.false_eq_true, if_false, he, if_pos (show (i : Int) ≤ (x.size : Int) by omega)]
      exact fin i (by omega)
theorem next_l2 (x : ByteArray) (hs : x.size ≤ 1000) (d : Nat) : ∀ i : Nat, i ≤ x.size → x.size - i ≤ d →
    Ev (fun k => pidginref04_next.l2 k x (i : Int)) (match qlen ((L x).drop i) with | none => (0, ⟨#[]⟩, 0, 0, 2) | some m => (3, ⟨(unqL ((L x).take (i + m))).1.toArray⟩, 0, ((i + m : Nat) : Int), (unqL ((L x).take (i + m))).2)) := by
  have fin (n : Nat) (hn : n ≤ x.size) : Ev (fun k => (pidginref03_Unquote.f k (x.extract 0 ((n : Int)).toNat)).bind fun t => some ((3 : Int), t.1, (0 : Int), (n : Int), t.2)) (3, ⟨(unqL ((L x).take n)).1.toArray⟩, 0, (n : Int), (unqL ((L x).take n)).2) := by
    rw [Int.toNat_natCast]
    refine Ev.bind (ref_unquote _ (by rw [ext_size x _ hn]; omega)) ?_
    rw [L_take]
    exact Ev.now _
  induction d using Nat.strongRecOn with
  | _ d ih =>
    intro i hi hd
    refine Ev.step (fun k => rfl) ?_
    simp only [pidginref04_next.l2]
    by_cases hlt : i < x.size
    · have hl : i < (L x).length := by rw [L_len]; omega
      have e1 : wrap64 ((i : Int) + 1) = ((i + 1 : Nat) : Int) := inc_w (show i ≤ 140737488351300 by omega)
      have e2 : wrap64 ((i : Int) + 2) = ((i + 2 : Nat) : Int) := by rw [w64 (by omega) (by omega)]; omega
      simp only [if_pos (show (i : Int) < (x.size : Int) by omega), if_pos (show (0 : Int) ≤ (i : Int) by omega), bt_L x i hl, eq39, e1, e2]
      rw [drop_cons hl]
      by_cases h9 : (L x)[i] = 39
      · simp only [h9, if_true, if_pos (show (0 : Int) ≤ ((i + 1 : Nat) : Int) by omega), if_pos (show ((i + 1 : Nat) : Int) ≤ (x.size : Int) by omega)]
        by_cases hlt2 : i + 1 < x.size
        · have hl2 : i + 1 < (L x).length := by rw [L_len]; omega
          simp only [if_pos (show ((i + 1 : Nat) : Int) < (x.size : Int) by omega), bt_L x (i + 1) hl2, eq39]
          rw [drop_cons hl2, qlen, if_pos rfl]
          by_cases h9' : (L x)[i + 1] = 39
          · simp only [h9', if_true]
            have := ih (x.size - (i + 2)) (by omega) (i + 2) (by omega) (Nat.le_refl _)
            revert this
            rw [show i + 1 + 1 = i + 2 by omega]
            generalize qlen ((L x).drop (i + 2)) = o
            cases o with
            | none => intro h; exact h
            | some m =>
              intro h
              simp only [Option.map_some]
              rw [show i + (m + 2) = i + 2 + m by omega]
              exact h
          · simp only [h9', if_false]
            exact fin (i + 1) (by omega)
        · simp only [if_neg (show ¬ ((i + 1 : Nat) : Int) < (x.size : Int) by omega)]
          rw [List.drop_eq_nil_of_le (by rw [L_len]; omega)]
          exact fin (i + 1) (by omega)
      · simp only [if_neg h9]
        rw [qlen_ne h9]
        have := ih (x.size - (i + 1)) (by omega) (i + 1) (by omega) (Nat.le_refl _)
        revert this
        generalize qlen ((L x).drop (i + 1)) = o
        cases o with
        | none => intro h; exact h
        | some m =>
          intro h
          simp only [Option.map_some]
          rw [show i + (m + 1) = i + 1 + m by omega]
          exact h
    · rw [List.drop_eq_nil_of_le (by rw [L_len]; omega)]
      simp only [if_neg (show ¬ (i : Int) < (x.size : Int) by omega), qlen]
      exact Ev.now _
theorem digB_at : ∀ c : Fin 256, (decide (((c.val : Nat) : Int) ≥ 48) && decide (((c.val : Nat) : Int) ≤ 57)) = digB (UInt8.ofNat c.val) := by decide +kernel
theorem digB_at' (c : UInt8) : (decide ((c.toNat : Int) ≥ 48) && decide ((c.toNat : Int) ≤ 57)) = digB c := by
  have := digB_at ⟨c.toNat, c.toNat_lt⟩
  simpa using this
theorem beg_p1 (c : UInt8) (h : begB c = true) : p1 c = true := by simp [p1, h]
theorem dig_p2 (c : UInt8) (h : digB c = true) : p2 c = true := by simp [p2, h]
theorem next_ev (x : ByteArray) (h0 : 0 < x.size) (hs : x.size ≤ 1000) : Ev (fun k => pidginref04_next.f k x) (firstL (L x)) := by
  have hL := L_len x
  have hb0 := bt_L x 0 (by rw [L_len]; exact h0)
  cases hx : L x with
  | nil => rw [hx] at hL; simp at hL; omega
  | cons c t =>
    have b0 : bt x 0 = (c.toNat : Int) := by
      simp only [hx, List.getElem_cons_zero] at hb0
      exact hb0
    have hne : begB c = false → Ev (fun k => pidginref04_next.j1 k x 1 (digB c)) (firstL (c :: t)) := by
      intro hb
      refine Ev.step (fun k => rfl) ?_
      simp only [pidginref04_next.j1, firstL, hb, Bool.false_eq_true, if_false]
      cases hd : digB c with
      | true =>
        simp only [if_true, ← hx]
        exact next_l1 x hs (x.size - 1) 1 (by omega) (by rw [hx]; simp [dig_p2 c hd])
      | false =>
        simp only [Bool.false_eq_true, if_false, if_pos (show (0 : Int) < (x.size : Int) by omega), b0, eq39]
        by_cases h9 : c = 39
        · simp only [h9, if_true]
          have hq := next_l2 x hs _ 1 (by omega) (Nat.le_refl _)
          rw [show (L x).drop 1 = t by rw [hx]; rfl] at hq
          revert hq
          rw [hx, h9]
          generalize qlen t = o
          cases o with
          | none => intro h; exact h
          | some m =>
            intro h
            simp only [Nat.add_comm 1 m] at h
            exact h
        · simp only [if_neg h9]
          refine Ev.bind (mark_at c) ?_
          cases hm : markB c with
          | true =>
            have e4 : x.extract 0 1 = ⟨#[c]⟩ := L_inj (by rw [L_take, hx]; rfl)
            simp only [if_true, if_pos (show (1 : Int) ≤ (x.size : Int) by omega), e4]
            exact Ev.now _
          | false =>
            simp only [Bool.false_eq_true, if_false]
            exact Ev.now _
    unfold pidginref04_next.f
    simp only [if_pos (show (0 : Int) < (x.size : Int) by omega), b0, lett_at, Option.bind_some]
    cases hb : begB c with
    | true =>
      have := next_l0 x hs (x.size - 1) 1 (by omega) (by rw [hx]; simp [beg_p1 c hb])
      simp only [if_true, firstL, hb, ← hx]
      exact this
    | false =>
      simp only [Bool.false_eq_true, if_false]
      have key := hne hb
      rw [← digB_at' c] at key
      by_cases h48 : (c.toNat : Int) ≥ 48
      · simp only [if_pos h48]
        simp only [decide_eq_true h48, Bool.true_and] at key
        exact key
      · simp only [if_neg h48]
        simp only [decide_eq_false h48, Bool.false_and] at key
        exact key
end Go.Proofs.YtejhagejjogbaaaDoor.Tk
