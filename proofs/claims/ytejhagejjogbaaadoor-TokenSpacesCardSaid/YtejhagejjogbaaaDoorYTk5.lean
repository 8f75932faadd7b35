import Derived.Test.YtejhagejjogbaaaDoorYTk3
namespace Go.Proofs.YtejhagejjogbaaaDoor.Tk
open Go.RowKit Go.Proofs.YtejhagejjogbaaaDoor.Given Go.Proofs.YtejhagejjogbaaaDoor.Pn Go.Proofs.YtejhagejjogbaaaDoor.Pa Go.Proofs.YtejhagejjogbaaaDoor.Pb Go.Proofs.YtejhagejjogbaaaDoor.Pc Go.Proofs.YtejhagejjogbaaaDoor.Num Go.Proofs.YtejhagejjogbaaaDoor.TokSpan Go.Proofs.YtejhagejjogbaaaDoorW.PrintWords Go.Proofs.YtejhagejjogbaaaDoorW.PrintLast
set_option linter.unusedSimpArgs false
set_option linter.unusedVariables false
theorem tw_sep {p : UInt8 → Bool} {s : UInt8} (hp : p s = false) (r : List UInt8) : ∀ l : List UInt8, (l ++ s :: r).takeWhile p = l.takeWhile p
  | [] => by simp [List.takeWhile_cons, hp]
  | c :: t => by
    rw [List.cons_append, List.takeWhile_cons, List.takeWhile_cons, tw_sep hp r t]
theorem qlen_sep {s : UInt8} (hs : s ≠ 39) (r : List UInt8) : ∀ (t : List UInt8) (m : Nat), qlen t = some m → qlen (t ++ s :: r) = some m
  | [], m, h => by simp [qlen] at h
  | [c], m, h => by
    rw [qlen] at h
    split at h
    · rename_i hc
      obtain rfl := Option.some.inj h
      rw [List.cons_append, List.nil_append, qlen, if_pos hc, if_neg hs]
    · cases h
  | c :: d :: t, m, h => by
    rw [qlen] at h
    rw [List.cons_append, List.cons_append, qlen]
    split at h
    · rename_i hc
      rw [if_pos hc]
      split at h
      · rename_i hd
        obtain ⟨a, ha, rfl⟩ := Option.map_eq_some_iff.1 h
        rw [if_pos hd, qlen_sep hs r t a ha]; rfl
      · rename_i hd
        rw [if_neg hd]; exact h
    · rename_i hc
      obtain ⟨a, ha, rfl⟩ := Option.map_eq_some_iff.1 h
      rw [if_neg hc, ← List.cons_append, qlen_sep hs r (d :: t) a ha]; rfl
theorem first_sep {s : UInt8} (h1 : p1 s = false) (h2 : p2 s = false) (h3 : s ≠ 39) (r : List UInt8) (c : UInt8) (t : List UInt8) (h : (firstL (c :: t)).2.2.2.2 = 0) : firstL ((c :: t) ++ s :: r) = firstL (c :: t) := by
  have e1 := tw_sep h1 r (c :: t)
  have e2 := tw_sep h2 r (c :: t)
  have l1 := tw_le p1 (c :: t)
  have l2 := tw_le p2 (c :: t)
  rw [List.cons_append] at e1 e2
  rw [List.cons_append]
  unfold firstL at h ⊢
  simp only at h ⊢
  have tk (n : Nat) (hn : n ≤ (c :: t).length) : (c :: (t ++ s :: r)).take n = (c :: t).take n := by
    rw [← List.cons_append, List.take_append_of_le_length hn]
  rw [e1, e2, tk _ l1, tk _ l2]
  split at h
  · rename_i hb
    rw [if_pos hb, if_pos hb]
  · rename_i hb
    rw [if_neg hb, if_neg hb]
    split at h
    · rename_i hd
      rw [if_pos hd, if_pos hd]
    · rename_i hd
      rw [if_neg hd, if_neg hd]
      split at h
      · rename_i h9
        rw [if_pos h9, if_pos h9]
        cases hq : qlen t with
        | none => rw [hq] at h; cases h
        | some m =>
          have := qlen_le t m hq
          rw [qlen_sep h3 r t m hq]
          simp only
          rw [tk (m + 1) (by simp; omega)]
      · rename_i h9
        rw [if_neg h9, if_neg h9]
theorem sep32 : p1 32 = false ∧ p2 32 = false ∧ (32 : UInt8) ≠ 39 := by decide
theorem sep59 : p1 59 = false ∧ p2 59 = false ∧ (59 : UInt8) ≠ 39 := by decide
theorem toks_gap {n : Nat} {c : UInt8} {t : List UInt8} (h : c = 32 ∨ c = 9) : toks (n + 1) (c :: t) = toks n t := by
  show (if c = 32 ∨ c = 9 then toks n t else _) = _
  rw [if_pos h]
theorem toks_59 {n : Nat} {t : List UInt8} : toks (n + 1) (59 :: t) = ([], 0) := by
  show (if (59 : UInt8) = 32 ∨ (59 : UInt8) = 9 then toks n t else if (59 : UInt8) = 59 then ([], 0) else _) = _
  rw [if_neg (by decide), if_pos rfl]
theorem toks_else {n : Nat} {c : UInt8} {t : List UInt8} (h1 : ¬ (c = 32 ∨ c = 9)) (h2 : c ≠ 59) : toks (n + 1) (c :: t) =
    if (firstL (c :: t)).2.2.2.2 = 0 then
      (if (toks n ((c :: t).drop (firstL (c :: t)).2.2.2.1.toNat)).2 = 0 then (tk (firstL (c :: t)) :: (toks n ((c :: t).drop (firstL (c :: t)).2.2.2.1.toNat)).1, 0) else ([], (toks n ((c :: t).drop (firstL (c :: t)).2.2.2.1.toNat)).2))
    else ([], (firstL (c :: t)).2.2.2.2) := by
  show (if c = 32 ∨ c = 9 then toks n t else if c = 59 then ([], 0) else _) = _
  rw [if_neg h1, if_neg h2]
theorem toks_one {n : Nat} {c : UInt8} {t : List UInt8} (h1 : ¬ (c = 32 ∨ c = 9)) (h2 : c ≠ 59) (h : (toks (n + 1) (c :: t)).2 = 0) :
    ∃ q : Nat, (firstL (c :: t)).2.2.2.2 = 0 ∧ (firstL (c :: t)).2.2.2.1 = (q : Int) ∧ 1 ≤ q ∧ q ≤ (c :: t).length ∧ (toks n ((c :: t).drop q)).2 = 0 ∧
      toks (n + 1) (c :: t) = (tk (firstL (c :: t)) :: (toks n ((c :: t).drop q)).1, 0) := by
  rw [toks_else h1 h2] at h ⊢
  split at h
  · rename_i h3
    obtain ⟨q, e, h4, h5⟩ := first_len c t h3
    rw [e, Int.toNat_natCast] at h
    split at h
    · rename_i h6
      refine ⟨q, h3, e, h4, h5, h6, ?_⟩
      rw [if_pos h3, e, Int.toNat_natCast, if_pos h6]
    · rename_i h6; exact absurd h h6
  · rename_i h3; exact absurd h h3
theorem toks_semi (n : Nat) : ∀ (b r : List UInt8) (N : Nat), b.length ≤ n → b.length + 1 + r.length ≤ N → (toks n b).2 = 0 → toks N (b ++ 59 :: r) = toks n b := by
  induction n with
  | zero =>
    intro b r N hb hN _
    obtain rfl : b = [] := List.length_eq_zero_iff.1 (by omega)
    cases N with
    | zero => omega
    | succ N => rw [List.nil_append, toks_59]; rfl
  | succ n ih =>
    intro b r N hb hN h
    cases N with
    | zero => omega
    | succ N =>
      cases b with
      | nil => rw [List.nil_append, toks_59]; rfl
      | cons c t =>
        simp only [List.length_cons] at hb hN
        by_cases h1 : c = 32 ∨ c = 9
        · have e : toks (n + 1) (c :: t) = toks n t := toks_gap h1
          rw [e] at h ⊢
          rw [List.cons_append, toks_gap h1]
          exact ih t r N (by omega) (by omega) h
        · by_cases h2 : c = 59
          · subst h2
            rw [List.cons_append, toks_59, toks_59]
          · obtain ⟨q, f0, f1, f2, f3, f4, f5⟩ := toks_one h1 h2 h
            simp only [List.length_cons] at f3
            have e := first_sep sep59.1 sep59.2.1 sep59.2.2 r c t f0
            rw [f5, List.cons_append, toks_else h1 h2]
            rw [List.cons_append] at e
            rw [e, if_pos f0, f1, Int.toNat_natCast]
            have e2 : (c :: (t ++ 59 :: r)).drop q = (c :: t).drop q ++ 59 :: r := by
              rw [← List.cons_append, List.drop_append_of_le_length (by simp; omega)]
            rw [e2, ih ((c :: t).drop q) r N (by simp; omega) (by simp; omega) f4, if_pos f4]
theorem toks_sp (n : Nat) : ∀ (a r : List UInt8) (N : Nat), a.length ≤ n → a.length + 1 + r.length ≤ N → (∀ b ∈ a, b ≠ 59) → (toks n a).2 = 0 → (toks r.length r).2 = 0 →
    toks N (a ++ 32 :: r) = ((toks n a).1 ++ (toks r.length r).1, 0) := by
  induction n with
  | zero =>
    intro a r N ha hN _ _ hr
    obtain rfl : a = [] := List.length_eq_zero_iff.1 (by omega)
    cases N with
    | zero => omega
    | succ N =>
      rw [List.nil_append, toks_gap (Or.inl rfl), toks_fuel N r.length r (by simp at hN; omega) (Nat.le_refl _)]
      show toks r.length r = ([] ++ _, 0)
      rw [List.nil_append, ← hr]
  | succ n ih =>
    intro a r N ha hN h59 h hr
    cases N with
    | zero => omega
    | succ N =>
      cases a with
      | nil =>
        rw [List.nil_append, toks_gap (Or.inl rfl), toks_fuel N r.length r (by simp at hN; omega) (Nat.le_refl _)]
        show toks r.length r = ([] ++ _, 0)
        rw [List.nil_append, ← hr]
      | cons c t =>
        simp only [List.length_cons] at ha hN
        have hc : c ≠ 59 := h59 c List.mem_cons_self
        by_cases h1 : c = 32 ∨ c = 9
        · have e : toks (n + 1) (c :: t) = toks n t := toks_gap h1
          rw [e] at h ⊢
          rw [List.cons_append, toks_gap h1]
          exact ih t r N (by omega) (by omega) (fun b hb => h59 b (List.mem_cons_of_mem _ hb)) h hr
        · obtain ⟨q, f0, f1, f2, f3, f4, f5⟩ := toks_one h1 hc h
          simp only [List.length_cons] at f3
          have e := first_sep sep32.1 sep32.2.1 sep32.2.2 r c t f0
          rw [f5, List.cons_append, toks_else h1 hc]
          rw [List.cons_append] at e
          rw [e, if_pos f0, f1, Int.toNat_natCast]
          have e2 : (c :: (t ++ 32 :: r)).drop q = (c :: t).drop q ++ 32 :: r := by
            rw [← List.cons_append, List.drop_append_of_le_length (by simp; omega)]
          rw [e2, ih ((c :: t).drop q) r N (by simp; omega) (by simp; omega) (fun b hb => h59 b (List.mem_of_mem_drop hb)) f4 hr, if_pos rfl]
          rfl
theorem spaces_end (a b c : ByteArray) (ha : a.size ≤ 60) (hb : b.size ≤ 60) (hc : c.size ≤ 60) (h59 : ∀ x ∈ L a, x ≠ 59) (h1 : (lineT a).2 = 0) (h2 : (lineT b).2 = 0) :
    lineT ((((((⟨#[32, 9]⟩ : ByteArray) ++ a) ++ (⟨#[32]⟩ : ByteArray)) ++ b) ++ (⟨#[59]⟩ : ByteArray)) ++ c) = ((lineT a).1 ++ (lineT b).1, 0) := by
  have hLa := L_len a
  have hLb := L_len b
  have hLc := L_len c
  have e : L ((((((⟨#[32, 9]⟩ : ByteArray) ++ a) ++ (⟨#[32]⟩ : ByteArray)) ++ b) ++ (⟨#[59]⟩ : ByteArray)) ++ c) = 32 :: 9 :: (L a ++ 32 :: (L b ++ 59 :: L c)) := by
    simp only [L_app, L_mk]
    simp
  generalize ((((((⟨#[32, 9]⟩ : ByteArray) ++ a) ++ (⟨#[32]⟩ : ByteArray)) ++ b) ++ (⟨#[59]⟩ : ByteArray)) ++ c) = x at e
  have hx : x.size = 2 + a.size + 1 + b.size + 1 + c.size := by
    rw [← L_len, e]; simp; omega
  unfold lineT at h1 h2 ⊢
  rw [if_neg (by omega)] at h1 h2 ⊢
  rw [if_neg (by omega), if_neg (by omega), e]
  obtain ⟨N, hN⟩ : ∃ N, x.size = N + 2 := ⟨x.size - 2, by omega⟩
  rw [hN, toks_gap (Or.inl rfl), toks_gap (Or.inr rfl)]
  have hq : toks (L b ++ 59 :: L c).length (L b ++ 59 :: L c) = toks b.size (L b) := toks_semi b.size (L b) (L c) _ (by omega) (by simp; omega) h2
  rw [toks_sp a.size (L a) (L b ++ 59 :: L c) N (by omega) (by simp; omega) h59 h1 (by rw [hq]; exact h2), hq]
theorem spaces_j2 (l m n : List S41) (k : Int) (b : Bool) (hl : l.length ≤ 200) (hm : m.length ≤ 200) (hn : b = false → n = l ++ m ∧ k = 0) :
    Ev (fun K => pidginlaw04_TokenSpaces.j2 K l m n k b) true := by
  refine Ev.step (fun k => rfl) ?_
  simp only [pidginlaw04_TokenSpaces.j2]
  cases b with
  | true => simp only [if_true]; exact alive4t
  | false =>
    obtain ⟨rfl, rfl⟩ := hn rfl
    simp only [Bool.false_eq_true, if_false, if_true]
    refine Ev.bind (back_ev _ (by simp; omega)) ?_
    simp only [Option.bind_some]
    refine Ev.bind (back_ev _ (by omega)) ?_
    simp only [List.length_nil, List.length_map, if_pos (show 0 + l.length < 4398046511104 by omega), List.nil_append]
    refine Ev.bind (back_ev _ (by omega)) ?_
    simp only [List.length_map, if_pos (show l.length + m.length < 4398046511104 by omega), ← List.map_append]
    refine Ev.bind (same_ev _ (by simp; omega)) ?_
    simp only [if_true]
    exact alive4t
theorem spaces_l0 (a b c : ByteArray) (ha : a.size ≤ 60) (hb : b.size ≤ 60) (hc : c.size ≤ 60) (d : Nat) : ∀ i : Nat, i + d = a.size → (∀ x ∈ (L a).take i, x ≠ 59) →
    Ev (fun k => pidginlaw04_TokenSpaces.l0 k a b c (i : Int)) true := by
  induction d with
  | zero =>
    intro i hi h59
    rw [List.take_of_length_le (by rw [L_len]; omega)] at h59
    refine Ev.step (fun k => rfl) ?_
    simp only [pidginlaw04_TokenSpaces.l0, if_neg (show ¬ (i : Int) < (a.size : Int) by omega)]
    refine Ev.bind (line_ev a) ?_
    refine Ev.bind (line_ev b) ?_
    simp only [ByteArray.size_append, show (⟨#[32, 9]⟩ : ByteArray).size = 2 from rfl, show (⟨#[32]⟩ : ByteArray).size = 1 from rfl, show (⟨#[59]⟩ : ByteArray).size = 1 from rfl]
    simp only [if_pos (show 2 + a.size ≤ 9223372036854775807 by omega), if_pos (show 2 + a.size + 1 ≤ 9223372036854775807 by omega), if_pos (show 2 + a.size + 1 + b.size ≤ 9223372036854775807 by omega), if_pos (show 2 + a.size + 1 + b.size + 1 ≤ 9223372036854775807 by omega), if_pos (show 2 + a.size + 1 + b.size + 1 + c.size ≤ 9223372036854775807 by omega)]
    refine Ev.bind (line_ev _) ?_
    have la := lineT_len a
    have lb := lineT_len b
    by_cases h1 : (lineT a).2 = 0
    · simp only [if_pos h1]
      refine spaces_j2 _ _ _ _ _ la lb fun h2 => ?_
      have h2' : (lineT b).2 = 0 := by simpa using h2
      rw [spaces_end a b c ha hb hc h59 h1 h2']
      exact ⟨rfl, rfl⟩
    · simp only [if_neg h1]
      exact spaces_j2 _ _ _ _ _ la lb (fun h => by cases h)
  | succ d ih =>
    intro i hi h59
    have hl : i < (L a).length := by rw [L_len]; omega
    refine Ev.step (fun k => rfl) ?_
    simp only [pidginlaw04_TokenSpaces.l0, if_pos (show (i : Int) < (a.size : Int) by omega), if_pos (show (0 : Int) ≤ (i : Int) by omega), bt_L a i hl, inc_w (show i ≤ 140737488351300 by omega)]
    by_cases h : ((L a)[i].toNat : Int) = 59
    · simp only [if_pos h]; exact alive4t
    · simp only [if_neg h]
      refine ih (i + 1) (by omega) ?_
      intro x hx
      rw [take_snoc' _ _ hl] at hx
      rcases List.mem_append.1 hx with hx | hx
      · exact h59 x hx
      · simp only [List.mem_singleton] at hx
        subst hx
        intro e
        rw [e] at h
        exact h rfl
theorem TokenSpaces_ev (a b c : ByteArray) : Ev (fun k => pidginlaw04_TokenSpaces.f k a b c) true := by
  have ht : Ev (fun k => pidginlaw04_TokenSpaces.j0 k a b c true) true := by
    refine Ev.step (fun k => rfl) ?_
    simp only [pidginlaw04_TokenSpaces.j0, if_true]
    exact alive4t
  unfold pidginlaw04_TokenSpaces.f
  by_cases ha : (a.size : Int) > 60
  · simp only [if_pos ha]; exact ht
  · by_cases hb : (b.size : Int) > 60
    · simp only [if_neg ha, if_pos hb]; exact ht
    · by_cases hc : (c.size : Int) > 60
      · simp only [if_neg ha, if_neg hb, decide_eq_true hc]; exact ht
      · simp only [if_neg ha, if_neg hb, decide_eq_false hc]
        refine Ev.step (fun k => rfl) ?_
        simp only [pidginlaw04_TokenSpaces.j0, Bool.false_eq_true, if_false]
        exact spaces_l0 a b c (by omega) (by omega) (by omega) a.size 0 (by omega) (by simp)
end Go.Proofs.YtejhagejjogbaaaDoor.Tk
