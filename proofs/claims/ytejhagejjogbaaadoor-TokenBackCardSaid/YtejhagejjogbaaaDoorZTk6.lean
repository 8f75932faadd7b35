import Derived.Test.YtejhagejjogbaaaDoorZTk4
import Derived.Test.YtejhagejjogbaaaDoorZTk5
import Derived.Test.YtejhagejjogbaaaDoorZPd0
import Derived.Test.YtejhagejjogbaaaDoorZPd1
namespace Go.Proofs.YtejhagejjogbaaaDoor.Tk
open Go.RowKit Go.Proofs.YtejhagejjogbaaaDoor.Given Go.Proofs.YtejhagejjogbaaaDoor.Pn Go.Proofs.YtejhagejjogbaaaDoor.Pa Go.Proofs.YtejhagejjogbaaaDoor.Pb Go.Proofs.YtejhagejjogbaaaDoor.Pc Go.Proofs.YtejhagejjogbaaaDoor.Pd Go.Proofs.YtejhagejjogbaaaDoor.Num Go.Proofs.YtejhagejjogbaaaDoor.TokSpan Go.Proofs.YtejhagejjogbaaaDoor.TokJoin Go.Proofs.YtejhagejjogbaaaDoorW.PrintWords Go.Proofs.YtejhagejjogbaaaDoorW.PrintLast
set_option linter.unusedSimpArgs false
set_option linter.unusedVariables false
def showT (t : S41) : List UInt8 := if t.f0 = 2 then showL t.f2.toNat else if t.f0 = 3 then 39 :: (dbl (L t.f1) ++ [39]) else L t.f1
theorem tw_all {p : UInt8 → Bool} {l : List UInt8} (h : l.all p = true) : l.takeWhile p = l := by
  have h1 := span_end h
  have h2 := List.takeWhile_prefix (l := l) p
  exact h2.eq_of_length h1
theorem let_beg_all : ∀ c : Fin 256, letterB (UInt8.ofNat c.val) = begB (UInt8.ofNat c.val) := by decide +kernel
theorem let_beg (c : UInt8) : letterB c = begB c := by
  have := let_beg_all ⟨c.toNat, c.toNat_lt⟩
  simpa using this
theorem tail_p1_all : ∀ c : Fin 256, tailB (UInt8.ofNat c.val) = p1 (UInt8.ofNat c.val) := by decide +kernel
theorem tail_p1 (c : UInt8) : tailB c = p1 c := by
  have := tail_p1_all ⟨c.toNat, c.toNat_lt⟩
  simpa using this
theorem beg_not_all : ∀ c : Fin 256, begB (UInt8.ofNat c.val) = true → UInt8.ofNat c.val ≠ 32 ∧ UInt8.ofNat c.val ≠ 9 ∧ UInt8.ofNat c.val ≠ 59 := by decide +kernel
theorem beg_not (c : UInt8) (h : begB c = true) : c ≠ 32 ∧ c ≠ 9 ∧ c ≠ 59 := by
  have := beg_not_all ⟨c.toNat, c.toNat_lt⟩
  simp only [UInt8.ofNat_toNat] at this
  exact this h
theorem dig_not_all : ∀ c : Fin 256, digB (UInt8.ofNat c.val) = true → UInt8.ofNat c.val ≠ 32 ∧ UInt8.ofNat c.val ≠ 9 ∧ UInt8.ofNat c.val ≠ 59 ∧ begB (UInt8.ofNat c.val) = false := by decide +kernel
theorem dig_not (c : UInt8) (h : digB c = true) : c ≠ 32 ∧ c ≠ 9 ∧ c ≠ 59 ∧ begB c = false := by
  have := dig_not_all ⟨c.toNat, c.toNat_lt⟩
  simp only [UInt8.ofNat_toNat] at this
  exact this h
theorem mark_not_all : ∀ c : Fin 256, markB (UInt8.ofNat c.val) = true → UInt8.ofNat c.val ≠ 32 ∧ UInt8.ofNat c.val ≠ 9 ∧ UInt8.ofNat c.val ≠ 59 ∧ begB (UInt8.ofNat c.val) = false ∧ digB (UInt8.ofNat c.val) = false ∧ UInt8.ofNat c.val ≠ 39 := by decide +kernel
theorem mark_not (c : UInt8) (h : markB c = true) : c ≠ 32 ∧ c ≠ 9 ∧ c ≠ 59 ∧ begB c = false ∧ digB c = false ∧ c ≠ 39 := by
  have := mark_not_all ⟨c.toNat, c.toNat_lt⟩
  simp only [UInt8.ofNat_toNat] at this
  exact this h
theorem hc_p2 : ∀ d : Fin 16, p2 (hc d.val) = true := by decide +kernel
theorem hc_dig : ∀ d : Fin 16, ¬ 57 < (hc d.val).toNat → digB (hc d.val) = true := by decide +kernel
theorem hexd_p2 (n : Nat) : (hexd n).all p2 = true := by
  induction n using Nat.strongRecOn with
  | _ n ih =>
    cases n with
    | zero => simp [hexd]
    | succ m =>
      rw [hexd_pos (by omega), List.all_cons, ih _ (by omega), hc_p2 ⟨(m + 1) % 16, by omega⟩]
      rfl
theorem small_dig : ∀ d : Fin 10, digB (UInt8.ofNat (48 + d.val)) = true := by decide +kernel
theorem zeroed_all {l : List UInt8} (h : l.all p2 = true) : (zeroed l).all p2 = true := by
  unfold zeroed
  split
  · exact h
  · split
    · simp only [List.all_cons] at h ⊢
      rw [h]; rfl
    · exact h
theorem show_p2 (n : Nat) : ∃ c t, showL n = c :: t ∧ digB c = true ∧ (showL n).all p2 = true := by
  unfold showL
  split
  · rename_i h
    refine ⟨_, _, rfl, small_dig ⟨n, h⟩, ?_⟩
    rw [List.all_cons, dig_p2 _ (small_dig ⟨n, h⟩)]; rfl
  · rename_i h
    have ha : ((hexd n).reverse ++ [72]).all p2 = true := by
      rw [List.all_append, List.all_reverse, hexd_p2]; decide
    obtain ⟨t, e, ht⟩ := hexd_top n (by omega) 0
    have hz := zeroed_all ha
    rw [e] at hz ⊢
    simp only [List.cons_append] at hz ⊢
    unfold zeroed at hz ⊢
    simp only at hz ⊢
    split
    · rename_i h57
      rw [if_pos h57] at hz
      exact ⟨48, _, rfl, by decide, hz⟩
    · rename_i h57
      rw [if_neg h57] at hz
      exact ⟨_, _, rfl, hc_dig ⟨top n 0, ht⟩ h57, hz⟩
theorem qlen_dbl : ∀ l : List UInt8, qlen (dbl l ++ [39]) = some ((dbl l).length + 1)
  | [] => rfl
  | c :: t => by
    rw [dbl]
    by_cases h : c = 39
    · rw [if_pos h]
      have := qlen_dbl t
      rw [List.cons_append, List.cons_append, qlen, if_pos rfl, if_pos rfl, this]
      simp
    · rw [if_neg h, List.cons_append, qlen_ne h, qlen_dbl t]
      simp
theorem first_show {t : S41} (h : TkP t) : ∃ c s, showT t = c :: s ∧ c ≠ 32 ∧ c ≠ 9 ∧ c ≠ 59 ∧ firstL (c :: s) = (t.f0, t.f1, t.f2, (((c :: s).length : Nat) : Int), 0) ∧ (c :: s).length ≤ 500 := by
  cases h with
  | name l h hu =>
    cases l with
    | nil => simp [nameL] at h
    | cons c s =>
      simp only [nameL, Bool.and_eq_true, decide_eq_true_eq] at h
      obtain ⟨⟨h1, h2⟩, h3⟩ := h
      have hb : begB c = true := by rw [← let_beg]; exact h2
      have ha : (c :: s).all p1 = true := by
        rw [List.all_cons, beg_p1 c hb, Bool.true_and, List.all_eq_true]
        intro a hm
        rw [← tail_p1]
        exact List.all_eq_true.1 h3 a hm
      obtain ⟨n1, n2, n3⟩ := beg_not c hb
      refine ⟨c, s, by unfold showT; simp only [Llist]; rfl, n1, n2, n3, ?_, by simp; omega⟩
      have e := tw_all ha
      unfold firstL
      simp only [hb, if_true, e, List.take_length, hu]
      rw [if_neg (by simp; omega)]
  | num n hn =>
    obtain ⟨c, s, e, h1, h2⟩ := show_p2 n
    obtain ⟨n1, n2, n3, n4⟩ := dig_not c h1
    have hl := (show_len n hn).2
    refine ⟨c, s, by unfold showT; simp only [if_true, Int.toNat_natCast]; exact e, n1, n2, n3, ?_, by rw [← e]; omega⟩
    have e2 := tw_all h2
    unfold firstL
    simp only [n4, Bool.false_eq_true, if_false, h1, if_true, ← e, e2, List.take_length, show_up, parse_show n hn]
  | text l h hl =>
    have hd := dbl_len l
    refine ⟨39, dbl l ++ [39], by unfold showT; simp only [Llist]; rfl, by decide, by decide, by decide, ?_, by simp; omega⟩
    have e := unq_quote l
    rw [if_pos h, unqS_eq] at e
    unfold firstL
    have e2 : (39 :: (dbl l ++ [39])).take ((dbl l).length + 1 + 1) = 39 :: (dbl l ++ [39]) := List.take_of_length_le (by simp)
    simp only [show begB 39 = false by decide, show digB 39 = false by decide, Bool.false_eq_true, if_false, if_true, qlen_dbl, e2, e]
    simp
  | mark c h =>
    obtain ⟨n1, n2, n3, n4, n5, n6⟩ := mark_not c h
    refine ⟨c, [], by unfold showT; rfl, n1, n2, n3, ?_, by simp⟩
    unfold firstL
    simp only [n4, n5, n6, h, Bool.false_eq_true, if_false, if_true]
    rfl
def joinT (ts : List S41) : List UInt8 := Lib.join (ts.map showT) [32]
theorem joinT_cons (t y : S41) (r : List S41) : joinT (t :: y :: r) = showT t ++ 32 :: joinT (y :: r) := by
  unfold joinT
  rw [List.map_cons, Lib.join_cons, List.map_cons, Lib.join_cons]
  simp [Lib.joinTail]
theorem joinT_one (t : S41) : joinT [t] = showT t := by
  unfold joinT
  rw [List.map_cons, List.map_nil, Lib.join_one]
theorem show_toks : ∀ (ts : List S41) (N : Nat), (∀ t ∈ ts, TkP t) → (joinT ts).length ≤ N → toks N (joinT ts) = (ts, 0)
  | [], N, _, _ => by cases N <;> rfl
  | [t], N, hg, hN => by
    obtain ⟨c, s, e, n1, n2, n3, hf, _⟩ := first_show (hg t (by simp))
    rw [joinT_one, e] at hN ⊢
    cases N with
    | zero => simp at hN
    | succ N =>
      rw [toks_else (by rintro (h | h) <;> contradiction) n3, hf]
      simp only [if_true, Int.toNat_natCast, List.drop_length]
      have : toks N [] = ([], 0) := by cases N <;> rfl
      rw [this]
      rfl
  | t :: y :: r, N, hg, hN => by
    obtain ⟨c, s, e, n1, n2, n3, hf, _⟩ := first_show (hg t (by simp))
    rw [joinT_cons, e] at hN ⊢
    have e1 := first_sep sep32.1 sep32.2.1 sep32.2.2 (joinT (y :: r)) c s (by rw [hf])
    cases N with
    | zero => simp at hN
    | succ N =>
      rw [List.cons_append] at e1 hN ⊢
      rw [toks_else (by rintro (h | h) <;> contradiction) n3, e1, hf]
      simp only [if_true, Int.toNat_natCast]
      have e2 : (c :: (s ++ 32 :: joinT (y :: r))).drop (c :: s).length = 32 :: joinT (y :: r) := by
        rw [← List.cons_append, List.drop_left]
      rw [e2]
      have hlen : (joinT (y :: r)).length + 1 ≤ N := by simp at hN; omega
      obtain ⟨M, rfl⟩ : ∃ M, N = M + 1 := ⟨N - 1, by omega⟩
      rw [toks_gap (Or.inl rfl), show_toks (y :: r) M (fun t ht => hg t (List.mem_cons_of_mem _ ht)) (by omega)]
      rfl
theorem joinT_len : ∀ ts : List S41, (∀ t ∈ ts, TkP t) → (joinT ts).length ≤ ts.length * 501
  | [], _ => Nat.zero_le _
  | [t], hg => by
    obtain ⟨c, s, e, _, _, _, _, hl⟩ := first_show (hg t (by simp))
    rw [joinT_one, e]
    simp only [List.length_cons, List.length_nil] at hl ⊢
    omega
  | t :: y :: r, hg => by
    obtain ⟨c, s, e, _, _, _, _, hl⟩ := first_show (hg t (by simp))
    have ih := joinT_len (y :: r) (fun t ht => hg t (List.mem_cons_of_mem _ ht))
    rw [joinT_cons, e]
    simp only [List.length_cons, List.length_append] at hl ih ⊢
    omega
theorem show_l0 (ts : List S41) (hg : ∀ t ∈ ts, TkP t) (hs : ts.length ≤ 200) (d : Nat) : ∀ (i : Nat) (acc : List ByteArray), i + d = ts.length → acc.length ≤ i → acc.map (·.data.toList) = (ts.take i).map showT →
    Ev (fun k => token_Show.l0 k acc ts (ts.length : Int) (i : Int)) ⟨(joinT ts).toArray⟩ := by
  induction d with
  | zero =>
    intro i acc hi ha he
    refine Ev.step (fun k => rfl) ?_
    rw [List.take_of_length_le (by omega)] at he
    have hj := joinT_len ts hg
    have e1 : Lib.join (acc.map (·.data.toList)) (⟨#[32]⟩ : ByteArray).data.toList = joinT ts := by rw [he]; rfl
    simp only [token_Show.l0, if_neg (show ¬ (i : Int) < (ts.length : Int) by omega), strings_Join.f, e1]
    rw [if_pos ⟨by omega, by omega⟩]
    exact Ev.now _
  | succ d ih =>
    intro i acc hi ha he
    have hl : i < ts.length := by omega
    refine Ev.step (fun k => rfl) ?_
    simp only [token_Show.l0, if_pos (show (i : Int) < (ts.length : Int) by omega), if_pos (show (0 : Int) ≤ (i : Int) by omega), rd41_at ts i hl, if_pos (show acc.length < 8796093022208 by omega), inc_w (show i ≤ 140737488351300 by omega)]
    have key (b : ByteArray) (hb : L b = showT ts[i]) : Ev (fun k => token_Show.l0 k (acc ++ [b]) ts (ts.length : Int) ((i + 1 : Nat) : Int)) ⟨(joinT ts).toArray⟩ := by
      refine ih (i + 1) (acc ++ [b]) (by omega) (by simp; omega) ?_
      rw [List.take_succ_eq_append_getElem hl, List.map_append, List.map_append, he]
      show _ ++ [L b] = _ ++ [showT ts[i]]
      rw [hb]
    have hp := hg ts[i] (List.getElem_mem hl)
    revert key
    generalize ts[i] = t at hp
    intro key
    cases hp with
    | name q h hu =>
      simp only [if_neg (show ¬ ((1 : Int) = 2) by decide), if_neg (show ¬ ((1 : Int) = 3) by decide)]
      exact key _ rfl
    | num n h =>
      simp only [if_true]
      refine Ev.bind (num_show n h) ?_
      exact key _ (by rw [Llist]; rfl)
    | text q h hq =>
      have hz : (⟨q.toArray⟩ : ByteArray).size ≤ 1000 := by rw [sizeL]; omega
      simp only [if_neg (show ¬ ((3 : Int) = 2) by decide), if_true, num_quote _ hz, Option.bind_some]
      exact key _ (by rw [Llist]; rfl)
    | mark c h =>
      simp only [if_neg (show ¬ ((4 : Int) = 2) by decide), if_neg (show ¬ ((4 : Int) = 3) by decide)]
      exact key _ rfl
theorem TokenBack_ev (x : ByteArray) : Ev (fun k => pidginlaw04_TokenBack.f k x) true := by
  unfold pidginlaw04_TokenBack.f
  by_cases h : (x.size : Int) > 2000
  · simp only [if_pos h]
    exact alive4t
  · simp only [if_neg h]
    refine Ev.bind (line_ev x) ?_
    by_cases hk : (lineT x).2 = 0
    · simp only [if_pos hk]
      have hl := lineT_len x
      have hg := lineT_good x
      generalize (lineT x).1 = ts at hl hg
      have hsh : Ev (fun k => token_Show.f k ts) ⟨(joinT ts).toArray⟩ := by
        unfold token_Show.f
        exact show_l0 ts hg hl ts.length 0 [] (by omega) (by simp) rfl
      refine Ev.bind hsh ?_
      refine Ev.bind (line_ev _) ?_
      by_cases h2 : 200 < (joinT ts).length
      · have e : lineT ⟨(joinT ts).toArray⟩ = ([], 11) := by unfold lineT; rw [if_pos (by rw [sizeL]; exact h2)]
        simp only [sizeL, if_pos (show ((joinT ts).length : Int) > 200 by omega), e, if_true]
        exact alive4t
      · have e : lineT ⟨(joinT ts).toArray⟩ = (ts, 0) := by
          unfold lineT
          rw [if_neg (by rw [sizeL]; exact h2), sizeL, Llist]
          exact show_toks ts _ hg (Nat.le_refl _)
        simp only [sizeL, if_neg (show ¬ ((joinT ts).length : Int) > 200 by omega), e, if_true]
        refine Ev.bind (back_ev _ (by omega)) ?_
        refine Ev.bind (back_ev _ (by omega)) ?_
        refine Ev.bind (same_ev _ (by simp; omega)) ?_
        simp only [if_true]
        exact alive4t
    · simp only [if_neg hk]
      have e : (lineT x).1 = [] := by
        unfold lineT at hk ⊢
        split
        · rfl
        · rename_i h9
          rw [if_neg h9] at hk
          exact toks_err _ _ hk
      simp only [e, List.length_nil, if_pos (show ((0 : Nat) : Int) = 0 from rfl)]
      exact alive4t
end Go.Proofs.YtejhagejjogbaaaDoor.Tk
