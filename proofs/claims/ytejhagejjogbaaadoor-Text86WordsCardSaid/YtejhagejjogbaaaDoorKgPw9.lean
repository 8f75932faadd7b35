import Derived.Test.YtejhagejjogbaaaDoorKgShow9
import Derived.Test.YtejhagejjogbaaaDoorKgPl9
namespace Go.Proofs.YtejhagejjogbaaaDoor.Pw9
open Go.RowKit Go.Proofs.YtejhagejjogbaaaDoorW.PrintWords Go.Proofs.YtejhagejjogbaaaDoor.Tab9 Go.Proofs.YtejhagejjogbaaaDoor.Lay9 Go.Proofs.YtejhagejjogbaaaDoor.Words9 Go.Proofs.YtejhagejjogbaaaDoor.Show9 Go.Proofs.YtejhagejjogbaaaDoor.Pl9 Go.Proofs.YtejhagejjogbaaaDoor.TokJoin Go.Proofs.YtejhagejjogbaaaDoor.TokRep
set_option linter.unusedVariables false
set_option linter.unusedSimpArgs false
set_option linter.unusedSectionVars false
def okB (b : UInt8) : Bool := decide (33 ≤ b.toNat) && decide (b.toNat < 128) && decide (b.toNat ≠ 44)
theorem okB_fin : ∀ i : Fin 10, okB (UInt8.ofNat (48 + i.val)) = true := by decide +kernel
theorem dig_ok : ∀ (m u : Nat), u < m → (Lib.decDigits u).all okB = true := by
  intro m
  induction m with
  | zero => intro u h; omega
  | succ m ih =>
    intro u h
    rw [Lib.decDigits]
    split
    · rename_i h10; simpa using okB_fin ⟨u, h10⟩
    · rw [List.all_append, ih (u / 10) (by omega)]
      simpa using okB_fin ⟨u % 10, by omega⟩
theorem itoa_of (n : Int) (h : 0 ≤ n) : Lib.itoa n = Lib.decDigits n.toNat := by unfold Lib.itoa; rw [if_neg (by omega)]
theorem itoa_ok (n : Int) (h : 0 ≤ n) : (Lib.itoa n).all okB = true := by rw [itoa_of n h]; exact dig_ok _ _ (Nat.lt_succ_self _)
theorem itoa_pos (n : Int) (h : 0 ≤ n) : 1 ≤ (Lib.itoa n).length := by rw [itoa_of n h, Lib.decDigits_length]; exact Lib.nDigits_pos _
theorem itoa_len (n : Int) (h : 0 ≤ n) (h1 : n ≤ 65535) : (Lib.itoa n).length ≤ 5 := by
  rw [itoa_of n h, Lib.decDigits_length]
  have : n.toNat < 100000 := by omega
  generalize n.toNat = u at this
  have a (v : Nat) (h : ¬ v < 10) := Lib.nDigits_big h
  by_cases h1 : u < 10
  · rw [Lib.nDigits_small h1]; decide
  · rw [a u h1]
    by_cases h2 : u / 10 < 10
    · rw [Lib.nDigits_small h2]; decide
    · rw [a _ h2]
      by_cases h3 : u / 10 / 10 < 10
      · rw [Lib.nDigits_small h3]; decide
      · rw [a _ h3]
        by_cases h4 : u / 10 / 10 / 10 < 10
        · rw [Lib.nDigits_small h4]; decide
        · rw [a _ h4, Lib.nDigits_small (by omega)]; decide
theorem itoa_110 (n : Int) (h : 0 ≤ n) : Lib.itoa n ≠ [110, 110] := by
  intro e
  have h1 : (Lib.itoa n).all (fun b => decide (b.toNat < 58)) = true := by
    rw [itoa_of n h]
    have : ∀ (m u : Nat), u < m → (Lib.decDigits u).all (fun b => decide (b.toNat < 58)) = true := by
      intro m
      have hf : ∀ i : Fin 10, decide ((UInt8.ofNat (48 + i.val)).toNat < 58) = true := by decide +kernel
      induction m with
      | zero => intro u h; omega
      | succ m ih =>
        intro u h
        rw [Lib.decDigits]
        split
        · rename_i h10; simpa using hf ⟨u, h10⟩
        · rw [List.all_append, ih (u / 10) (by omega)]
          simpa using hf ⟨u % 10, by omega⟩
    exact this _ _ (Nat.lt_succ_self _)
  rw [e] at h1
  exact absurd h1 (by decide)
theorem rep_miss (l X : List UInt8) (h : Lib.index l [110, 110] = -1) : Lib.replace l [110, 110] X 1 = l := by
  unfold Lib.replace
  split
  · rfl
  · cases Lib.replaceNum l [110, 110] 1 with
    | zero => rfl
    | succ k => rw [Lib.replaceK, h]; rfl
theorem rep_hit (l X : List UInt8) (i : Nat) (hx : X ≠ [110, 110]) (h : Lib.index l [110, 110] = i) (hc : Lib.count l [110, 110] = 1) : Lib.replace l [110, 110] X 1 = l.take i ++ X ++ l.drop (i + 2) := by
  unfold Lib.replace
  rw [if_neg (fun e => hx (by simpa using (beq_iff_eq.1 e).symm))]
  have e : Lib.replaceNum l [110, 110] 1 = 1 := by unfold Lib.replaceNum; rw [hc]; rfl
  rw [e, Lib.replaceK_hit _ _ _ _ i h]
  rfl
def argL (c n : Int) : List UInt8 := if c = 19 then 91 :: (Lib.itoa n ++ [93]) else if c = 20 then Lib.itoa n else (argB c).data.toList
theorem arg19 : argB 19 = ⟨#[91, 110, 110, 93]⟩ := by decide +kernel
theorem arg20 : argB 20 = ⟨#[110, 110]⟩ := by decide +kernel
set_option maxRecDepth 100000 in
theorem arg_miss : ∀ i : Fin 21, i.val ≠ 19 → i.val ≠ 20 → Lib.index (argB (i.val : Int)).data.toList [110, 110] = -1 := by decide +kernel
set_option maxRecDepth 100000 in
theorem arg_small : ∀ i : Fin 21, (argB (i.val : Int)).size ≤ 4 ∧ Lib.countB (argB (i.val : Int)) ⟨#[110, 110]⟩ ≤ 1 := by decide +kernel
set_option maxRecDepth 100000 in
theorem arg_okB : ∀ i : Fin 21, (argB (i.val : Int)).data.toList.all okB = true := by decide +kernel
set_option maxRecDepth 100000 in
theorem arg_none : ∀ i : Fin 21, ((argB (i.val : Int)).data.toList = [] ↔ i.val = 0) := by decide +kernel
set_option maxRecDepth 100000 in
theorem name_okB : ∀ i : Fin 52, (nameB (i.val : Int)).data.toList.all okB = true ∧ (nameB (i.val : Int)).size ≤ 10 := by decide +kernel
set_option maxRecDepth 100000 in
theorem name_some : ∀ i : Fin 52, (1 ≤ i.val ∧ i.val ≤ 35 ∨ 42 ≤ i.val ∧ i.val ≤ 45 ∨ 48 ≤ i.val ∧ i.val ≤ 51) → (nameB (i.val : Int)).data.toList ≠ [] := by decide +kernel
section
variable (c n : Int) (hc : 0 ≤ c) (hc1 : c ≤ 20) (hn : 0 ≤ n) (hn1 : n ≤ 65535)
include hc hc1 hn hn1
theorem shown_is : strings_Replace.f (argB c) ⟨#[110, 110]⟩ ⟨(Lib.itoa n).toArray⟩ 1 = some ⟨(argL c n).toArray⟩ := by
  obtain ⟨i, rfl⟩ : ∃ i : Nat, c = (i : Int) := ⟨c.toNat, by omega⟩
  obtain ⟨h1, h2⟩ := arg_small ⟨i, by omega⟩
  have h3 := itoa_len n hn hn1
  have h4 : (⟨(Lib.itoa n).toArray⟩ : ByteArray).size = (Lib.itoa n).length := by simp [ByteArray.size]
  unfold strings_Replace.f
  simp only at h1 h2
  have hs : (argB (i : Int)).size + Lib.countB (argB (i : Int)) ⟨#[110, 110]⟩ * (⟨(Lib.itoa n).toArray⟩ : ByteArray).size ≤ 140737488355328 := by
    rw [h4]
    have := Nat.mul_le_mul h2 h3
    omega
  rw [if_pos ⟨by omega, by decide, hs⟩]
  · congr 3
    show Lib.replace (argB (i : Int)).data.toList [110, 110] (Lib.itoa n) 1 = argL (i : Int) n
    unfold argL
    by_cases e1 : (i : Int) = 19
    · rw [if_pos e1, e1, arg19, rep_hit _ _ 1 (itoa_110 n hn) (by decide +kernel) (by decide +kernel)]
      rfl
    · rw [if_neg e1]
      by_cases e2 : (i : Int) = 20
      · rw [if_pos e2, e2, arg20, rep_hit _ _ 0 (itoa_110 n hn) (by decide +kernel) (by decide +kernel)]
        simp
      · rw [if_neg e2]
        exact rep_miss _ _ (arg_miss ⟨i, by omega⟩ (by simp only; omega) (by simp only; omega))
theorem argL_ok : (argL c n).all okB = true := by
  obtain ⟨i, rfl⟩ : ∃ i : Nat, c = (i : Int) := ⟨c.toNat, by omega⟩
  unfold argL
  split
  · rw [List.all_cons, List.all_append, itoa_ok n hn]; decide
  · split
    · exact itoa_ok n hn
    · exact arg_okB ⟨i, by omega⟩
theorem argL_some (h0 : c ≠ 0) : argL c n ≠ [] := by
  obtain ⟨i, rfl⟩ : ∃ i : Nat, c = (i : Int) := ⟨c.toNat, by omega⟩
  unfold argL
  split
  · simp
  · split
    · have := itoa_pos n hn
      intro e; rw [e] at this; simp at this
    · intro e
      have := (arg_none ⟨i, by omega⟩).1 e
      simp only at this
      omega
theorem argL_len : (argL c n).length ≤ 10 := by
  obtain ⟨i, rfl⟩ : ∃ i : Nat, c = (i : Int) := ⟨c.toNat, by omega⟩
  have h3 := itoa_len n hn hn1
  unfold argL
  split
  · simp; omega
  · split
    · omega
    · have := (arg_small ⟨i, by omega⟩).1
      rw [show (argB ((⟨i, by omega⟩ : Fin 21).val : Int)).size = (argB (i : Int)).data.toList.length from rfl] at this
      omega
end
theorem arg_empty (c : Int) (hc : 0 ≤ c) (hc1 : c ≤ 20) : ((argB c).toList == ([] : List UInt8)) = decide (c = 0) := by
  obtain ⟨i, rfl⟩ : ∃ i : Nat, c = (i : Int) := ⟨c.toNat, by omega⟩
  have h := arg_none ⟨i, by omega⟩
  simp only at h
  rw [Lib.toList_data]
  by_cases e : i = 0
  · rw [beq_iff_eq.2 (h.2 e)]; symm; exact decide_eq_true (by omega)
  · rw [beq_eq_false_iff_ne.2 (fun h1 => e (h.1 h1))]; symm; exact decide_eq_false (by omega)
def textL (op D S n : Int) : List UInt8 := (nameB op).data.toList ++ (if D = 0 then [] else 32 :: (argL D n ++ (if S = 0 then [] else 44 :: argL S n)))
def V3' (x0 x1 x2 : Int) : Prop := (1 ≤ x0 ∧ x0 ≤ 35 ∨ 42 ≤ x0 ∧ x0 ≤ 45 ∨ 48 ≤ x0 ∧ x0 ≤ 51) ∧ 0 ≤ x1 ∧ x1 ≤ 20 ∧ 0 ≤ x2 ∧ x2 ≤ 20 ∧ (x2 ≠ 0 → x1 ≠ 0)
theorem okB_sp {b : UInt8} (h : okB b = true) : Lib.isSp b = false ∧ b.toNat ≠ 44 ∧ b.toNat ≠ 32 ∧ b.toNat < 128 := by
  simp only [okB, Bool.and_eq_true, decide_eq_true_eq] at h
  refine ⟨?_, by omega, by omega, by omega⟩
  unfold Lib.isSp
  have hb : ∀ c : UInt8, c.toNat < 33 → (b == c) = false := fun c hc => beq_eq_false_iff_ne.2 (fun e => by rw [e] at h; omega)
  rw [hb 9 (by decide), hb 10 (by decide), hb 11 (by decide), hb 12 (by decide), hb 13 (by decide), hb 32 (by decide)]
  rfl
theorem drop_id (l : List UInt8) (h : ∀ b, l.head? = some b → Lib.isSp b = false) : l.dropWhile Lib.isSp = l := by
  cases l with
  | nil => rfl
  | cons a l => rw [List.dropWhile_cons, h a rfl]; rfl
theorem trim_id (l : List UInt8) (h : ∀ b, l.head? = some b → Lib.isSp b = false) (h2 : ∀ b, l.getLast? = some b → Lib.isSp b = false) : Lib.trimSpace l = l := by
  unfold Lib.trimSpace
  rw [drop_id l h, drop_id l.reverse (fun b hb => h2 b (by rw [List.head?_reverse] at hb; exact hb)), List.reverse_reverse]
theorem trim_end (l : List UInt8) (hl : l ≠ []) (h : ∀ b, l.head? = some b → Lib.isSp b = false) (h2 : ∀ b, l.getLast? = some b → Lib.isSp b = false) : Lib.trimSpace (l ++ [32]) = l := by
  unfold Lib.trimSpace
  rw [drop_id (l ++ [32]) (fun b hb => h b (by cases l with | nil => exact absurd rfl hl | cons a l => exact hb)), List.reverse_append, List.reverse_cons, List.reverse_nil, List.nil_append, List.singleton_append, List.dropWhile_cons]
  rw [if_pos (by decide), drop_id l.reverse (fun b hb => h2 b (by rw [List.head?_reverse] at hb; exact hb)), List.reverse_reverse]
theorem head_ok {l : List UInt8} (h : l.all okB = true) : ∀ b, l.head? = some b → Lib.isSp b = false := fun b hb => (okB_sp (List.all_eq_true.1 h b (List.mem_of_mem_head? hb))).1
theorem last_ok {l : List UInt8} (h : l.all okB = true) : ∀ b, l.getLast? = some b → Lib.isSp b = false := fun b hb => (okB_sp (List.all_eq_true.1 h b (List.mem_of_getLast? hb))).1
section
variable (op D S n : Int) (hv : V3' op D S) (hn : 0 ≤ n) (hn1 : n ≤ 65535)
include hv hn hn1
theorem name_facts : (nameB op).data.toList.all okB = true ∧ (nameB op).size ≤ 10 ∧ (nameB op).data.toList ≠ [] := by
  obtain ⟨h1, h2⟩ := hv
  obtain ⟨i, rfl⟩ : ∃ i : Nat, op = (i : Int) := ⟨op.toNat, by omega⟩
  obtain ⟨h3, h4⟩ := name_okB ⟨i, by omega⟩
  exact ⟨h3, h4, name_some ⟨i, by omega⟩ (by simp only; omega)⟩
theorem last_text : ∃ l b, textL op D S n = l ++ [b] ∧ okB b = true := by
  obtain ⟨h3, h4, h5⟩ := name_facts op D S n hv hn hn1
  obtain ⟨h1, h6, h7, h8, h9, h10⟩ := hv
  have key : ∀ (p m : List UInt8), m ≠ [] → m.all okB = true → ∃ l b, p ++ m = l ++ [b] ∧ okB b = true := fun p m hm ha => by
    obtain ⟨l, b, rfl⟩ : ∃ l b, m = l ++ [b] := ⟨m.dropLast, m.getLast hm, (List.dropLast_concat_getLast hm).symm⟩
    exact ⟨p ++ l, b, by rw [List.append_assoc], List.all_eq_true.1 ha b (by simp)⟩
  unfold textL
  by_cases hD : D = 0
  · rw [if_pos hD, List.append_nil]
    have := key [] _ h5 h3
    simpa using this
  · rw [if_neg hD]
    by_cases hS : S = 0
    · rw [if_pos hS, List.append_nil]
      have := key ((nameB op).data.toList ++ [32]) _ (argL_some D n h6 h7 hn hn1 hD) (argL_ok D n h6 h7 hn hn1)
      simpa using this
    · rw [if_neg hS]
      have := key ((nameB op).data.toList ++ 32 :: (argL D n ++ [44])) _ (argL_some S n h8 h9 hn hn1 hS) (argL_ok S n h8 h9 hn hn1)
      simpa using this
theorem count_text : (textL op D S n).countP (fun b => b.toNat == 44) = if S = 0 then 0 else 1 := by
  obtain ⟨h3, h4, h5⟩ := name_facts op D S n hv hn hn1
  obtain ⟨h1, h6, h7, h8, h9, h10⟩ := hv
  have key : ∀ m : List UInt8, m.all okB = true → m.countP (fun b => b.toNat == 44) = 0 := fun m ha => by
    rw [List.countP_eq_zero]
    intro b hb
    have := (okB_sp (List.all_eq_true.1 ha b hb)).2.1
    simpa using this
  unfold textL
  rw [List.countP_append, key _ h3]
  by_cases hD : D = 0
  · have hS : S = 0 := by
      by_cases hS : S = 0
      · exact hS
      · exact absurd hD (h10 hS)
    rw [if_pos hD, if_pos hS]; rfl
  · rw [if_neg hD, List.countP_cons, List.countP_append, key _ (argL_ok D n h6 h7 hn hn1)]
    by_cases hS : S = 0
    · rw [if_pos hS, if_pos hS]; rfl
    · rw [if_neg hS, if_neg hS, List.countP_cons, key _ (argL_ok S n h8 h9 hn hn1)]; rfl
end
def joinL (D S n : Int) : List UInt8 := if D = 0 then [] else argL D n ++ (if S = 0 then [] else 44 :: argL S n)
section
variable (op D S n : Int) (hv : V3' op D S) (hn : 0 ≤ n) (hn1 : n ≤ 65535)
include hv hn hn1
theorem join_len : (joinL D S n).length ≤ 21 := by
  obtain ⟨h1, h6, h7, h8, h9, h10⟩ := hv
  have a := argL_len D n h6 h7 hn hn1
  have b := argL_len S n h8 h9 hn hn1
  unfold joinL
  split
  · simp
  · split
    · simp; omega
    · simp; omega
theorem join_is : strings_Join.f (shownL (argB D) (argB S) ⟨(argL D n).toArray⟩ ⟨(argL S n).toArray⟩ 2) ⟨#[44]⟩ = some ⟨(joinL D S n).toArray⟩ := by
  have hl := join_len op D S n hv hn hn1
  obtain ⟨h1, h6, h7, h8, h9, h10⟩ := hv
  have e : Lib.join ((shownL (argB D) (argB S) ⟨(argL D n).toArray⟩ ⟨(argL S n).toArray⟩ 2).map (·.data.toList)) [44] = joinL D S n := by
    unfold shownL joinL
    rw [arg_empty D h6 h7, arg_empty S h8 h9]
    by_cases hD : D = 0
    · have hS : S = 0 := by
        by_cases hS : S = 0
        · exact hS
        · exact absurd hD (h10 hS)
      simp [hD, hS, Lib.join]
    · by_cases hS : S = 0
      · simp [hD, hS, Lib.join]
      · simp [hD, hS, Lib.join]
  have hlen := shownL_len (argB D) (argB S) ⟨(argL D n).toArray⟩ ⟨(argL S n).toArray⟩ 2
  unfold strings_Join.f
  have e' : (⟨#[44]⟩ : ByteArray).data.toList = [44] := rfl
  rw [e', e, if_pos ⟨by omega, by omega⟩]
theorem text_size : (nameB op).size + 1 + (⟨(joinL D S n).toArray⟩ : ByteArray).size ≤ 1000 := by
  have h1 := (name_facts op D S n hv hn hn1).2.1
  have h2 := join_len op D S n hv hn hn1
  have h4 : (⟨(joinL D S n).toArray⟩ : ByteArray).size = (joinL D S n).length := by simp [ByteArray.size]
  omega
theorem text_ascii : ascii (nameB op ++ ⟨#[32]⟩ ++ ⟨(joinL D S n).toArray⟩) = true := by
  obtain ⟨h3, h4, h5⟩ := name_facts op D S n hv hn hn1
  obtain ⟨h1, h6, h7, h8, h9, h10⟩ := hv
  have key : ∀ m : List UInt8, m.all okB = true → (m.all fun b => decide (b.toNat < 128)) = true := fun m ha => by
    rw [List.all_eq_true] at ha ⊢
    exact fun b hb => decide_eq_true (okB_sp (ha b hb)).2.2.2
  have hj : ((joinL D S n).all fun b => decide (b.toNat < 128)) = true := by
    unfold joinL
    split
    · rfl
    · rw [List.all_append, key _ (argL_ok D n h6 h7 hn hn1)]
      split
      · rfl
      · rw [List.all_cons, key _ (argL_ok S n h8 h9 hn hn1)]; rfl
  unfold ascii
  simp only [ByteArray.data_append, Array.toList_append, List.all_append, hj, key _ h3]
  rfl
theorem text_trim : Lib.trimSpace ((nameB op).data.toList ++ 32 :: (joinL D S n)) = textL op D S n := by
  have hlast := last_text op D S n hv hn hn1
  obtain ⟨h3, h4, h5⟩ := name_facts op D S n hv hn hn1
  obtain ⟨h1, h6, h7, h8, h9, h10⟩ := hv
  by_cases hD : D = 0
  · unfold joinL textL
    rw [if_pos hD, if_pos hD, trim_end _ h5 (head_ok h3) (last_ok h3), List.append_nil]
  · have e : (nameB op).data.toList ++ 32 :: (joinL D S n) = textL op D S n := by unfold joinL textL; rw [if_neg hD, if_neg hD]
    rw [e]
    obtain ⟨l, b, hl, hb⟩ := hlast
    refine trim_id _ (fun c hc => ?_) (fun c hc => ?_)
    · unfold textL at hc
      cases hm : (nameB op).data.toList with
      | nil => exact absurd hm h5
      | cons a m =>
        rw [hm] at hc h3
        obtain rfl : a = c := by simpa using hc
        exact head_ok h3 a rfl
    · rw [hl, List.getLast?_append] at hc
      obtain rfl : b = c := by simpa using hc
      exact (okB_sp hb).1
end
end Go.Proofs.YtejhagejjogbaaaDoor.Pw9
