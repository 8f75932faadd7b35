import Derived.Test.YtejhagejjogbaaaDoorKfRef9
namespace Go.Proofs.YtejhagejjogbaaaDoor.Pl9
open Go.RowKit Go.Proofs.YtejhagejjogbaaaDoorW.PrintWords Go.Proofs.YtejhagejjogbaaaDoor.Lay9 Go.Proofs.YtejhagejjogbaaaDoor.Words9 Go.Proofs.YtejhagejjogbaaaDoor.Codes9 Go.Proofs.YtejhagejjogbaaaDoor.Fun9 Go.Proofs.YtejhagejjogbaaaDoor.Ref9
set_option linter.unusedVariables false
set_option linter.unusedSimpArgs false
theorem tl_eq (a b : ByteArray) : a.toList = b.toList ↔ a = b := by
  rw [Lib.toList_data, Lib.toList_data]
  constructor
  · intro h
    cases a with | mk a => cases b with | mk b => exact congrArg _ (Array.toList_inj.1 h)
  · intro h; rw [h]
theorem tl_nil (a : ByteArray) : a.toList = [] ↔ a = ⟨#[]⟩ := by
  rw [← tl_eq]; rw [Lib.toList_data ⟨#[]⟩]
def findR : List ByteArray → ByteArray → Nat → Int × Bool
  | [], _, _ => (0, false)
  | x :: l, s, i => if x = s then ((i : Int), true) else findR l s (i + 1)
def findE (l : List ByteArray) (s : ByteArray) : Int × Bool := if s = ⟨#[]⟩ then (0, false) else findR l s 0
theorem codeW_find (s : ByteArray) : ∀ (l : List ByteArray) (i j : Nat), (if idxP l s i < 0 then ((0, false) : Int × Bool) else ((j : Int) + idxP l s i, true)) = findR l s (j + i) := by
  intro l
  induction l with
  | nil => intro i j; rfl
  | cons x l ih =>
    intro i j
    rw [idxP, findR]
    by_cases h : s = x
    · subst h
      rw [if_pos rfl, if_pos rfl, if_neg (by omega)]
      simp
    · rw [if_neg (show ¬ s.toList = x.toList from fun e => h ((tl_eq _ _).1 e)), if_neg (show ¬ x = s from fun e => h e.symm), ih (i + 1) j]; rfl
theorem codeW_eq (l : List ByteArray) (j : Nat) (s : ByteArray) : codeW l (j : Int) s = if s = ⟨#[]⟩ then (0, false) else findR l s j := by
  unfold codeW
  by_cases hs : s = ⟨#[]⟩
  · rw [if_pos hs]
    split
    · rfl
    · rw [if_pos ((tl_nil s).2 hs)]
  · rw [if_neg hs, if_neg (fun e => hs ((tl_nil s).1 e)), codeW_find s l 0 j]; rfl
theorem findR_append (s : ByteArray) : ∀ (l m : List ByteArray) (i : Nat), findR (l ++ m) s i = if (findR l s i).2 = true then findR l s i else findR m s (i + l.length) := by
  intro l
  induction l with
  | nil => intro m i; rfl
  | cons x l ih =>
    intro m i
    rw [List.cons_append, findR, findR]
    by_cases h : x = s
    · rw [if_pos h, if_pos h]; rfl
    · rw [if_neg h, if_neg h, ih m (i + 1), List.length_cons, show i + 1 + l.length = i + (l.length + 1) by omega]
theorem findR_none (s : ByteArray) : ∀ (l : List ByteArray) (i : Nat), (findR l s i).2 = false → findR l s i = (0, false) := by
  intro l
  induction l with
  | nil => intro i _; rfl
  | cons x l ih =>
    intro i
    rw [findR]
    by_cases h : x = s
    · rw [if_pos h]; intro h1; cases h1
    · rw [if_neg h]; exact ih (i + 1)
theorem findR_empties (s : ByteArray) (hs : s ≠ ⟨#[]⟩) : ∀ (n i : Nat), findR (List.replicate n ⟨#[]⟩) s i = (0, false) := by
  intro n
  induction n with
  | zero => intro i; rfl
  | succ n ih => intro i; rw [List.replicate_succ, findR, if_neg (fun e => hs e.symm), ih]
theorem findR_at (s : ByteArray) : ∀ (l : List ByteArray) (i : Nat) (o : Int), findR l s i = (o, true) → ∃ j : Nat, o = ((i + j : Nat) : Int) ∧ l[j]? = some s := by
  intro l
  induction l with
  | nil => intro i o h; cases h
  | cons x l ih =>
    intro i o
    rw [findR]
    by_cases h : x = s
    · rw [if_pos h]; intro e; cases e; exact ⟨0, rfl, by simp [h]⟩
    · rw [if_neg h]
      intro e
      obtain ⟨j, h1, h2⟩ := ih (i + 1) o e
      exact ⟨j + 1, by rw [h1]; omega, by simpa using h2⟩
def opW (s : ByteArray) : Int × Bool := if (codeW plainL 1 s).2 = true then codeW plainL 1 s else if (codeW equalL 42 s).2 = true then codeW equalL 42 s else if (codeW signL 48 s).2 = true then codeW signL 48 s else (0, false)
theorem findR_skip (s : ByteArray) (hs : s ≠ ⟨#[]⟩) (n : Nat) (m : List ByteArray) (i : Nat) : findR (List.replicate n ⟨#[]⟩ ++ m) s i = findR m s (i + n) := by
  rw [findR_append, findR_empties s hs n i, if_neg (by decide), List.length_replicate]
theorem args_split : argsR = List.replicate 1 (⟨#[]⟩ : ByteArray) ++ argsL := rfl
theorem names_split : namesR = List.replicate 1 (⟨#[]⟩ : ByteArray) ++ (plainL ++ (List.replicate 6 (⟨#[]⟩ : ByteArray) ++ (equalL ++ (List.replicate 2 (⟨#[]⟩ : ByteArray) ++ signL)))) := rfl
theorem Code_eq (s : ByteArray) : codeW argsL 1 s = findE argsR s := by
  have h := codeW_eq argsL 1 s
  rw [show ((1 : Nat) : Int) = 1 from rfl] at h
  rw [h, findE]
  by_cases hs : s = ⟨#[]⟩
  · rw [if_pos hs, if_pos hs]
  · rw [if_neg hs, if_neg hs, args_split, findR_skip s hs]
theorem Op_eq (s : ByteArray) : opW s = findE namesR s := by
  have h1 := codeW_eq plainL 1 s
  have h2 := codeW_eq equalL 42 s
  have h3 := codeW_eq signL 48 s
  rw [show ((1 : Nat) : Int) = 1 from rfl] at h1
  rw [show ((42 : Nat) : Int) = 42 from rfl] at h2
  rw [show ((48 : Nat) : Int) = 48 from rfl] at h3
  rw [opW, h1, h2, h3, findE]
  by_cases hs : s = ⟨#[]⟩
  · simp only [if_pos hs]; rfl
  · simp only [if_neg hs]
    rw [names_split, findR_skip s hs, findR_append, findR_skip s hs, findR_append, findR_skip s hs]
    have hp : plainL.length = 35 := rfl
    have he : equalL.length = 4 := rfl
    rw [hp, he]
    show _ = if (findR plainL s 1).2 = true then findR plainL s 1 else if (findR equalL s 42).2 = true then findR equalL s 42 else findR signL s 48
    by_cases e3 : (findR signL s 48).2 = true
    · rw [if_pos e3]
    · rw [if_neg e3, findR_none s signL 48 (by simpa using e3)]
theorem atW_out (l : List ByteArray) (f c : Int) (n : Nat) (hn : l.length = n) (h : c < f ∨ f + (n : Int) ≤ c) : atW l f c = ⟨#[]⟩ := by
  unfold atW
  split
  · rfl
  · rw [List.getD_eq_getElem?_getD, List.getElem?_eq_none (by omega)]; rfl
theorem atR_out (l : List ByteArray) (c : Int) (n : Nat) (hn : l.length = n) (h : c < 0 ∨ (n : Int) ≤ c) : atR l c = ⟨#[]⟩ := by
  unfold atR
  split
  · rfl
  · rw [List.getD_eq_getElem?_getD, List.getElem?_eq_none (by omega)]; rfl
set_option maxRecDepth 100000 in
theorem Name_in : ∀ n : Fin 52, nameB (n.val : Int) = atR namesR (n.val : Int) := by decide +kernel
theorem Name_eq (c : Int) : nameB c = atR namesR c := by
  by_cases h : c < 0 ∨ 52 ≤ c
  · rw [atR_out namesR c 52 rfl (by omega)]
    unfold nameB
    rw [atW_out plainL 1 c 35 rfl (by omega), atW_out equalL 42 c 4 rfl (by omega), atW_out signL 48 c 4 rfl (by omega)]
    rfl
  · obtain ⟨n, rfl⟩ : ∃ n : Nat, c = (n : Int) := ⟨c.toNat, by omega⟩
    exact Name_in ⟨n, by omega⟩
set_option maxRecDepth 100000 in
theorem Arg_in : ∀ n : Fin 21, argB (n.val : Int) = atR argsR (n.val : Int) := by decide +kernel
theorem Arg_eq (c : Int) : argB c = atR argsR c := by
  by_cases h : c < 0 ∨ 21 ≤ c
  · rw [atR_out argsR c 21 rfl (by omega)]
    exact atW_out argsL 1 c 20 rfl (by omega)
  · obtain ⟨n, rfl⟩ : ∃ n : Nat, c = (n : Int) := ⟨c.toNat, by omega⟩
    exact Arg_in ⟨n, by omega⟩
set_option maxRecDepth 100000 in
theorem Name_back_in : ∀ n : Fin 52, atR namesR (n.val : Int) ≠ ⟨#[]⟩ → findR namesR (atR namesR (n.val : Int)) 0 = ((n.val : Int), true) := by decide +kernel
theorem Name_back (c : Int) (h : nameB c ≠ ⟨#[]⟩) : opW (nameB c) = (c, true) := by
  rw [Op_eq, findE, if_neg h]
  rw [Name_eq] at h ⊢
  by_cases hr : c < 0 ∨ 52 ≤ c
  · exact absurd (atR_out namesR c 52 rfl (by omega)) h
  · obtain ⟨n, rfl⟩ : ∃ n : Nat, c = (n : Int) := ⟨c.toNat, by omega⟩
    exact Name_back_in ⟨n, by omega⟩ h
set_option maxRecDepth 100000 in
theorem Arg_back_in : ∀ n : Fin 21, atR argsR (n.val : Int) ≠ ⟨#[]⟩ → findR argsR (atR argsR (n.val : Int)) 0 = ((n.val : Int), true) := by decide +kernel
theorem Arg_back (c : Int) (h : argB c ≠ ⟨#[]⟩) : codeW argsL 1 (argB c) = (c, true) := by
  rw [Code_eq, findE, if_neg h]
  rw [Arg_eq] at h ⊢
  by_cases hr : c < 0 ∨ 21 ≤ c
  · exact absurd (atR_out argsR c 21 rfl (by omega)) h
  · obtain ⟨n, rfl⟩ : ∃ n : Nat, c = (n : Int) := ⟨c.toNat, by omega⟩
    exact Arg_back_in ⟨n, by omega⟩ h
theorem find_at (l : List ByteArray) (n : Nat) (hn : l.length = n) (s : ByteArray) (o : Int) (h : findE l s = (o, true)) : atR l o = s ∧ 0 ≤ o ∧ o < n := by
  unfold findE at h
  split at h
  · cases h
  · obtain ⟨j, h1, h2⟩ := findR_at s l 0 o h
    have hj := (List.getElem?_eq_some_iff.1 h2).1
    refine ⟨?_, by omega, by omega⟩
    unfold atR
    rw [if_neg (by omega), List.getD_eq_getElem?_getD, show o.toNat = j by omega, h2]; rfl
theorem Op_at (s : ByteArray) (o : Int) (h : opW s = (o, true)) : nameB o = s ∧ 0 ≤ o ∧ o < 52 := by
  rw [Op_eq] at h
  rw [Name_eq]
  exact find_at namesR 52 rfl s o h
theorem Code_at (s : ByteArray) (o : Int) (h : codeW argsL 1 s = (o, true)) : argB o = s ∧ 0 ≤ o ∧ o < 21 := by
  rw [Code_eq] at h
  rw [Arg_eq]
  exact find_at argsR 21 rfl s o h
def condB (op : Int) : Bool := decide (42 ≤ op ∧ op ≤ 45 ∨ 48 ≤ op ∧ op ≤ 51)
def againstB (op : Int) : Int × Bool := if condB op = true then (if op % 2 = 0 then op + 1 else op - 1, true) else (0, false)
def condS (op : Int) : ByteArray := atW equalL 42 op ++ atW signL 48 op
theorem condS_no (op : Int) (h : condB op = false) : condS op = ⟨#[]⟩ := by
  have h' := of_decide_eq_false h
  unfold condS
  rw [atW_out equalL 42 op 4 rfl (by omega), atW_out signL 48 op 4 rfl (by omega)]
  rfl
theorem cond_in (op : Int) (h : condB op = true) : op = 42 ∨ op = 43 ∨ op = 44 ∨ op = 45 ∨ op = 48 ∨ op = 49 ∨ op = 50 ∨ op = 51 := by
  have h' := of_decide_eq_true h
  omega
theorem condS_is (op : Int) (h : condB op = true) : condS op ≠ ⟨#[]⟩ := by
  rcases cond_in op h with rfl | rfl | rfl | rfl | rfl | rfl | rfl | rfl <;> decide +kernel
theorem against_xor (op : Int) (h : condB op = true) : Go.bits .xor .i64 op 1 = (againstB op).1 := by
  rcases cond_in op h with rfl | rfl | rfl | rfl | rfl | rfl | rfl | rfl <;> decide +kernel
theorem against_is (op : Int) (h : condB op = true) : (againstB op).2 = true := by
  unfold againstB; rw [if_pos h]
theorem against_no (op : Int) (h : condB op = false) : againstB op = (0, false) := by
  unfold againstB; rw [if_neg (by rw [h]; decide)]
theorem against_twice (op : Int) (h : condB op = true) : againstB (againstB op).1 = (op, true) := by
  rcases cond_in op h with rfl | rfl | rfl | rfl | rfl | rfl | rfl | rfl <;> decide +kernel
end Go.Proofs.YtejhagejjogbaaaDoor.Pl9
