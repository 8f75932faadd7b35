import Derived.Test.YtejhagejjogbaaaDoorZNum
namespace Go.Proofs.YtejhagejjogbaaaDoor.Num
open Go.RowKit Go.Proofs.YtejhagejjogbaaaDoor.Given Go.Proofs.YtejhagejjogbaaaDoor.Pn Go.Proofs.YtejhagejjogbaaaDoorW.PrintWords Go.Proofs.YtejhagejjogbaaaDoorW.PrintLast
theorem rep_def {old new : List UInt8} (hne : old ≠ new) (s : List UInt8) : Lib.replaceAll s old new = Lib.replaceK old new (Lib.count s old) s := by
  unfold Lib.replaceAll Lib.replace Lib.replaceNum
  rw [if_neg (by simpa using hne), if_pos (Or.inl (by decide))]
theorem rep_nil {old new : List UInt8} (ho : old ≠ []) (hne : old ≠ new) : Lib.replaceAll [] old new = [] := by
  rw [rep_def hne, Lib.count_miss (by cases old with | nil => exact absurd rfl ho | cons a t => rfl)]
  rfl
theorem rep_hit {old new s : List UInt8} (ho : old ≠ []) (hne : old ≠ new) (hp : old.isPrefixOf s = true) : Lib.replaceAll s old new = new ++ Lib.replaceAll (s.drop old.length) old new := by
  have hi : Lib.index s old = (0 : Nat) := by
    cases s with
    | nil => cases old with
      | nil => exact absurd rfl ho
      | cons a t => simp at hp
    | cons c t => unfold Lib.index; rw [if_pos hp]; rfl
  rw [rep_def hne, rep_def hne, Lib.count_hit ho hi, Nat.add_comm 1, Lib.replaceK_hit _ _ _ _ 0 hi]
  simp
theorem rep_miss {old new : List UInt8} {c : UInt8} {t : List UInt8} (ho : old ≠ []) (hne : old ≠ new) (hp : old.isPrefixOf (c :: t) = false) : Lib.replaceAll (c :: t) old new = c :: Lib.replaceAll t old new := by
  have hge := Lib.index_ge t old
  rw [rep_def hne, rep_def hne]
  by_cases hm : Lib.index t old = -1
  · have hi : Lib.index (c :: t) old = -1 := by
      unfold Lib.index
      rw [if_neg (by simp [hp]), if_pos (by simpa using hm)]
    rw [Lib.count_miss hi, Lib.count_miss hm]
    rfl
  · obtain ⟨i, hi⟩ : ∃ i : Nat, Lib.index t old = i := ⟨(Lib.index t old).toNat, by omega⟩
    have hi' : Lib.index (c :: t) old = ((i + 1 : Nat) : Int) := by
      unfold Lib.index
      rw [if_neg (by simp [hp]), if_neg (by simpa using hm), hi]; rfl
    have e : i + 1 + old.length = (i + old.length) + 1 := by omega
    rw [Lib.count_hit ho hi', Lib.count_hit ho hi, Nat.add_comm 1, Nat.add_comm 1, Lib.replaceK_hit _ _ _ _ _ hi', Lib.replaceK_hit _ _ _ _ _ hi, e]
    simp
theorem pre1 (c : UInt8) (t : List UInt8) (h : c ≠ 39) : ([39] : List UInt8).isPrefixOf (c :: t) = false := by
  have : ((39 : UInt8) == c) = false := by simpa using fun e => h e.symm
  rw [List.isPrefixOf, this]; rfl
theorem pre2 (c d : UInt8) (t : List UInt8) (h : ¬ (c = 39 ∧ d = 39)) : ([39, 39] : List UInt8).isPrefixOf (c :: d :: t) = false := by
  rw [List.isPrefixOf, List.isPrefixOf]
  cases h1 : ((39 : UInt8) == c) with
  | false => rfl
  | true =>
    cases h2 : ((39 : UInt8) == d) with
    | false => rfl
    | true => exact absurd ⟨(beq_iff_eq.1 h1).symm, (beq_iff_eq.1 h2).symm⟩ h
def dbl : List UInt8 → List UInt8
  | [] => []
  | c :: t => if c = 39 then 39 :: 39 :: dbl t else c :: dbl t
def und : List UInt8 → List UInt8
  | [] => []
  | [c] => [c]
  | c :: d :: t => if c = 39 ∧ d = 39 then 39 :: und t else c :: und (d :: t)
theorem dbl_eq (l : List UInt8) : Lib.replaceAll l [39] [39, 39] = dbl l := by
  induction l with
  | nil => exact rep_nil (by decide) (by decide)
  | cons c t ih =>
    by_cases h : c = 39
    · subst h
      rw [rep_hit (by decide) (by decide) (by simp [List.isPrefixOf]), dbl, if_pos rfl]
      simp [ih]
    · rw [rep_miss (by decide) (by decide) (pre1 c t h), dbl, if_neg h, ih]
theorem und_eq : ∀ l : List UInt8, Lib.replaceAll l [39, 39] [39] = und l
  | [] => rep_nil (by decide) (by decide)
  | [c] => by
    rw [rep_miss (by decide) (by decide) (by simp [List.isPrefixOf]), rep_nil (by decide) (by decide), und]
  | c :: d :: t => by
    by_cases h : c = 39 ∧ d = 39
    · obtain ⟨rfl, rfl⟩ := h
      rw [rep_hit (by decide) (by decide) (by simp [List.isPrefixOf]), und, if_pos ⟨rfl, rfl⟩]
      simp [und_eq t]
    · rw [rep_miss (by decide) (by decide) (pre2 c d t h), und, if_neg h, und_eq (d :: t)]
theorem und_39 (d : UInt8) (t : List UInt8) (h : d ≠ 39) : und (39 :: d :: t) = 39 :: und (d :: t) := by
  rw [und, if_neg (fun e => h e.2)]
theorem und_ne {c : UInt8} (h : c ≠ 39) (t : List UInt8) : und (c :: t) = c :: und t := by
  cases t with
  | nil => rfl
  | cons d t => rw [und, if_neg (fun e => h e.1)]
theorem und_dbl : ∀ l : List UInt8, und (dbl l) = l
  | [] => rfl
  | c :: t => by
    rw [dbl]
    by_cases h : c = 39
    · subst h
      rw [if_pos rfl, und, if_pos ⟨rfl, rfl⟩, und_dbl t]
    · rw [if_neg h, und_ne h, und_dbl t]
theorem dbl_bad (l : List UInt8) : (dbl l).any badB = l.any badB := by
  induction l with
  | nil => rfl
  | cons c t ih =>
    rw [dbl]
    by_cases h : c = 39
    · subst h
      rw [if_pos rfl]
      simp [ih, badB]
    · rw [if_neg h]
      simp [ih]
theorem dbl_len (l : List UInt8) : (dbl l).length ≤ 2 * l.length := by
  induction l with
  | nil => exact Nat.le_refl _
  | cons c t ih =>
    rw [dbl]
    split <;> simp <;> omega
def ru : List UInt8 → Option (List UInt8)
  | [] => some []
  | [c] => if badB c then none else if c = 39 then none else some [c]
  | c :: d :: t => if badB c then none else if c = 39 then (if d = 39 then (ru t).map (39 :: ·) else none) else (ru (d :: t)).map (c :: ·)
theorem ru_cons {c : UInt8} (hb : badB c = false) (h : c ≠ 39) (t : List UInt8) : ru (c :: t) = (ru t).map (c :: ·) := by
  cases t with
  | nil => simp [ru, hb, h]
  | cons d t => rw [ru]; simp [hb, h]
theorem ru_bad {c : UInt8} (hb : badB c = true) (t : List UInt8) : ru (c :: t) = none := by
  cases t with
  | nil => simp [ru, hb]
  | cons d t => rw [ru]; simp [hb]
theorem bad39 : badB 39 = false := by decide
theorem ru_eq : ∀ l : List UInt8, ru l = if l.any badB = false ∧ dbl (und l) = l then some (und l) else none
  | [] => rfl
  | [c] => by
    by_cases hb : badB c = true
    · simp [ru, hb]
    · have hb : badB c = false := by simpa using hb
      by_cases h : c = 39
      · subst h; simp [ru, und, dbl]
      · simp [ru, und, dbl, hb, h]
  | c :: d :: t => by
    have ih1 := ru_eq t
    have ih2 := ru_eq (d :: t)
    by_cases hb : badB c = true
    · rw [ru_bad hb, if_neg]; simp [hb]
    · have hb : badB c = false := by simpa using hb
      by_cases h : c = 39
      · subst h
        by_cases hd : d = 39
        · subst hd
          rw [ru]
          simp only [bad39, Bool.false_eq_true, if_false, if_true, ih1, und, and_self, dbl, List.any_cons, Bool.false_or, List.cons.injEq, true_and]
          split <;> rfl
        · rw [ru]
          simp only [bad39, Bool.false_eq_true, if_false, if_true, hd]
          rw [und_39 d t hd, dbl, if_pos rfl, if_neg]
          rintro ⟨_, e⟩
          simp only [List.cons.injEq, true_and] at e
          exact hd e.1.symm
      · rw [ru_cons hb h, ih2, und_ne h, dbl, if_neg h]
        simp only [List.any_cons (a := c), hb, Bool.false_or, List.cons.injEq, true_and]
        split <;> rfl
def unqL (l : List UInt8) : List UInt8 × Int :=
  if 2 ≤ l.length ∧ l.head? = some 39 ∧ l.getLast? = some 39 then (match ru (l.tail.dropLast) with | some o => (o, 0) | none => ([], 2)) else ([], 2)
theorem suffix1 (l : List UInt8) : Lib.hasSuffix l [39] = true ↔ l.getLast? = some 39 := by
  unfold Lib.hasSuffix
  rw [List.isSuffixOf_iff_suffix]
  constructor
  · rintro ⟨t, rfl⟩; simp
  · intro h
    obtain ⟨t, rfl⟩ := List.getLast?_eq_some_iff.1 h
    exact ⟨t, rfl⟩
theorem unqS_eq (l : List UInt8) : unqS l = unqL l := by
  unfold unqS unqL
  cases l with
  | nil => rfl
  | cons c t =>
    by_cases hc : c = 39
    · subst hc
      have e1 : Lib.hasPrefix (39 :: t) [39] = true := by simp [Lib.hasPrefix]
      have e2 : Lib.trimPrefix (39 :: t) [39] = t := by simp [Lib.trimPrefix, e1]
      simp only [e1, e2, List.head?_cons, List.tail_cons, true_and, List.length_cons]
      by_cases hs : t.getLast? = some 39
      · obtain ⟨m, rfl⟩ := List.getLast?_eq_some_iff.1 hs
        have e3 := (suffix1 (m ++ [39])).2 hs
        have e4 : Lib.trimSuffix (m ++ [39]) [39] = m := by simp [Lib.trimSuffix, e3]
        have e5 : (39 :: (m ++ [39])).getLast? = some (39 : UInt8) := by
          rw [← List.cons_append, List.getLast?_concat]
        have e6 : 2 ≤ (m ++ [39]).length + 1 := by simp
        simp only [e3, e4, e5, e6, und_eq, dbl_eq, List.dropLast_concat, true_and, and_self, if_true, ru_eq m]
        split <;> rfl
      · have e3 : Lib.hasSuffix t [39] = false := by
          cases hh : Lib.hasSuffix t [39] with
          | false => rfl
          | true => exact absurd ((suffix1 t).1 hh) hs
        rw [if_neg (by simp [e3]), if_neg]
        rintro ⟨h2, h3⟩
        cases t with
        | nil => simp at h2
        | cons d t => rw [List.getLast?_cons_cons] at h3; exact hs h3
    · have e1 : Lib.hasPrefix (c :: t) [39] = false := pre1 c t hc
      rw [if_neg (by simp [e1]), if_neg (by simp [hc])]
theorem unq_quote (l : List UInt8) : unqS (39 :: (dbl l ++ [39])) = if l.any badB = false then (l, 0) else ([], 2) := by
  rw [unqS_eq]
  unfold unqL
  have e5 : (39 :: (dbl l ++ [39])).getLast? = some (39 : UInt8) := by
    rw [← List.cons_append, List.getLast?_concat]
  rw [if_pos ⟨by simp, by simp, e5⟩]
  simp only [List.tail_cons, List.dropLast_concat, ru_eq, und_dbl, dbl_bad, and_true]
  split
  · rename_i o h; split at h <;> simp_all
  · rename_i h; split at h <;> simp_all
end Go.Proofs.YtejhagejjogbaaaDoor.Num
