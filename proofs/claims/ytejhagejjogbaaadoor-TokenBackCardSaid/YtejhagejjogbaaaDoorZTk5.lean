import Derived.Test.YtejhagejjogbaaaDoorZTk3
namespace Go.Proofs.YtejhagejjogbaaaDoor.Tk
open Go.RowKit Go.Proofs.YtejhagejjogbaaaDoor.Given Go.Proofs.YtejhagejjogbaaaDoor.Pn Go.Proofs.YtejhagejjogbaaaDoor.Pa Go.Proofs.YtejhagejjogbaaaDoor.Pb Go.Proofs.YtejhagejjogbaaaDoor.Pc Go.Proofs.YtejhagejjogbaaaDoor.Num Go.Proofs.YtejhagejjogbaaaDoor.TokSpan Go.Proofs.YtejhagejjogbaaaDoorW.PrintWords Go.Proofs.YtejhagejjogbaaaDoorW.PrintLast
set_option linter.unusedSimpArgs false
set_option linter.unusedVariables false
theorem tw_sep {p : UInt8 → Bool} {s : UInt8} (hp : p s = false) (r : List UInt8) : ∀ l : List UInt8, (l ++ s :: r).takeWhile p = l.takeWhile p
  | [] => by simp [List.takeWhile_cons, hp]
  | c :: t => by
    rw [List.cons_append, List.takeWhile_cons, List.takeWhile_cons, tw_sep hp r t]
theorem qlen_sep {s : UInt8} (hs : s ≠ 39) (r : List UInt8) : ∀ (t : List UInt8) (m : Nat), qlen t = some m → qlen (t ++ s :: r) = some m
  | [], m, h => by simp [qlen] at h
  | [c], m, h => by
    rw [qlen] at h
    split at h
    · rename_i hc
      obtain rfl := Option.some.inj h
      rw [List.cons_append, List.nil_append, qlen, if_pos hc, if_neg hs]
    · cases h
  | c :: d :: t, m, h => by
    rw [qlen] at h
    rw [List.cons_append, List.cons_append, qlen]
    split at h
    · rename_i hc
      rw [if_pos hc]
      split at h
      · rename_i hd
        obtain ⟨a, ha, rfl⟩ := Option.map_eq_some_iff.1 h
        rw [if_pos hd, qlen_sep hs r t a ha]; rfl
      · rename_i hd
        rw [if_neg hd]; exact h
    · rename_i hc
      obtain ⟨a, ha, rfl⟩ := Option.map_eq_some_iff.1 h
      rw [if_neg hc, ← List.cons_append, qlen_sep hs r (d :: t) a ha]; rfl
theorem first_sep {s : UInt8} (h1 : p1 s = false) (h2 : p2 s = false) (h3 : s ≠ 39) (r : List UInt8) (c : UInt8) (t : List UInt8) (h : (firstL (c :: t)).2.2.2.2 = 0) : firstL ((c :: t) ++ s :: r) = firstL (c :: t) := by
  have e1 := tw_sep h1 r (c :: t)
  have e2 := tw_sep h2 r (c :: t)
  have l1 := tw_le p1 (c :: t)
  have l2 := tw_le p2 (c :: t)
  rw [List.cons_append] at e1 e2
  rw [List.cons_append]
  unfold firstL at h ⊢
  simp only at h ⊢
  have tk (n : Nat) (hn : n ≤ (c :: t).length) : (c :: (t ++ s :: r)).take n = (c :: t).take n := by
    rw [← List.cons_append, List.take_append_of_le_length hn]
  rw [e1, e2, tk _ l1, tk _ l2]
  split at h
  · rename_i hb
    rw [if_pos hb, if_pos hb]
  · rename_i hb
    rw [if_neg hb, if_neg hb]
    split at h
    · rename_i hd
      rw [if_pos hd, if_pos hd]
    · rename_i hd
      rw [if_neg hd, if_neg hd]
      split at h
      · rename_i h9
        rw [if_pos h9, if_pos h9]
        cases hq : qlen t with
        | none => rw [hq] at h; cases h
        | some m =>
          have := qlen_le t m hq
          rw [qlen_sep h3 r t m hq]
          simp only
          rw [tk (m + 1) (by simp; omega)]
      · rename_i h9
        rw [if_neg h9, if_neg h9]
theorem sep32 : p1 32 = false ∧ p2 32 = false ∧ (32 : UInt8) ≠ 39 := by decide
theorem toks_gap {n : Nat} {c : UInt8} {t : List UInt8} (h : c = 32 ∨ c = 9) : toks (n + 1) (c :: t) = toks n t := by
  show (if c = 32 ∨ c = 9 then toks n t else _) = _
  rw [if_pos h]
theorem toks_else {n : Nat} {c : UInt8} {t : List UInt8} (h1 : ¬ (c = 32 ∨ c = 9)) (h2 : c ≠ 59) : toks (n + 1) (c :: t) =
    if (firstL (c :: t)).2.2.2.2 = 0 then
      (if (toks n ((c :: t).drop (firstL (c :: t)).2.2.2.1.toNat)).2 = 0 then (tk (firstL (c :: t)) :: (toks n ((c :: t).drop (firstL (c :: t)).2.2.2.1.toNat)).1, 0) else ([], (toks n ((c :: t).drop (firstL (c :: t)).2.2.2.1.toNat)).2))
    else ([], (firstL (c :: t)).2.2.2.2) := by
  show (if c = 32 ∨ c = 9 then toks n t else if c = 59 then ([], 0) else _) = _
  rw [if_neg h1, if_neg h2]
end Go.Proofs.YtejhagejjogbaaaDoor.Tk
