import Derived.Test.YtejhagejjogbaaaDoorZTk2
import Derived.Test.YtejhagejjogbaaaDoorZPc0
import Derived.Test.YtejhagejjogbaaaDoorZPc1
import Derived.Test.YtejhagejjogbaaaDoorZPb1
import Derived.Test.YtejhagejjogbaaaDoorZPn2
import Derived.Test.YtejhagejjogbaaaDoorZPn0
namespace Go.Proofs.YtejhagejjogbaaaDoor.Tk
open Go.RowKit Go.Proofs.YtejhagejjogbaaaDoor.Given Go.Proofs.YtejhagejjogbaaaDoor.Pn Go.Proofs.YtejhagejjogbaaaDoor.Pa Go.Proofs.YtejhagejjogbaaaDoor.Pb Go.Proofs.YtejhagejjogbaaaDoor.Pc Go.Proofs.YtejhagejjogbaaaDoor.Num Go.Proofs.YtejhagejjogbaaaDoor.TokSpan Go.Proofs.YtejhagejjogbaaaDoorW.PrintWords Go.Proofs.YtejhagejjogbaaaDoorW.PrintLast
set_option linter.unusedSimpArgs false
set_option linter.unusedVariables false
def cv (t : S41) : S46 := ⟨t.f0, t.f1, t.f2⟩
def tk (f : Int × ByteArray × Int × Int × Int) : S41 := ⟨f.1, f.2.1, f.2.2.1⟩
def toks : Nat → List UInt8 → List S41 × Int
  | 0, _ => ([], 0)
  | _ + 1, [] => ([], 0)
  | n + 1, c :: t =>
    if c = 32 ∨ c = 9 then toks n t else if c = 59 then ([], 0)
    else if (firstL (c :: t)).2.2.2.2 = 0 then
      (if (toks n ((c :: t).drop (firstL (c :: t)).2.2.2.1.toNat)).2 = 0 then (tk (firstL (c :: t)) :: (toks n ((c :: t).drop (firstL (c :: t)).2.2.2.1.toNat)).1, 0) else ([], (toks n ((c :: t).drop (firstL (c :: t)).2.2.2.1.toNat)).2))
    else ([], (firstL (c :: t)).2.2.2.2)
theorem tw_pos {p : UInt8 → Bool} {c : UInt8} {t : List UInt8} (h : p c = true) : 1 ≤ ((c :: t).takeWhile p).length := by
  rw [List.takeWhile_cons_of_pos h]; simp
theorem first_len (c : UInt8) (t : List UInt8) (h : (firstL (c :: t)).2.2.2.2 = 0) : ∃ n : Nat, (firstL (c :: t)).2.2.2.1 = (n : Int) ∧ 1 ≤ n ∧ n ≤ (c :: t).length := by
  have h1 := tw_le p1 (c :: t)
  have h2 := tw_le p2 (c :: t)
  unfold firstL at h ⊢
  simp only at h ⊢
  split at h
  · rename_i hb
    rw [if_pos hb]
    split at h
    · cases h
    · rename_i h16
      rw [if_neg h16]
      exact ⟨_, rfl, tw_pos (beg_p1 c hb), h1⟩
  · rename_i hb
    rw [if_neg hb]
    split at h
    · rename_i hd
      rw [if_pos hd]
      exact ⟨_, rfl, tw_pos (dig_p2 c hd), h2⟩
    · rename_i hd
      rw [if_neg hd]
      split at h
      · rename_i h9
        rw [if_pos h9]
        cases hq : qlen t with
        | none => rw [hq] at h; cases h
        | some m =>
          have := qlen_le t m hq
          exact ⟨m + 1, rfl, by omega, by simp; omega⟩
      · rename_i h9
        rw [if_neg h9]
        split at h
        · rename_i hm
          rw [if_pos hm]
          exact ⟨1, rfl, by omega, by simp⟩
        · cases h
theorem drop_cons' {α : Type} {l : List α} {i : Nat} (h : i < l.length) : l.drop i = l[i] :: l.drop (i + 1) := List.drop_eq_getElem_cons h
theorem toks_err (n : Nat) : ∀ l, (toks n l).2 ≠ 0 → (toks n l).1 = [] := by
  induction n with
  | zero => intro l _; rfl
  | succ n ih =>
    intro l h
    cases l with
    | nil => rfl
    | cons c t =>
      unfold toks at h ⊢
      split
      · rename_i h1; rw [if_pos h1] at h; exact ih _ h
      · rename_i h1
        rw [if_neg h1] at h
        split
        · rfl
        · rename_i h2
          rw [if_neg h2] at h
          split
          · rename_i h3
            rw [if_pos h3] at h
            split
            · rename_i h4; rw [if_pos h4] at h; exact absurd rfl h
            · rfl
          · rfl
def accT {α : Type} (acc : List α) (f : S41 → α) (r : List S41 × Int) : List α × Int := if r.2 = 0 then (acc ++ r.1.map f, 0) else ([], r.2)
theorem accT_cons {α : Type} (acc : List α) (f : S41 → α) (t : S41) (r : List S41 × Int) : accT (acc ++ [f t]) f r = accT acc f (if r.2 = 0 then (t :: r.1, 0) else ([], r.2)) := by
  unfold accT
  by_cases h : r.2 = 0
  · simp [h]
  · simp [h]
theorem line_l0 (d : Nat) : ∀ (x : ByteArray) (acc : List S41), x.size ≤ d → x.size ≤ 1000 → acc.length + x.size ≤ 100000 →
    Ev (fun k => token_Line.l0 k x acc) (accT acc id (toks d (L x))) := by
  induction d with
  | zero =>
    intro x acc hd hs ha
    have e : L x = [] := List.length_eq_zero_iff.1 (by rw [L_len]; omega)
    refine Ev.step (fun k => rfl) ?_
    simp only [token_Line.l0, e, toks, accT, if_neg (show ¬ (x.size : Int) > 0 by omega), if_true, List.map_nil, List.append_nil]
    exact Ev.now _
  | succ d ih =>
    intro x acc hd hs ha
    have hL := L_len x
    have hb0 := bt_L x 0
    cases hx : L x with
    | nil =>
      rw [hx] at hL
      simp only [List.length_nil] at hL
      refine Ev.step (fun k => rfl) ?_
      simp only [token_Line.l0, toks, accT, if_neg (show ¬ (x.size : Int) > 0 by omega), if_true, List.map_nil, List.append_nil]
      exact Ev.now _
    | cons c t =>
      rw [hx] at hL
      simp only [List.length_cons] at hL
      have b0 : bt x 0 = (c.toNat : Int) := by
        have := hb0 (by rw [hx]; simp)
        simp only [hx, List.getElem_cons_zero] at this
        exact this
      have c32 : ((c.toNat : Int) = 32) ↔ c = 32 := by
        constructor
        · intro h; exact UInt8.toNat_inj.1 (by have : c.toNat = 32 := by omega
                                               rw [this]; rfl)
        · rintro rfl; rfl
      have c9 : ((c.toNat : Int) == 9) = decide (c = 9) := by
        rw [Bool.eq_iff_iff]
        simp only [beq_iff_eq, decide_eq_true_eq]
        constructor
        · intro h; exact UInt8.toNat_inj.1 (by have : c.toNat = 9 := by omega
                                               rw [this]; rfl)
        · rintro rfl; rfl
      have c59 : ((c.toNat : Int) = 59) ↔ c = 59 := by
        constructor
        · intro h; exact UInt8.toNat_inj.1 (by have : c.toNat = 59 := by omega
                                               rw [this]; rfl)
        · rintro rfl; rfl
      have hj : Ev (fun k => token_Line.j1 k x acc (c.toNat : Int) (decide (c = 32 ∨ c = 9))) (accT acc id (toks (d + 1) (c :: t))) := by
        refine Ev.step (fun k => rfl) ?_
        simp only [token_Line.j1]
        rw [toks]
        by_cases hsp : c = 32 ∨ c = 9
        · simp only [hsp, decide_true, if_true, if_pos (show (1 : Int) ≤ (x.size : Int) by omega)]
          have e1 : L (x.extract 1 x.size) = t := by rw [L_drop, hx]; rfl
          have := ih (x.extract 1 x.size) acc (by simp; omega) (by simp; omega) (by simp; omega)
          rw [e1] at this
          exact this
        · simp only [hsp, decide_false, Bool.false_eq_true, if_false, c59]
          by_cases h59 : c = 59
          · simp only [h59, if_true, accT, List.map_nil, List.append_nil]; exact Ev.now _
          · simp only [if_neg h59]
            refine Ev.bind (first_ev x (by omega) hs) ?_
            rw [hx]
            by_cases hk : (firstL (c :: t)).2.2.2.2 = 0
            · obtain ⟨n, e, h1, h2⟩ := first_len c t hk
              simp only [List.length_cons] at h2
              simp only [if_pos hk, e, Int.toNat_natCast, if_pos (show acc.length < 4398046511104 by omega), if_pos (show (0 : Int) ≤ (n : Int) by omega), if_pos (show (n : Int) ≤ (x.size : Int) by omega)]
              have e1 : L (x.extract n x.size) = (c :: t).drop n := by rw [L_drop, hx]
              have := ih (x.extract n x.size) (acc ++ [id (tk (firstL (c :: t)))]) (by simp; omega) (by simp; omega) (by simp; omega)
              rw [e1, accT_cons] at this
              exact this
            · simp only [if_neg hk, accT]
              exact Ev.now _
      refine Ev.step (fun k => rfl) ?_
      simp only [token_Line.l0]
      simp only [if_pos (show (x.size : Int) > 0 by omega), if_pos (show (0 : Int) < (x.size : Int) by omega), b0, c32, c9]
      by_cases h32 : c = 32
      · simp only [h32, if_true]
        simp only [h32, true_or, decide_true] at hj
        exact hj
      · simp only [h32, if_false]
        simp only [h32, false_or] at hj
        exact hj
def lineT (x : ByteArray) : List S41 × Int := if 200 < x.size then ([], 11) else toks x.size (L x)
theorem lineT_acc (x : ByteArray) (h : ¬ 200 < x.size) : accT [] id (toks x.size (L x)) = lineT x := by
  unfold accT lineT
  rw [if_neg h]
  by_cases h0 : (toks x.size (L x)).2 = 0
  · rw [if_pos h0]; simp; rw [← h0]
  · rw [if_neg h0]; rw [← toks_err _ _ h0]
theorem line_ev (x : ByteArray) : Ev (fun k => token_Line.f k x) (lineT x) := by
  unfold token_Line.f
  by_cases h : 200 < x.size
  · unfold lineT
    simp only [if_pos h, if_pos (show (x.size : Int) > 200 by omega)]
    exact Ev.now _
  · simp only [if_neg (show ¬ (x.size : Int) > 200 by omega)]
    rw [← lineT_acc x h]
    exact line_l0 _ x [] (Nat.le_refl _) (by omega) (by simp; omega)
theorem toks_len (n : Nat) : ∀ l : List UInt8, (toks n l).1.length ≤ l.length := by
  induction n with
  | zero => intro l; exact Nat.zero_le _
  | succ n ih =>
    intro l
    cases l with
    | nil => exact Nat.le_refl _
    | cons c t =>
      unfold toks
      split
      · have := ih t; simp; omega
      · split
        · simp
        · split
          · rename_i h3
            obtain ⟨q, e, h1, h2⟩ := first_len c t h3
            split
            · rw [e, Int.toNat_natCast]
              have := ih ((c :: t).drop q)
              simp only [List.length_drop, List.length_cons] at this ⊢
              omega
            · simp
          · simp
theorem lineT_len (x : ByteArray) : (lineT x).1.length ≤ 200 := by
  unfold lineT
  split
  · simp
  · have := toks_len x.size (L x)
    rw [L_len] at this
    omega
theorem rd41_at (l : List S41) (i : Nat) (h : i < l.length) : rd_T41 l (i : Int) = l[i] := by
  simp [rd_T41, List.getD_eq_getElem?_getD, List.getElem?_eq_getElem h]
theorem back_l0 (l : List S41) (hs : l.length ≤ 100000) (d : Nat) : ∀ (i : Nat) (acc : List S46), i + d = l.length → acc.length ≤ i →
    Ev (fun k => pidginlaw04_Back.l0 k l acc (i : Int)) (acc ++ (l.drop i).map cv) := by
  induction d with
  | zero =>
    intro i acc hi ha
    refine Ev.step (fun k => rfl) ?_
    simp only [pidginlaw04_Back.l0, if_neg (show ¬ (i : Int) < (l.length : Int) by omega)]
    rw [List.drop_eq_nil_of_le (by omega), List.map_nil, List.append_nil]
    exact Ev.now _
  | succ d ih =>
    intro i acc hi ha
    have hl : i < l.length := by omega
    refine Ev.step (fun k => rfl) ?_
    simp only [pidginlaw04_Back.l0, if_pos (show (i : Int) < (l.length : Int) by omega), if_pos (show (0 : Int) ≤ (i : Int) by omega), if_pos (show acc.length < 4398046511104 by omega), rd41_at l i hl, inc_w (show i ≤ 140737488351300 by omega)]
    rw [drop_cons' hl, List.map_cons]
    have := ih (i + 1) (acc ++ [cv l[i]]) (by omega) (by simp; omega)
    rw [List.append_assoc] at this
    exact this
theorem back_ev (l : List S41) (hs : l.length ≤ 100000) : Ev (fun k => pidginlaw04_Back.f k l) (l.map cv) := by
  unfold pidginlaw04_Back.f
  have := back_l0 l hs l.length 0 [] (by omega) (by simp)
  simpa using this
theorem same_l0 (l : List S46) (hs : l.length ≤ 100000) (d : Nat) : ∀ (i : Nat), i + d = l.length → Ev (fun k => pidginref04_Same.l0 k l l (i : Int)) true := by
  induction d with
  | zero =>
    intro i hi
    refine Ev.step (fun k => rfl) ?_
    simp only [pidginref04_Same.l0, if_neg (show ¬ (i : Int) < (l.length : Int) by omega)]
    exact Ev.now _
  | succ d ih =>
    intro i hi
    refine Ev.step (fun k => rfl) ?_
    simp only [pidginref04_Same.l0, if_pos (show (i : Int) < (l.length : Int) by omega), if_pos (show (0 : Int) ≤ (i : Int) by omega), beq_self_eq_true, Bool.not_true, Bool.or_false, Bool.false_eq_true, if_false, inc_w (show i ≤ 140737488351300 by omega)]
    exact ih (i + 1) (by omega)
theorem same_ev (l : List S46) (hs : l.length ≤ 100000) : Ev (fun k => pidginref04_Same.f k l l) true := by
  unfold pidginref04_Same.f
  simp only [if_true]
  exact same_l0 l hs l.length 0 (by omega)
theorem alive4 : Ev (fun k => pidginlaw04_alive.f k) true := Ev.of pidginlaw04_alive.mono (k := 200) (by decide +kernel)
theorem alive4t : Ev (fun k => (pidginlaw04_alive.f k).bind fun t => some t) true := Ev.bind alive4 (f := fun _ t => some t) (Ev.now true)
end Go.Proofs.YtejhagejjogbaaaDoor.Tk
