import Derived.Test.YtejhagejjogbaaaDoorZNum3
import Derived.Test.YtejhagejjogbaaaDoorZQt2
import Derived.Test.YtejhagejjogbaaaDoorZPb0
import Derived.Test.YtejhagejjogbaaaDoorZPb1
namespace Go.Proofs.YtejhagejjogbaaaDoor.Tk
open Go.RowKit Go.Proofs.YtejhagejjogbaaaDoor.Given Go.Proofs.YtejhagejjogbaaaDoor.Pn Go.Proofs.YtejhagejjogbaaaDoor.Pa Go.Proofs.YtejhagejjogbaaaDoor.Pb Go.Proofs.YtejhagejjogbaaaDoor.Num Go.Proofs.YtejhagejjogbaaaDoor.TokSpan Go.Proofs.YtejhagejjogbaaaDoorW.PrintWords Go.Proofs.YtejhagejjogbaaaDoorW.PrintLast
set_option linter.unusedSimpArgs false
set_option linter.unusedVariables false
def qlen : List UInt8 → Option Nat
  | [] => none
  | [c] => if c = 39 then some 1 else none
  | c :: d :: t => if c = 39 then (if d = 39 then (qlen t).map (· + 2) else some 1) else (qlen (d :: t)).map (· + 1)
theorem qlen_ne {c : UInt8} (h : c ≠ 39) (t : List UInt8) : qlen (c :: t) = (qlen t).map (· + 1) := by
  cases t with
  | nil => simp [qlen, h]
  | cons d t => rw [qlen, if_neg h]
theorem pre39 (c : UInt8) (t : List UInt8) : Lib.hasPrefix (c :: t) [39] = decide (c = 39) := by
  by_cases h : c = 39
  · subst h; simp [Lib.hasPrefix]
  · unfold Lib.hasPrefix; rw [pre1 c t h]; simp [h]
theorem qlen_q (t : List UInt8) : qlen (39 :: t) = if Lib.hasPrefix t [39] = true then (qlen (t.drop 1)).map (· + 2) else some 1 := by
  cases t with
  | nil => rfl
  | cons d t =>
    rw [qlen, if_pos rfl, pre39]
    by_cases h : d = 39
    · subst h; simp
    · simp [h]
theorem qlen_ix : ∀ l : List UInt8, (Lib.indexByte l 39 = -1 ∧ qlen l = none) ∨ ∃ j : Nat, Lib.indexByte l 39 = (j : Int) ∧ j < l.length ∧ qlen l = (if Lib.hasPrefix (l.drop (j + 1)) [39] = true then (qlen (l.drop (j + 2))).map (· + (j + 2)) else some (j + 1))
  | [] => .inl ⟨rfl, rfl⟩
  | c :: t => by
    by_cases h : c = 39
    · subst h
      refine .inr ⟨0, by simp [Lib.indexByte], by simp, ?_⟩
      rw [qlen_q]
      simp
    · have hb : (c == 39) = false := by simpa using h
      rcases qlen_ix t with ⟨h1, h2⟩ | ⟨j, h1, h2, h3⟩
      · refine .inl ⟨?_, by rw [qlen_ne h, h2]; rfl⟩
        simp [Lib.indexByte, hb, h1]
      · refine .inr ⟨j + 1, ?_, by simp; omega, ?_⟩
        · have h4 : ¬ ((j : Int) = -1) := by omega
          simp [Lib.indexByte, hb, h1, h4]
        · rw [qlen_ne h, h3]
          simp only [List.drop_succ_cons]
          split
          · rw [Option.map_map]; rfl
          · rfl
theorem qlen_le : ∀ l : List UInt8, ∀ m, qlen l = some m → 1 ≤ m ∧ m ≤ l.length
  | [], m, h => by simp [qlen] at h
  | [c], m, h => by
    simp only [qlen] at h
    split at h
    · obtain rfl := Option.some.inj h; simp
    · cases h
  | c :: d :: t, m, h => by
    rw [qlen] at h
    split at h
    · split at h
      · obtain ⟨a, ha, rfl⟩ := Option.map_eq_some_iff.1 h
        have := qlen_le t a ha
        simp; omega
      · obtain rfl := Option.some.inj h; simp
    · obtain ⟨a, ha, rfl⟩ := Option.map_eq_some_iff.1 h
      have := qlen_le (d :: t) a ha
      simp at this ⊢; omega
def markL : List UInt8 := [44, 40, 41, 91, 93, 43, 45, 42, 47, 58, 36]
def markB (c : UInt8) : Bool := markL.contains c
def firstL (l : List UInt8) : Int × ByteArray × Int × Int × Int :=
  match l with
  | [] => (0, ⟨#[]⟩, 0, 0, 2)
  | c :: t =>
    if begB c = true then
      if 16 < ((c :: t).takeWhile p1).length then (0, ⟨#[]⟩, 0, 0, 11)
      else (1, ⟨(((c :: t).take ((c :: t).takeWhile p1).length).map up1).toArray⟩, 0, (((c :: t).takeWhile p1).length : Nat), 0)
    else if digB c = true then
      (2, ⟨#[]⟩, (parseL (((c :: t).take ((c :: t).takeWhile p2).length).map up1)).1, (((c :: t).takeWhile p2).length : Nat), (parseL (((c :: t).take ((c :: t).takeWhile p2).length).map up1)).2)
    else if c = 39 then
      match qlen t with
      | none => (0, ⟨#[]⟩, 0, 0, 2)
      | some m => (3, ⟨(unqL ((c :: t).take (m + 1))).1.toArray⟩, 0, ((m + 1 : Nat) : Int), (unqL ((c :: t).take (m + 1))).2)
    else if markB c = true then (4, ⟨#[c]⟩, 0, 1, 0)
    else (0, ⟨#[]⟩, 0, 0, 2)
theorem L_up' (x : ByteArray) : L (upB x) = (L x).map up1 := L_up x
theorem upB_eq (x : ByteArray) : upB x = ⟨((L x).map up1).toArray⟩ := L_inj ((L_up x).trans (Llist _).symm)
theorem L_take (x : ByteArray) (n : Nat) : L (x.extract 0 n) = (L x).take n := by rw [L_ext, List.drop_zero]
theorem ext_size (x : ByteArray) (n : Nat) (h : n ≤ x.size) : (x.extract 0 n).size = n := by simp; omega
theorem L_drop (x : ByteArray) (n : Nat) : L (x.extract n x.size) = (L x).drop n := by
  rw [L_ext, List.take_of_length_le (by rw [L_len]; exact Nat.le_refl _)]
theorem tw_le (p : UInt8 → Bool) (l : List UInt8) : (l.takeWhile p).length ≤ l.length := (List.takeWhile_prefix p).length_le
theorem mark_ix : ∀ c : Fin 256, decide (Lib.indexByte (⟨#[44, 40, 41, 91, 93, 43, 45, 42, 47, 58, 36]⟩ : ByteArray).data.toList (UInt8.ofNat c.val) ≥ 0) = markB (UInt8.ofNat c.val) := by decide +kernel
theorem mark_ix' (c : UInt8) : decide (Lib.indexByte (⟨#[44, 40, 41, 91, 93, 43, 45, 42, 47, 58, 36]⟩ : ByteArray).data.toList c ≥ 0) = markB c := by
  have := mark_ix ⟨c.toNat, c.toNat_lt⟩
  simpa using this
theorem nat8 (c : UInt8) : ((c.toNat : Int)).toNat.toUInt8 = c := by simp
theorem quoted_loop (x : ByteArray) (hs : x.size ≤ 1000) (d : Nat) : ∀ i : Nat, i ≤ x.size → x.size - i ≤ d →
    Ev (fun k => token_quoted.l0 k x (i : Int)) (match qlen ((L x).drop i) with | none => 0 | some m => ((i + m : Nat) : Int)) := by
  induction d using Nat.strongRecOn with
  | _ d ih =>
    intro i hi hd
    refine Ev.step (fun k => rfl) ?_
    simp only [token_quoted.l0]
    have e1 : (x.extract i x.size).data.toList = (L x).drop i := L_drop x i
    simp only [if_pos (show (0 : Int) ≤ (i : Int) by omega), if_pos (show (i : Int) ≤ (x.size : Int) by omega), strings_IndexByte.f, Option.bind_some, Int.toNat_natCast, e1, show ((39 : Int).toNat.toUInt8) = 39 from rfl]
    rcases qlen_ix ((L x).drop i) with ⟨h1, h2⟩ | ⟨j, h1, h2, h3⟩
    · simp only [h1, h2, if_pos (show (-1 : Int) < 0 by omega)]
      exact Ev.now _
    · have hj : i + j + 1 ≤ x.size := by rw [List.length_drop, L_len] at h2; omega
      have e2 : wrap64 ((i : Int) + wrap64 ((j : Int) + 1)) = ((i + j + 1 : Nat) : Int) := by rw [w64 (n := (j : Int) + 1) (by omega) (by omega), w64 (by omega) (by omega)]; omega
      have e3 : (x.extract (i + j + 1) x.size).data.toList = (L x).drop (i + j + 1) := L_drop x _
      rw [h3]
      simp only [h1, if_neg (show ¬ (j : Int) < 0 by omega), e2, if_pos (show (0 : Int) ≤ ((i + j + 1 : Nat) : Int) by omega), if_pos (show ((i + j + 1 : Nat) : Int) ≤ (x.size : Int) by omega), strings_HasPrefix.f, Option.bind_some, Int.toNat_natCast, e3, List.drop_drop]
      have e4 : (L x).drop (i + (j + 1)) = (L x).drop (i + j + 1) := rfl
      rw [e4]
      cases hp : Lib.hasPrefix ((L x).drop (i + j + 1)) [39] with
      | false =>
        simp only [Bool.false_eq_true, if_false]
        exact Ev.now _
      | true =>
        simp only [if_true]
        have hlt : i + j + 1 < x.size := by
          by_cases h : i + j + 1 < x.size
          · exact h
          · rw [List.drop_eq_nil_of_le (by rw [L_len]; omega)] at hp; simp [Lib.hasPrefix] at hp
        have e5 : wrap64 (((i + j + 1 : Nat) : Int) + 1) = ((i + j + 2 : Nat) : Int) := inc_w (show i + j + 1 ≤ 140737488351300 by omega)
        rw [e5]
        have := ih (x.size - (i + j + 2)) (by omega) (i + j + 2) (by omega) (Nat.le_refl _)
        have e6 : (L x).drop (i + (j + 2)) = (L x).drop (i + j + 2) := rfl
        rw [e6]
        revert this
        generalize qlen ((L x).drop (i + j + 2)) = o
        cases o with
        | none => intro h; exact h
        | some m =>
          intro h
          have e7 : ((i + (m + (j + 2)) : Nat) : Int) = ((i + j + 2 + m : Nat) : Int) := by omega
          simp only [Option.map_some, e7]
          exact h
theorem first_ev (x : ByteArray) (h0 : 0 < x.size) (hs : x.size ≤ 1000) : Ev (fun k => token_first.f k x) (firstL (L x)) := by
  have hL := L_len x
  have hb0 := bt_L x 0 (by rw [L_len]; exact h0)
  cases hx : L x with
  | nil => rw [hx] at hL; simp at hL; omega
  | cons c t =>
    have b0 : bt x 0 = (c.toNat : Int) := by
      simp only [hx, List.getElem_cons_zero] at hb0
      exact hb0
    have hn1 := tw_le p1 (L x)
    have hn2 := tw_le p2 (L x)
    have s1 : token_span1.f x = some (((L x).takeWhile p1).length : Int) := by unfold token_span1.f; rw [if_pos (by omega)]; rfl
    have s2 : token_span2.f x = some (((L x).takeWhile p2).length : Int) := by unfold token_span2.f; rw [if_pos (by omega)]; rfl
    unfold token_first.f firstL
    rw [hL] at hn1 hn2
    simp only [if_pos (show (0 : Int) < (x.size : Int) by omega), b0, beg_at, dig_at, eq39, Option.bind_some, s1, s2, ← hx, Int.toNat_natCast]
    cases hb : begB c with
    | true =>
      simp only [if_true]
      by_cases h16 : 16 < ((L x).takeWhile p1).length
      · simp only [if_pos (show (((L x).takeWhile p1).length : Int) > 16 by omega), if_pos h16]
        exact Ev.now _
      · simp only [if_neg (show ¬ (((L x).takeWhile p1).length : Int) > 16 by omega), if_neg h16, if_pos (show (0 : Int) ≤ (((L x).takeWhile p1).length : Int) by omega), if_pos (show (((L x).takeWhile p1).length : Int) ≤ (x.size : Int) by omega)]
        rw [num_upper _ (by rw [ext_size x _ hn1]; omega), upB_eq, L_take]
        exact Ev.now _
    | false =>
      simp only [Bool.false_eq_true, if_false]
      cases hd : digB c with
      | true =>
        simp only [if_true, if_pos (show (0 : Int) ≤ (((L x).takeWhile p2).length : Int) by omega), if_pos (show (((L x).takeWhile p2).length : Int) ≤ (x.size : Int) by omega)]
        refine Ev.bind (num_parse _ (by rw [ext_size x _ hn2]; omega)) ?_
        rw [L_up', L_take]
        exact Ev.now _
      | false =>
        simp only [Bool.false_eq_true, if_false]
        by_cases h9 : c = 39
        · simp only [h9, if_true]
          have hq := quoted_loop x hs _ 1 (by omega) (Nat.le_refl _)
          rw [show (L x).drop 1 = t by rw [hx]; rfl] at hq
          refine Ev.bind (show Ev (fun k => token_quoted.f k x) _ from hq) ?_
          cases hm : qlen t with
          | none => simp only [if_true]; exact Ev.now _
          | some m =>
            have := qlen_le t m hm
            have ht : t.length + 1 = x.size := by rw [← hL, hx]; rfl
            have e1 : ((1 + m : Nat) : Int) = ((m + 1 : Nat) : Int) := by omega
            simp only [e1, if_neg (show ¬ (((m + 1 : Nat) : Int) = 0) by omega), if_pos (show (0 : Int) ≤ ((m + 1 : Nat) : Int) by omega), if_pos (show ((m + 1 : Nat) : Int) ≤ (x.size : Int) by omega), Int.toNat_natCast, number_Unquote.f, ext_size x (m + 1) (by omega), if_pos (show m + 1 ≤ 1000000 by omega), Option.bind_some]
            have e2 : (x.extract 0 (m + 1)).data.toList = (L x).take (m + 1) := L_take x _
            rw [e2, unqS_eq]
            exact Ev.now _
        · have e3 := mark_ix' c
          simp only [if_neg h9, strings_IndexByte.f, Option.bind_some, nat8]
          cases hm : markB c with
          | true =>
            rw [hm] at e3
            have e4 : x.extract 0 1 = ⟨#[c]⟩ := L_inj (by rw [L_take, hx]; rfl)
            simp only [if_pos (of_decide_eq_true e3), if_true, if_pos (show (1 : Int) ≤ (x.size : Int) by omega), e4]
            exact Ev.now _
          | false =>
            rw [hm] at e3
            simp only [if_neg (of_decide_eq_false e3), Bool.false_eq_true, if_false]
            exact Ev.now _
end Go.Proofs.YtejhagejjogbaaaDoor.Tk
