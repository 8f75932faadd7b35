import Derived.Test.YtejhagejjogbaaaDoorYNum2
namespace Go.Proofs.YtejhagejjogbaaaDoor.Num
open Go.RowKit Go.Proofs.YtejhagejjogbaaaDoor.Given Go.Proofs.YtejhagejjogbaaaDoor.Pn Go.Proofs.YtejhagejjogbaaaDoorW.PrintWords Go.Proofs.YtejhagejjogbaaaDoorW.PrintLast
set_option linter.unusedSimpArgs false
def letterB (c : UInt8) : Bool := (97 ≤ c && c ≤ 122) || (65 ≤ c && c ≤ 90) || c == 63 || c == 64 || c == 95
def digitB (c : UInt8) : Bool := 48 ≤ c && c ≤ 57
def tailB (c : UInt8) : Bool := letterB c || digitB c
def nameL (l : List UInt8) : Bool := match l with
  | [] => false
  | c :: t => decide (t.length < 16) && letterB c && t.all tailB
theorem digit_all : ∀ c : Fin 256, (decide (¬ ((c.val : Nat) : Int) < 48) && decide (¬ ((c.val : Nat) : Int) > 57)) = digitB (UInt8.ofNat c.val) := by decide +kernel
theorem digit_at (c : UInt8) : (decide (¬ (c.toNat : Int) < 48) && decide (¬ (c.toNat : Int) > 57)) = digitB c := by
  have := digit_all ⟨c.toNat, c.toNat_lt⟩
  simpa using this
theorem begins_all : ∀ c : Fin 256, ∃ b, number_begins.f ((c.val : Nat) : Int) = some b ∧ letterB (UInt8.ofNat c.val) = ((b && decide (((c.val : Nat) : Int) < 128)) || ((c.val : Nat) : Int) == 63 || ((c.val : Nat) : Int) == 64 || ((c.val : Nat) : Int) == 95) := by
  decide +kernel
theorem begins_at (c : UInt8) : ∃ b, number_begins.f (c.toNat : Int) = some b ∧ letterB c = ((b && decide ((c.toNat : Int) < 128)) || (c.toNat : Int) == 63 || (c.toNat : Int) == 64 || (c.toNat : Int) == 95) := by
  have := begins_all ⟨c.toNat, c.toNat_lt⟩
  simpa using this
theorem digit_at' (c : UInt8) : (decide (48 ≤ (c.toNat : Int)) && decide ((c.toNat : Int) ≤ 57)) = digitB c := by
  rw [← digit_at c]
  congr 1 <;> (apply decide_eq_decide.2; omega)
theorem num_name_step (x : ByteArray) (hs : x.size ≤ 140737488351300) {i : Nat} (hl : i < (L x).length) {r : Bool} (key : Ev (fun k => number_Name.l0 k x (x.size : Int) ((i + 1 : Nat) : Int)) r) :
    Ev (fun k => number_Name.l0 k x (x.size : Int) (i : Int)) ((letterB (L x)[i] || (decide (0 < i) && digitB (L x)[i])) && r) := by
  have hi : i < x.size := by rw [← L_len]; exact hl
  have hbt := bt_L x i hl
  generalize (L x)[i] = c at hbt ⊢
  have j3 : ∀ b : Bool, Ev (fun k => number_Name.j3 k x (i : Int) (c.toNat : Int) (x.size : Int) (i : Int) b) ((b || (decide (0 < i) && digitB c)) && r) := by
    intro b
    refine Ev.step (fun k => rfl) ?_
    simp only [number_Name.j3, inc_w (show i ≤ 140737488351300 by omega)]
    have hd := digit_at' c
    cases b with
    | true => simp only [if_true, Bool.true_or, Bool.true_and]; exact key
    | false =>
      simp only [if_neg (show ¬ (false = true) by decide), Bool.false_or]
      by_cases h0 : 0 < i
      · simp only [if_pos (show (i : Int) > 0 by omega), h0, decide_true, Bool.true_and, ← hd]
        by_cases h1 : 48 ≤ (c.toNat : Int)
        · by_cases h2 : (c.toNat : Int) ≤ 57
          · simp only [if_pos h1, if_pos h2, h1, h2, decide_true, Bool.and_self, Bool.true_and]; exact key
          · simp only [if_pos h1, if_neg h2, h1, h2, decide_false, Bool.and_false, Bool.false_and]; exact Ev.now _
        · simp only [if_neg h1, h1, decide_false, Bool.false_and]; exact Ev.now _
      · simp only [if_neg (show ¬ (i : Int) > 0 by omega), h0, decide_false, Bool.false_and]; exact Ev.now _
  have j2 : ∀ b : Bool, Ev (fun k => number_Name.j2 k x (i : Int) (c.toNat : Int) (x.size : Int) (i : Int) b) (((b || (c.toNat : Int) == 63 || (c.toNat : Int) == 64 || (c.toNat : Int) == 95) || (decide (0 < i) && digitB c)) && r) := by
    intro b
    refine Ev.step (fun k => rfl) ?_
    simp only [number_Name.j2]
    cases b with
    | true => simp only [if_true, Bool.true_or]; simpa using j3 true
    | false =>
      simp only [if_neg (show ¬ (false = true) by decide), Bool.false_or]
      by_cases h1 : (c.toNat : Int) = 63
      · have e : ((c.toNat : Int) == 63) = true := by simpa using h1
        simp only [if_pos h1, e, Bool.true_or]; simpa using j3 true
      · have e : ((c.toNat : Int) == 63) = false := by simpa using h1
        simp only [if_neg h1, e, Bool.false_or]
        by_cases h2 : (c.toNat : Int) = 64
        · have e : ((c.toNat : Int) == 64) = true := by simpa using h2
          simp only [if_pos h2, e, Bool.true_or]; simpa using j3 true
        · have e : ((c.toNat : Int) == 64) = false := by simpa using h2
          simp only [if_neg h2, e, Bool.false_or]; exact j3 _
  refine Ev.step (fun k => rfl) ?_
  simp only [number_Name.l0]
  obtain ⟨b, hb, hl⟩ := begins_at c
  simp only [if_pos (show (i : Int) < (x.size : Int) by omega), if_pos (show (0 : Int) ≤ (i : Int) by omega), hbt, hb, Option.bind_some, hl]
  cases b with
  | true => simpa only [↓reduceIte, Bool.true_and] using j2 (decide ((c.toNat : Int) < 128))
  | false => simpa only [↓reduceIte, Bool.false_and, reduceCtorEq] using j2 false
theorem num_name_loop (x : ByteArray) (hs : x.size ≤ 140737488351300) (d : Nat) : ∀ i : Nat, i + d = x.size → 0 < i →
    Ev (fun k => number_Name.l0 k x (x.size : Int) (i : Int)) (((L x).drop i).all tailB) := by
  induction d with
  | zero =>
    intro i hi h0
    refine Ev.step (fun k => rfl) ?_
    simp only [number_Name.l0]
    rw [List.drop_eq_nil_of_le (by rw [L_len]; omega)]
    simp only [if_neg (show ¬ (i : Int) < (x.size : Int) by omega), List.all_nil]
    exact Ev.now _
  | succ d ih =>
    intro i hi h0
    have hl : i < (L x).length := by rw [L_len]; omega
    have := num_name_step x hs hl (ih (i + 1) (by omega) (by omega))
    rw [drop_cons hl, List.all_cons]
    unfold tailB at this ⊢
    simpa [h0] using this
theorem num_name (x : ByteArray) (hs : x.size ≤ 140737488351300) : Ev (fun k => number_Name.f k x) (nameL (L x)) := by
  have hj : Ev (fun k => number_Name.j0 k x true) false := by
    refine Ev.step (fun k => rfl) ?_
    simp only [number_Name.j0, if_true]
    exact Ev.now _
  unfold number_Name.f
  have hl := L_len x
  by_cases h0 : x.size = 0
  · simp only [if_pos ((empty_iff x).2 h0)]
    have : L x = [] := by rw [← List.length_eq_zero_iff, L_len]; exact h0
    rw [this]
    exact hj
  · obtain ⟨c, t, ht, hb⟩ := L_pos (show 0 < x.size by omega)
    rw [ht, List.length_cons] at hl
    simp only [if_neg (fun h => h0 ((empty_iff x).1 h))]
    by_cases h16 : (x.size : Int) > 16
    · rw [ht]
      unfold nameL
      simp only [h16, decide_true, show ¬ (t.length < 16) by omega, decide_false, Bool.false_and]
      exact hj
    · simp only [h16, decide_false]
      refine Ev.step (fun k => rfl) ?_
      simp only [number_Name.j0, if_neg (show ¬ (false = true) by decide)]
      have h1 : 0 < (L x).length := by rw [L_len]; omega
      have := num_name_step x hs h1 (num_name_loop x hs (x.size - 1) 1 (by omega) (by omega))
      simp only [ht] at this ⊢
      unfold nameL
      simpa [show t.length < 16 by omega] using this
theorem up1_idem (c : UInt8) : up1 (up1 c) = up1 c := by
  have : ∀ c : Fin 256, up1 (up1 (UInt8.ofNat c.val)) = up1 (UInt8.ofNat c.val) := by decide +kernel
  have := this ⟨c.toNat, c.toNat_lt⟩
  simpa using this
end Go.Proofs.YtejhagejjogbaaaDoor.Num
