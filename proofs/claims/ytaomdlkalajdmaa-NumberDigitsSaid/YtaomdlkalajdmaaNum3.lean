/- The example of the chapter; names; numbers by each base. -/
import Derived.Test.YtaomdlkalajdmaaNum2
namespace Go.Proofs.Ytaomdlkalajdmaa.Num
open Go.RowKit Go.Proofs.Ytaomdlkalajdmaa.Given Go.Proofs.Ytaomdlkalajdmaa.Pr Go.Proofs.YtaomdlkalajdmaaW.PrintWords Go.Proofs.YtaomdlkalajdmaaW.PrintLast
set_option linter.unusedSimpArgs false
theorem alive_ev : Ev (fun k => pidginlaw03_alive.f k) true := Ev.of pidginlaw03_alive.mono (k := 40) (by decide +kernel)
theorem wf_u16 {a : Int} (h : (Lit.int .u16 a).wf = true) : ∃ n : Nat, a = (n : Int) ∧ n ≤ 65535 := by
  simp [Lit.wf, IntKind.min, IntKind.max, IntKind.signed, IntKind.bits] at h
  exact ⟨a.toNat, by omega, by omega⟩
theorem hexd_len (m : Nat) : ∀ n, n < 16 ^ m → (hexd n).length ≤ m := by
  induction m with
  | zero => intro n h; have : n = 0 := by omega
            subst this; rw [hexd]; simp
  | succ m ih =>
    intro n h
    by_cases h0 : n = 0
    · subst h0; rw [hexd]; simp
    · rw [hexd_pos (by omega), List.length_cons]
      have := ih (n / 16) (by rw [Nat.pow_succ] at h; omega)
      omega
theorem zeroed_len (l : List UInt8) : (zeroed l).length ≤ l.length + 1 := by
  unfold zeroed
  split
  · simp
  · split <;> simp
theorem show_len (n : Nat) (hn : n ≤ 65535) : 1 ≤ (showL n).length ∧ (showL n).length ≤ 6 := by
  unfold showL
  by_cases h : n < 10
  · rw [if_pos h]; simp
  · rw [if_neg h]
    have h1 := zeroed_len ((hexd n).reverse ++ [72])
    have h2 := hexd_len 4 n (by omega)
    simp only [List.length_append, List.length_reverse, List.length_singleton] at h1
    refine ⟨?_, by omega⟩
    obtain ⟨t, ht, _⟩ := hexd_top n (by omega) 0
    rw [ht, List.cons_append]
    unfold zeroed
    simp only
    split <;> simp
theorem show_small (n : Nat) (hn : n ≤ 65535) : (⟨(showL n).toArray⟩ : ByteArray).size ≤ 140737488351300 := by
  have := (show_len n hn).2
  rw [← L_len, L_mk, List.toList_toArray]; omega

theorem L_list (l : List UInt8) : L ⟨l.toArray⟩ = l := by rw [L_mk, List.toList_toArray]
/-! ### names -/
def letterB (c : UInt8) : Bool := (97 ≤ c && c ≤ 122) || (65 ≤ c && c ≤ 90) || c == 63 || c == 64 || c == 95
def digitB (c : UInt8) : Bool := 48 ≤ c && c ≤ 57
def tailB (c : UInt8) : Bool := letterB c || digitB c
def nameL (l : List UInt8) : Bool := match l with
  | [] => false
  | c :: t => decide (t.length < 16) && letterB c && t.all tailB
theorem letter_all : ∀ c : Fin 256, pidginref03_Letter.f ((c.val : Nat) : Int) = some (letterB (UInt8.ofNat c.val)) := by decide +kernel
theorem ref_letter (c : UInt8) : pidginref03_Letter.f (c.toNat : Int) = some (letterB c) := by
  have := letter_all ⟨c.toNat, c.toNat_lt⟩
  simpa using this
theorem digit_all : ∀ c : Fin 256, (decide (¬ ((c.val : Nat) : Int) < 48) && decide (¬ ((c.val : Nat) : Int) > 57)) = digitB (UInt8.ofNat c.val) := by decide +kernel
theorem digit_at (c : UInt8) : (decide (¬ (c.toNat : Int) < 48) && decide (¬ (c.toNat : Int) > 57)) = digitB c := by
  have := digit_all ⟨c.toNat, c.toNat_lt⟩
  simpa using this
theorem ref_name_loop (x : ByteArray) (hs : x.size ≤ 140737488351300) (d : Nat) : ∀ i : Nat, i + d = x.size →
    Ev (fun k => pidginref03_Name.l0 k x (i : Int)) (((L x).drop i).all tailB) := by
  induction d with
  | zero =>
    intro i hi
    refine Ev.step (fun k => rfl) ?_
    simp only [pidginref03_Name.l0]
    rw [List.drop_eq_nil_of_le (by rw [L_len]; omega)]
    simp only [if_neg (show ¬ (i : Int) < (x.size : Int) by omega), List.all_nil]
    exact Ev.now _
  | succ d ih =>
    intro i hi
    have hl : i < (L x).length := by rw [L_len]; omega
    refine Ev.step (fun k => rfl) ?_
    simp only [pidginref03_Name.l0]
    simp only [if_pos (show (i : Int) < (x.size : Int) by omega), if_pos (show (0 : Int) ≤ (i : Int) by omega), bt_L x i hl, ref_letter, Option.bind_some, inc_w (show i ≤ 140737488351300 by omega)]
    rw [drop_cons hl, List.all_cons]
    have key := ih (i + 1) (by omega)
    unfold tailB at key ⊢
    have hd := digit_at (L x)[i]
    by_cases h1 : letterB (L x)[i] = true
    · simp only [h1, if_true, Bool.true_or, Bool.true_and]; exact key
    · simp only [h1, if_neg (show ¬ (false = true) by decide), Bool.false_or]
      rw [← hd]
      by_cases h2 : ((L x)[i].toNat : Int) < 48
      · simp only [if_pos h2, h2, not_true, decide_false, Bool.false_and]; exact Ev.now _
      · by_cases h3 : ((L x)[i].toNat : Int) > 57
        · simp only [if_neg h2, if_pos h3, h3, not_true, decide_false, Bool.and_false, Bool.false_and]; exact Ev.now _
        · simp only [if_neg h2, if_neg h3, h2, h3, not_false_eq_true, decide_true, Bool.and_self, Bool.true_and]; exact key
theorem ref_name (x : ByteArray) (hs : x.size ≤ 140737488351300) : Ev (fun k => pidginref03_Name.f k x) (nameL (L x)) := by
  have hj : Ev (fun k => pidginref03_Name.j0 k x true) false := by
    refine Ev.step (fun k => rfl) ?_
    simp only [pidginref03_Name.j0, if_true]
    exact Ev.now _
  unfold pidginref03_Name.f
  have hl := L_len x
  by_cases h0 : x.size = 0
  · simp only [if_pos (show (x.size : Int) < 1 by omega)]
    have : L x = [] := by rw [← List.length_eq_zero_iff, L_len]; exact h0
    rw [this]
    exact hj
  · obtain ⟨c, t, ht, hb⟩ := L_pos (show 0 < x.size by omega)
    rw [ht, List.length_cons] at hl
    simp only [if_neg (show ¬ (x.size : Int) < 1 by omega)]
    rw [ht]
    unfold nameL
    simp only
    by_cases h16 : (x.size : Int) > 16
    · simp only [if_pos h16, show ¬ (t.length < 16) by omega, decide_false, Bool.false_and]
      exact hj
    · simp only [if_neg h16, if_pos (show (0 : Int) < (x.size : Int) by omega), hb, ref_letter, Option.bind_some, show t.length < 16 by omega, decide_true, Bool.true_and]
      by_cases h1 : letterB c = true
      · simp only [h1, Bool.not_true, Bool.true_and]
        refine Ev.step (fun k => rfl) ?_
        simp only [pidginref03_Name.j0, if_neg (show ¬ (false = true) by decide)]
        have := ref_name_loop x hs (x.size - 1) 1 (by omega)
        rw [ht] at this
        exact this
      · simp only [h1, Bool.not_false, Bool.false_and]
        exact hj
theorem begins_all : ∀ c : Fin 256, ∃ b, number_begins.f ((c.val : Nat) : Int) = some b ∧ letterB (UInt8.ofNat c.val) = ((b && decide (((c.val : Nat) : Int) < 128)) || ((c.val : Nat) : Int) == 63 || ((c.val : Nat) : Int) == 64 || ((c.val : Nat) : Int) == 95) := by
  decide +kernel
theorem begins_at (c : UInt8) : ∃ b, number_begins.f (c.toNat : Int) = some b ∧ letterB c = ((b && decide ((c.toNat : Int) < 128)) || (c.toNat : Int) == 63 || (c.toNat : Int) == 64 || (c.toNat : Int) == 95) := by
  have := begins_all ⟨c.toNat, c.toNat_lt⟩
  simpa using this
theorem digit_at' (c : UInt8) : (decide (48 ≤ (c.toNat : Int)) && decide ((c.toNat : Int) ≤ 57)) = digitB c := by
  rw [← digit_at c]
  congr 1 <;> (apply decide_eq_decide.2; omega)
/-- One round: the byte at i is taken, or not. -/
theorem num_name_step (x : ByteArray) (hs : x.size ≤ 140737488351300) {i : Nat} (hl : i < (L x).length) {r : Bool} (key : Ev (fun k => number_Name.l0 k x (x.size : Int) ((i + 1 : Nat) : Int)) r) :
    Ev (fun k => number_Name.l0 k x (x.size : Int) (i : Int)) ((letterB (L x)[i] || (decide (0 < i) && digitB (L x)[i])) && r) := by
  have hi : i < x.size := by rw [← L_len]; exact hl
  have hbt := bt_L x i hl
  generalize (L x)[i] = c at hbt ⊢
  have j3 : ∀ b : Bool, Ev (fun k => number_Name.j3 k x (i : Int) (c.toNat : Int) (x.size : Int) (i : Int) b) ((b || (decide (0 < i) && digitB c)) && r) := by
    intro b
    refine Ev.step (fun k => rfl) ?_
    simp only [number_Name.j3, inc_w (show i ≤ 140737488351300 by omega)]
    have hd := digit_at' c
    cases b with
    | true => simp only [if_true, Bool.true_or, Bool.true_and]; exact key
    | false =>
      simp only [if_neg (show ¬ (false = true) by decide), Bool.false_or]
      by_cases h0 : 0 < i
      · simp only [if_pos (show (i : Int) > 0 by omega), h0, decide_true, Bool.true_and, ← hd]
        by_cases h1 : 48 ≤ (c.toNat : Int)
        · by_cases h2 : (c.toNat : Int) ≤ 57
          · simp only [if_pos h1, if_pos h2, h1, h2, decide_true, Bool.and_self, Bool.true_and]; exact key
          · simp only [if_pos h1, if_neg h2, h1, h2, decide_false, Bool.and_false, Bool.false_and]; exact Ev.now _
        · simp only [if_neg h1, h1, decide_false, Bool.false_and]; exact Ev.now _
      · simp only [if_neg (show ¬ (i : Int) > 0 by omega), h0, decide_false, Bool.false_and]; exact Ev.now _
  have j2 : ∀ b : Bool, Ev (fun k => number_Name.j2 k x (i : Int) (c.toNat : Int) (x.size : Int) (i : Int) b) (((b || (c.toNat : Int) == 63 || (c.toNat : Int) == 64 || (c.toNat : Int) == 95) || (decide (0 < i) && digitB c)) && r) := by
    intro b
    refine Ev.step (fun k => rfl) ?_
    simp only [number_Name.j2]
    cases b with
    | true => simp only [if_true, Bool.true_or]; simpa using j3 true
    | false =>
      simp only [if_neg (show ¬ (false = true) by decide), Bool.false_or]
      by_cases h1 : (c.toNat : Int) = 63
      · have e : ((c.toNat : Int) == 63) = true := by simpa using h1
        simp only [if_pos h1, e, Bool.true_or]; simpa using j3 true
      · have e : ((c.toNat : Int) == 63) = false := by simpa using h1
        simp only [if_neg h1, e, Bool.false_or]
        by_cases h2 : (c.toNat : Int) = 64
        · have e : ((c.toNat : Int) == 64) = true := by simpa using h2
          simp only [if_pos h2, e, Bool.true_or]; simpa using j3 true
        · have e : ((c.toNat : Int) == 64) = false := by simpa using h2
          simp only [if_neg h2, e, Bool.false_or]; exact j3 _
  refine Ev.step (fun k => rfl) ?_
  simp only [number_Name.l0]
  obtain ⟨b, hb, hl⟩ := begins_at c
  simp only [if_pos (show (i : Int) < (x.size : Int) by omega), if_pos (show (0 : Int) ≤ (i : Int) by omega), hbt, hb, Option.bind_some, hl]
  cases b with
  | true => simpa only [↓reduceIte, Bool.true_and] using j2 (decide ((c.toNat : Int) < 128))
  | false => simpa only [↓reduceIte, Bool.false_and, reduceCtorEq] using j2 false
theorem num_name_loop (x : ByteArray) (hs : x.size ≤ 140737488351300) (d : Nat) : ∀ i : Nat, i + d = x.size → 0 < i →
    Ev (fun k => number_Name.l0 k x (x.size : Int) (i : Int)) (((L x).drop i).all tailB) := by
  induction d with
  | zero =>
    intro i hi h0
    refine Ev.step (fun k => rfl) ?_
    simp only [number_Name.l0]
    rw [List.drop_eq_nil_of_le (by rw [L_len]; omega)]
    simp only [if_neg (show ¬ (i : Int) < (x.size : Int) by omega), List.all_nil]
    exact Ev.now _
  | succ d ih =>
    intro i hi h0
    have hl : i < (L x).length := by rw [L_len]; omega
    have := num_name_step x hs hl (ih (i + 1) (by omega) (by omega))
    rw [drop_cons hl, List.all_cons]
    unfold tailB at this ⊢
    simpa [h0] using this
theorem num_name (x : ByteArray) (hs : x.size ≤ 140737488351300) : Ev (fun k => number_Name.f k x) (nameL (L x)) := by
  have hj : Ev (fun k => number_Name.j0 k x true) false := by
    refine Ev.step (fun k => rfl) ?_
    simp only [number_Name.j0, if_true]
    exact Ev.now _
  unfold number_Name.f
  have hl := L_len x
  by_cases h0 : x.size = 0
  · simp only [if_pos ((empty_iff x).2 h0)]
    have : L x = [] := by rw [← List.length_eq_zero_iff, L_len]; exact h0
    rw [this]
    exact hj
  · obtain ⟨c, t, ht, hb⟩ := L_pos (show 0 < x.size by omega)
    rw [ht, List.length_cons] at hl
    simp only [if_neg (fun h => h0 ((empty_iff x).1 h))]
    by_cases h16 : (x.size : Int) > 16
    · rw [ht]
      unfold nameL
      simp only [h16, decide_true, show ¬ (t.length < 16) by omega, decide_false, Bool.false_and]
      exact hj
    · simp only [h16, decide_false]
      refine Ev.step (fun k => rfl) ?_
      simp only [number_Name.j0, if_neg (show ¬ (false = true) by decide)]
      have h1 : 0 < (L x).length := by rw [L_len]; omega
      have := num_name_step x hs h1 (num_name_loop x hs (x.size - 1) 1 (by omega) (by omega))
      simp only [ht] at this ⊢
      unfold nameL
      simpa [show t.length < 16 by omega] using this
theorem up1_idem (c : UInt8) : up1 (up1 c) = up1 c := by
  have : ∀ c : Fin 256, up1 (up1 (UInt8.ofNat c.val)) = up1 (UInt8.ofNat c.val) := by decide +kernel
  have := this ⟨c.toNat, c.toNat_lt⟩
  simpa using this
theorem upB_idem (x : ByteArray) : upB (upB x) = upB x := by
  refine L_inj ?_
  rw [L_up, L_up, List.map_map]
  exact List.map_congr_left fun c _ => up1_idem c

/-! ### by each base -/
def lc (d : Nat) : UInt8 := if d < 10 then UInt8.ofNat (48 + d) else UInt8.ofNat (87 + d)
/-- The digits by a base, the least ahead. -/
def dgs (b : Nat) (n : Nat) : List Nat := if _h : n < b ∨ b < 2 then [n % b] else n % b :: dgs b (n / b)
termination_by n
decreasing_by exact Nat.div_lt_self (by omega) (by omega)
theorem lcdigit : ∀ d : Fin 16, bt (⟨#[48, 49, 50, 51, 52, 53, 54, 55, 56, 57, 97, 98, 99, 100, 101, 102]⟩ : ByteArray) ((d.val : Nat) : Int) = ((lc d.val).toNat : Int) := by
  decide +kernel
theorem dig_loop {b : Nat} (hb : b ∈ [2, 8, 10, 16]) (n : Nat) : n ≤ 65535 → ∀ s : ByteArray, s.size + n ≤ 140737488350000 →
    Ev (fun k => pidginlaw03_digits.l0 k (n : Int) (b : Int) s) ⟨(((dgs b n).map lc).reverse ++ L s).toArray⟩ := by
  have hb2 : 2 ≤ b ∧ b ≤ 16 := by simp at hb; omega
  induction n using Nat.strongRecOn with
  | _ n ih =>
    intro hn s hs
    refine Ev.step (fun k => rfl) ?_
    simp only [pidginlaw03_digits.l0]
    have hm : n % b < b := Nat.mod_lt _ (by omega)
    have e1 : Int.tmod (n : Int) (b : Int) = ((n % b : Nat) : Int) := by
      rw [Int.tmod_eq_emod_of_nonneg (by omega)]; omega
    have hdv : n / b ≤ n := Nat.div_le_self _ _
    have e2 : IntKind.u16.wrap (Int.tdiv (n : Int) (b : Int)) = ((n / b : Nat) : Int) := by
      rw [Int.tdiv_eq_ediv_of_nonneg (by omega), ← Int.natCast_ediv]
      generalize n / b = q at hdv
      exact u16w (by omega) (by omega)
    have hx := lcdigit ⟨n % b, by omega⟩
    simp only at hx
    have hsz : (strOfNums [((lc (n % b)).toNat : Int)]).size = 1 := rfl
    have hL : strOfNums [((lc (n % b)).toNat : Int)] ++ s = ⟨(lc (n % b) :: L s).toArray⟩ := by
      refine L_inj ?_
      rw [L_app, L_nums, L_list (lc (n % b) :: L s)]
      simp
    simp only [if_neg (show ¬ (b : Int) = 0 by omega), e1, e2, if_pos (show (0 : Int) ≤ ((n % b : Nat) : Int) by omega), if_pos (show ((n % b : Nat) : Int) < 16 by omega), hx, Option.bind_some, hsz, if_pos (show 1 + s.size ≤ 9223372036854775807 by omega)]
    by_cases h : n / b = 0
    · have hlt : n < b := by
        rcases Nat.lt_or_ge n b with h' | h'
        · exact h'
        · have := Nat.div_pos h' (by omega); omega
      rw [dgs, dif_pos (.inl hlt)]
      simp only [if_pos (show ((n / b : Nat) : Int) = 0 by omega), hL]
      exact Ev.now _
    · have hge : b ≤ n := by
        rcases Nat.lt_or_ge n b with h' | h'
        · exact absurd (Nat.div_eq_of_lt h') h
        · exact h'
      have hlt : n / b < n := Nat.div_lt_self (by omega) (by omega)
      rw [dgs, dif_neg (by omega)]
      simp only [if_neg (show ¬ ((n / b : Nat) : Int) = 0 by omega), hL]
      have := ih (n / b) hlt (by omega) ⟨(lc (n % b) :: L s).toArray⟩ (by rw [← hL, ← L_len, L_app, List.length_append, L_len, L_len, hsz]; omega)
      rw [L_list (lc (n % b) :: L s)] at this
      rw [List.map_cons, List.reverse_cons, List.append_assoc, List.singleton_append]
      exact this
def digL (b n : Nat) : List UInt8 := ((dgs b n).map lc).reverse
theorem digits_ev {b : Nat} (hb : b ∈ [2, 8, 10, 16]) (n : Nat) (hn : n ≤ 65535) : Ev (fun k => pidginlaw03_digits.f k (n : Int) (b : Int)) ⟨(digL b n).toArray⟩ := by
  have := dig_loop hb n hn ⟨#[]⟩ (by simp [ByteArray.size]; omega)
  unfold pidginlaw03_digits.f digL
  simpa [L] using this
theorem up_lc : ∀ d : Fin 16, up1 (lc d.val) = hc d.val := by decide +kernel
theorem dgs_lt {b : Nat} (hb : 2 ≤ b) (n : Nat) : ∀ d ∈ dgs b n, d < b := by
  induction n using Nat.strongRecOn with
  | _ n ih =>
    intro d hd
    have hm : n % b < b := Nat.mod_lt _ (by omega)
    rw [dgs] at hd
    split at hd
    · simp at hd; omega
    · rename_i h
      simp only [List.mem_cons] at hd
      rcases hd with rfl | hd
      · exact hm
      · exact ih (n / b) (Nat.div_lt_self (by omega) (by omega)) d hd
theorem dig_up {b : Nat} (hb : 2 ≤ b) (hb' : b ≤ 16) (n : Nat) : (digL b n).map up1 = ((dgs b n).map hc).reverse := by
  unfold digL
  rw [List.map_reverse, List.map_map]
  congr 1
  refine List.map_congr_left fun d hd => ?_
  have := dgs_lt hb n d hd
  exact up_lc ⟨d, by omega⟩
theorem pf_dgs {b : Nat} (hb : 2 ≤ b) (hb' : b ≤ 16) (n : Nat) : n ≤ 65535 → pf b 0 ((dgs b n).map hc).reverse = some n := by
  induction n using Nat.strongRecOn with
  | _ n ih =>
    intro hn
    have hm : n % b < b := Nat.mod_lt _ (by omega)
    have hdm := Nat.div_add_mod n b
    rw [dgs]
    split
    · rename_i h
      have hlt : n < b := by omega
      rw [Nat.mod_eq_of_lt hlt]
      simp only [List.map_cons, List.map_nil, List.reverse_cons, List.reverse_nil, List.nil_append, pf, dig_hc hlt hb', Nat.zero_mul, Nat.zero_add]
      congr 1; omega
    · rename_i h
      have hlt : n / b < n := Nat.div_lt_self (by omega) (by omega)
      rw [List.map_cons, List.reverse_cons, pf_app, ih (n / b) hlt (by omega), Option.bind_some]
      simp only [pf, dig_hc hm hb']
      congr 1
      rw [Nat.mul_comm] at hdm
      rw [hdm]; omega
theorem hc_le {d : Nat} (h : d < 10) : ¬ ((hc d).toNat < 48 ∨ 57 < (hc d).toNat) := hc_digit (by omega) (by omega)
theorem parse_base {l : List UInt8} {c d : UInt8} {t : List UInt8} (hl : l = d :: t) (hd : ¬ (d.toNat < 48 ∨ 57 < d.toNat)) {b n : Nat} (hc : basedL (l ++ [c]) = (l, b)) (hp : pf b 0 l = some n) (hn : n ≤ 65535) : parseL (l ++ [c]) = ((n : Int), 0) := by
  have e : parseL (l ++ [c]) = fin (pf (basedL (l ++ [c])).2 0 (basedL (l ++ [c])).1) := by
    rw [hl]
    unfold parseL
    simp only [List.cons_append]
    rw [if_neg hd]
  rw [e, hc, hp]
  unfold fin
  simp only
  rw [if_neg (by omega)]
theorem dgs_ne (b n : Nat) : dgs b n ≠ [] := by
  rw [dgs]; split <;> simp
theorem dgs_head {b : Nat} (hb : 2 ≤ b) (n : Nat) : ∃ d t, ((dgs b n).map hc).reverse = hc d :: t ∧ d < b := by
  have h := dgs_ne b n
  refine ⟨(dgs b n).getLast h, ((dgs b n).dropLast.map hc).reverse, ?_, dgs_lt hb n _ (List.getLast_mem h)⟩
  conv => lhs; rw [← List.dropLast_concat_getLast h]
  rw [List.map_append, List.reverse_append]
  rfl
theorem based_end (l : List UInt8) (c : UInt8) : basedL (l ++ [c]) = if c = 72 then (l, 16) else if c = 79 ∨ c = 81 then (l, 8) else if c = 66 then (l, 2) else if c = 68 then (l, 10) else (l ++ [c], 10) := by
  unfold basedL
  rw [List.getLast?_append]
  simp only [List.getLast?_singleton, Option.some_or, List.dropLast_concat]
/-- A number's digits by a base of at most ten, with the base's letter, are the number. -/
theorem parse_dgs {b n : Nat} (hb : 2 ≤ b) (hb' : b ≤ 10) (hn : n ≤ 65535) {c : UInt8} (hc' : ∀ l, basedL (l ++ [c]) = (l, b)) : parseL (((dgs b n).map hc).reverse ++ [c]) = ((n : Int), 0) := by
  obtain ⟨d, t, e, hd⟩ := dgs_head hb n
  exact parse_base e (hc_le (by omega)) (hc' _) (pf_dgs hb (by omega) n hn) hn
theorem parse_dec {n : Nat} (hn : n ≤ 65535) : parseL ((dgs 10 n).map hc).reverse = ((n : Int), 0) := by
  obtain ⟨d, t, e, hd⟩ := dgs_head (b := 10) (by omega) n
  have hb : basedL ((dgs 10 n).map hc).reverse = (((dgs 10 n).map hc).reverse, 10) := by
    have h := dgs_ne 10 n
    cases hg : dgs 10 n with
    | nil => exact absurd hg h
    | cons a m =>
      rw [List.map_cons, List.reverse_cons, based_end]
      have ha : a < 10 := dgs_lt (by omega) n a (by rw [hg]; simp)
      have : ∀ a : Fin 10, hc a.val ≠ 72 ∧ hc a.val ≠ 79 ∧ hc a.val ≠ 81 ∧ hc a.val ≠ 66 ∧ hc a.val ≠ 68 := by decide +kernel
      obtain ⟨h1, h2, h3, h4, h5⟩ := this ⟨a, ha⟩
      simp only at h1 h2 h3 h4 h5
      rw [if_neg h1, if_neg (by simp [h2, h3]), if_neg h4, if_neg h5]
  have e2 : parseL ((dgs 10 n).map hc).reverse = fin (pf (basedL ((dgs 10 n).map hc).reverse).2 0 (basedL ((dgs 10 n).map hc).reverse).1) := by
    rw [e]
    unfold parseL
    simp only
    rw [if_neg (hc_le hd)]
  rw [e2, hb, pf_dgs (by omega) (by omega) n hn]
  unfold fin
  simp only
  rw [if_neg (by omega)]
theorem parse_hex {n : Nat} (hn : n ≤ 65535) : parseL (48 :: ((dgs 16 n).map hc).reverse ++ [72]) = ((n : Int), 0) := by
  refine parse_base (d := 48) (t := ((dgs 16 n).map hc).reverse) (b := 16) rfl (by decide) (by rw [based_end]; rfl) ?_ hn
  rw [show (48 : UInt8) :: ((dgs 16 n).map hc).reverse = [48] ++ ((dgs 16 n).map hc).reverse by rfl, pf_app]
  have : pf 16 0 [48] = some 0 := by decide +kernel
  rw [this, Option.bind_some]
  exact pf_dgs (by omega) (by omega) n hn
theorem digL_len {b : Nat} (hb : 2 ≤ b) (n : Nat) : (digL b n).length ≤ n + 1 := by
  unfold digL
  rw [List.length_reverse, List.length_map]
  induction n using Nat.strongRecOn with
  | _ n ih =>
    rw [dgs]
    split
    · simp
    · rename_i h
      have := ih (n / b) (Nat.div_lt_self (by omega) (by omega))
      have := Nat.div_lt_self (n := n) (k := b) (by omega) (by omega)
      rw [List.length_cons]; omega
end Go.Proofs.Ytaomdlkalajdmaa.Num
