/- What is shown begins with a digit, has at most six bytes, and no shorter text of base 16 is the number: the plain statement. -/
import Derived.Test.YtaomdlkalajdmaaPr5
import Derived.Test.YtaomdlkalajdmaaNum3
namespace Go.Proofs.Ytaomdlkalajdmaa.Pure
open Go.RowKit Go.Proofs.Ytaomdlkalajdmaa.Given Go.Proofs.Ytaomdlkalajdmaa.Pr Go.Proofs.YtaomdlkalajdmaaW.PrintWords Go.Proofs.YtaomdlkalajdmaaW.PrintLast
open Go.Proofs.Ytaomdlkalajdmaa.Num

def val (b : Nat) : List UInt8 → Nat
  | [] => 0
  | c :: t => dval c * b ^ t.length + val b t
theorem pf_all {b : Nat} : ∀ (t : List UInt8) (a r : Nat), pf b a t = some r → ∀ c ∈ t, dig b c = some (dval c)
  | [], _, _, _ => by simp
  | c :: t, a, r, h => by
    unfold pf at h
    cases hd : dig b c with
    | none => rw [hd] at h; cases h
    | some d =>
      rw [hd] at h
      have e : d = dval c := by
        unfold dig at hd
        by_cases hv : dval c < b
        · rw [if_pos hv] at hd; exact (Option.some.inj hd).symm
        · rw [if_neg hv] at hd; cases hd
      intro x hx
      rcases List.mem_cons.1 hx with rfl | hx
      · rw [hd, e]
      · exact pf_all t _ _ h x hx
theorem pf_val {b : Nat} (hb : 1 ≤ b) : ∀ (t : List UInt8) (a : Nat), a ≤ 65536 → (∀ c ∈ t, dig b c = some (dval c)) → pf b a t = some (min (a * b ^ t.length + val b t) 65536)
  | [], a, ha, _ => by
    simp only [pf, val, List.length_nil, Nat.pow_zero, Nat.mul_one, Nat.add_zero]
    rw [Nat.min_eq_left ha]
  | c :: t, a, ha, h => by
    unfold pf
    rw [h c (by simp)]
    simp only
    rw [pf_val hb t (min (a * b + dval c) 65536) (by omega) (fun x hx => h x (by simp [hx]))]
    congr 1
    rw [val, List.length_cons]
    have e : a * b ^ (t.length + 1) + (dval c * b ^ t.length + val b t) = (a * b + dval c) * b ^ t.length + val b t := by
      rw [Nat.pow_succ, Nat.add_mul, Nat.mul_comm (b ^ t.length) b, ← Nat.mul_assoc]; omega
    rw [e]
    have hp : 0 < b ^ t.length := Nat.pow_pos hb
    generalize b ^ t.length = p at hp ⊢
    generalize a * b + dval c = m
    by_cases hm : m ≤ 65536
    · rw [show min m 65536 = m by omega]
    · rw [show min m 65536 = 65536 by omega]
      have h1 : 65536 ≤ 65536 * p := Nat.le_mul_of_pos_right _ hp
      have h2 : 65536 * p ≤ m * p := Nat.mul_le_mul_right _ (by omega)
      omega
theorem top_nz (n : Nat) : 0 < n → ∀ d, 0 < top n d := by
  induction n using Nat.strongRecOn with
  | _ n ih =>
    intro hp d
    rw [top_pos hp]
    by_cases h : n / 16 = 0
    · rw [h, top]; omega
    · exact ih (n / 16) (Nat.div_lt_self hp (by omega)) (by omega) _
/-- What is shown of a number from ten on: its digits, the first of them no 0; and a 0 ahead of a letter. -/
theorem shown_form (n : Nat) (h10 : 10 ≤ n) :
    ∃ d t, d < 16 ∧ (hexd n).reverse = hc d :: t ∧ 0 < d ∧ ((9 < d ∧ showL n = 48 :: hc d :: (t ++ [72])) ∨ (d ≤ 9 ∧ showL n = hc d :: (t ++ [72]))) := by
  obtain ⟨t, ht, hl⟩ := hexd_top n (by omega) 0
  have hb := hc_big ⟨top n 0, hl⟩
  simp only at hb
  refine ⟨top n 0, t, hl, ht, top_nz n (by omega) 0, ?_⟩
  unfold showL
  rw [if_neg (by omega), ht, List.cons_append]
  unfold zeroed
  simp only
  by_cases h9 : 9 < top n 0
  · rw [if_pos (hb.2 h9)]; exact .inl ⟨h9, rfl⟩
  · rw [if_neg (fun a => h9 (hb.1 a))]; exact .inr ⟨by omega, rfl⟩
theorem letter_first : ∀ d : Fin 16, 9 < d.val → ((hc d.val).toNat < 48 ∨ 57 < (hc d.val).toNat) := by decide +kernel
theorem digit_not0 : ∀ d : Fin 10, 0 < d.val → ¬ ((hc d.val).toNat : Int) = 48 := by decide +kernel
theorem read_ev (l : List UInt8) (hs : l.length ≤ 140737488351300) (hu : l.map up1 = l) (x : ByteArray) (hx : L x = l) : Ev (fun k => number_Parse.f k x) (parseL l) := by
  have := num_parse x (by rw [← L_len, hx]; exact hs)
  rw [L_up, hx, hu] at this
  exact this

theorem NumberDigits : pidginlaw03_NumberDigits.Pure := by
  intro a0 hs
  obtain ⟨n, rfl, hn⟩ := wf_u16 hs
  refine Ev.rounds (r := true) ?_
  unfold pidginlaw03_NumberDigits.f
  have al := Ev.bind alive_ev (f := fun _ t => some t) (Ev.now true)
  refine Ev.bind (num_show n hn) ?_
  have hlen := show_len n hn
  have hup := show_up n
  have hL : L ⟨(showL n).toArray⟩ = showL n := L_list _
  generalize (⟨(showL n).toArray⟩ : ByteArray) = s at hL
  have hsz : s.size = (showL n).length := by rw [← L_len, hL]
  simp only [hsz, if_neg (show ¬ ((showL n).length : Int) < 1 by omega), if_neg (show ¬ ((showL n).length : Int) > 6 by omega), if_pos (show (0 : Int) < ((showL n).length : Int) by omega)]
  obtain ⟨c, t, ht, hb⟩ := L_pos (x := s) (by omega)
  rw [hL] at ht
  simp only [hb]
  have go : ∀ (b : Bool), b = false → Ev (fun k => pidginlaw03_NumberDigits.j0 k (n : Int) s b) true := by
    rintro b rfl
    refine Ev.step (fun k => rfl) ?_
    simp only [pidginlaw03_NumberDigits.j0, if_neg (show ¬ (false = true) by decide), hsz, if_pos (show (0 : Int) < ((showL n).length : Int) by omega), if_pos (show (1 : Int) ≤ ((showL n).length : Int) by omega), hb]
    by_cases h10 : n < 10
    · have h1 : (showL n).length = 1 := by unfold showL; rw [if_pos h10]; rfl
      simp only [if_pos (show (n : Int) < 10 by omega), if_pos (show ((showL n).length : Int) = 1 by omega)]
      exact al
    · simp only [if_neg (show ¬ (n : Int) < 10 by omega)]
      obtain ⟨d, t', hd, hx, hd0, hf⟩ := shown_form n (by omega)
      have hcut : L (s.extract 1 (showL n).length) = t := by
        rw [L_ext, hL, List.take_of_length_le (Nat.le_refl _), ht]; rfl
      have hut : t.map up1 = t := by
        rw [ht, List.map_cons, List.cons.injEq] at hup; exact hup.2
      have htl : t.length ≤ 6 := by rw [ht, List.length_cons] at hlen; omega
      rcases hf with ⟨h9, hf⟩ | ⟨h9, hf⟩
      · rw [hf, List.cons.injEq] at ht
        obtain ⟨rfl, rfl⟩ := ht
        have e := read_ev _ (by omega) hut _ hcut
        have : parseL (hc d :: (t' ++ [72])) = (0, 2) := by
          unfold parseL
          simp only
          rw [if_pos (letter_first ⟨d, hd⟩ h9)]
        rw [this] at e
        simp only [if_pos (show (((48 : UInt8).toNat : Int)) = 48 from rfl)]
        refine Ev.bind e ?_
        simp only [↓reduceIte]
        exact al
      · rw [hf, List.cons.injEq] at ht
        obtain ⟨rfl, rfl⟩ := ht
        have hne : ¬ ((hc d).toNat : Int) = 48 := digit_not0 ⟨d, by omega⟩ hd0
        simp only [if_neg hne]
        have hz : (s.extract 1 (showL n).length).size = (t' ++ [72]).length := by rw [← L_len, hcut]
        rw [hz]
        simp only [if_pos (show 1 + (t' ++ [72]).length ≤ 9223372036854775807 by omega)]
        have hpf := pf_hex n hn
        rw [hx] at hpf
        have hall := pf_all _ _ _ hpf
        have hv := pf_val (b := 16) (by omega) _ 0 (by omega) hall
        rw [hpf] at hv
        have hv := Option.some.inj hv
        rw [Nat.zero_mul, Nat.zero_add, val] at hv
        have hdv : dval (hc d) = d := dval_hc ⟨d, hd⟩
        rw [hdv] at hv
        have hz0 : dig 16 48 = some (dval 48) := by decide +kernel
        have hvt := pf_val (b := 16) (by omega) (48 :: t') 0 (by omega) (fun c hc' => by
          rcases List.mem_cons.1 hc' with rfl | h
          · exact hz0
          · exact hall c (by simp [h]))
        have hp : 0 < 16 ^ t'.length := Nat.pow_pos (by omega)
        have hd1 : 16 ^ t'.length ≤ d * 16 ^ t'.length := Nat.le_mul_of_pos_left _ hd0
        rw [Nat.zero_mul, Nat.zero_add, val, show dval 48 = 0 from rfl, Nat.zero_mul, Nat.zero_add] at hvt
        have hm : val 16 t' < n := by omega
        rw [Nat.min_eq_left (by omega)] at hvt
        have hP : parseL (48 :: t' ++ [72]) = ((val 16 t' : Int), 0) :=
          parse_base (d := 48) (t := t') (b := 16) rfl (by decide) (by rw [based_end]; rfl) hvt (by omega)
        have e := read_ev (48 :: t' ++ [72]) (by simp at htl ⊢; omega) (by
          rw [List.cons_append, List.map_cons, hut]; rfl) ((⟨#[48]⟩ : ByteArray) ++ s.extract 1 (showL n).length) (by
          rw [L_app, hcut]; rfl)
        rw [hP] at e
        refine Ev.bind e ?_
        simp only [if_neg (show ¬ ((val 16 t' : Nat) : Int) = (n : Int) by omega)]
        exact al
  have hdig : ¬ (c.toNat < 48 ∨ 57 < c.toNat) := by
    by_cases h10 : n < 10
    · have h1 : showL n = [UInt8.ofNat (48 + n)] := by unfold showL; rw [if_pos h10]
      rw [h1, List.cons.injEq] at ht
      obtain ⟨rfl, _⟩ := ht
      have : ∀ d : Fin 10, ¬ ((UInt8.ofNat (48 + d.val)).toNat < 48 ∨ 57 < (UInt8.ofNat (48 + d.val)).toNat) := by decide +kernel
      exact this ⟨n, h10⟩
    · obtain ⟨d, t', hd, hx, hd0, hf⟩ := shown_form n (by omega)
      rcases hf with ⟨h9, hf⟩ | ⟨h9, hf⟩
      · rw [hf, List.cons.injEq] at ht
        obtain ⟨rfl, _⟩ := ht
        decide
      · rw [hf, List.cons.injEq] at ht
        obtain ⟨rfl, _⟩ := ht
        exact hc_le (by omega)
  simp only [if_neg (show ¬ (c.toNat : Int) < 48 by omega)]
  exact go _ (by simp; omega)

end Go.Proofs.Ytaomdlkalajdmaa.Pure
