/- The laws on quotes: what their functions answer. -/
import Derived.Test.YtejhagejjogbaaaDoorQt
namespace Go.Proofs.YtejhagejjogbaaaDoor.Num
open Go.RowKit Go.Proofs.YtejhagejjogbaaaDoor.Given Go.Proofs.YtejhagejjogbaaaDoor.Pn Go.Proofs.YtejhagejjogbaaaDoorW.PrintWords Go.Proofs.YtejhagejjogbaaaDoorW.PrintLast
set_option linter.unusedSimpArgs false
theorem alive_ev' : Ev (fun k => pidginlaw03_alive.f k) true := Ev.of pidginlaw03_alive.mono (k := 40) (by decide +kernel)
theorem Llist (l : List UInt8) : L ⟨l.toArray⟩ = l := by rw [L_mk, List.toList_toArray]
theorem nums_app (l : List UInt8) (c : UInt8) : (l.map fun b : UInt8 => (b.toNat : Int)) ++ [(c.toNat : Int)] = (l ++ [c]).map fun b : UInt8 => (b.toNat : Int) := by simp
theorem nums_str (l : List UInt8) : strOfNums (l.map fun b : UInt8 => (b.toNat : Int)) = ⟨l.toArray⟩ := by
  unfold strOfNums
  rw [List.map_map]
  have : ((fun n : Int => UInt8.ofNat n.toNat) ∘ fun b : UInt8 => (b.toNat : Int)) = id := by funext b; simp
  rw [this, List.map_id]
theorem eq39 (c : UInt8) : (c.toNat : Int) = 39 ↔ c = 39 := by
  constructor
  · intro h
    exact UInt8.toNat_inj.1 (by have : c.toNat = 39 := by omega
                                rw [this]; rfl)
  · rintro rfl; rfl
theorem toL (s : ByteArray) : s.toList = L s := Lib.toList_data s

/-! ### the document's Quote -/
theorem ref_quote_loop (x : ByteArray) (hs : x.size ≤ 1000) (d : Nat) : ∀ (i : Nat) (acc : List UInt8), i + d = x.size → acc.length ≤ 1 + 2 * i →
    Ev (fun k => pidginref03_Quote.l0 k x (acc.map fun b : UInt8 => (b.toNat : Int)) (i : Int)) ⟨(acc ++ dbl ((L x).drop i) ++ [39]).toArray⟩ := by
  induction d with
  | zero =>
    intro i acc hi ha
    refine Ev.step (fun k => rfl) ?_
    simp only [pidginref03_Quote.l0]
    rw [List.drop_eq_nil_of_le (by rw [L_len]; omega)]
    simp only [if_neg (show ¬ (i : Int) < (x.size : Int) by omega), List.length_map, if_pos (show acc.length < 140737488355328 by omega)]
    have e : (acc.map fun b : UInt8 => (b.toNat : Int)) ++ [39] = (acc ++ [39]).map fun b : UInt8 => (b.toNat : Int) := nums_app acc 39
    rw [e, nums_str, dbl, List.append_nil]
    exact Ev.now _
  | succ d ih =>
    intro i acc hi ha
    have hl : i < (L x).length := by rw [L_len]; omega
    refine Ev.step (fun k => rfl) ?_
    simp only [pidginref03_Quote.l0]
    simp only [if_pos (show (i : Int) < (x.size : Int) by omega), if_pos (show (0 : Int) ≤ (i : Int) by omega), bt_L x i hl, List.length_map, if_pos (show acc.length < 140737488355328 by omega), nums_app, Option.bind_some, eq39, inc_w (show i ≤ 140737488351300 by omega)]
    rw [drop_cons hl, dbl]
    by_cases h : (L x)[i] = 39
    · have e : ((acc ++ [(39 : UInt8)]).map fun b : UInt8 => (b.toNat : Int)) ++ [39] = (acc ++ [39] ++ [39]).map fun b : UInt8 => (b.toNat : Int) := nums_app (acc ++ [39]) 39
      simp only [h, if_true, List.length_append, List.length_cons, List.length_nil, if_pos (show acc.length + (0 + 1) < 140737488355328 by omega), e]
      have := ih (i + 1) (acc ++ [39] ++ [39]) (by omega) (by simp; omega)
      simpa using this
    · simp only [if_neg h]
      have := ih (i + 1) (acc ++ [(L x)[i]]) (by omega) (by simp; omega)
      simpa using this
theorem ref_quote (x : ByteArray) (hs : x.size ≤ 1000) : Ev (fun k => pidginref03_Quote.f k x) ⟨(39 :: (dbl (L x) ++ [39])).toArray⟩ := by
  unfold pidginref03_Quote.f
  have := ref_quote_loop x hs x.size 0 [39] (by omega) (by simp)
  simpa using this
theorem num_quote (x : ByteArray) (hs : x.size ≤ 1000) : number_Quote.f x = some ⟨(39 :: (dbl (L x) ++ [39])).toArray⟩ := by
  have r3 := Lib.countB_le ⟨#[39]⟩ (by decide) x.size x (Nat.le_refl _)
  have hd := dbl_len (L x)
  rw [L_len] at hd
  unfold number_Quote.f strings_ReplaceAll.f
  rw [if_pos ⟨by omega, by decide, by rw [show (⟨#[39, 39]⟩ : ByteArray).size = 2 from rfl]; omega⟩]
  have e : Lib.replaceAll x.data.toList (#[39] : Array UInt8).toList (#[39, 39] : Array UInt8).toList = dbl (L x) := dbl_eq (L x)
  simp only [Option.bind_some, e, sizeL]
  rw [if_pos (by omega), if_pos (by simp only [ByteArray.size_append, sizeL, List.length_cons, List.length_nil]; omega)]
  congr 1

/-! ### the document's Unquote -/
theorem ref_unq_loop (x : ByteArray) (hs : x.size ≤ 1000) (d : Nat) : ∀ (i : Nat) (acc : List UInt8), i ≤ x.size → x.size - i ≤ d → acc.length ≤ i →
    Ev (fun k => pidginref03_Unquote.l0 k x (acc.map fun b : UInt8 => (b.toNat : Int)) (i : Int)) (match ru ((L x).drop i) with | some o => (⟨(acc ++ o).toArray⟩, 0) | none => (⟨#[]⟩, 2)) := by
  induction d with
  | zero =>
    intro i acc hi hd ha
    refine Ev.step (fun k => rfl) ?_
    simp only [pidginref03_Unquote.l0]
    rw [List.drop_eq_nil_of_le (by rw [L_len]; omega)]
    simp only [if_neg (show ¬ (i : Int) < (x.size : Int) by omega), ru, List.append_nil, nums_str]
    exact Ev.now _
  | succ d ih =>
    intro i acc hi hd ha
    by_cases hlt : ¬ i < x.size
    · refine Ev.step (fun k => rfl) ?_
      simp only [pidginref03_Unquote.l0]
      rw [List.drop_eq_nil_of_le (by rw [L_len]; omega)]
      simp only [if_neg (show ¬ (i : Int) < (x.size : Int) by omega), ru, List.append_nil, nums_str]
      exact Ev.now _
    have hlt : i < x.size := Decidable.not_not.1 hlt
    have hl : i < (L x).length := by rw [L_len]; omega
    refine Ev.step (fun k => rfl) ?_
    simp only [pidginref03_Unquote.l0]
    simp only [if_pos (show (i : Int) < (x.size : Int) by omega), if_pos (show (0 : Int) ≤ (i : Int) by omega), bt_L x i hl]
    have key : Ev (fun k => pidginref03_Unquote.j2 k x (acc.map fun b : UInt8 => (b.toNat : Int)) (i : Int) (badB (L x)[i])) (match ru ((L x).drop i) with | some o => (⟨(acc ++ o).toArray⟩, 0) | none => (⟨#[]⟩, 2)) := by
      refine Ev.step (fun k => rfl) ?_
      simp only [pidginref03_Unquote.j2]
      simp only [if_pos (show (i : Int) < (x.size : Int) by omega), if_pos (show (0 : Int) ≤ (i : Int) by omega), bt_L x i hl]
      rw [drop_cons hl]
      by_cases hb : badB (L x)[i] = true
      · simp only [hb, if_true, ru_bad hb]; exact Ev.now _
      · have hb : badB (L x)[i] = false := by simpa using hb
        simp only [hb, Bool.false_eq_true, if_false, eq39]
        by_cases h : (L x)[i] = 39
        · simp only [h, if_true]
          by_cases hlast : i + 1 = x.size
          · have e : (L x).drop (i + 1) = [] := List.drop_eq_nil_of_le (by rw [L_len]; omega)
            simp only [if_pos (show (i : Int) = wrap64 ((x.size : Int) - 1) by rw [w64 (by omega) (by omega)]; omega), e, ru, bad39, Bool.false_eq_true, if_false, if_true]
            exact Ev.now _
          · have hl' : i + 1 < (L x).length := by rw [L_len]; omega
            have e2 : wrap64 (((i + 1 : Nat) : Int) + 1) = ((i + 2 : Nat) : Int) := inc_w (show i + 1 ≤ 140737488351300 by omega)
            simp only [if_neg (show ¬ (i : Int) = wrap64 ((x.size : Int) - 1) by rw [w64 (by omega) (by omega)]; omega), inc_w (show i ≤ 140737488351300 by omega), e2, if_pos (show (0 : Int) ≤ ((i + 1 : Nat) : Int) by omega), if_pos (show ((i + 1 : Nat) : Int) < (x.size : Int) by omega), bt_L x (i + 1) hl', eq39]
            rw [drop_cons hl', ru]
            simp only [bad39, Bool.false_eq_true, if_false, if_true]
            by_cases h' : (L x)[i + 1] = 39
            · simp only [h', if_true, List.length_map, if_pos (show acc.length < 140737488355328 by omega)]
              have e3 : (acc.map fun b : UInt8 => (b.toNat : Int)) ++ [((39 : UInt8).toNat : Int)] = (acc ++ [39]).map fun b : UInt8 => (b.toNat : Int) := nums_app acc 39
              rw [e3]
              have := ih (i + 2) (acc ++ [39]) (by omega) (by omega) (by simp; omega)
              revert this
              generalize ru ((L x).drop (i + 2)) = o
              cases o <;> simp
            · simp only [h', if_false]; exact Ev.now _
        · simp only [if_neg h, List.length_map, if_pos (show acc.length < 140737488355328 by omega), nums_app, inc_w (show i ≤ 140737488351300 by omega), ru_cons hb h]
          have := ih (i + 1) (acc ++ [(L x)[i]]) (by omega) (by omega) (by simp; omega)
          revert this
          generalize ru ((L x).drop (i + 1)) = o
          cases o <;> simp
    by_cases h32 : ((L x)[i].toNat : Int) < 32
    · have hb : badB (L x)[i] = true := by unfold badB; simp; left; omega
      simp only [if_pos h32]
      rw [hb] at key
      exact key
    · have hb : badB (L x)[i] = decide (((L x)[i].toNat : Int) > 126) := by
        unfold badB
        rw [Bool.eq_iff_iff]; simp; omega
      simp only [if_neg h32]
      rw [hb] at key
      exact key
theorem ref_unquote (x : ByteArray) (hs : x.size ≤ 1000) : Ev (fun k => pidginref03_Unquote.f k x) (⟨(unqL (L x)).1.toArray⟩, (unqL (L x)).2) := by
  have hL := L_len x
  have j0 (b : Bool) (r : ByteArray × Int) (h : b = true → r = (⟨#[]⟩, 2)) (h' : b = false → 2 ≤ x.size ∧ r = (match ru (L x).tail.dropLast with | some o => (⟨o.toArray⟩, 0) | none => (⟨#[]⟩, 2))) : Ev (fun k => pidginref03_Unquote.j0 k x b) r := by
    refine Ev.step (fun k => rfl) ?_
    simp only [pidginref03_Unquote.j0]
    cases b with
    | true => simp only [if_true]; rw [h rfl]; exact Ev.now _
    | false =>
      obtain ⟨h2, rfl⟩ := h' rfl
      have ew : wrap64 ((x.size : Int) - 1) = ((x.size - 1 : Nat) : Int) := by rw [w64 (by omega) (by omega)]; omega
      simp only [Bool.false_eq_true, if_false, ew, if_pos (show (1 : Int) ≤ ((x.size - 1 : Nat) : Int) by omega), if_pos (show ((x.size - 1 : Nat) : Int) ≤ (x.size : Int) by omega), Int.toNat_natCast]
      have := ref_unq_loop (x.extract 1 (x.size - 1)) (by simp; omega) _ 0 [] (by omega) (Nat.le_refl _) (by simp)
      have e : L (x.extract 1 (x.size - 1)) = (L x).tail.dropLast := by
        rw [L_ext, List.dropLast_eq_take, List.length_tail, hL, ← List.drop_one, List.drop_take, List.drop_one]
      rw [e] at this
      simpa using this
  unfold pidginref03_Unquote.f
  by_cases h2 : (x.size : Int) < 2
  · simp only [if_pos h2]
    refine j0 true _ (fun _ => ?_) (fun h => by cases h)
    unfold unqL
    rw [if_neg (by omega)]
  · have h0 : 0 < (L x).length := by omega
    have h9 : x.size - 1 < (L x).length := by omega
    have ew : wrap64 ((x.size : Int) - 1) = ((x.size - 1 : Nat) : Int) := by rw [w64 (by omega) (by omega)]; omega
    have b0 : bt x 0 = ((L x)[0].toNat : Int) := bt_L x 0 h0
    have eh : (L x).head? = some (L x)[0] := by rw [List.head?_eq_getElem?, List.getElem?_eq_getElem h0]
    have el : (L x).getLast? = some (L x)[x.size - 1] := by rw [List.getLast?_eq_getElem?, hL, List.getElem?_eq_getElem h9]
    simp only [if_neg h2, if_pos (show (0 : Int) < (x.size : Int) by omega), ew, if_pos (show (0 : Int) ≤ ((x.size - 1 : Nat) : Int) by omega), if_pos (show ((x.size - 1 : Nat) : Int) < (x.size : Int) by omega), b0, bt_L x _ h9, eq39]
    by_cases ha : (L x)[0] = 39
    · simp only [if_pos ha]
      refine j0 _ _ (fun h => ?_) (fun h => ?_)
      · have h' : ¬ ((L x)[x.size - 1].toNat : Int) = 39 := by simpa using h
        rw [eq39] at h'
        unfold unqL
        rw [if_neg]
        rintro ⟨_, _, h3⟩
        rw [el] at h3
        exact h' (Option.some.inj h3)
      · have h' : ((L x)[x.size - 1].toNat : Int) = 39 := by simpa using h
        rw [eq39] at h'
        refine ⟨by omega, ?_⟩
        unfold unqL
        rw [if_pos ⟨by omega, by rw [eh, ha], by rw [el, h']⟩]
        generalize ru (L x).tail.dropLast = o
        cases o <;> rfl
    · simp only [if_neg ha]
      refine j0 true _ (fun _ => ?_) (fun h => by cases h)
      unfold unqL
      rw [if_neg]
      rintro ⟨_, h3, _⟩
      rw [eh] at h3
      exact ha (Option.some.inj h3)


theorem back_loop (x : ByteArray) (hs : x.size ≤ 1000) (d : Nat) : ∀ (i : Nat), i + d = x.size →
    Ev (fun k => pidginlaw03_NumberBack.l0 k x (!((L x).take i).any badB) (i : Int)) true := by
  induction d with
  | zero =>
    intro i hi
    refine Ev.step (fun k => rfl) ?_
    simp only [pidginlaw03_NumberBack.l0]
    have e : ((L x).take i) = L x := List.take_of_length_le (by rw [L_len]; omega)
    have hu := unq_quote (L x)
    have hd := dbl_len (L x)
    rw [L_len] at hd
    simp only [if_neg (show ¬ (i : Int) < (x.size : Int) by omega), num_quote x hs, Option.bind_some, number_Unquote.f, e]
    rw [if_pos (by rw [sizeL]; simp; omega)]
    simp only [hu, Option.bind_some, List.toList_toArray, toL, Llist]
    by_cases hb : (L x).any badB = true
    · simp only [hb, Bool.not_true, Bool.false_eq_true, Bool.true_eq_false, if_false, if_true]
      exact Ev.bind alive_ev' (f := fun _ t => some t) (Ev.now true)
    · have hb : (L x).any badB = false := by simpa using hb
      simp only [hb, Bool.not_false, if_true]
      exact Ev.bind alive_ev' (f := fun _ t => some t) (Ev.now true)
  | succ d ih =>
    intro i hi
    have hl : i < (L x).length := by rw [L_len]; omega
    refine Ev.step (fun k => rfl) ?_
    simp only [pidginlaw03_NumberBack.l0]
    have key := ih (i + 1) (by omega)
    rw [take_snoc' _ _ hl, List.any_append] at key
    simp only [if_pos (show (i : Int) < (x.size : Int) by omega), if_pos (show (0 : Int) ≤ (i : Int) by omega), bt_L x i hl, inc_w (show i ≤ 140737488351300 by omega)]
    cases ha : ((L x).take i).any badB with
    | true =>
      simp only [ha, Bool.true_or, Bool.not_true, Bool.false_eq_true, if_false] at key ⊢
      exact key
    | false =>
      simp only [ha, Bool.false_or, Bool.not_false, if_true, List.any_cons, List.any_nil, Bool.or_false] at key ⊢
      by_cases h32 : ((L x)[i].toNat : Int) ≥ 32
      · have hb : (!badB (L x)[i]) = decide (((L x)[i].toNat : Int) ≤ 126) := by
          unfold badB
          rw [Bool.eq_iff_iff]; simp; omega
        rw [hb] at key
        simp only [if_pos h32]
        exact key
      · have hb : badB (L x)[i] = true := by unfold badB; simp; left; omega
        rw [hb] at key
        simp only [if_neg h32]
        exact key
theorem NumberBack_ev (x : ByteArray) : Ev (fun k => pidginlaw03_NumberBack.f k x) true := by
  unfold pidginlaw03_NumberBack.f
  by_cases h : (x.size : Int) > 1000
  · simp only [if_pos h]
    exact Ev.bind alive_ev' (f := fun _ t => some t) (Ev.now true)
  · simp only [if_neg h]
    have := back_loop x (by omega) x.size 0 (by omega)
    simpa using this
theorem ref_value (x : ByteArray) : ∃ p, number_Value.f x = some p ∧ pidginref03_Value.f x = some p := by
  unfold number_Value.f pidginref03_Value.f
  have hL := L_len x
  by_cases h1 : x.size = 1
  · obtain ⟨a, ha⟩ := List.length_eq_one_iff.1 (hL.trans h1)
    have b0 : bt x 0 = (a.toNat : Int) := by
      have := bt_L x 0 (by omega)
      simp only [ha, List.getElem_cons_zero] at this
      exact this
    have e : x.data.toList = [a] := ha
    have := a.toNat_lt
    refine ⟨((a.toNat : Int), 0), ?_, ?_⟩
    · rw [if_neg (by omega), e]; simp [valn]
    · rw [if_pos (by omega), if_pos (by omega), b0, u16w (by omega) (by omega)]
  · by_cases h2 : x.size = 2
    · obtain ⟨a, b, ha⟩ : ∃ a b, L x = [a, b] := by
        have hh := hL.trans h2
        cases hx : L x with
        | nil => rw [hx] at hh; simp at hh
        | cons a t =>
          rw [hx] at hh
          obtain ⟨b, hb⟩ := List.length_eq_one_iff.1 (show t.length = 1 by simpa using hh)
          exact ⟨a, b, by rw [hb]⟩
      have b0 : bt x 0 = (a.toNat : Int) := by
        have := bt_L x 0 (by omega)
        simp only [ha, List.getElem_cons_zero] at this
        exact this
      have b1 : bt x 1 = (b.toNat : Int) := by
        have := bt_L x 1 (by omega)
        simp only [ha, List.getElem_cons_succ, List.getElem_cons_zero] at this
        exact this
      have e : x.data.toList = [a, b] := ha
      have := a.toNat_lt
      have := b.toNat_lt
      refine ⟨((a.toNat * 256 + b.toNat : Nat), 0), ?_, ?_⟩
      · rw [if_neg (by omega), e]; simp [valn]; try omega
      · rw [if_neg (by omega), if_pos (by omega), if_pos (by omega), if_pos (by omega), b0, b1, u16w (n := (a.toNat : Int)) (by omega) (by omega), u16w (n := (b.toNat : Int)) (by omega) (by omega), u16w (n := (a.toNat : Int) * 256) (by omega) (by omega), u16w (by omega) (by omega)]
        simp
    · refine ⟨(0, 5), ?_, ?_⟩
      · rw [if_pos (by omega)]
      · rw [if_neg (by omega), if_neg (by omega)]
theorem NumberQuotes_ev (x : ByteArray) : Ev (fun k => pidginlaw03_NumberQuotes.f k x) true := by
  unfold pidginlaw03_NumberQuotes.f
  by_cases h : (x.size : Int) > 1000
  · simp only [if_pos h]
    exact Ev.bind alive_ev' (f := fun _ t => some t) (Ev.now true)
  · simp only [if_neg h]
    have hs : x.size ≤ 1000 := by omega
    obtain ⟨p, hp, hq⟩ := ref_value x
    have e : unqS x.data.toList = unqL (L x) := unqS_eq _
    simp only [number_Unquote.f, if_pos (show x.size ≤ 1000000 by omega), Option.bind_some, hp, hq, num_quote x hs, e]
    refine Ev.bind (ref_unquote x hs) ?_
    refine Ev.bind (ref_quote x hs) ?_
    simp only [if_true]
    exact Ev.bind alive_ev' (f := fun _ t => some t) (Ev.now true)
end Go.Proofs.YtejhagejjogbaaaDoor.Num
