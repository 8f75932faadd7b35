import Derived.Test.YtejhagejjogbaaaDoorXQt
namespace Go.Proofs.YtejhagejjogbaaaDoor.Num
open Go.RowKit Go.Proofs.YtejhagejjogbaaaDoor.Given Go.Proofs.YtejhagejjogbaaaDoor.Pn Go.Proofs.YtejhagejjogbaaaDoorW.PrintWords Go.Proofs.YtejhagejjogbaaaDoorW.PrintLast
set_option linter.unusedSimpArgs false
theorem Llist (l : List UInt8) : L ⟨l.toArray⟩ = l := by rw [L_mk, List.toList_toArray]
theorem nums_app (l : List UInt8) (c : UInt8) : (l.map fun b : UInt8 => (b.toNat : Int)) ++ [(c.toNat : Int)] = (l ++ [c]).map fun b : UInt8 => (b.toNat : Int) := by simp
theorem nums_str (l : List UInt8) : strOfNums (l.map fun b : UInt8 => (b.toNat : Int)) = ⟨l.toArray⟩ := by
  unfold strOfNums
  rw [List.map_map]
  have : ((fun n : Int => UInt8.ofNat n.toNat) ∘ fun b : UInt8 => (b.toNat : Int)) = id := by funext b; simp
  rw [this, List.map_id]
theorem eq39 (c : UInt8) : (c.toNat : Int) = 39 ↔ c = 39 := by
  constructor
  · intro h
    exact UInt8.toNat_inj.1 (by have : c.toNat = 39 := by omega
                                rw [this]; rfl)
  · rintro rfl; rfl
theorem ref_unq_loop (x : ByteArray) (hs : x.size ≤ 1000) (d : Nat) : ∀ (i : Nat) (acc : List UInt8), i ≤ x.size → x.size - i ≤ d → acc.length ≤ i →
    Ev (fun k => pidginref03_Unquote.l0 k x (acc.map fun b : UInt8 => (b.toNat : Int)) (i : Int)) (match ru ((L x).drop i) with | some o => (⟨(acc ++ o).toArray⟩, 0) | none => (⟨#[]⟩, 2)) := by
  induction d with
  | zero =>
    intro i acc hi hd ha
    refine Ev.step (fun k => rfl) ?_
    simp only [pidginref03_Unquote.l0]
    rw [List.drop_eq_nil_of_le (by rw [L_len]; omega)]
    simp only [if_neg (show ¬ (i : Int) < (x.size : Int) by omega), ru, List.append_nil, nums_str]
    exact Ev.now _
  | succ d ih =>
    intro i acc hi hd ha
    by_cases hlt : ¬ i < x.size
    · refine Ev.step (fun k => rfl) ?_
      simp only [pidginref03_Unquote.l0]
      rw [List.drop_eq_nil_of_le (by rw [L_len]; omega)]
      simp only [if_neg (show ¬ (i : Int) < (x.size : Int) by omega), ru, List.append_nil, nums_str]
      exact Ev.now _
    have hlt : i < x.size := Decidable.not_not.1 hlt
    have hl : i < (L x).length := by rw [L_len]; omega
    refine Ev.step (fun k => rfl) ?_
    simp only [pidginref03_Unquote.l0]
    simp only [if_pos (show (i : Int) < (x.size : Int) by omega), if_pos (show (0 : Int) ≤ (i : Int) by omega), bt_L x i hl]
    have key : Ev (fun k => pidginref03_Unquote.j2 k x (acc.map fun b : UInt8 => (b.toNat : Int)) (i : Int) (badB (L x)[i])) (match ru ((L x).drop i) with | some o => (⟨(acc ++ o).toArray⟩, 0) | none => (⟨#[]⟩, 2)) := by
      refine Ev.step (fun k => rfl) ?_
      simp only [pidginref03_Unquote.j2]
      simp only [if_pos (show (i : Int) < (x.size : Int) by omega), if_pos (show (0 : Int) ≤ (i : Int) by omega), bt_L x i hl]
      rw [drop_cons hl]
      by_cases hb : badB (L x)[i] = true
      · simp only [hb, if_true, ru_bad hb]; exact Ev.now _
      · have hb : badB (L x)[i] = false := by simpa using hb
        simp only [hb, Bool.false_eq_true, if_false, eq39]
        by_cases h : (L x)[i] = 39
        · simp only [h, if_true]
          by_cases hlast : i + 1 = x.size
          · have e : (L x).drop (i + 1) = [] := List.drop_eq_nil_of_le (by rw [L_len]; omega)
            simp only [if_pos (show (i : Int) = wrap64 ((x.size : Int) - 1) by rw [w64 (by omega) (by omega)]; omega), e, ru, bad39, Bool.false_eq_true, if_false, if_true]
            exact Ev.now _
          · have hl' : i + 1 < (L x).length := by rw [L_len]; omega
            have e2 : wrap64 (((i + 1 : Nat) : Int) + 1) = ((i + 2 : Nat) : Int) := inc_w (show i + 1 ≤ 140737488351300 by omega)
            simp only [if_neg (show ¬ (i : Int) = wrap64 ((x.size : Int) - 1) by rw [w64 (by omega) (by omega)]; omega), inc_w (show i ≤ 140737488351300 by omega), e2, if_pos (show (0 : Int) ≤ ((i + 1 : Nat) : Int) by omega), if_pos (show ((i + 1 : Nat) : Int) < (x.size : Int) by omega), bt_L x (i + 1) hl', eq39]
            rw [drop_cons hl', ru]
            simp only [bad39, Bool.false_eq_true, if_false, if_true]
            by_cases h' : (L x)[i + 1] = 39
            · simp only [h', if_true, List.length_map, if_pos (show acc.length < 140737488355328 by omega)]
              have e3 : (acc.map fun b : UInt8 => (b.toNat : Int)) ++ [((39 : UInt8).toNat : Int)] = (acc ++ [39]).map fun b : UInt8 => (b.toNat : Int) := nums_app acc 39
              rw [e3]
              have := ih (i + 2) (acc ++ [39]) (by omega) (by omega) (by simp; omega)
              revert this
              generalize ru ((L x).drop (i + 2)) = o
              cases o <;> simp
            · simp only [h', if_false]; exact Ev.now _
        · simp only [if_neg h, List.length_map, if_pos (show acc.length < 140737488355328 by omega), nums_app, inc_w (show i ≤ 140737488351300 by omega), ru_cons hb h]
          have := ih (i + 1) (acc ++ [(L x)[i]]) (by omega) (by omega) (by simp; omega)
          revert this
          generalize ru ((L x).drop (i + 1)) = o
          cases o <;> simp
    by_cases h32 : ((L x)[i].toNat : Int) < 32
    · have hb : badB (L x)[i] = true := by unfold badB; simp; left; omega
      simp only [if_pos h32]
      rw [hb] at key
      exact key
    · have hb : badB (L x)[i] = decide (((L x)[i].toNat : Int) > 126) := by
        unfold badB
        rw [Bool.eq_iff_iff]; simp; omega
      simp only [if_neg h32]
      rw [hb] at key
      exact key
theorem ref_unquote (x : ByteArray) (hs : x.size ≤ 1000) : Ev (fun k => pidginref03_Unquote.f k x) (⟨(unqL (L x)).1.toArray⟩, (unqL (L x)).2) := by
  have hL := L_len x
  have j0 (b : Bool) (r : ByteArray × Int) (h : b = true → r = (⟨#[]⟩, 2)) (h' : b = false → 2 ≤ x.size ∧ r = (match ru (L x).tail.dropLast with | some o => (⟨o.toArray⟩, 0) | none => (⟨#[]⟩, 2))) : Ev (fun k => pidginref03_Unquote.j0 k x b) r := by
    refine Ev.step (fun k => rfl) ?_
    simp only [pidginref03_Unquote.j0]
    cases b with
    | true => simp only [if_true]; rw [h rfl]; exact Ev.now _
    | false =>
      obtain ⟨h2, rfl⟩ := h' rfl
      have ew : wrap64 ((x.size : Int) - 1) = ((x.size - 1 : Nat) : Int) := by rw [w64 (by omega) (by omega)]; omega
      simp only [Bool.false_eq_true, if_false, ew, if_pos (show (1 : Int) ≤ ((x.size - 1 : Nat) : Int) by omega), if_pos (show ((x.size - 1 : Nat) : Int) ≤ (x.size : Int) by omega), Int.toNat_natCast]
      have := ref_unq_loop (x.extract 1 (x.size - 1)) (by simp; omega) _ 0 [] (by omega) (Nat.le_refl _) (by simp)
      have e : L (x.extract 1 (x.size - 1)) = (L x).tail.dropLast := by
        rw [L_ext, List.dropLast_eq_take, List.length_tail, hL, ← List.drop_one, List.drop_take, List.drop_one]
      rw [e] at this
      simpa using this
  unfold pidginref03_Unquote.f
  by_cases h2 : (x.size : Int) < 2
  · simp only [if_pos h2]
    refine j0 true _ (fun _ => ?_) (fun h => by cases h)
    unfold unqL
    rw [if_neg (by omega)]
  · have h0 : 0 < (L x).length := by omega
    have h9 : x.size - 1 < (L x).length := by omega
    have ew : wrap64 ((x.size : Int) - 1) = ((x.size - 1 : Nat) : Int) := by rw [w64 (by omega) (by omega)]; omega
    have b0 : bt x 0 = ((L x)[0].toNat : Int) := bt_L x 0 h0
    have eh : (L x).head? = some (L x)[0] := by rw [List.head?_eq_getElem?, List.getElem?_eq_getElem h0]
    have el : (L x).getLast? = some (L x)[x.size - 1] := by rw [List.getLast?_eq_getElem?, hL, List.getElem?_eq_getElem h9]
    simp only [if_neg h2, if_pos (show (0 : Int) < (x.size : Int) by omega), ew, if_pos (show (0 : Int) ≤ ((x.size - 1 : Nat) : Int) by omega), if_pos (show ((x.size - 1 : Nat) : Int) < (x.size : Int) by omega), b0, bt_L x _ h9, eq39]
    by_cases ha : (L x)[0] = 39
    · simp only [if_pos ha]
      refine j0 _ _ (fun h => ?_) (fun h => ?_)
      · have h' : ¬ ((L x)[x.size - 1].toNat : Int) = 39 := by simpa using h
        rw [eq39] at h'
        unfold unqL
        rw [if_neg]
        rintro ⟨_, _, h3⟩
        rw [el] at h3
        exact h' (Option.some.inj h3)
      · have h' : ((L x)[x.size - 1].toNat : Int) = 39 := by simpa using h
        rw [eq39] at h'
        refine ⟨by omega, ?_⟩
        unfold unqL
        rw [if_pos ⟨by omega, by rw [eh, ha], by rw [el, h']⟩]
        generalize ru (L x).tail.dropLast = o
        cases o <;> rfl
    · simp only [if_neg ha]
      refine j0 true _ (fun _ => ?_) (fun h => by cases h)
      unfold unqL
      rw [if_neg]
      rintro ⟨_, h3, _⟩
      rw [eh] at h3
      exact ha (Option.some.inj h3)
end Go.Proofs.YtejhagejjogbaaaDoor.Num
