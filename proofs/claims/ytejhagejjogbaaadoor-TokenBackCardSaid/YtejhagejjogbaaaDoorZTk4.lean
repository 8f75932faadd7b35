import Derived.Test.YtejhagejjogbaaaDoorZTk3
namespace Go.Proofs.YtejhagejjogbaaaDoor.Tk
open Go.RowKit Go.Proofs.YtejhagejjogbaaaDoor.Given Go.Proofs.YtejhagejjogbaaaDoor.Pn Go.Proofs.YtejhagejjogbaaaDoor.Pa Go.Proofs.YtejhagejjogbaaaDoor.Pb Go.Proofs.YtejhagejjogbaaaDoor.Pc Go.Proofs.YtejhagejjogbaaaDoor.Num Go.Proofs.YtejhagejjogbaaaDoor.TokSpan Go.Proofs.YtejhagejjogbaaaDoorW.PrintWords Go.Proofs.YtejhagejjogbaaaDoorW.PrintLast
set_option linter.unusedSimpArgs false
set_option linter.unusedVariables false
theorem up_let_all : ∀ c : Fin 256, begB (UInt8.ofNat c.val) = true → letterB (up1 (UInt8.ofNat c.val)) = true := by decide +kernel
theorem up_let (c : UInt8) (h : begB c = true) : letterB (up1 c) = true := by
  have := up_let_all ⟨c.toNat, c.toNat_lt⟩
  simp only [UInt8.ofNat_toNat] at this
  exact this h
theorem up_tail_all : ∀ c : Fin 256, p1 (UInt8.ofNat c.val) = true → tailB (up1 (UInt8.ofNat c.val)) = true := by decide +kernel
theorem up_tail (c : UInt8) (h : p1 c = true) : tailB (up1 c) = true := by
  have := up_tail_all ⟨c.toNat, c.toNat_lt⟩
  simp only [UInt8.ofNat_toNat] at this
  exact this h
theorem take_tw (p : UInt8 → Bool) (l : List UInt8) : l.take (l.takeWhile p).length = l.takeWhile p := by
  have h := List.takeWhile_prefix (l := l) p
  exact (List.prefix_iff_eq_take.1 h).symm
theorem all_tw (p : UInt8 → Bool) : ∀ l : List UInt8, (l.takeWhile p).all p = true
  | [] => rfl
  | c :: t => by
    rw [List.takeWhile_cons]
    cases h : p c with
    | true => simp [h, all_tw p t]
    | false => rfl
inductive TkP : S41 → Prop
  | name (l : List UInt8) (h : nameL l = true) (hu : l.map up1 = l) : TkP ⟨1, ⟨l.toArray⟩, 0⟩
  | num (n : Nat) (h : n ≤ 65535) : TkP ⟨2, ⟨#[]⟩, n⟩
  | text (l : List UInt8) (h : l.any badB = false) (hl : l.length ≤ 200) : TkP ⟨3, ⟨l.toArray⟩, 0⟩
  | mark (c : UInt8) (h : markB c = true) : TkP ⟨4, ⟨#[c]⟩, 0⟩
theorem unqL_good (l : List UInt8) (h : (unqL l).2 = 0) : (unqL l).1.any badB = false ∧ (unqL l).1.length ≤ l.length := by
  unfold unqL at h ⊢
  split at h
  · rename_i h1
    rw [if_pos h1]
    rw [ru_eq] at h ⊢
    split at h
    · rename_i o ho
      split at ho
      · rename_i h2
        obtain rfl := Option.some.inj ho
        refine ⟨by rw [← dbl_bad, h2.2, h2.1], ?_⟩
        have h3 : (und l.tail.dropLast).length ≤ (dbl (und l.tail.dropLast)).length := by
          generalize und l.tail.dropLast = q
          induction q with
          | nil => exact Nat.le_refl _
          | cons c t ih => rw [dbl]; split <;> simp <;> omega
        rw [h2.2] at h3
        simp at h3
        show (und l.tail.dropLast).length ≤ l.length
        omega
      · cases ho
    · cases h
  · cases h
theorem pf_le (b : Nat) : ∀ (l : List UInt8) (n : Nat), n ≤ 65536 → ∀ m, pf b n l = some m → m ≤ 65536
  | [], n, hn, m, h => by simp only [pf, Option.some.injEq] at h; omega
  | c :: l, n, hn, m, h => by
    rw [pf] at h
    split at h
    · cases h
    · exact pf_le b l _ (by omega) m h
theorem parse_good (l : List UInt8) : ∃ n : Nat, (parseL l).1 = n ∧ n ≤ 65535 := by
  unfold parseL
  split
  · exact ⟨0, rfl, by omega⟩
  · split
    · exact ⟨0, rfl, by omega⟩
    · cases hp : pf (basedL _).2 0 (basedL _).1 with
      | none => exact ⟨0, rfl, by omega⟩
      | some m =>
        have := pf_le _ _ 0 (by omega) m hp
        unfold fin
        simp only
        split
        · exact ⟨0, rfl, by omega⟩
        · exact ⟨m, rfl, by omega⟩
theorem first_good (l : List UInt8) (hl : l.length ≤ 200) (h : (firstL l).2.2.2.2 = 0) : TkP (tk (firstL l)) := by
  cases l with
  | nil => cases h
  | cons c t =>
    unfold firstL at h ⊢
    simp only at h ⊢
    split at h
    · rename_i hb
      rw [if_pos hb]
      split at h
      · cases h
      · rename_i h16
        rw [if_neg h16]
        refine .name _ ?_ ?_
        · rw [take_tw]
          have h1 := all_tw p1 (c :: t)
          rw [List.takeWhile_cons_of_pos (beg_p1 c hb)] at h1 h16 ⊢
          simp only [List.map_cons, nameL, up_let c hb, Bool.and_true, Bool.and_eq_true, decide_eq_true_eq, List.length_map]
          simp only [List.length_cons] at h16
          refine ⟨by omega, ?_⟩
          rw [List.all_eq_true]
          intro a ha
          obtain ⟨b, hb', rfl⟩ := List.mem_map.1 ha
          simp only [List.all_cons, Bool.and_eq_true, List.all_eq_true] at h1
          exact up_tail b (h1.2 b hb')
        · rw [List.map_map]
          exact List.map_congr_left fun a _ => up1_idem a
    · rename_i hb
      rw [if_neg hb]
      split at h
      · rename_i hd
        rw [if_pos hd]
        obtain ⟨n, e, hn⟩ := parse_good (((c :: t).take ((c :: t).takeWhile p2).length).map up1)
        unfold tk
        simp only [e]
        exact .num n hn
      · rename_i hd
        rw [if_neg hd]
        split at h
        · rename_i h9
          rw [if_pos h9]
          cases hq : qlen t with
          | none => rw [hq] at h; cases h
          | some m =>
            rw [hq] at h
            obtain ⟨h1, h2⟩ := unqL_good _ h
            refine .text _ h1 (Nat.le_trans h2 ?_)
            rw [List.length_take]; omega
        · rename_i h9
          rw [if_neg h9]
          split at h
          · rename_i hm
            rw [if_pos hm]
            exact .mark c hm
          · cases h
theorem toks_good (n : Nat) : ∀ l : List UInt8, l.length ≤ 200 → ∀ t ∈ (toks n l).1, TkP t := by
  induction n with
  | zero => intro l _ t ht; cases ht
  | succ n ih =>
    intro l hl t ht
    cases l with
    | nil => cases ht
    | cons c s =>
      unfold toks at ht
      split at ht
      · exact ih s (by simp at hl; omega) t ht
      · split at ht
        · cases ht
        · split at ht
          · rename_i h3
            split at ht
            · rcases List.mem_cons.1 ht with rfl | ht
              · exact first_good _ hl h3
              · exact ih _ (by rw [List.length_drop]; omega) t ht
            · cases ht
          · cases ht
theorem lineT_good (x : ByteArray) : ∀ t ∈ (lineT x).1, TkP t := by
  unfold lineT
  split
  · intro t ht; cases ht
  · rename_i h
    exact toks_good _ _ (by rw [L_len]; omega)
end Go.Proofs.YtejhagejjogbaaaDoor.Tk
