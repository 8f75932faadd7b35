import Derived.Test.YtejhagejjogbaaaDoorVTk3
import Derived.Test.YtejhagejjogbaaaDoorVPf0
import Derived.Test.YtejhagejjogbaaaDoorVPf1
namespace Go.Proofs.YtejhagejjogbaaaDoor.Tk
open Go.RowKit Go.Proofs.YtejhagejjogbaaaDoor.Given Go.Proofs.YtejhagejjogbaaaDoor.Pn Go.Proofs.YtejhagejjogbaaaDoor.Pa Go.Proofs.YtejhagejjogbaaaDoor.Pb Go.Proofs.YtejhagejjogbaaaDoor.Pc Go.Proofs.YtejhagejjogbaaaDoor.Pe Go.Proofs.YtejhagejjogbaaaDoor.Pf Go.Proofs.YtejhagejjogbaaaDoor.Num Go.Proofs.YtejhagejjogbaaaDoor.TokSpan Go.Proofs.YtejhagejjogbaaaDoor.TokIs Go.Proofs.YtejhagejjogbaaaDoorW.PrintWords Go.Proofs.YtejhagejjogbaaaDoorW.PrintLast
set_option linter.unusedSimpArgs false
set_option linter.unusedVariables false
def isB (t : S41) (l : List ByteArray) : Bool := decide (t.f0 = 4) && l.any fun s => t.f1.toList == s.toList
def clB (t : S41) : Bool := isB t [⟨#[41]⟩, ⟨#[93]⟩]
def opB (t : S41) : Bool := isB t [⟨#[40]⟩, ⟨#[91]⟩]
def dn (d : Nat) (t : S41) : Nat := if clB t = true then d - 1 else d
def upd (d : Nat) (t : S41) : Nat := if opB t = true then d + 1 else d
def cutL (a : ByteArray) : Nat → List S41 → List S41 → List (List S41)
  | _, part, [] => [part]
  | d, part, t :: ts => if isB t [a] = true ∧ dn d t = 0 then part :: cutL a (upd (dn d t) t) [] ts else cutL a (upd (dn d t) t) (part ++ [t]) ts
theorem dn_le (d : Nat) (t : S41) : dn d t ≤ d := by unfold dn; split <;> omega
theorem upd_le (d : Nat) (t : S41) : upd d t ≤ d + 1 := by unfold upd; split <;> omega
theorem cut_l0 (a : ByteArray) (ts : List S41) (hs : ts.length ≤ 100000) (n : Nat) : ∀ (i d : Nat) (out : List (List S41)) (part : List S41), i + n = ts.length → d ≤ i → out.length ≤ i → part.length ≤ i →
    Ev (fun k => token_Cut.l0 k a out part (d : Int) ts (ts.length : Int) (i : Int)) (out ++ cutL a d part (ts.drop i)) := by
  induction n with
  | zero =>
    intro i d out part hi hd ho hp
    refine Ev.step (fun k => rfl) ?_
    simp only [token_Cut.l0, if_neg (show ¬ (i : Int) < (ts.length : Int) by omega), if_pos (show out.length < 5864062014805 by omega)]
    rw [List.drop_eq_nil_of_le (by omega), cutL]
    exact Ev.now _
  | succ n ih =>
    intro i d out part hi hd ho hp
    have hl : i < ts.length := by omega
    refine Ev.step (fun k => rfl) ?_
    simp only [token_Cut.l0, if_pos (show (i : Int) < (ts.length : Int) by omega), if_pos (show (0 : Int) ≤ (i : Int) by omega), rd41_at ts i hl, token_is.f, Option.bind_some]
    rw [drop_cons' hl, cutL]
    generalize ts[i] = t
    have ei : wrap64 ((i : Int) + 1) = ((i + 1 : Nat) : Int) := inc_w (show i ≤ 140737488351300 by omega)
    have hdn := dn_le d t
    have h1 : Ev (fun k => token_Cut.j1 k a out part ((dn d t : Nat) : Int) ts (ts.length : Int) (i : Int) t.f0 t.f1 t.f2) (out ++ (if isB t [a] = true ∧ dn d t = 0 then part :: cutL a (upd (dn d t) t) [] (ts.drop (i + 1)) else cutL a (upd (dn d t) t) (part ++ [t]) (ts.drop (i + 1)))) := by
      generalize dn d t = d1 at hdn
      have hup := upd_le d1 t
      have eup : ∀ (b : Bool), b = opB t → (if b = true then wrap64 ((d1 : Int) + 1) else (d1 : Int)) = ((upd d1 t : Nat) : Int) := by
        intro b hb
        unfold upd
        rw [hb]
        split
        · exact inc_w (show d1 ≤ 140737488351300 by omega)
        · rfl
      have h2 : Ev (fun k => token_Cut.j2 k a out part (d1 : Int) ts (ts.length : Int) (i : Int) (isB t [a] && decide (d1 = 0)) t.f0 t.f1 t.f2) (out ++ (if isB t [a] = true ∧ d1 = 0 then part :: cutL a (upd d1 t) [] (ts.drop (i + 1)) else cutL a (upd d1 t) (part ++ [t]) (ts.drop (i + 1)))) := by
        refine Ev.step (fun k => rfl) ?_
        simp only [token_Cut.j2, token_is.f, Option.bind_some, ei]
        have eo : (decide (t.f0 = 4) && List.any [(⟨#[40]⟩ : ByteArray), ⟨#[91]⟩] fun s => t.f1.toList == s.toList) = opB t := rfl
        rw [eo]
        by_cases hc : isB t [a] = true ∧ d1 = 0
        · have e : (isB t [a] && decide (d1 = 0)) = true := by simp [hc.1, hc.2]
          rw [if_pos hc, e]
          simp only [if_true, if_pos (show out.length < 5864062014805 by omega)]
          have key := ih (i + 1) (upd d1 t) (out ++ [part]) [] (by omega) (by omega) (by simp; omega) (by simp)
          rw [← eup _ rfl, List.append_assoc] at key
          cases ho' : opB t with
          | true => simp only [ho', if_true] at key ⊢; exact key
          | false => simp only [ho', Bool.false_eq_true, if_false] at key ⊢; exact key
        · have e : (isB t [a] && decide (d1 = 0)) = false := by
            rw [Bool.and_eq_false_iff]
            cases h : isB t [a] with
            | false => exact .inl rfl
            | true => exact .inr (decide_eq_false fun h' => hc ⟨h, h'⟩)
          rw [if_neg hc, e]
          simp only [Bool.false_eq_true, if_false, if_pos (show part.length < 4398046511104 by omega)]
          have key := ih (i + 1) (upd d1 t) out (part ++ [t]) (by omega) (by omega) (by omega) (by simp; omega)
          rw [← eup _ rfl] at key
          cases ho' : opB t with
          | true => simp only [ho', if_true] at key ⊢; exact key
          | false => simp only [ho', Bool.false_eq_true, if_false] at key ⊢; exact key
      refine Ev.step (fun k => rfl) ?_
      simp only [token_Cut.j1, token_is.f, Option.bind_some]
      have ea : (decide (t.f0 = 4) && List.any [a] fun s => t.f1.toList == s.toList) = isB t [a] := rfl
      rw [ea]
      cases hb : isB t [a] with
      | true =>
        have e0 : ((d1 : Int) == 0) = decide (d1 = 0) := by rw [Bool.eq_iff_iff]; simp
        simp only [hb, if_true, Bool.true_and, e0] at h2 ⊢
        exact h2
      | false =>
        simp only [hb, Bool.false_eq_true, if_false, Bool.false_and] at h2 ⊢
        exact h2
    have ec : (decide (t.f0 = 4) && List.any [(⟨#[41]⟩ : ByteArray), ⟨#[93]⟩] fun s => t.f1.toList == s.toList) = clB t := rfl
    rw [ec]
    have hm : mx (wrap64 ((d : Int) - 1)) 0 = ((d - 1 : Nat) : Int) := by
      rw [w64 (by omega) (by omega)]
      unfold mx
      split <;> omega
    cases hc : clB t with
    | true =>
      have e : dn d t = d - 1 := by unfold dn; rw [if_pos hc]
      rw [e] at h1
      simp only [if_true, hm, e]
      exact h1
    | false =>
      have e : dn d t = d := by unfold dn; rw [if_neg (by simp [hc])]
      rw [e] at h1
      simp only [Bool.false_eq_true, if_false, e]
      exact h1
def cutT (a : ByteArray) (ts : List S41) : List (List S41) := if ts = [] then [] else cutL a 0 [] ts
theorem cut_ev (a : ByteArray) (ts : List S41) (hs : ts.length ≤ 100000) : Ev (fun k => token_Cut.f k ts a) (cutT a ts) := by
  unfold token_Cut.f cutT
  by_cases h : ts = []
  · subst h; simp only [List.length_nil, if_true, if_pos (show ((0 : Nat) : Int) = 0 from rfl)]; exact Ev.now _
  · have hl : ts.length ≠ 0 := fun e => h (List.length_eq_zero_iff.1 e)
    simp only [if_neg h, if_neg (show ¬ (ts.length : Int) = 0 by omega)]
    exact cut_l0 a ts hs ts.length 0 0 [] [] (by omega) (by omega) (by simp) (by simp)
def scan (a : ByteArray) : Nat → List S41 → Option Nat
  | d, [] => some d
  | d, t :: ts => if isB t [a] = true ∧ dn d t = 0 then none else scan a (upd (dn d t) t) ts
theorem scan_app (a : ByteArray) : ∀ (p : List S41) (d : Nat) (t : S41), scan a d (p ++ [t]) = (scan a d p).bind fun d' => if isB t [a] = true ∧ dn d' t = 0 then none else some (upd (dn d' t) t)
  | [], d, t => by simp [scan]
  | u :: p, d, t => by
    rw [List.cons_append, scan, scan]
    split
    · rfl
    · exact scan_app a p _ t
theorem scan_cut (a : ByteArray) : ∀ (p : List S41) (d : Nat) (q : List S41) (e : Nat), scan a d p = some e → cutL a d q p = [q ++ p]
  | [], d, q, e, _ => by rw [cutL, List.append_nil]
  | t :: p, d, q, e, h => by
    rw [scan] at h
    split at h
    · cases h
    · rename_i h1
      rw [cutL, if_neg h1, scan_cut a p _ _ e h, List.append_assoc]
      rfl
theorem cut_parts (a : ByteArray) (ha : ∀ t, isB t [a] = true → opB t = false) : ∀ (ts : List S41) (d : Nat) (part : List S41), scan a 0 part = some d → ∀ p ∈ cutL a d part ts, ∃ e, scan a 0 p = some e
  | [], d, part, h, p, hp => by
    rw [cutL] at hp
    obtain rfl := List.mem_singleton.1 hp
    exact ⟨d, h⟩
  | t :: ts, d, part, h, p, hp => by
    rw [cutL] at hp
    split at hp
    · rename_i h1
      rcases List.mem_cons.1 hp with rfl | hp
      · exact ⟨d, h⟩
      · refine cut_parts a ha ts _ [] ?_ p hp
        rw [h1.2]
        unfold upd
        rw [if_neg (by simp [ha t h1.1])]
        rfl
    · rename_i h1
      refine cut_parts a ha ts _ _ ?_ p hp
      rw [scan_app, h, Option.bind_some, if_neg h1]
def sepT : S46 := ⟨4, ⟨#[44]⟩, 0⟩
def glue : List (List S41) → List S46
  | [] => []
  | [p] => p.map cv
  | p :: q :: r => p.map cv ++ sepT :: glue (q :: r)
theorem cutL_ne (a : ByteArray) : ∀ (ts : List S41) (d : Nat) (part : List S41), ∃ p r, cutL a d part ts = p :: r
  | [], d, part => ⟨_, _, rfl⟩
  | t :: ts, d, part => by
    rw [cutL]
    split
    · exact ⟨_, _, rfl⟩
    · exact cutL_ne a ts _ _
theorem comma_tok {t : S41} (h : isB t [⟨#[44]⟩] = true) (hn : t.f2 = 0) : cv t = sepT := by
  unfold isB at h
  simp only [Bool.and_eq_true, decide_eq_true_eq, List.any_cons, List.any_nil, Bool.or_false, beq_iff_eq] at h
  unfold cv sepT
  rw [h.1, hn]
  have : t.f1 = ⟨#[44]⟩ := L_inj (by have := h.2; rw [toL, toL] at this; exact this)
  rw [this]
theorem glue_cut : ∀ (ts : List S41) (d : Nat) (part : List S41), (∀ t ∈ ts, isB t [⟨#[44]⟩] = true → t.f2 = 0) → glue (cutL ⟨#[44]⟩ d part ts) = (part ++ ts).map cv
  | [], d, part, _ => by rw [cutL, glue, List.append_nil]
  | t :: ts, d, part, hn => by
    rw [cutL]
    split
    · rename_i h1
      obtain ⟨p, r, e⟩ := cutL_ne ⟨#[44]⟩ ts (upd (dn d t) t) []
      have ih := glue_cut ts (upd (dn d t) t) [] (fun u hu => hn u (List.mem_cons_of_mem _ hu))
      rw [e] at ih ⊢
      rw [glue, ih, List.nil_append, ← comma_tok h1.1 (hn t List.mem_cons_self h1.1), List.map_append, List.map_cons]
    · rw [glue_cut ts _ _ (fun u hu => hn u (List.mem_cons_of_mem _ hu)), List.append_assoc]
      rfl
theorem cutL_len (a : ByteArray) : ∀ (ts : List S41) (d : Nat) (part : List S41), (cutL a d part ts).length ≤ ts.length + 1 ∧ ∀ p ∈ cutL a d part ts, p.length ≤ part.length + ts.length
  | [], d, part => by rw [cutL]; exact ⟨Nat.le_refl _, fun p hp => by obtain rfl := List.mem_singleton.1 hp; simp⟩
  | t :: ts, d, part => by
    rw [cutL]
    split
    · obtain ⟨h1, h2⟩ := cutL_len a ts (upd (dn d t) t) []
      refine ⟨by simp; omega, fun p hp => ?_⟩
      rcases List.mem_cons.1 hp with rfl | hp
      · simp
      · have := h2 p hp
        simp only [List.length_nil, List.length_cons] at this ⊢
        omega
    · obtain ⟨h1, h2⟩ := cutL_len a ts (upd (dn d t) t) (part ++ [t])
      refine ⟨by simp; omega, fun p hp => ?_⟩
      have := h2 p hp
      simp only [List.length_append, List.length_cons, List.length_nil] at this ⊢
      omega
theorem glue_snoc : ∀ (ps : List (List S41)) (p : List S41), ps ≠ [] → glue (ps ++ [p]) = glue ps ++ sepT :: p.map cv
  | [], p, h => absurd rfl h
  | [q], p, _ => rfl
  | q :: r :: s, p, _ => by
    rw [List.cons_append, List.cons_append, glue, ← List.cons_append, glue_snoc (r :: s) p (by simp), glue, List.append_assoc]
    rfl
def vc (t : S46) : S41 := ⟨t.f0, t.f1, t.f2⟩
theorem own_l0 (l : List S46) (hs : l.length ≤ 100000) (d : Nat) : ∀ (i : Nat) (acc : List S41), i + d = l.length → acc.length ≤ i →
    Ev (fun k => pidginlaw04_Own.l0 k l acc (i : Int)) (acc ++ (l.drop i).map vc) := by
  induction d with
  | zero =>
    intro i acc hi ha
    refine Ev.step (fun k => rfl) ?_
    simp only [pidginlaw04_Own.l0, if_neg (show ¬ (i : Int) < (l.length : Int) by omega)]
    rw [List.drop_eq_nil_of_le (by omega), List.map_nil, List.append_nil]
    exact Ev.now _
  | succ d ih =>
    intro i acc hi ha
    have hl : i < l.length := by omega
    refine Ev.step (fun k => rfl) ?_
    simp only [pidginlaw04_Own.l0, if_pos (show (i : Int) < (l.length : Int) by omega), if_pos (show (0 : Int) ≤ (i : Int) by omega), if_pos (show acc.length < 4398046511104 by omega), rd46_at l i hl, inc_w (show i ≤ 140737488351300 by omega)]
    rw [drop_cons' hl, List.map_cons]
    have := ih (i + 1) (acc ++ [vc l[i]]) (by omega) (by simp; omega)
    rw [List.append_assoc] at this
    exact this
theorem own_ev (l : List S46) (hs : l.length ≤ 100000) : Ev (fun k => pidginlaw04_Own.f k l) (l.map vc) := by
  unfold pidginlaw04_Own.f
  have := own_l0 l hs l.length 0 [] (by omega) (by simp)
  simpa using this
theorem light_l0 (l : List S46) (hs : l.length ≤ 100) (d : Nat) : ∀ (i : Nat), i + d = l.length → ∃ b, Ev (fun k => pidginlaw04_Light.l0 k l (i : Int)) b := by
  induction d with
  | zero =>
    intro i hi
    refine ⟨true, Ev.step (fun k => rfl) ?_⟩
    simp only [pidginlaw04_Light.l0, if_neg (show ¬ (i : Int) < (l.length : Int) by omega)]
    exact Ev.now _
  | succ d ih =>
    intro i hi
    obtain ⟨b, hb⟩ := ih (i + 1) (by omega)
    by_cases h : ((rd_T46 l (i : Int)).f1.size : Int) > 200
    · refine ⟨false, Ev.step (fun k => rfl) ?_⟩
      simp only [pidginlaw04_Light.l0, if_pos (show (i : Int) < (l.length : Int) by omega), if_pos (show (0 : Int) ≤ (i : Int) by omega), if_pos h]
      exact Ev.now _
    · refine ⟨b, Ev.step (fun k => rfl) ?_⟩
      simp only [pidginlaw04_Light.l0, if_pos (show (i : Int) < (l.length : Int) by omega), if_pos (show (0 : Int) ≤ (i : Int) by omega), if_neg h, inc_w (show i ≤ 140737488351300 by omega)]
      exact hb
theorem light_ev (l : List S46) : ∃ b, Ev (fun k => pidginlaw04_Light.f k l) b ∧ (b = true → l.length ≤ 100) := by
  by_cases h : (l.length : Int) > 100
  · refine ⟨false, ?_, fun h => by cases h⟩
    unfold pidginlaw04_Light.f
    simp only [if_pos h]
    exact Ev.now _
  · obtain ⟨b, hb⟩ := light_l0 l (by omega) l.length 0 (by omega)
    refine ⟨b, ?_, fun _ => by omega⟩
    unfold pidginlaw04_Light.f
    simp only [if_neg h]
    exact hb
theorem rdL_at (l : List (List S41)) (i : Nat) (h : i < l.length) : rd_L7 l (i : Int) = l[i] := by
  simp [rd_L7, List.getD_eq_getElem?_getD, List.getElem?_eq_getElem h]
theorem comma_not_op (t : S41) (h : isB t [⟨#[44]⟩] = true) : opB t = false := by
  unfold isB at h
  simp only [Bool.and_eq_true, decide_eq_true_eq, List.any_cons, List.any_nil, Bool.or_false, beq_iff_eq] at h
  unfold opB isB
  have e := h.2
  simp only [List.any_cons, List.any_nil, Bool.or_false, e, h.1, decide_true, Bool.true_and]
  rw [toL, toL, toL]
  decide
theorem parts_l1 (l : List S46) (m : List S46) (hs : l.length ≤ 100) (hm : (∀ t ∈ l, isB (vc t) [⟨#[44]⟩] = true → t.f2 = 0) → m = l) (d : Nat) : ∀ (i : Nat), i + d = l.length → (∀ t ∈ l.take i, isB (vc t) [⟨#[44]⟩] = true → t.f2 = 0) →
    Ev (fun k => pidginlaw04_TokenParts.l1 k l m (i : Int)) true := by
  induction d with
  | zero =>
    intro i hi hp
    rw [List.take_of_length_le (by omega)] at hp
    obtain rfl := hm hp
    refine Ev.step (fun k => rfl) ?_
    simp only [pidginlaw04_TokenParts.l1, if_neg (show ¬ (i : Int) < (m.length : Int) by omega)]
    refine Ev.bind (same_ev m (by omega)) ?_
    simp only [if_true]
    exact alive4t
  | succ d ih =>
    intro i hi hp
    have hl : i < l.length := by omega
    refine Ev.step (fun k => rfl) ?_
    simp only [pidginlaw04_TokenParts.l1, if_pos (show (i : Int) < (l.length : Int) by omega), if_pos (show (0 : Int) ≤ (i : Int) by omega), rd46_at l i hl, inc_w (show i ≤ 140737488351300 by omega)]
    have next (hz : isB (vc l[i]) [⟨#[44]⟩] = true → l[i].f2 = 0) : Ev (fun k => pidginlaw04_TokenParts.l1 k l m ((i + 1 : Nat) : Int)) true := by
      refine ih (i + 1) (by omega) fun t ht => ?_
      rw [List.take_succ_eq_append_getElem hl] at ht
      rcases List.mem_append.1 ht with ht | ht
      · exact hp t ht
      · rw [List.mem_singleton.1 ht]; exact hz
    generalize l[i] = t at next
    have eb : isB (vc t) [⟨#[44]⟩] = (decide (t.f0 = 4) && (t.f1.toList == (⟨#[44]⟩ : ByteArray).toList)) := by
      unfold isB vc; simp
    have e44 : (⟨#[44]⟩ : ByteArray).toList = [44] := by rw [toL]; rfl
    rw [eb, e44] at next
    by_cases h4 : t.f0 = 4
    · by_cases hc : t.f1.toList = [44]
      · by_cases h0 : t.f2 = 0
        · simp only [if_pos h4, if_pos hc, if_pos h0]; exact next fun _ => h0
        · simp only [if_pos h4, if_pos hc, if_neg h0]; exact alive4t
      · simp only [if_pos h4, if_neg hc]; exact next fun h => by simp [hc] at h
    · simp only [if_neg h4]; exact next fun h => by simp [h4] at h
theorem parts_l0 (l : List S46) (ps : List (List S41)) (hs : l.length ≤ 100) (hc : ps.length ≤ 101) (hp : ∀ p ∈ ps, p.length ≤ 100) (h1 : ∀ p ∈ ps, p ≠ [] → (cutT ⟨#[44]⟩ p).length = 1)
    (he : l = [] → ps = []) (hm : (∀ t ∈ l, isB (vc t) [⟨#[44]⟩] = true → t.f2 = 0) → glue ps = l) (d : Nat) : ∀ (i : Nat), i + d = ps.length → (glue (ps.take i)).length ≤ i * 101 →
    Ev (fun k => pidginlaw04_TokenParts.l0 k l ps (glue (ps.take i)) (i : Int)) true := by
  induction d with
  | zero =>
    intro i hi hg
    rw [List.take_of_length_le (by omega)]
    refine Ev.step (fun k => rfl) ?_
    simp only [pidginlaw04_TokenParts.l0, if_neg (show ¬ (i : Int) < (ps.length : Int) by omega)]
    by_cases h : (l.length : Int) = 0
    · have e := he (List.length_eq_zero_iff.1 (by omega))
      simp only [if_pos h, e, List.length_nil, if_pos (show ((0 : Nat) : Int) = 0 from rfl)]
      exact alive4t
    · simp only [if_neg h]
      exact parts_l1 l (glue ps) hs hm l.length 0 (by omega) (by simp)
  | succ d ih =>
    intro i hi hg
    have hl : i < ps.length := by omega
    have hpi := hp ps[i] (List.getElem_mem hl)
    have h1i := h1 ps[i] (List.getElem_mem hl)
    have hi101 : i * 101 ≤ 101 * 101 := Nat.mul_le_mul_right 101 (by omega)
    have j (m : List S46) (hmm : m ++ ps[i].map cv = glue (ps.take (i + 1))) (hml : m.length ≤ i * 101 + 1) : Ev (fun k => pidginlaw04_TokenParts.j1 k l ps m (i : Int)) true := by
      refine Ev.step (fun k => rfl) ?_
      simp only [pidginlaw04_TokenParts.j1, if_pos (show (0 : Int) ≤ (i : Int) by omega), if_pos (show (i : Int) < (ps.length : Int) by omega), rdL_at ps i hl, inc_w (show i ≤ 140737488351300 by omega)]
      refine Ev.bind (back_ev _ (by omega)) ?_
      simp only [List.length_map, if_pos (show m.length + ps[i].length < 4398046511104 by omega), Option.bind_some, hmm]
      have key := ih (i + 1) (by omega) (by rw [← hmm]; simp; omega)
      by_cases hz : ((ps[i].length : Nat) : Int) > 0
      · simp only [if_pos hz]
        refine Ev.bind (cut_ev ⟨#[44]⟩ ps[i] (by omega)) ?_
        have := h1i (fun e => by rw [e] at hz; simp at hz)
        simp only [this, if_pos (show ((1 : Nat) : Int) = 1 from rfl)]
        exact key
      · simp only [if_neg hz]
        exact key
    refine Ev.step (fun k => rfl) ?_
    simp only [pidginlaw04_TokenParts.l0, if_pos (show (i : Int) < (ps.length : Int) by omega)]
    rw [List.take_succ_eq_append_getElem hl] at j
    by_cases h0 : (i : Int) > 0
    · simp only [if_pos h0, if_pos (show (glue (ps.take i)).length < 4398046511104 by omega)]
      refine j _ ?_ (by simp; omega)
      have hne : ps.take i ≠ [] := by
        intro e
        have := congrArg List.length e
        rw [List.length_take, List.length_nil] at this
        omega
      rw [glue_snoc _ _ hne]
      rw [List.append_assoc]
      rfl
    · simp only [if_neg h0]
      obtain rfl : i = 0 := by omega
      refine j _ ?_ (by omega)
      simp [glue]
theorem TokenParts_ev (l : List S46) : Ev (fun k => pidginlaw04_TokenParts.f k l) true := by
  obtain ⟨b, hb, hlen⟩ := light_ev l
  unfold pidginlaw04_TokenParts.f
  refine Ev.bind hb ?_
  cases b with
  | false => simp only [Bool.false_eq_true, if_false]; exact alive4t
  | true =>
    have hs := hlen rfl
    simp only [if_true]
    refine Ev.bind (own_ev l (by omega)) ?_
    refine Ev.bind (cut_ev ⟨#[44]⟩ _ (by simp; omega)) ?_
    have hcv : (l.map vc).map cv = l := by
      rw [List.map_map]
      have : (cv ∘ vc) = id := rfl
      rw [this, List.map_id]
    have hL := cutL_len ⟨#[44]⟩ (l.map vc) 0 []
    simp only [List.length_map, List.length_nil, Nat.zero_add] at hL
    refine parts_l0 l (cutT ⟨#[44]⟩ (l.map vc)) hs ?_ ?_ ?_ ?_ ?_ _ 0 (by simp; rfl) (by simp [glue])
    · unfold cutT; split
      · simp
      · omega
    · unfold cutT; split
      · intro p hp; cases hp
      · intro p hp; have := hL.2 p hp; omega
    · unfold cutT; split
      · intro p hp; cases hp
      · intro p hp hne
        obtain ⟨e, he⟩ := cut_parts ⟨#[44]⟩ comma_not_op _ 0 [] rfl p hp
        rw [if_neg hne, scan_cut _ p 0 [] e he]
        rfl
    · rintro rfl; rfl
    · intro hz
      unfold cutT; split
      · rename_i h
        have : l = [] := List.map_eq_nil_iff.1 h
        rw [this]; rfl
      · rw [glue_cut _ 0 [] ?_, List.nil_append, hcv]
        intro t ht h
        obtain ⟨u, hu, rfl⟩ := List.mem_map.1 ht
        exact hz u hu h
end Go.Proofs.YtejhagejjogbaaaDoor.Tk
