import Derived.Test.YtejhagejjogbaaaDoorZNum
namespace Go.Proofs.YtejhagejjogbaaaDoor.Num
open Go.RowKit Go.Proofs.YtejhagejjogbaaaDoor.Given Go.Proofs.YtejhagejjogbaaaDoor.Pn Go.Proofs.YtejhagejjogbaaaDoorW.PrintWords Go.Proofs.YtejhagejjogbaaaDoorW.PrintLast
theorem rd_at (l : List Int) (i : Nat) (h : i < l.length) : rd l (i : Int) = l[i] := by
  simp [rd, List.getD_eq_getElem?_getD, List.getElem?_eq_getElem h]
theorem split_ends {α : Type} (l : List α) (h : 2 ≤ l.length) : ∃ a m b, l = a :: (m ++ [b]) := by
  cases l with
  | nil => simp at h
  | cons a t =>
    have ht : t ≠ [] := by rintro rfl; simp at h
    exact ⟨a, t.dropLast, t.getLast ht, by rw [List.dropLast_concat_getLast]⟩
theorem rev_loop (n : Nat) : ∀ (pre mid post : List Int), mid.length ≤ n → (pre ++ mid ++ post).length ≤ 140737488355328 →
    Ev (fun k => slices_Reverse_byte_byte.l0 k (pre ++ mid ++ post) (pre.length : Int) ((pre.length : Int) + mid.length - 1)) (pre ++ mid.reverse ++ post) := by
  induction n using Nat.strongRecOn with
  | _ n ih =>
    intro pre mid post hn hs
    refine Ev.step (fun k => rfl) ?_
    simp only [slices_Reverse_byte_byte.l0]
    by_cases h2 : mid.length < 2
    · simp only [if_neg (show ¬ ((pre.length : Int) < (pre.length : Int) + mid.length - 1) by omega)]
      have : mid.reverse = mid := by
        match mid, h2 with
        | [], _ => rfl
        | [a], _ => rfl
        | a :: b :: l, h => simp at h; omega
      rw [this]
      exact Ev.now _
    · obtain ⟨a, m, b, rfl⟩ := split_ends mid (by omega)
      have hl : (a :: (m ++ [b])).length = m.length + 2 := by simp
      simp only [hl] at hn h2 ⊢
      simp only [List.length_append, hl] at hs
      have e1 : (pre.length : Int) + ((m.length + 2 : Nat) : Int) - 1 = ((pre.length + m.length + 1 : Nat) : Int) := by omega
      rw [e1]
      have hlen : (pre ++ (a :: (m ++ [b])) ++ post).length = pre.length + m.length + 2 + post.length := by simp; omega
      simp only [hlen]
      simp only [if_pos (show (pre.length : Int) < ((pre.length + m.length + 1 : Nat) : Int) by omega), if_pos (show (0 : Int) ≤ ((pre.length + m.length + 1 : Nat) : Int) by omega), if_pos (show ((pre.length + m.length + 1 : Nat) : Int) < ((pre.length + m.length + 2 + post.length : Nat) : Int) by omega), if_pos (show (0 : Int) ≤ (pre.length : Int) by omega), if_pos (show (pre.length : Int) < ((pre.length + m.length + 2 + post.length : Nat) : Int) by omega), Int.toNat_natCast]
      have r1 : rd (pre ++ (a :: (m ++ [b])) ++ post) ((pre.length + m.length + 1 : Nat) : Int) = b := by
        rw [rd_at _ _ (by rw [hlen]; omega)]
        simp [List.getElem_append, List.getElem_cons]
        rw [dif_neg (by omega), dif_neg (by omega), dif_neg (by omega), dif_pos (by omega)]
      have r2 : rd (pre ++ (a :: (m ++ [b])) ++ post) (pre.length : Int) = a := by
        rw [rd_at _ _ (by rw [hlen]; omega)]
        simp
      have e2 : (((pre ++ (a :: (m ++ [b])) ++ post).set pre.length b).set (pre.length + m.length + 1) a) = (pre ++ [b]) ++ m ++ ([a] ++ post) := by
        rw [List.append_assoc, List.set_append_right _ _ (Nat.le_refl _), Nat.sub_self, List.cons_append, List.set_cons_zero, List.set_append_right _ _ (by omega)]
        rw [show pre.length + m.length + 1 - pre.length = m.length + 1 by omega, List.set_cons_succ, List.append_assoc, List.set_append_right _ _ (Nat.le_refl _), Nat.sub_self, List.cons_append, List.set_cons_zero]
        simp
      rw [r1, r2, e2]
      have e3 : wrap64 ((pre.length : Int) + 1) = (((pre ++ [b]).length : Nat) : Int) := by rw [w64 (by omega) (by omega)]; simp
      have e4 : wrap64 (((pre.length + m.length + 1 : Nat) : Int) - 1) = (((pre ++ [b]).length : Nat) : Int) + m.length - 1 := by rw [w64 (by omega) (by omega)]; simp; omega
      rw [e3, e4]
      have := ih m.length (by omega) (pre ++ [b]) m ([a] ++ post) (Nat.le_refl _) (by simp; omega)
      simpa using this
theorem reverse_ev (l : List Int) (hs : l.length ≤ 140737488355328) : Ev (fun k => slices_Reverse_byte_byte.f k l) l.reverse := by
  have := rev_loop l.length [] l [] (Nat.le_refl _) (by simpa using hs)
  unfold slices_Reverse_byte_byte.f
  rw [w64 (by omega) (by omega)]
  simpa using this
def hc (d : Nat) : UInt8 := if d < 10 then UInt8.ofNat (48 + d) else UInt8.ofNat (55 + d)
def hexd : Nat → List UInt8
  | 0 => []
  | n + 1 => hc ((n + 1) % 16) :: hexd ((n + 1) / 16)
termination_by n => n
decreasing_by omega
def zeroed (l : List UInt8) : List UInt8 := match l with | [] => [] | c :: t => if 57 < c.toNat then 48 :: c :: t else c :: t
def showL (n : Nat) : List UInt8 := if n < 10 then [UInt8.ofNat (48 + n)] else zeroed ((hexd n).reverse ++ [72])
theorem hexd_pos {n : Nat} (h : 0 < n) : hexd n = hc (n % 16) :: hexd (n / 16) := by
  obtain ⟨m, rfl⟩ : ∃ m, n = m + 1 := ⟨n - 1, by omega⟩
  rw [hexd]
theorem and15 {n : Nat} (h : n ≤ 65535) : Go.bits .and .u16 (n : Int) 15 = ((n % 16 : Nat) : Int) := by
  unfold Go.bits
  have e : (BitVec.ofInt IntKind.u16.bits (n : Int) &&& BitVec.ofInt IntKind.u16.bits 15).toNat = n % 16 := by
    rw [show IntKind.u16.bits = 16 from rfl, BitVec.toNat_and]
    rw [show (BitVec.ofInt 16 (n : Int)).toNat = n by simp; omega]
    rw [show (BitVec.ofInt 16 15).toNat = 2 ^ 4 - 1 by rfl, Nat.and_two_pow_sub_one_eq_mod]
  simp only [e]
  rw [u16w (by omega) (by omega)]
theorem hexdigit : ∀ d : Fin 16, bt (⟨#[48, 49, 50, 51, 52, 53, 54, 55, 56, 57, 65, 66, 67, 68, 69, 70]⟩ : ByteArray) ((d.val : Nat) : Int) = ((hc d.val).toNat : Int) := by
  decide +kernel
def nat8 (l : List UInt8) : List Int := l.map fun c => (c.toNat : Int)
theorem L_nat8 (l : List UInt8) : strOfNums (nat8 l) = ⟨l.toArray⟩ := by
  refine L_inj ?_
  rw [L_nums, nat8, List.map_map, L_mk]
  conv => rhs; rw [← List.map_id l]
  exact List.map_congr_left fun c _ => by simp
theorem nat8_rev (l : List UInt8) : (nat8 l).reverse = nat8 l.reverse := by simp [nat8]
theorem show_loop (n : Nat) : n ≤ 65535 → ∀ acc : List UInt8, acc ≠ [] → acc.length + n ≤ 140737488350000 →
    Ev (fun k => number_Show.l0 k (n : Int) (nat8 acc)) ⟨(zeroed ((acc ++ hexd n).reverse)).toArray⟩ := by
  induction n using Nat.strongRecOn with
  | _ n ih =>
    intro hn acc hacc hs
    refine Ev.step (fun k => rfl) ?_
    simp only [number_Show.l0]
    by_cases h0 : n = 0
    · subst h0
      have hl : (nat8 acc).length = acc.length := by simp [nat8]
      have hp : 0 < acc.length := List.length_pos_iff.2 hacc
      have e1 : wrap64 (((nat8 acc).length : Int) - 1) = ((acc.length - 1 : Nat) : Int) := by rw [hl, w64 (by omega) (by omega)]; omega
      have e2 : rd (nat8 acc) ((acc.length - 1 : Nat) : Int) = ((acc.getLast hacc).toNat : Int) := by
        rw [rd_at _ _ (by omega)]
        simp [nat8, List.getLast_eq_getElem]
      simp only [if_neg (show ¬ ((0 : Nat) : Int) > 0 by omega), e1, e2, if_pos (show (0 : Int) ≤ ((acc.length - 1 : Nat) : Int) by omega)]
      rw [hl]
      simp only [if_pos (show ((acc.length - 1 : Nat) : Int) < (acc.length : Int) by omega)]
      have hz : zeroed ((acc ++ hexd 0).reverse) = if 57 < (acc.getLast hacc).toNat then 48 :: acc.reverse else acc.reverse := by
        rw [hexd, List.append_nil]
        conv => lhs; rw [← List.dropLast_concat_getLast hacc]
        rw [List.reverse_append]
        simp only [List.reverse_singleton, List.singleton_append, zeroed]
        have : acc.reverse = acc.getLast hacc :: acc.dropLast.reverse := by
          conv => lhs; rw [← List.dropLast_concat_getLast hacc]
          simp
        rw [this]
      rw [hz]
      by_cases h1 : ((acc.getLast hacc).toNat : Int) > 57
      · simp only [if_pos h1, if_pos (show 57 < (acc.getLast hacc).toNat by omega), if_pos (show acc.length < 140737488355328 by omega)]
        rw [show nat8 acc ++ [48] = nat8 (acc ++ [48]) by simp [nat8]]
        refine Ev.bind (reverse_ev _ (by simp [nat8]; omega)) ?_
        rw [nat8_rev, L_nat8, List.reverse_append]
        exact Ev.now _
      · simp only [if_neg h1, if_neg (show ¬ 57 < (acc.getLast hacc).toNat by omega)]
        refine Ev.bind (reverse_ev _ (by simp [nat8]; omega)) ?_
        rw [nat8_rev, L_nat8]
        exact Ev.now _
    · have hp : 0 < n := by omega
      have hlt : n / 16 < n := Nat.div_lt_self hp (by omega)
      have hd : (n : Int) / 16 = ((n / 16 : Nat) : Int) := by omega
      have hx := hexdigit ⟨n % 16, Nat.mod_lt _ (by omega)⟩
      simp only at hx
      simp only [if_pos (show (n : Int) > 0 by omega), and15 hn, if_pos (show (0 : Int) ≤ ((n % 16 : Nat) : Int) by omega), if_pos (show ((n % 16 : Nat) : Int) < 16 by omega), hx, hd]
      simp only [if_pos (show (nat8 acc).length < 140737488355328 by simp [nat8]; omega)]
      rw [show nat8 acc ++ [((hc (n % 16)).toNat : Int)] = nat8 (acc ++ [hc (n % 16)]) by simp [nat8]]
      have := ih (n / 16) hlt (by omega) (acc ++ [hc (n % 16)]) (by simp) (by simp; omega)
      rw [hexd_pos hp]
      rw [List.append_assoc, List.singleton_append] at this
      exact this
theorem ext_one : ∀ d : Fin 10, (⟨#[48, 49, 50, 51, 52, 53, 54, 55, 56, 57, 65, 66, 67, 68, 69, 70]⟩ : ByteArray).extract d.val (d.val + 1) = ⟨#[UInt8.ofNat (48 + d.val)]⟩ := by
  intro d
  refine L_inj ?_
  revert d
  decide +kernel
theorem num_show (n : Nat) (hn : n ≤ 65535) : Ev (fun k => number_Show.f k (n : Int)) ⟨(showL n).toArray⟩ := by
  unfold number_Show.f showL
  by_cases h : n < 10
  · have e : IntKind.u16.wrap ((n : Int) + 1) = ((n + 1 : Nat) : Int) := by rw [u16w (by omega) (by omega)]; omega
    simp only [if_pos (show (n : Int) < 10 by omega), if_pos h, e, if_pos (show (0 : Int) ≤ (n : Int) by omega), if_pos (show (n : Int) ≤ ((n + 1 : Nat) : Int) by omega), if_pos (show ((n + 1 : Nat) : Int) ≤ 16 by omega), Int.toNat_natCast]
    rw [ext_one ⟨n, h⟩]
    exact Ev.now _
  · simp only [if_neg (show ¬ (n : Int) < 10 by omega), if_neg h]
    have := show_loop n hn [72] (by simp) (by simp; omega)
    simpa [nat8] using this
def top : Nat → Nat → Nat
  | 0, d => d
  | n + 1, _ => top ((n + 1) / 16) ((n + 1) % 16)
termination_by n _ => n
decreasing_by omega
theorem top_pos {n : Nat} (h : 0 < n) (d : Nat) : top n d = top (n / 16) (n % 16) := by
  obtain ⟨m, rfl⟩ : ∃ m, n = m + 1 := ⟨n - 1, by omega⟩
  rw [top]
theorem hexd_top (n : Nat) : 0 < n → ∀ d, ∃ t, (hexd n).reverse = hc (top n d) :: t ∧ top n d < 16 := by
  induction n using Nat.strongRecOn with
  | _ n ih =>
    intro hp d
    rw [hexd_pos hp, top_pos hp, List.reverse_cons]
    by_cases h : n / 16 = 0
    · rw [h, hexd, top]
      exact ⟨[], by simp, Nat.mod_lt _ (by omega)⟩
    · obtain ⟨t, ht, hl⟩ := ih (n / 16) (Nat.div_lt_self hp (by omega)) (by omega) (n % 16)
      rw [ht]
      exact ⟨t ++ [hc (n % 16)], by simp, hl⟩
theorem hc_big : ∀ d : Fin 16, (57 < (hc d.val).toNat) ↔ 9 < d.val := by decide +kernel
theorem dval_hc : ∀ d : Fin 16, dval (hc d.val) = d.val := by decide +kernel
theorem dig_hc {b d : Nat} (h : d < b) (hb : b ≤ 16) : dig b (hc d) = some d := by
  have := dval_hc ⟨d, by omega⟩
  simp only at this
  unfold dig
  rw [this, if_pos h]
theorem pf_app (b : Nat) : ∀ (l m : List UInt8) (n : Nat), pf b n (l ++ m) = (pf b n l).bind fun n' => pf b n' m
  | [], m, n => rfl
  | c :: l, m, n => by
    simp only [List.cons_append, pf]
    cases dig b c with
    | none => rfl
    | some d => exact pf_app b l m _
theorem pf_hex (n : Nat) : n ≤ 65535 → pf 16 0 (hexd n).reverse = some n := by
  induction n using Nat.strongRecOn with
  | _ n ih =>
    intro hn
    by_cases h0 : n = 0
    · subst h0; rw [hexd]; rfl
    · have hp : 0 < n := by omega
      rw [hexd_pos hp, List.reverse_cons, pf_app, ih (n / 16) (Nat.div_lt_self hp (by omega)) (by omega), Option.bind_some]
      simp only [pf, dig_hc (Nat.mod_lt n (show 0 < 16 by omega)) (Nat.le_refl _)]
      congr 1
      omega
theorem up1_hc : ∀ d : Fin 16, up1 (hc d.val) = hc d.val := by decide +kernel
theorem hexd_up (n : Nat) : (hexd n).map up1 = hexd n := by
  induction n using Nat.strongRecOn with
  | _ n ih =>
    by_cases h0 : n = 0
    · subst h0; rw [hexd]; rfl
    · have hp : 0 < n := by omega
      rw [hexd_pos hp, List.map_cons, ih _ (Nat.div_lt_self hp (by omega)), up1_hc ⟨n % 16, Nat.mod_lt _ (by omega)⟩]
theorem show_up (n : Nat) : (showL n).map up1 = showL n := by
  unfold showL
  by_cases h : n < 10
  · rw [if_pos h]
    have : ∀ d : Fin 10, [UInt8.ofNat (48 + d.val)].map up1 = [UInt8.ofNat (48 + d.val)] := by decide +kernel
    exact this ⟨n, h⟩
  · rw [if_neg h]
    have e : (zeroed ((hexd n).reverse ++ [72])).map up1 = zeroed ((hexd n).reverse ++ [72]) := by
      have : ((hexd n).reverse ++ [72]).map up1 = (hexd n).reverse ++ [72] := by
        rw [List.map_append, List.map_reverse, hexd_up]; rfl
      unfold zeroed
      generalize (hexd n).reverse ++ [72] = l at this
      cases l with
      | nil => rfl
      | cons c t =>
        simp only
        split
        · rw [List.map_cons, this]; rfl
        · exact this
    exact e
theorem zero_last {l : List UInt8} {c : UInt8} : (zeroed (l ++ [c])).getLast? = some c ∧ (zeroed (l ++ [c])).dropLast = (match l with | [] => if 57 < c.toNat then [48] else [] | d :: t => if 57 < d.toNat then 48 :: d :: t else d :: t) := by
  cases l with
  | nil =>
    simp only [List.nil_append, zeroed]
    split <;> simp
  | cons d t =>
    simp only [List.cons_append, zeroed]
    split
    · constructor
      · rw [show 48 :: d :: (t ++ [c]) = (48 :: d :: t) ++ [c] by simp, List.getLast?_append]; simp
      · rw [show 48 :: d :: (t ++ [c]) = (48 :: d :: t) ++ [c] by simp, List.dropLast_concat]
    · constructor
      · rw [show d :: (t ++ [c]) = (d :: t) ++ [c] by simp, List.getLast?_append]; simp
      · rw [show d :: (t ++ [c]) = (d :: t) ++ [c] by simp, List.dropLast_concat]
theorem hc_digit {d : Nat} (h : d < 16) (h9 : ¬ 9 < d) : ¬ ((hc d).toNat < 48 ∨ 57 < (hc d).toNat) := by
  have : ∀ d : Fin 10, ¬ ((hc d.val).toNat < 48 ∨ 57 < (hc d.val).toNat) := by decide +kernel
  exact this ⟨d, by omega⟩
theorem parse_show (n : Nat) (hn : n ≤ 65535) : parseL (showL n) = ((n : Int), 0) := by
  unfold showL
  by_cases h : n < 10
  · rw [if_pos h]
    have : ∀ d : Fin 10, parseL [UInt8.ofNat (48 + d.val)] = (((d.val : Nat) : Int), 0) := by decide +kernel
    exact this ⟨n, h⟩
  · rw [if_neg h]
    obtain ⟨t, ht, hl⟩ := hexd_top n (by omega) 0
    have hb := hc_big ⟨top n 0, hl⟩
    simp only at hb
    have hz := @zero_last (hexd n).reverse 72
    have hh := pf_hex n hn
    rw [ht] at hz hh ⊢
    simp only at hz
    have hbase : ∀ l : List UInt8, l.getLast? = some 72 → basedL l = (l.dropLast, 16) := by
      intro l e
      unfold basedL
      rw [e]
      rfl
    have hfin : ∀ l : List UInt8, pf 16 0 l = some n → fin (pf 16 0 l) = ((n : Int), 0) := by
      intro l e
      rw [e]
      unfold fin
      simp only
      rw [if_neg (by omega)]
    by_cases h9 : 9 < top n 0
    · rw [if_pos (hb.2 h9)] at hz
      have e : zeroed (hc (top n 0) :: t ++ [72]) = 48 :: (hc (top n 0) :: t ++ [72]) := by
        rw [List.cons_append]; unfold zeroed; simp only; rw [if_pos (hb.2 h9)]
      rw [e] at hz ⊢
      unfold parseL
      simp only
      rw [if_neg (by decide), hbase _ hz.1, hz.2]
      refine hfin _ ?_
      rw [show (48 : UInt8) :: hc (top n 0) :: t = [48] ++ (hc (top n 0) :: t) by rfl, pf_app]
      have : pf 16 0 [48] = some 0 := by decide +kernel
      rw [this, Option.bind_some, hh]
    · rw [if_neg (fun a => h9 (hb.1 a))] at hz
      have e : zeroed (hc (top n 0) :: t ++ [72]) = (hc (top n 0) :: t ++ [72]) := by
        rw [List.cons_append]; unfold zeroed; simp only; rw [if_neg (fun a => h9 (hb.1 a))]
      rw [e] at hz ⊢
      rw [List.cons_append] at hz ⊢
      unfold parseL
      simp only
      rw [if_neg (hc_digit hl h9), hbase _ hz.1, hz.2]
      exact hfin _ hh
end Go.Proofs.YtejhagejjogbaaaDoor.Num
