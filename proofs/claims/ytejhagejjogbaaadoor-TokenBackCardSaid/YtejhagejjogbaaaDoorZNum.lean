import Derived.Test.YtejhagejjogbaaaDoorZPn0
import Derived.Test.YtejhagejjogbaaaDoorZPn1
import Derived.Test.YtejhagejjogbaaaDoorZPn2
namespace Go.Proofs.YtejhagejjogbaaaDoor.Num
open Go.RowKit Go.Proofs.YtejhagejjogbaaaDoor.Given Go.Proofs.YtejhagejjogbaaaDoor.Pn Go.Proofs.YtejhagejjogbaaaDoorW.PrintWords Go.Proofs.YtejhagejjogbaaaDoorW.PrintLast
def L (s : ByteArray) : List UInt8 := s.data.toList
theorem L_inj {s t : ByteArray} (h : L s = L t) : s = t := by
  cases s; cases t; simp only [L] at h; congr; exact Array.toList_inj.1 h
theorem L_len (s : ByteArray) : (L s).length = s.size := data_length s
theorem L_mk (a : Array UInt8) : L ⟨a⟩ = a.toList := rfl
theorem L_ext (s : ByteArray) (i j : Nat) : L (s.extract i j) = ((L s).take j).drop i := by
  simp [L, ByteArray.data_extract, List.drop_take]
theorem bt_L (s : ByteArray) (i : Nat) (h : i < (L s).length) : bt s (i : Int) = ((L s)[i].toNat : Int) := by
  have h' : i < s.size := by rw [← L_len]; exact h
  unfold bt
  rw [Int.toNat_natCast, dif_pos h']
  rfl
theorem L_nums (l : List Int) : L (strOfNums l) = l.map fun n => UInt8.ofNat n.toNat := rfl
theorem w64 {n : Int} (h0 : -9223372036854775808 ≤ n) (h1 : n ≤ 9223372036854775807) : wrap64 n = n := by
  unfold wrap64; omega
theorem u16w {n : Int} (h0 : 0 ≤ n) (h1 : n ≤ 65535) : IntKind.u16.wrap n = n := by
  have : n % 65536 = n := by omega
  simp [IntKind.wrap, IntKind.bits, IntKind.signed, this]
def dval (c : UInt8) : Nat := if 48 ≤ c ∧ c ≤ 57 then c.toNat - 48 else if 65 ≤ c ∧ c ≤ 70 then c.toNat - 55 else 99
def dig (b : Nat) (c : UInt8) : Option Nat := if dval c < b then some (dval c) else none
def dnum (o : Option Nat) : Int := match o with | none => -1 | some v => v
theorem dig_ix : ∀ b ∈ [2, 8, 10, 16], ∀ c : Fin 256, Lib.indexByte (L ((⟨#[48, 49, 50, 51, 52, 53, 54, 55, 56, 57, 65, 66, 67, 68, 69, 70]⟩ : ByteArray).extract 0 b)) (UInt8.ofNat c.val) = dnum (dig b (UInt8.ofNat c.val)) := by
  decide +kernel
theorem dig_ix' {b : Nat} (hb : b ∈ [2, 8, 10, 16]) (c : UInt8) : Lib.indexByte (L ((⟨#[48, 49, 50, 51, 52, 53, 54, 55, 56, 57, 65, 66, 67, 68, 69, 70]⟩ : ByteArray).extract 0 b)) c = dnum (dig b c) := by
  have := dig_ix b hb ⟨c.toNat, c.toNat_lt⟩
  simpa using this
def pf (b : Nat) : Nat → List UInt8 → Option Nat
  | n, [] => some n
  | n, c :: l => match dig b c with
    | none => none
    | some d => pf b (min (n * b + d) 65536) l
def fin : Option Nat → Int × Int
  | none => (0, 2)
  | some n => if 65535 < n then (0, 5) else ((n : Int), 0)
theorem drop_cons {l : List UInt8} {i : Nat} (h : i < l.length) : l.drop i = l[i] :: l.drop (i + 1) := List.drop_eq_getElem_cons h
theorem dig_lt {b v : Nat} {c : UInt8} (h : dig b c = some v) : v < b := by
  unfold dig at h
  by_cases e : dval c < b
  · rw [if_pos e] at h; obtain rfl := Option.some.inj h; exact e
  · rw [if_neg e] at h; cases h
theorem acc_w {n b v : Nat} (hn : n ≤ 65536) (hb : b ≤ 16) (hv : v < b) : wrap64 (wrap64 ((n : Int) * (b : Int)) + (v : Int)) = ((n * b + v : Nat) : Int) := by
  have hm : n * b ≤ 65536 * 16 := Nat.mul_le_mul hn hb
  rw [← Int.natCast_mul]
  generalize n * b = m at hm ⊢
  rw [w64 (n := (m : Int)) (by omega) (by omega), w64 (by omega) (by omega)]
  omega
theorem acc_n {n b v : Nat} (hn : n ≤ 65536) (hb : b ≤ 16) (hv : v < b) : mn (wrap64 (wrap64 ((n : Int) * (b : Int)) + (v : Int))) 65536 = ((min (n * b + v) 65536 : Nat) : Int) := by
  rw [acc_w hn hb hv]
  generalize n * b + v = m
  unfold mn
  omega
theorem inc_w {i : Nat} (hi : i ≤ 140737488351300) : wrap64 ((i : Int) + 1) = ((i + 1 : Nat) : Int) := by rw [w64 (by omega) (by omega)]; omega
theorem at_byte (x : ByteArray) {i : Nat} (hl : i < (L x).length) : (bt x i).toNat.toUInt8 = (L x)[i] := by
  rw [bt_L x i hl]
  simp
theorem num_loop (x : ByteArray) {b : Nat} (hb : b ∈ [2, 8, 10, 16]) (hs : x.size ≤ 140737488351300) (d : Nat) : ∀ (i n : Nat), i + d = x.size → n ≤ 65536 →
    Ev (fun k => number_Parse.l0 k x (b : Int) (n : Int) (x.size : Int) (i : Int)) (fin (pf b n ((L x).drop i))) := by
  have hb16 : b ≤ 16 ∧ 2 ≤ b := by simp at hb; omega
  induction d with
  | zero =>
    intro i n hi hn
    refine Ev.step (fun k => rfl) ?_
    simp only [number_Parse.l0]
    rw [List.drop_eq_nil_of_le (by rw [L_len]; omega)]
    simp only [if_neg (show ¬ (i : Int) < (x.size : Int) by omega), pf, fin]
    by_cases h : 65535 < n
    · simp only [if_pos (show (n : Int) > 65535 by omega), if_pos h]; exact Ev.now _
    · simp only [if_neg (show ¬ (n : Int) > 65535 by omega), if_neg h]; rw [u16w (by omega) (by omega)]; exact Ev.now _
  | succ d ih =>
    intro i n hi hn
    have hl : i < (L x).length := by rw [L_len]; omega
    refine Ev.step (fun k => rfl) ?_
    simp only [number_Parse.l0]
    have hix : Lib.indexByte ((⟨#[48, 49, 50, 51, 52, 53, 54, 55, 56, 57, 65, 66, 67, 68, 69, 70]⟩ : ByteArray).extract 0 ((b : Int)).toNat).data.toList (bt x i).toNat.toUInt8 = dnum (dig b (L x)[i]) := by
      rw [at_byte x hl, Int.toNat_natCast]
      exact dig_ix' hb _
    simp only [if_pos (show (i : Int) < (x.size : Int) by omega), if_pos (show (0 : Int) ≤ (b : Int) by omega), if_pos (show (b : Int) ≤ 16 by omega), if_pos (show (0 : Int) ≤ (i : Int) by omega), strings_IndexByte.f, Option.bind_some, hix]
    rw [drop_cons hl, pf]
    generalize hd : dig b (L x)[i] = o
    cases o with
    | none => exact Ev.now _
    | some v =>
      have hv := dig_lt hd
      simp only [dnum, if_neg (show ¬ ((v : Int) < 0) by omega), acc_n hn hb16.1 hv, inc_w (show i ≤ 140737488351300 by omega)]
      exact ih (i + 1) _ (by omega) (by omega)
theorem L_up (s : ByteArray) : L (upB s) = (L s).map up1 := by simp [L, upB]
theorem size_up (s : ByteArray) : (upB s).size = s.size := by rw [← L_len, L_up, List.length_map, L_len]
theorem num_upper (x : ByteArray) (hs : x.size ≤ 140737488351300) : number_Upper.f x = some (upB x) := by
  unfold number_Upper.f
  rw [if_pos (by omega)]
def basedL (l : List UInt8) : List UInt8 × Nat :=
  match l.getLast? with
  | none => (l, 10)
  | some c => if c = 72 then (l.dropLast, 16) else if c = 79 ∨ c = 81 then (l.dropLast, 8) else if c = 66 then (l.dropLast, 2) else if c = 68 then (l.dropLast, 10) else (l, 10)
def parseL (l : List UInt8) : Int × Int :=
  match l with
  | [] => (0, 2)
  | c :: _ => if c.toNat < 48 ∨ 57 < c.toNat then (0, 2) else fin (pf (basedL l).2 0 (basedL l).1)
theorem last_at (x : ByteArray) (h : 0 < x.size) (hs : x.size ≤ 140737488351300) :
    wrap64 ((x.size : Int) - 1) = ((x.size - 1 : Nat) : Int) ∧ ∃ c, (L x).getLast? = some c ∧ bt x ((x.size - 1 : Nat) : Int) = (c.toNat : Int) ∧ L (x.extract 0 (x.size - 1)) = (L x).dropLast := by
  refine ⟨by rw [w64 (by omega) (by omega)]; omega, ?_⟩
  have hl : x.size - 1 < (L x).length := by rw [L_len]; omega
  refine ⟨(L x)[x.size - 1], ?_, bt_L x _ hl, ?_⟩
  · rw [List.getLast?_eq_getElem?, L_len, List.getElem?_eq_getElem hl]
  · rw [L_ext, List.drop_zero, List.dropLast_eq_take, L_len]
theorem ch_eq (c d : UInt8) : ((c.toNat : Int) = (d.toNat : Int)) ↔ c = d := by
  constructor
  · intro h; exact UInt8.toNat.inj (by omega)
  · rintro rfl; rfl
theorem num_based (x : ByteArray) (h : 0 < x.size) (hs : x.size ≤ 140737488351300) :
    ∃ y : ByteArray, L y = (basedL (L x)).1 ∧ Ev (fun k => number_based.f k x) (y, ((basedL (L x)).2 : Int)) := by
  obtain ⟨e1, c, hc, hb, hd⟩ := last_at x h hs
  unfold number_based.f
  rw [e1]
  simp only [if_pos (show (0 : Int) ≤ ((x.size - 1 : Nat) : Int) by omega), if_pos (show ((x.size - 1 : Nat) : Int) ≤ (x.size : Int) by omega), if_pos (show ((x.size - 1 : Nat) : Int) < (x.size : Int) by omega), Int.toNat_natCast, hb]
  unfold basedL
  rw [hc]
  have q72 := ch_eq c 72
  have q79 := ch_eq c 79
  have q81 := ch_eq c 81
  have q66 := ch_eq c 66
  have q68 := ch_eq c 68
  simp only [show ((72 : UInt8).toNat : Int) = 72 from rfl, show ((79 : UInt8).toNat : Int) = 79 from rfl, show ((81 : UInt8).toNat : Int) = 81 from rfl, show ((66 : UInt8).toNat : Int) = 66 from rfl, show ((68 : UInt8).toNat : Int) = 68 from rfl] at q72 q79 q81 q66 q68
  have hj : ∀ bb : Bool, Ev (fun k => number_based.j0 k x (x.extract 0 (x.size - 1)) (c.toNat : Int) bb) (if bb = true then (x.extract 0 (x.size - 1), 8) else if c = 66 then (x.extract 0 (x.size - 1), 2) else if c = 68 then (x.extract 0 (x.size - 1), 10) else (x, 10)) := by
    intro bb
    refine Ev.step (fun k => rfl) ?_
    simp only [number_based.j0, q66, q68]
    by_cases h1 : bb = true
    · simp only [if_pos h1]; exact Ev.now _
    · simp only [if_neg h1]
      by_cases h2 : c = 66
      · simp only [if_pos h2]; exact Ev.now _
      · simp only [if_neg h2]
        by_cases h3 : c = 68
        · simp only [if_pos h3]; exact Ev.now _
        · simp only [if_neg h3]; exact Ev.now _
  simp only [q72, q79]
  by_cases h1 : c = 72
  · simp only [if_pos h1]
    exact ⟨_, hd, Ev.now _⟩
  · simp only [if_neg h1]
    by_cases h2 : c = 79
    · simp only [if_pos h2, if_pos (show c = 79 ∨ c = 81 from .inl h2)]
      refine ⟨_, hd, ?_⟩
      have := hj true
      simp only [if_true] at this
      rw [show ((c.toNat : Int) == 79) = true by simpa using q79.2 h2]
      exact this
    · simp only [if_neg h2]
      by_cases h3 : c = 81
      · simp only [if_pos (show c = 79 ∨ c = 81 from .inr h3)]
        refine ⟨_, hd, ?_⟩
        have := hj true
        simp only [if_true] at this
        rw [show ((c.toNat : Int) == 81) = true by simpa using q81.2 h3]
        exact this
      · simp only [if_neg (show ¬ (c = 79 ∨ c = 81) by simp [h2, h3])]
        have := hj false
        simp only [if_neg (show ¬ (false = true) by decide)] at this
        rw [show ((c.toNat : Int) == 81) = false by simpa using fun e => h3 (q81.1 e)]
        by_cases h4 : c = 66
        · simp only [if_pos h4] at this ⊢; exact ⟨_, hd, this⟩
        · simp only [if_neg h4] at this ⊢
          by_cases h5 : c = 68
          · simp only [if_pos h5] at this ⊢; exact ⟨_, hd, this⟩
          · simp only [if_neg h5] at this ⊢; exact ⟨_, rfl, this⟩
theorem based_mem (l : List UInt8) : (basedL l).2 ∈ [2, 8, 10, 16] := by
  unfold basedL
  split
  · simp
  · split
    · simp
    · split
      · simp
      · split
        · simp
        · split <;> simp
theorem based_len (l : List UInt8) : (basedL l).1.length ≤ l.length := by
  unfold basedL
  split
  · simp
  · split
    · simp
    · split
      · simp
      · split
        · simp
        · split <;> simp
theorem empty_iff (x : ByteArray) : x.toList = ([] : List UInt8) ↔ x.size = 0 := by
  rw [Lib.toList_data, ← L_len, List.length_eq_zero_iff]; rfl
theorem L_pos {x : ByteArray} (h : 0 < x.size) : ∃ c l, L x = c :: l ∧ bt x 0 = (c.toNat : Int) := by
  have hl : 0 < (L x).length := by rw [L_len]; exact h
  obtain ⟨c, l, e⟩ := List.exists_cons_of_length_pos hl
  refine ⟨c, l, e, ?_⟩
  have := bt_L x 0 hl
  simp only [e] at this
  exact this
theorem num_parse_up (x : ByteArray) (hs : x.size ≤ 140737488351300) : Ev (fun k => (if x.toList = ([] : List UInt8) then (number_Parse.j0 k x true) else (if 0 < (x.size : Int) then (if (bt x 0) < 48 then (number_Parse.j0 k x true) else (number_Parse.j0 k x (decide ((bt x 0) > 57)))) else (none)))) (parseL (L x)) := by
  have hj : Ev (fun k => number_Parse.j0 k x true) (0, 2) := by
    refine Ev.step (fun k => rfl) ?_
    simp only [number_Parse.j0, if_true]
    exact Ev.now _
  by_cases h0 : x.size = 0
  · simp only [if_pos ((empty_iff x).2 h0)]
    have : L x = [] := by rw [← List.length_eq_zero_iff, L_len]; exact h0
    rw [this]
    exact hj
  · have hp : 0 < x.size := by omega
    simp only [if_neg (fun h => h0 ((empty_iff x).1 h)), if_pos (show (0 : Int) < (x.size : Int) by omega)]
    obtain ⟨c, l, hcl, hb⟩ := L_pos hp
    simp only [hb]
    rw [hcl]
    unfold parseL
    by_cases h1 : (c.toNat : Int) < 48
    · simp only [if_pos h1, if_pos (show c.toNat < 48 ∨ 57 < c.toNat by omega)]
      exact hj
    · simp only [if_neg h1]
      by_cases h2 : (c.toNat : Int) > 57
      · simp only [h2, decide_true, if_pos (show c.toNat < 48 ∨ 57 < c.toNat by omega)]
        exact hj
      · simp only [h2, decide_false, if_neg (show ¬ (c.toNat < 48 ∨ 57 < c.toNat) by omega)]
        refine Ev.step (fun k => rfl) ?_
        simp only [number_Parse.j0, if_neg (show ¬ (false = true) by decide)]
        obtain ⟨y, hy, hE⟩ := num_based x hp hs
        have hlen := based_len (L x)
        rw [← hy, L_len, L_len] at hlen
        refine Ev.bind hE ?_
        have := num_loop y (based_mem (L x)) (by omega) y.size 0 0 (by omega) (by omega)
        rw [List.drop_zero, hy, hcl] at this
        simp only [hcl]
        exact this
theorem num_parse (x : ByteArray) (hs : x.size ≤ 140737488351300) : Ev (fun k => number_Parse.f k x) (parseL (L (upB x))) := by
  unfold number_Parse.f
  rw [num_upper x hs]
  simp only [Option.bind_some]
  exact num_parse_up (upB x) (by rw [size_up]; exact hs)
end Go.Proofs.YtejhagejjogbaaaDoor.Num
