import Derived.Test.YtejhagejjogbaaaDoorKeM6
import Derived.Test.YtejhagejjogbaaaDoorKeM7
import Derived.Test.YtejhagejjogbaaaDoorKeM8
import Derived.Test.YtejhagejjogbaaaDoorKeM9
import Derived.Test.YtejhagejjogbaaaDoorKeM10
import Derived.Test.YtejhagejjogbaaaDoorKeM2
import Derived.Test.YtejhagejjogbaaaDoorKeM3
import Derived.Test.YtejhagejjogbaaaDoorKeM4
import Derived.Test.YtejhagejjogbaaaDoorKeM5
import Derived.Test.YtejhagejjogbaaaDoorProg
import Derived.Below
import Derived.Deep.Draws
import Derived.Deep.AppendLies
import Derived.Maps.AppendAt
import Derived.OwnWalk
import Derived.Laws.BytesArg
import Derived.Laws.MakeOwn
import Derived.Laws.OwnMore
import Derived.Deep.OwnRows
import Derived.Tactics
import Derived.Lib.ConvBytes
import Derived.Laws.Slices
import Derived.WalkKit
import Derived.KernelRfl
import Derived.RowKit3
import Derived.Deep.LoopGhost
import Derived.Deep.QuietTactic
import Derived.BigQuiet
import Derived.WideLaws
import Derived.Deep.DeepCutAuto
import Derived.Deep.CutBlock
import Derived.Deep.RegionHeld3
import Derived.Laws.Rows
import Derived.Lib.AppendStr
import Derived.ArgAppend
import Derived.Laws.IdiomCopy
import Derived.OrdersHeld
import Derived.Laws.BitsLemmas
import Derived.RowKit
import Derived.Test.YtejhagejjogbaaaDoorKeM1
section
namespace Go.Proofs.YtejhagejjogbaaaDoor.AnyNot
open Go.RowKit YtejhagejjogbaaaDoorW.PrintWords YtejhagejjogbaaaDoorW.PrintLast YtejhagejjogbaaaDoorW.PrintMore Given Pn Pa Qa
set_option linter.unusedVariables false
set_option linter.unusedSimpArgs false
def bindsL (l : List UInt8) : Int × Int :=
  if l = [35] ∨ l = [110] ∨ l = [36] then (7, 0) else if l = [78, 69, 71] then (6, 1)
  else if l = [42] ∨ l = [47] ∨ l = [77, 79, 68] ∨ l = [83, 72, 76] ∨ l = [83, 72, 82] then (5, 2)
  else if l = [43] ∨ l = [45] then (4, 2) else if l = [78, 79, 84] then (3, 1) else if l = [65, 78, 68] then (2, 2)
  else if l = [79, 82] ∨ l = [88, 79, 82] then (1, 2) else (0, 0)
def wordL (l : List UInt8) : Bool := [[79, 82], [88, 79, 82], [65, 78, 68], [78, 79, 84], [77, 79, 68], [83, 72, 76], [83, 72, 82]].contains l
def letB' (c : UInt8) : Bool := (97 ≤ c && c ≤ 122) || (65 ≤ c && c ≤ 90) || c == 63 || c == 64 || c == 95
def nameQ (l : List UInt8) : Bool := match l with
  | [] => false
  | c :: t => decide (t.length < 16) && letB' c && t.all fun c => letB' c || (48 ≤ c && c ≤ 57)
def namedL (l : List UInt8) : Bool := nameQ l && (l.map up1 == l) && !wordL l
def condR (e : S50) : Bool :=
  let o := e.f0.data.toList
  decide ((bindsL o).1 ≠ 0) && decide ((e.f3.length : Int) = (bindsL o).2) && (decide (e.f1 = 0) || o == [35]) && (if o = [110] then namedL e.f2.data.toList else e.f2.data.toList == [])
def rightN : Nat → S50 → Bool
  | 0, _ => false
  | n + 1, e => condR e && e.f3.all (rightN n)
def okB : Nat → S50 → Bool
  | 0, e => decide (e.f2.size ≤ 1000)
  | n + 1, e => decide (e.f2.size ≤ 1000) && e.f3.all (okB n)
def RightAt (n : Nat) : Prop := ∀ (e : S50) (A : Option Addr) (c : Nat) (w : World), Kd.C k50 w A e.f3.length e.f3 → e.f3.length ≤ c → okB n e = true →
  Calls Tryd.prog 121 #[.agg #[.string e.f0, .int .u16 e.f1, .string e.f2, .slice A e.f3.length c], .int .i64 (n : Int)] w fun e' w' => e' = .returned (.bool (rightN n e)) ∧ Below w.heap.size w w'
def GR (m : Int) (w : World) : Prop := ∀ n : Nat, (n : Int) < m → RightAt n
theorem GR.below {m : Int} {w w' : World} (h : GR m w) (hb : Below w.heap.size w w') : GR m w' := h
set_option maxHeartbeats 8000000 in
set_option maxRecDepth 100000 in
theorem clo_calls (n : Nat) (hn : n ≤ 1000) (IH : RightAt n) (e : S50) (A : Option Addr) (c : Nat) (w : World) (gb : Nat) (hr : Kd.C k50 w A e.f3.length e.f3) (hc : e.f3.length ≤ c) (hok : okB n e = true)
    (hB : w.heap[gb]? = some (.cells #[.int .i64 ((n + 1 : Nat) : Int)] 3 (0, 0))) :
    Calls Tryd.prog 146 #[.agg #[.string e.f0, .int .u16 e.f1, .string e.f2, .slice A e.f3.length c], .pointer (some ⟨gb, 0, none⟩)] w fun e' w' => e' = .returned (.bool (!rightN n e)) ∧ Below w.heap.size w w' := by
  have hu50 := Tryd.underlying50
  have hb0 : gb < w.heap.size := by
    rcases Nat.lt_or_ge gb w.heap.size with h | h
    · exact h
    · rw [Array.getElem?_eq_none h] at hB; cases hB
  have hsub : wrap64 (((n + 1 : Nat) : Int) - 1) = (n : Int) := by unfold wrap64; omega
  have HB0 := zz_ hB
  have HR := zz_ hr
  have HK := zz_ hok
  clear hr hok hB
  go_enter Tryd.func146, Tryd.ntmps146
  go_wp2_with (first | (with_reducible refine zS (N := 2) rfl ?_); refine zO ?hg (N := 2) ?hd (cs := #[.string e.f0, .int .u16 e.f1, .string e.f2, .slice A e.f3.length c]) (t := 50) ?hr ?_; (case hd => rfl); (case hg => rfl); (case hr => first | (go_simp; done) | (go_simp; rfl)); intro gx hg w1 hbox hb; have HB1 := zz_ hb; have BX := zz_ hbox; have hz0 : w1.cell? ⟨gb, 0, none⟩ = some (.int .i64 ((n + 1 : Nat) : Int)) := (zD (zK HB0.out hb) 0).trans rfl; clear hb hbox hg; have hy0 : w1.cell? ⟨gx, 0, none⟩ = some (.string e.f0) := (zD BX.out 0).trans rfl; have hy1 : w1.cell? ⟨gx, 1, none⟩ = some (.int .u16 e.f1) := (zD BX.out 1).trans rfl; have hy2 : w1.cell? ⟨gx, 2, none⟩ = some (.string e.f2) := (zD BX.out 2).trans rfl; have hy3 : w1.cell? ⟨gx, 3, none⟩ = some (.slice A e.f3.length c) := (zD BX.out 3).trans rfl)
  refine (calls_of_args ?_ (IH e A c w1 (Kd.zV HR.out HB1.out) hc HK.out)).mono ?_
  · first | rfl | (congr 3; omega) | (simp; omega)
  rintro e' w2 ⟨rfl, hb2⟩
  go_wp2
  go_ret
  exact ⟨rfl, zG HB1.out hb2⟩
theorem blk_stay {w w1 : World} {g : Nat} {o : Obj} (hB : w.heap[g]? = some o) (hb : Below w.heap.size w w1) : w1.heap[g]? = some o := zK hB hb
theorem all_at {α : Type} {p : α → Bool} {l : List α} (h : l.all p = true) (k : Nat) (hk : k < l.length) : p l[k] = true := List.all_eq_true.1 h _ (List.getElem_mem hk)
set_option maxHeartbeats 8000000 in
set_option maxRecDepth 100000 in
theorem index_calls (n : Nat) (hn : n ≤ 1000) (IH : RightAt n) (A : Option Addr) (c : Nat) (l : List S50) (w : World) (gb : Nat) (hr : Kd.C k50 w A l.length l) (hc : l.length ≤ c) (hok : l.all (okB n) = true)
    (hB : w.heap[gb]? = some (.cells #[.int .i64 ((n + 1 : Nat) : Int)] 3 (0, 0))) :
    Calls Tryd.prog 170 #[.slice A l.length c, .func (.func 146) #[] #[.pointer (some ⟨gb, 0, none⟩)]] w fun e' w' => (∃ v : Int, e' = .returned (.int .i64 v) ∧ (decide (v ≥ 0) = l.any fun e => !rightN n e)) ∧ Below w.heap.size w w' := by
  have hu50 := Tryd.underlying50
  have hsz : l.length ≤ 9223372036854775807 := hr.2.1
  have HB0 := zz_ hB
  have HR := zz_ hr
  have HK := zz_ hok
  have IH' := zz_ IH
  clear hr hok hB IH
  go_enter Tryd.func170, Tryd.ntmps170
  go_wp2
  go_loopw [8] (fun v wr => ∃ k : Nat, k ≤ l.length ∧ v = .int .i64 k ∧ Aside0 (Below w.heap.size w wr) ∧ Aside0 ((l.take k).any (fun e => !rightN n e) = false)) (fun v _ => l.length - (intOf v).toNat)
  case atStart => exact ⟨0, Nat.zero_le _, rfl, ⟨Below.refl _ _⟩, ⟨rfl⟩⟩
  case round =>
    obtain ⟨k, hk, rfl, HB, HF⟩ := hrel
    by_cases hlt : k < l.length
    · have hR1 := Kd.zV HR.out HB.out
      obtain ⟨ad, A3, c3, rfl, h0, h1, h2, h3, hl3, hC3⟩ := at_T50 hR1 (k : Int) (by omega) (by omega)
      have hg : zL l (k : Int) = l[k] := by simp [zL, List.getD_eq_getElem?_getD, List.getElem?_eq_getElem hlt]
      have HT := zz_ (show (l.take (k + 1)).any (fun e => !rightN n e) = ((l.take k).any (fun e => !rightN n e) || !rightN n (zL l (k : Int))) by
        rw [List.take_succ_eq_append_getElem hlt, List.any_append, hg]; simp)
      have HA := zz_ (show (!rightN n (zL l (k : Int))) = true → l.any (fun e => !rightN n e) = true from fun h => by
        rw [List.any_eq_true]; exact ⟨l[k], List.getElem_mem hlt, by rw [← hg]; exact h⟩)
      have hko : okB n (zL l (k : Int)) = true := by rw [hg]; exact all_at HK.out k hlt
      rw [Int.toNat_natCast] at h0 h1 h2 h3
      have HC := zz_ (clo_calls n hn IH'.out (zL l (k : Int)) A3 c3 wr gb hC3 hl3 hko (blk_stay HB0.out HB.out))
      clear hko hg hC3 hl3 hR1
      generalize zL l (k : Int) = e at h0 h1 h2 h3 HT HA HC
      cases hx : rightN n e with
      | false =>
        have HX := zz_ (HA.out (by rw [hx]; rfl))
        rw [hx] at HC
        go_wp2_with (go_at_call 146; refine HC.out.mono ?_; rintro e' w2 ⟨rfl, hb2⟩; have HB2 := zz_ (zG HB.out hb2); clear hb2)
        go_ret
        refine ⟨⟨k, rfl, ?_⟩, HB2.out⟩
        rw [HX.out]; simp
      | true =>
        have HX := zz_ (HT.out.trans (by rw [hx, HF.out]))
        rw [hx] at HC
        go_wp2_with (go_at_call 146; refine HC.out.mono ?_; rintro e' w2 ⟨rfl, hb2⟩; have HB2 := zz_ (zG HB.out hb2); clear hb2)
        refine ⟨⟨k + 1, by omega, by go_num, HB2, HX⟩, by simp [intOf]; omega⟩
    · obtain rfl : k = l.length := by omega
      have HX := zz_ (show (l.any fun e => !rightN n e) = false by have := HF.out; rwa [List.take_length] at this)
      go_wp2
      go_ret
      exact ⟨⟨-1, rfl, by rw [HX.out]; rfl⟩, HB.out⟩
set_option maxHeartbeats 8000000 in
set_option maxRecDepth 100000 in
theorem contains_calls (n : Nat) (hn : n ≤ 1000) (IH : RightAt n) (A : Option Addr) (c : Nat) (l : List S50) (w : World) (gb : Nat) (hr : Kd.C k50 w A l.length l) (hc : l.length ≤ c) (hok : l.all (okB n) = true)
    (hB : w.heap[gb]? = some (.cells #[.int .i64 ((n + 1 : Nat) : Int)] 3 (0, 0))) :
    Calls Tryd.prog 145 #[.slice A l.length c, .func (.func 146) #[] #[.pointer (some ⟨gb, 0, none⟩)]] w fun e' w' => e' = .returned (.bool (l.any fun e => !rightN n e)) ∧ Below w.heap.size w w' := by
  have HC := zz_ (index_calls n hn IH A c l w gb hr hc hok hB)
  clear hr hok hB IH
  go_enter Tryd.func145, Tryd.ntmps145
  go_wp2_with (go_at_call 170; refine HC.out.mono ?_; rintro e' w2 ⟨⟨v, rfl, hv⟩, hb2⟩; have HV := zz_ hv; have HB2 := zz_ hb2; clear hb2 hv)
  go_ret
  exact ⟨by rw [← HV.out]; rfl, HB2.out⟩
def expr_anyNot.f (l : List S50) (most : Int) : Option Bool := if 1 ≤ most ∧ most ≤ 1000 ∧ l.all (okB (most - 1).toNat) = true then some (l.any fun e => !rightN (most - 1).toNat e) else none
theorem expr_anyNot.calls (A : Option Addr) (c : Nat) (l : List S50) (a1 : Int) (r : Bool) (w : World) {gb : Nat} (hG : Aside0 (GR a1 w)) (hr : Kd.C k50 w A l.length l) (hc : l.length ≤ c)
    (hB : w.heap[gb]? = some (.cells #[.int .i64 a1] 3 (0, 0))) (h : expr_anyNot.f l a1 = some r) :
    Calls Tryd.prog 145 #[.slice A l.length c, .func (.func 146) #[] #[.pointer (some ⟨gb, 0, none⟩)]] w fun e' w' => e' = .returned (.bool r) ∧ Below w.heap.size w w' := by
  unfold expr_anyNot.f at h
  by_cases hs : 1 ≤ a1 ∧ a1 ≤ 1000 ∧ l.all (okB (a1 - 1).toNat) = true
  · rw [if_pos hs] at h
    obtain rfl := Option.some.inj h
    obtain ⟨n, rfl⟩ : ∃ n : Nat, a1 = ((n + 1 : Nat) : Int) := ⟨(a1 - 1).toNat, by omega⟩
    have e : (((n + 1 : Nat) : Int) - 1).toNat = n := by omega
    rw [e] at hs ⊢
    exact contains_calls n (by omega) (hG.out n (by omega)) A c l w gb hr hc hs.2.2 hB
  · rw [if_neg hs] at h; cases h
end Go.Proofs.YtejhagejjogbaaaDoor.AnyNot
end
section
namespace Go.Proofs.YtejhagejjogbaaaDoor.Num
open Go.RowKit Given Pn YtejhagejjogbaaaDoorW.PrintWords YtejhagejjogbaaaDoorW.PrintLast
def L (s : ByteArray) : List UInt8 := s.data.toList
theorem L_inj {s t : ByteArray} (h : L s = L t) : s = t := by
  cases s; cases t; simp only [L] at h; congr; exact Array.toList_inj.1 h
theorem L_len (s : ByteArray) : (L s).length = s.size := data_length s
theorem bt_L (s : ByteArray) (i : Nat) (h : i < (L s).length) : bt s (i : Int) = ((L s)[i].toNat : Int) := by
  have h' : i < s.size := by rw [← L_len]; exact h
  unfold bt
  rw [Int.toNat_natCast, dif_pos h']
  rfl
theorem L_nums (l : List Int) : L (strOfNums l) = l.map fun n => UInt8.ofNat n.toNat := rfl
theorem w64 {n : Int} (h0 : -9223372036854775808 ≤ n) (h1 : n ≤ 9223372036854775807) : wrap64 n = n := by
  unfold wrap64; omega
def fin : Option Nat → Int × Int
  | none => (0, 2)
  | some n => if 65535 < n then (0, 5) else ((n : Int), 0)
theorem drop_cons {l : List UInt8} {i : Nat} (h : i < l.length) : l.drop i = l[i] :: l.drop (i + 1) := List.drop_eq_getElem_cons h
theorem inc_w {i : Nat} (hi : i ≤ 140737488351300) : wrap64 ((i : Int) + 1) = ((i + 1 : Nat) : Int) := by rw [w64 (by omega) (by omega)]; omega
theorem L_up (s : ByteArray) : L (upB s) = (L s).map up1 := by simp [L, upB]
theorem upper_loop (x : ByteArray) (hs : x.size ≤ 140737488351300) (d : Nat) : ∀ (i : Nat) (acc : List Int), i + d = x.size → acc.length ≤ i →
    Ev (fun k => pidginref03_Upper.l0 k x acc (i : Int)) (strOfNums (acc ++ ((L x).drop i).map fun c => ((up1 c).toNat : Int))) := by
  induction d with
  | zero =>
    intro i acc hi ha
    refine Ev.step (fun k => rfl) ?_
    simp only [pidginref03_Upper.l0]
    rw [List.drop_eq_nil_of_le (by rw [L_len]; omega)]
    simp only [if_neg (show ¬ (i : Int) < (x.size : Int) by omega), List.map_nil, List.append_nil]
    exact Ev.now _
  | succ d ih =>
    intro i acc hi ha
    have hl : i < (L x).length := by rw [L_len]; omega
    refine Ev.step (fun k => rfl) ?_
    simp only [pidginref03_Upper.l0]
    simp only [if_pos (show (i : Int) < (x.size : Int) by omega), if_pos (show (0 : Int) ≤ (i : Int) by omega), if_pos (show acc.length < 140737488355328 by omega), bt_L x i hl, inc_w (show i ≤ 140737488351300 by omega)]
    rw [drop_cons hl, List.map_cons]
    have hu := up1_int (L x)[i]
    have hc := (L x)[i].toNat_lt
    have key := fun v => ih (i + 1) (acc ++ [v]) (by omega) (by simp; omega)
    have key := key ((up1 (L x)[i]).toNat : Int)
    rw [List.append_assoc, List.singleton_append] at key
    by_cases h1 : ((L x)[i].toNat : Int) ≥ 97
    · simp only [if_pos h1]
      by_cases h2 : ((L x)[i].toNat : Int) ≤ 122
      · simp only [if_pos h2]
        rw [if_pos ⟨h1, h2⟩] at hu
        rw [show (((L x)[i].toNat : Int) - 32) % 256 = ((up1 (L x)[i]).toNat : Int) by omega]
        exact key
      · simp only [if_neg h2]
        rw [if_neg (by omega)] at hu
        rw [← hu]
        exact key
    · simp only [if_neg h1]
      rw [if_neg (by omega)] at hu
      rw [← hu]
      exact key
theorem ref_upper (x : ByteArray) (hs : x.size ≤ 140737488351300) : Ev (fun k => pidginref03_Upper.f k x) (upB x) := by
  have := upper_loop x hs x.size 0 [] (by omega) (by simp)
  unfold pidginref03_Upper.f
  rw [List.drop_zero, List.nil_append] at this
  have e : strOfNums ((L x).map fun c => ((up1 c).toNat : Int)) = upB x := by
    refine L_inj ?_
    rw [L_nums, L_up, List.map_map]
    refine List.map_congr_left fun c _ => ?_
    simp
  rw [e] at this
  exact this
theorem num_upper (x : ByteArray) (hs : x.size ≤ 140737488351300) : number_Upper.f x = some (upB x) := by
  unfold number_Upper.f
  rw [if_pos (by omega)]
theorem empty_iff (x : ByteArray) : x.toList = ([] : List UInt8) ↔ x.size = 0 := by
  rw [Lib.toList_data, ← L_len, List.length_eq_zero_iff]; rfl
theorem L_pos {x : ByteArray} (h : 0 < x.size) : ∃ c l, L x = c :: l ∧ bt x 0 = (c.toNat : Int) := by
  have hl : 0 < (L x).length := by rw [L_len]; exact h
  obtain ⟨c, l, e⟩ := List.exists_cons_of_length_pos hl
  refine ⟨c, l, e, ?_⟩
  have := bt_L x 0 hl
  simp only [e] at this
  exact this
end Go.Proofs.YtejhagejjogbaaaDoor.Num
end
section
namespace Go.Proofs.YtejhagejjogbaaaDoor.Num
open Go.RowKit Given Pn YtejhagejjogbaaaDoorW.PrintWords YtejhagejjogbaaaDoorW.PrintLast
def hc (d : Nat) : UInt8 := if d < 10 then UInt8.ofNat (48 + d) else UInt8.ofNat (55 + d)
end Go.Proofs.YtejhagejjogbaaaDoor.Num
end
section
namespace Go.Proofs.YtejhagejjogbaaaDoor.Num
open Go.RowKit Given Pn YtejhagejjogbaaaDoorW.PrintWords YtejhagejjogbaaaDoorW.PrintLast
set_option linter.unusedSimpArgs false
def letterB (c : UInt8) : Bool := (97 ≤ c && c ≤ 122) || (65 ≤ c && c ≤ 90) || c == 63 || c == 64 || c == 95
def digitB (c : UInt8) : Bool := 48 ≤ c && c ≤ 57
def tailB (c : UInt8) : Bool := letterB c || digitB c
def nameL (l : List UInt8) : Bool := match l with
  | [] => false
  | c :: t => decide (t.length < 16) && letterB c && t.all tailB
theorem letter_all : ∀ c : Fin 256, pidginref03_Letter.f ((c.val : Nat) : Int) = some (letterB (UInt8.ofNat c.val)) := by decide +kernel
theorem ref_letter (c : UInt8) : pidginref03_Letter.f (c.toNat : Int) = some (letterB c) := by
  have := letter_all ⟨c.toNat, c.toNat_lt⟩
  simpa using this
theorem digit_all : ∀ c : Fin 256, (decide (¬ ((c.val : Nat) : Int) < 48) && decide (¬ ((c.val : Nat) : Int) > 57)) = digitB (UInt8.ofNat c.val) := by decide +kernel
theorem digit_at (c : UInt8) : (decide (¬ (c.toNat : Int) < 48) && decide (¬ (c.toNat : Int) > 57)) = digitB c := by
  have := digit_all ⟨c.toNat, c.toNat_lt⟩
  simpa using this
theorem ref_name_loop (x : ByteArray) (hs : x.size ≤ 140737488351300) (d : Nat) : ∀ i : Nat, i + d = x.size →
    Ev (fun k => pidginref03_Name.l0 k x (i : Int)) (((L x).drop i).all tailB) := by
  induction d with
  | zero =>
    intro i hi
    refine Ev.step (fun k => rfl) ?_
    simp only [pidginref03_Name.l0]
    rw [List.drop_eq_nil_of_le (by rw [L_len]; omega)]
    simp only [if_neg (show ¬ (i : Int) < (x.size : Int) by omega), List.all_nil]
    exact Ev.now _
  | succ d ih =>
    intro i hi
    have hl : i < (L x).length := by rw [L_len]; omega
    refine Ev.step (fun k => rfl) ?_
    simp only [pidginref03_Name.l0]
    simp only [if_pos (show (i : Int) < (x.size : Int) by omega), if_pos (show (0 : Int) ≤ (i : Int) by omega), bt_L x i hl, ref_letter, Option.bind_some, inc_w (show i ≤ 140737488351300 by omega)]
    rw [drop_cons hl, List.all_cons]
    have key := ih (i + 1) (by omega)
    unfold tailB at key ⊢
    have hd := digit_at (L x)[i]
    by_cases h1 : letterB (L x)[i] = true
    · simp only [h1, if_true, Bool.true_or, Bool.true_and]; exact key
    · simp only [h1, if_neg (show ¬ (false = true) by decide), Bool.false_or]
      rw [← hd]
      by_cases h2 : ((L x)[i].toNat : Int) < 48
      · simp only [if_pos h2, h2, not_true, decide_false, Bool.false_and]; exact Ev.now _
      · by_cases h3 : ((L x)[i].toNat : Int) > 57
        · simp only [if_neg h2, if_pos h3, h3, not_true, decide_false, Bool.and_false, Bool.false_and]; exact Ev.now _
        · simp only [if_neg h2, if_neg h3, h2, h3, not_false_eq_true, decide_true, Bool.and_self, Bool.true_and]; exact key
theorem ref_name (x : ByteArray) (hs : x.size ≤ 140737488351300) : Ev (fun k => pidginref03_Name.f k x) (nameL (L x)) := by
  have hj : Ev (fun k => pidginref03_Name.j0 k x true) false := by
    refine Ev.step (fun k => rfl) ?_
    simp only [pidginref03_Name.j0, if_true]
    exact Ev.now _
  unfold pidginref03_Name.f
  have hl := L_len x
  by_cases h0 : x.size = 0
  · simp only [if_pos (show (x.size : Int) < 1 by omega)]
    have : L x = [] := by rw [← List.length_eq_zero_iff, L_len]; exact h0
    rw [this]
    exact hj
  · obtain ⟨c, t, ht, hb⟩ := L_pos (show 0 < x.size by omega)
    rw [ht, List.length_cons] at hl
    simp only [if_neg (show ¬ (x.size : Int) < 1 by omega)]
    rw [ht]
    unfold nameL
    simp only
    by_cases h16 : (x.size : Int) > 16
    · simp only [if_pos h16, show ¬ (t.length < 16) by omega, decide_false, Bool.false_and]
      exact hj
    · simp only [if_neg h16, if_pos (show (0 : Int) < (x.size : Int) by omega), hb, ref_letter, Option.bind_some, show t.length < 16 by omega, decide_true, Bool.true_and]
      by_cases h1 : letterB c = true
      · simp only [h1, Bool.not_true, Bool.true_and]
        refine Ev.step (fun k => rfl) ?_
        simp only [pidginref03_Name.j0, if_neg (show ¬ (false = true) by decide)]
        have := ref_name_loop x hs (x.size - 1) 1 (by omega)
        rw [ht] at this
        exact this
      · simp only [h1, Bool.not_false, Bool.false_and]
        exact hj
theorem begins_all : ∀ c : Fin 256, ∃ b, number_begins.f ((c.val : Nat) : Int) = some b ∧ letterB (UInt8.ofNat c.val) = ((b && decide (((c.val : Nat) : Int) < 128)) || ((c.val : Nat) : Int) == 63 || ((c.val : Nat) : Int) == 64 || ((c.val : Nat) : Int) == 95) := by
  decide +kernel
theorem begins_at (c : UInt8) : ∃ b, number_begins.f (c.toNat : Int) = some b ∧ letterB c = ((b && decide ((c.toNat : Int) < 128)) || (c.toNat : Int) == 63 || (c.toNat : Int) == 64 || (c.toNat : Int) == 95) := by
  have := begins_all ⟨c.toNat, c.toNat_lt⟩
  simpa using this
theorem digit_at' (c : UInt8) : (decide (48 ≤ (c.toNat : Int)) && decide ((c.toNat : Int) ≤ 57)) = digitB c := by
  rw [← digit_at c]
  congr 1 <;> (apply decide_eq_decide.2; omega)
theorem num_name_step (x : ByteArray) (hs : x.size ≤ 140737488351300) {i : Nat} (hl : i < (L x).length) {r : Bool} (key : Ev (fun k => number_Name.l0 k x (x.size : Int) ((i + 1 : Nat) : Int)) r) :
    Ev (fun k => number_Name.l0 k x (x.size : Int) (i : Int)) ((letterB (L x)[i] || (decide (0 < i) && digitB (L x)[i])) && r) := by
  have hi : i < x.size := by rw [← L_len]; exact hl
  have hbt := bt_L x i hl
  generalize (L x)[i] = c at hbt ⊢
  have j3 : ∀ b : Bool, Ev (fun k => number_Name.j3 k x (i : Int) (c.toNat : Int) (x.size : Int) (i : Int) b) ((b || (decide (0 < i) && digitB c)) && r) := by
    intro b
    refine Ev.step (fun k => rfl) ?_
    simp only [number_Name.j3, inc_w (show i ≤ 140737488351300 by omega)]
    have hd := digit_at' c
    cases b with
    | true => simp only [if_true, Bool.true_or, Bool.true_and]; exact key
    | false =>
      simp only [if_neg (show ¬ (false = true) by decide), Bool.false_or]
      by_cases h0 : 0 < i
      · simp only [if_pos (show (i : Int) > 0 by omega), h0, decide_true, Bool.true_and, ← hd]
        by_cases h1 : 48 ≤ (c.toNat : Int)
        · by_cases h2 : (c.toNat : Int) ≤ 57
          · simp only [if_pos h1, if_pos h2, h1, h2, decide_true, Bool.and_self, Bool.true_and]; exact key
          · simp only [if_pos h1, if_neg h2, h1, h2, decide_false, Bool.and_false, Bool.false_and]; exact Ev.now _
        · simp only [if_neg h1, h1, decide_false, Bool.false_and]; exact Ev.now _
      · simp only [if_neg (show ¬ (i : Int) > 0 by omega), h0, decide_false, Bool.false_and]; exact Ev.now _
  have j2 : ∀ b : Bool, Ev (fun k => number_Name.j2 k x (i : Int) (c.toNat : Int) (x.size : Int) (i : Int) b) (((b || (c.toNat : Int) == 63 || (c.toNat : Int) == 64 || (c.toNat : Int) == 95) || (decide (0 < i) && digitB c)) && r) := by
    intro b
    refine Ev.step (fun k => rfl) ?_
    simp only [number_Name.j2]
    cases b with
    | true => simp only [if_true, Bool.true_or]; simpa using j3 true
    | false =>
      simp only [if_neg (show ¬ (false = true) by decide), Bool.false_or]
      by_cases h1 : (c.toNat : Int) = 63
      · have e : ((c.toNat : Int) == 63) = true := by simpa using h1
        simp only [if_pos h1, e, Bool.true_or]; simpa using j3 true
      · have e : ((c.toNat : Int) == 63) = false := by simpa using h1
        simp only [if_neg h1, e, Bool.false_or]
        by_cases h2 : (c.toNat : Int) = 64
        · have e : ((c.toNat : Int) == 64) = true := by simpa using h2
          simp only [if_pos h2, e, Bool.true_or]; simpa using j3 true
        · have e : ((c.toNat : Int) == 64) = false := by simpa using h2
          simp only [if_neg h2, e, Bool.false_or]; exact j3 _
  refine Ev.step (fun k => rfl) ?_
  simp only [number_Name.l0]
  obtain ⟨b, hb, hl⟩ := begins_at c
  simp only [if_pos (show (i : Int) < (x.size : Int) by omega), if_pos (show (0 : Int) ≤ (i : Int) by omega), hbt, hb, Option.bind_some, hl]
  cases b with
  | true => simpa only [↓reduceIte, Bool.true_and] using j2 (decide ((c.toNat : Int) < 128))
  | false => simpa only [↓reduceIte, Bool.false_and, reduceCtorEq] using j2 false
theorem num_name_loop (x : ByteArray) (hs : x.size ≤ 140737488351300) (d : Nat) : ∀ i : Nat, i + d = x.size → 0 < i →
    Ev (fun k => number_Name.l0 k x (x.size : Int) (i : Int)) (((L x).drop i).all tailB) := by
  induction d with
  | zero =>
    intro i hi h0
    refine Ev.step (fun k => rfl) ?_
    simp only [number_Name.l0]
    rw [List.drop_eq_nil_of_le (by rw [L_len]; omega)]
    simp only [if_neg (show ¬ (i : Int) < (x.size : Int) by omega), List.all_nil]
    exact Ev.now _
  | succ d ih =>
    intro i hi h0
    have hl : i < (L x).length := by rw [L_len]; omega
    have := num_name_step x hs hl (ih (i + 1) (by omega) (by omega))
    rw [drop_cons hl, List.all_cons]
    unfold tailB at this ⊢
    simpa [h0] using this
theorem num_name (x : ByteArray) (hs : x.size ≤ 140737488351300) : Ev (fun k => number_Name.f k x) (nameL (L x)) := by
  have hj : Ev (fun k => number_Name.j0 k x true) false := by
    refine Ev.step (fun k => rfl) ?_
    simp only [number_Name.j0, if_true]
    exact Ev.now _
  unfold number_Name.f
  have hl := L_len x
  by_cases h0 : x.size = 0
  · simp only [if_pos ((empty_iff x).2 h0)]
    have : L x = [] := by rw [← List.length_eq_zero_iff, L_len]; exact h0
    rw [this]
    exact hj
  · obtain ⟨c, t, ht, hb⟩ := L_pos (show 0 < x.size by omega)
    rw [ht, List.length_cons] at hl
    simp only [if_neg (fun h => h0 ((empty_iff x).1 h))]
    by_cases h16 : (x.size : Int) > 16
    · rw [ht]
      unfold nameL
      simp only [h16, decide_true, show ¬ (t.length < 16) by omega, decide_false, Bool.false_and]
      exact hj
    · simp only [h16, decide_false]
      refine Ev.step (fun k => rfl) ?_
      simp only [number_Name.j0, if_neg (show ¬ (false = true) by decide)]
      have h1 : 0 < (L x).length := by rw [L_len]; omega
      have := num_name_step x hs h1 (num_name_loop x hs (x.size - 1) 1 (by omega) (by omega))
      simp only [ht] at this ⊢
      unfold nameL
      simpa [show t.length < 16 by omega] using this
end Go.Proofs.YtejhagejjogbaaaDoor.Num
end
section
namespace Go.Proofs.YtejhagejjogbaaaDoor.Tk
open Go.RowKit Given Pn Pa Pb Num TokSpan YtejhagejjogbaaaDoorW.PrintWords YtejhagejjogbaaaDoorW.PrintLast
set_option linter.unusedSimpArgs false
set_option linter.unusedVariables false
end Go.Proofs.YtejhagejjogbaaaDoor.Tk
end
section
namespace Go.Proofs.YtejhagejjogbaaaDoor.Par
open Go.RowKit Given Pn Pa Pb Qa Num AnyNot YtejhagejjogbaaaDoorW.PrintWords YtejhagejjogbaaaDoorW.PrintLast
set_option linter.unusedSimpArgs false
set_option linter.unusedVariables false
structure PS where
  l : List S41
  k : Int
  o : Int
def e0 : S50 := ⟨⟨#[]⟩, 0, ⟨#[]⟩, []⟩
def failP (s : PS) (k : Int) : S50 × PS := (e0, ⟨s.l, if s.k = 0 then k else s.k, s.o⟩)
def atT (t : S41) (kind : Int) (texts : List (List UInt8)) : Option ByteArray := if t.f0 = kind ∧ texts.contains t.f1.data.toList = true then some t.f1 else none
def atP (l : List S41) (kind : Int) (texts : List (List UInt8)) : Option ByteArray :=
  match l with
  | [] => none
  | t :: _ => atT t kind texts
def opP (l : List S41) (r : Int) : Option ByteArray :=
  if r = 1 then atP l 1 [[79, 82], [88, 79, 82]] else if r = 2 then atP l 1 [[65, 78, 68]] else if r = 4 then atP l 4 [[43], [45]]
  else match atP l 4 [[42], [47]] with
    | some s => some s
    | none => atP l 1 [[77, 79, 68], [83, 72, 76], [83, 72, 82]]
def valP (s : ByteArray) : Int × Int := if s.size = 0 ∨ 2 < s.size then (0, 5) else ((valn s.data.toList : Int), 0)
mutual
def withinP : Nat → Int → PS → Option (S50 × PS)
  | 0, _, _ => none
  | n + 1, r, s =>
    if wrap64 (s.o + 1) > 48 then some (failP ⟨s.l, s.k, wrap64 (s.o + 1)⟩ 11)
    else match binP n r ⟨s.l, s.k, wrap64 (s.o + 1)⟩ with
      | none => none
      | some (e, t) => some (e, ⟨t.l, t.k, wrap64 (t.o - 1)⟩)
def atomP : Nat → PS → Option (S50 × PS)
  | 0, _ => none
  | n + 1, s => match s.l with
    | [] => some (failP s 2)
    | t :: l =>
      if t.f0 = 1 then (if wordL t.f1.data.toList = true then some (failP ⟨l, s.k, s.o⟩ 2) else some (⟨⟨#[110]⟩, 0, t.f1, []⟩, ⟨l, s.k, s.o⟩))
      else if t.f0 = 2 then some (⟨⟨#[35]⟩, t.f2, ⟨#[]⟩, []⟩, ⟨l, s.k, s.o⟩)
      else if t.f0 = 3 then (if (valP t.f1).2 = 0 then some (⟨⟨#[35]⟩, (valP t.f1).1, ⟨#[]⟩, []⟩, ⟨l, s.k, s.o⟩) else some (failP ⟨l, s.k, s.o⟩ (valP t.f1).2))
      else if t.f0 = 4 then
        (if t.f1.data.toList = [36] then some (⟨⟨#[36]⟩, 0, ⟨#[]⟩, []⟩, ⟨l, s.k, s.o⟩)
        else if t.f1.data.toList = [40] then
          match withinP n 1 ⟨l, s.k, s.o⟩ with
          | none => none
          | some (e, u) => if (atP u.l 4 [[41]]).isSome = true then some (e, ⟨u.l.drop 1, u.k, u.o⟩) else some (failP u 2)
        else some (failP ⟨l, s.k, s.o⟩ 2))
      else some (failP ⟨l, s.k, s.o⟩ 2)
def unaryP : Nat → Int → PS → Option (S50 × PS)
  | 0, _, _ => none
  | n + 1, r, s =>
    if r = 6 then
      (if (atP s.l 4 [[45]]).isSome = true then
        match withinP n r ⟨s.l.drop 1, s.k, s.o⟩ with
        | none => none
        | some (e, t) => some (⟨⟨#[78, 69, 71]⟩, 0, ⟨#[]⟩, [e]⟩, t)
      else atomP n s)
    else if (atP s.l 1 [[78, 79, 84]]).isSome = true then
      match withinP n r ⟨s.l.drop 1, s.k, s.o⟩ with
      | none => none
      | some (e, t) => some (⟨⟨#[78, 79, 84]⟩, 0, ⟨#[]⟩, [e]⟩, t)
    else binP n (wrap64 (r + 1)) s
def binP : Nat → Int → PS → Option (S50 × PS)
  | 0, _, _ => none
  | n + 1, r, s =>
    if r = 3 ∨ r = 6 then unaryP n r s
    else match binP n (wrap64 (r + 1)) s with
      | none => none
      | some (e, t) => loopP n r e t
def loopP : Nat → Int → S50 → PS → Option (S50 × PS)
  | 0, _, _, _ => none
  | n + 1, r, e, s =>
    if s.k = 0 then
      match opP s.l r with
      | none => some (e, s)
      | some op => match binP n (wrap64 (r + 1)) ⟨s.l.drop 1, s.k, s.o⟩ with
        | none => none
        | some (f, t) => loopP n r ⟨op, 0, ⟨#[]⟩, [e, f]⟩ t
    else some (e, s)
end
theorem ups {n m : Nat} (h : n ≤ m) {P : Nat → Prop} (hs : ∀ k, P k → P (k + 1)) (hp : P n) : P m := by
  induction h with
  | refl => exact hp
  | step _ ih => exact hs _ ih
def At (s : PS) (x : S50 × PS) : Prop := ∃ n, atomP n s = some x
def Bi (r : Int) (s : PS) (x : S50 × PS) : Prop := ∃ n, binP n r s = some x
def Lo (r : Int) (e : S50) (s : PS) (x : S50 × PS) : Prop := ∃ n, loopP n r e s = some x
theorem lo_end {r : Int} {s : PS} {e : S50} (h : opP s.l r = none) : Lo r e s (e, s) := by
  refine ⟨1, ?_⟩
  rw [loopP, h]
  split <;> rfl
def binops : List (List UInt8 × Int) := [([79, 82], 1), ([88, 79, 82], 1), ([65, 78, 68], 2), ([43], 4), ([45], 4), ([42], 5), ([47], 5), ([77, 79, 68], 5), ([83, 72, 76], 5), ([83, 72, 82], 5)]
inductive RC (n : Nat) : S50 → Int → Prop
  | num (m : Int) : RC n ⟨⟨#[35]⟩, m, ⟨#[]⟩, []⟩ 7
  | name (nm : ByteArray) (h : namedL nm.data.toList = true) : RC n ⟨⟨#[110]⟩, 0, nm, []⟩ 7
  | here : RC n ⟨⟨#[36]⟩, 0, ⟨#[]⟩, []⟩ 7
  | neg (a : S50) (h : rightN n a = true) : RC n ⟨⟨#[78, 69, 71]⟩, 0, ⟨#[]⟩, [a]⟩ 6
  | not (a : S50) (h : rightN n a = true) : RC n ⟨⟨#[78, 79, 84]⟩, 0, ⟨#[]⟩, [a]⟩ 3
  | bin (op : List UInt8) (rk : Int) (a b : S50) (hop : (op, rk) ∈ binops) (ha : rightN n a = true) (hb : rightN n b = true) : RC n ⟨⟨op.toArray⟩, 0, ⟨#[]⟩, [a, b]⟩ rk
theorem ba_of {b : ByteArray} {l : List UInt8} (h : b.data.toList = l) : b = ⟨l.toArray⟩ := by
  obtain ⟨⟨d⟩⟩ := b
  subst h
  rfl
theorem len0 {α : Type} {l : List α} (h : (l.length : Int) = 0) : l = [] := List.length_eq_zero_iff.1 (by omega)
theorem len1 {α : Type} {l : List α} (h : (l.length : Int) = 1) : ∃ a, l = [a] := List.length_eq_one_iff.1 (by omega)
theorem len2 {α : Type} {l : List α} (h : (l.length : Int) = 2) : ∃ a b, l = [a, b] := by
  match l, h with
  | [a, b], _ => exact ⟨a, b, rfl⟩
theorem rc_of {n : Nat} {e : S50} (h : rightN (n + 1) e = true) : ∃ rk, RC n e rk := by
  obtain ⟨f0, f1, f2, f3⟩ := e
  rw [rightN] at h
  simp only [condR, Bool.and_eq_true, decide_eq_true_eq, Bool.or_eq_true, beq_iff_eq] at h
  obtain ⟨⟨⟨⟨h1, h2⟩, h3⟩, h4⟩, h5⟩ := h
  have fin (op : List UInt8) (rk : Int) (hop : (op, rk) ∈ binops) (ho : f0.data.toList = op) (hb : bindsL op = (rk, 2)) (hx : op ≠ [110] ∧ op ≠ [35]) : ∃ rk, RC n ⟨f0, f1, f2, f3⟩ rk := by
    rw [ho] at h1 h2 h3 h4
    rw [hb] at h2
    rw [if_neg hx.1] at h4
    obtain rfl : f1 = 0 := h3.resolve_right hx.2
    obtain ⟨a, b, rfl⟩ := len2 h2
    simp only [List.all_cons, List.all_nil, Bool.and_true, Bool.and_eq_true] at h5
    obtain rfl := ba_of ho
    obtain rfl := ba_of (of_decide_eq_true (by simpa using h4) : f2.data.toList = [])
    exact ⟨rk, .bin op rk a b hop h5.1 h5.2⟩
  by_cases g0 : f0.data.toList = [35]
  · rw [g0] at h2 h4
    rw [if_neg (by decide)] at h4
    obtain rfl := len0 h2
    obtain rfl := ba_of g0
    obtain rfl := ba_of (of_decide_eq_true (by simpa using h4) : f2.data.toList = [])
    exact ⟨7, .num f1⟩
  by_cases g1 : f0.data.toList = [110]
  · rw [g1] at h2 h3 h4
    rw [if_pos rfl] at h4
    obtain rfl := len0 h2
    obtain rfl := ba_of g1
    obtain rfl : f1 = 0 := h3.resolve_right (by decide)
    exact ⟨7, .name f2 h4⟩
  by_cases g2 : f0.data.toList = [36]
  · rw [g2] at h2 h3 h4
    rw [if_neg (by decide)] at h4
    obtain rfl := len0 h2
    obtain rfl := ba_of g2
    obtain rfl : f1 = 0 := h3.resolve_right (by decide)
    obtain rfl := ba_of (of_decide_eq_true (by simpa using h4) : f2.data.toList = [])
    exact ⟨7, .here⟩
  by_cases g3 : f0.data.toList = [78, 69, 71]
  · rw [g3] at h2 h3 h4
    rw [if_neg (by decide)] at h4
    obtain ⟨a, rfl⟩ := len1 h2
    obtain rfl := ba_of g3
    obtain rfl : f1 = 0 := h3.resolve_right (by decide)
    obtain rfl := ba_of (of_decide_eq_true (by simpa using h4) : f2.data.toList = [])
    simp only [List.all_cons, List.all_nil, Bool.and_true] at h5
    exact ⟨6, .neg a h5⟩
  by_cases g4 : f0.data.toList = [78, 79, 84]
  · rw [g4] at h2 h3 h4
    rw [if_neg (by decide)] at h4
    obtain ⟨a, rfl⟩ := len1 h2
    obtain rfl := ba_of g4
    obtain rfl : f1 = 0 := h3.resolve_right (by decide)
    obtain rfl := ba_of (of_decide_eq_true (by simpa using h4) : f2.data.toList = [])
    simp only [List.all_cons, List.all_nil, Bool.and_true] at h5
    exact ⟨3, .not a h5⟩
  by_cases g5 : f0.data.toList = [79, 82]
  · exact fin _ 1 (by decide) g5 (by decide) (by decide)
  by_cases g6 : f0.data.toList = [88, 79, 82]
  · exact fin _ 1 (by decide) g6 (by decide) (by decide)
  by_cases g7 : f0.data.toList = [65, 78, 68]
  · exact fin _ 2 (by decide) g7 (by decide) (by decide)
  by_cases g8 : f0.data.toList = [43]
  · exact fin _ 4 (by decide) g8 (by decide) (by decide)
  by_cases g9 : f0.data.toList = [45]
  · exact fin _ 4 (by decide) g9 (by decide) (by decide)
  by_cases g10 : f0.data.toList = [42]
  · exact fin _ 5 (by decide) g10 (by decide) (by decide)
  by_cases g11 : f0.data.toList = [47]
  · exact fin _ 5 (by decide) g11 (by decide) (by decide)
  by_cases g12 : f0.data.toList = [77, 79, 68]
  · exact fin _ 5 (by decide) g12 (by decide) (by decide)
  by_cases g13 : f0.data.toList = [83, 72, 76]
  · exact fin _ 5 (by decide) g13 (by decide) (by decide)
  by_cases g14 : f0.data.toList = [83, 72, 82]
  · exact fin _ 5 (by decide) g14 (by decide) (by decide)
  exact absurd (by simp [bindsL, g0, g1, g2, g3, g4, g5, g6, g7, g8, g9, g10, g11, g12, g13, g14]) h1
def sub (e : S50) (i : Nat) : S50 := e.f3.getD i e0
def nOp (w : Int) (R : List S41) : Prop := ∀ r : Int, (r = 1 ∨ r = 2 ∨ r = 4 ∨ r = 5) → w ≤ r → opP R r = none
theorem nOp.mono {w v : Int} {R : List S41} (h : nOp w R) (hv : w ≤ v) : nOp v R := fun r hr hw => h r hr (by omega)
def A (T : List S41) (e : S50) (w : Int) (o : Int) : Prop :=
  if w = 3 ∨ w = 6 then ∀ R, nOp w R → Bi w ⟨T ++ R, 0, o⟩ (e, ⟨R, 0, o⟩)
  else ∀ R x, nOp (w + 1) R → Lo w e ⟨R, 0, o⟩ x → Bi w ⟨T ++ R, 0, o⟩ x
theorem A.val {T : List S41} {e : S50} {w o : Int} (h : A T e w o) (hw : w = 1 ∨ w = 2 ∨ w = 3 ∨ w = 4 ∨ w = 5 ∨ w = 6) {R : List S41} (hR : nOp w R) : Bi w ⟨T ++ R, 0, o⟩ (e, ⟨R, 0, o⟩) := by
  unfold A at h
  split at h
  · exact h R hR
  · rename_i h1
    exact h R _ (hR.mono (by omega)) (lo_end (hR w (by omega) (Int.le_refl _)))
end Go.Proofs.YtejhagejjogbaaaDoor.Par
end
section
namespace Go.Proofs.YtejhagejjogbaaaDoor.Qb
open Go.RowKit YtejhagejjogbaaaDoorW.PrintWords YtejhagejjogbaaaDoorW.PrintLast YtejhagejjogbaaaDoorW.PrintMore Given TokSpan TokJoin TokRep AnyNot Pn Pa Pb Pc Pd Pe Qa
attribute [local go_sem] max2_int min2_int max_two min_two max_three min_three max_four min_four   -- for this text's walks alone
set_option linter.unusedVariables false
set_option linter.unusedSimpArgs false
def errW : Option Int → Value
 | none => .nilIface
 | some c => .iface 0 (.int .i64 c)
theorem zN : errW none = .nilIface := rfl
theorem zM (c : Int) : errW (some c) = .iface 0 (.int .i64 c) := rfl
end Go.Proofs.YtejhagejjogbaaaDoor.Qb
end
