import Derived.Test.YtejhagejjogbaaaDoorKgRw1
import Derived.Test.YtejhagejjogbaaaDoorKgPw9
namespace Go.Proofs.YtejhagejjogbaaaDoor.Pz9
open Go.RowKit Go.Proofs.YtejhagejjogbaaaDoorW.PrintWords Go.Proofs.YtejhagejjogbaaaDoor.Tab9 Go.Proofs.YtejhagejjogbaaaDoor.Lay9 Go.Proofs.YtejhagejjogbaaaDoor.Words9 Go.Proofs.YtejhagejjogbaaaDoor.Codes9 Go.Proofs.YtejhagejjogbaaaDoor.Fns9 Go.Proofs.YtejhagejjogbaaaDoor.Pw9 Go.Proofs.YtejhagejjogbaaaDoor.Rw Go.Proofs.YtejhagejjogbaaaDoor.Gd9 Go.Proofs.YtejhagejjogbaaaDoor.Shw9
set_option linter.unusedVariables false
set_option linter.unusedSimpArgs false
set_option linter.unusedSectionVars false
def cm (b : UInt8) : Bool := b.toNat == 44
theorem bt_list (L : List UInt8) (i : Nat) (h : i < L.length) : bt ⟨L.toArray⟩ (i : Int) = (L[i].toNat : Int) := by
  unfold bt
  have h' : i < (⟨L.toArray⟩ : ByteArray).size := by simpa [ByteArray.size] using h
  rw [Int.toNat_natCast, dif_pos h']
  congr 1
section
variable (L : List UInt8) (nm : ByteArray) (D S op N : Int) (hL : L.length ≤ 1000)
  (l : List UInt8) (b : UInt8) (hl : L = l ++ [b]) (hb : okB b = true) (hp : nm.data.toList = L.take nm.size) (hs : nm.size ≤ L.length)
  (hc : L.countP cm = if S = 0 then 0 else 1) (hD : D = 0 → nm.data.toList = L)
include hL hl hb hp hs hc hD
theorem loop_end (k : Nat) : pidginlaw09_Text86Words.l0 (k + 1) ⟨L.toArray⟩ nm (L.countP cm : Int) (L.length : Int) op D S N = some true := by
  have hz : (⟨L.toArray⟩ : ByteArray).size = L.length := by simp [ByteArray.size]
  have hn : L.length = l.length + 1 := by rw [hl]; simp
  have hw : wrap64 ((L.length : Int) - 1) = ((l.length : Nat) : Int) := (w64 (by omega) (by omega)).trans (by omega)
  have hlast : bt ⟨L.toArray⟩ ((l.length : Nat) : Int) = (b.toNat : Int) := by
    rw [bt_list L l.length (by omega)]
    simp [hl]
  obtain ⟨_, hb44, hb32, _⟩ := okB_sp hb
  have hex : ((⟨L.toArray⟩ : ByteArray).extract 0 ((nm.size : Int)).toNat).toList = nm.toList := by
    rw [Lib.toList_data, Lib.toList_data, hp]
    simp [ByteArray.data_extract, List.drop_take]
  have hcc : ((L.countP cm : Int) == 1) = (S != 0) := by
    rw [hc]
    by_cases h0 : S = 0
    · rw [if_pos h0, h0]; rfl
    · rw [if_neg h0]; symm; simpa using h0
  have hc1 : (L.countP cm : Int) ≤ 1 := by rw [hc]; split <;> decide
  have hdd : D = 0 → (⟨L.toArray⟩ : ByteArray).toList = nm.toList := fun h => by
    rw [Lib.toList_data, Lib.toList_data, hD h]
  rw [pidginlaw09_Text86Words.l0]
  simp only [hz, hw, hlast, hex]
  rw [if_neg (by omega), if_pos (by omega), if_pos (by omega), if_pos (by omega), if_pos (by omega), if_pos (by omega), if_pos trivial, if_neg (by omega), if_neg (by omega), if_pos (by rw [hcc]; simp), if_pos hc1]
  by_cases h0 : D = 0
  · rw [if_pos h0, if_pos (hdd h0)]; rfl
  · rw [if_neg h0]; rfl
theorem loop_all (d : Nat) : ∀ i : Nat, i + d = L.length → ∀ k, d < k → pidginlaw09_Text86Words.l0 k ⟨L.toArray⟩ nm ((L.take i).countP cm : Int) (i : Int) op D S N = some true := by
  induction d with
  | zero =>
    intro i hi k hk
    obtain ⟨k, rfl⟩ : ∃ k', k = k' + 1 := ⟨k - 1, by omega⟩
    obtain rfl : i = L.length := by omega
    rw [List.take_length]
    exact loop_end L nm D S op N hL l b hl hb hp hs hc hD k
  | succ d ih =>
    intro i hi k hk
    obtain ⟨k, rfl⟩ : ∃ k', k = k' + 1 := ⟨k - 1, by omega⟩
    have hz : (⟨L.toArray⟩ : ByteArray).size = L.length := by simp [ByteArray.size]
    have h1 : i < L.length := by omega
    have hw : wrap64 ((i : Int) + 1) = ((i + 1 : Nat) : Int) := (w64 (by omega) (by omega)).trans (by omega)
    have hle : (L.take i).countP cm ≤ 1000 := Nat.le_trans (List.countP_le_length) (by simp; omega)
    have hw2 : wrap64 (((L.take i).countP cm : Int) + 1) = (((L.take i).countP cm + 1 : Nat) : Int) := (w64 (by omega) (by omega)).trans (by omega)
    have ht : (L.take (i + 1)).countP cm = (L.take i).countP cm + (if cm L[i] = true then 1 else 0) := by
      rw [List.take_succ_eq_append_getElem h1, List.countP_append, List.countP_cons, List.countP_nil]; simp
    have hcm : (bt ⟨L.toArray⟩ (i : Int) = 44) ↔ cm L[i] = true := by
      rw [bt_list L i h1]
      unfold cm
      rw [beq_iff_eq]
      omega
    have hi := ih (i + 1) (by omega) k (by omega)
    rw [ht] at hi
    rw [pidginlaw09_Text86Words.l0]
    simp only [hz, hw, hw2]
    rw [if_pos (by omega), if_pos (by omega)]
    by_cases h : cm L[i] = true
    · rw [if_pos (hcm.2 h)]; rw [if_pos h] at hi; exact hi
    · rw [if_neg (fun e => h (hcm.1 e))]; rw [if_neg h] at hi; exact hi
end
theorem wf_le {a : Int} (h : (Lit.int .i64 a).wf = true) : a ≤ 9223372036854775807 := by
  simp [Lit.wf] at h
  omega
theorem wf_u16 {a : Int} (h : (Lit.int .u16 a).wf = true) : 0 ≤ a ∧ a ≤ 65535 := by
  simp only [Lit.wf, Bool.and_eq_true, decide_eq_true_eq] at h
  have h1 : IntKind.u16.min = 0 := by decide
  have h2 : IntKind.u16.max = 65535 := by decide
  omega
theorem text_is (op D S n : Int) (hv : V3' op D S) (hn : 0 ≤ n) (hn1 : n ≤ 65535) : textB op D S n = some ⟨(textL op D S n).toArray⟩ := by
  have h := hv
  obtain ⟨h1, h6, h7, h8, h9, h10⟩ := h
  unfold textB shownA nn
  rw [shown_is D n h6 h7 hn hn1, Option.bind_some, shown_is S n h8 h9 hn hn1, Option.bind_some, join_is op D S n hv hn hn1, Option.bind_some, if_pos ⟨text_size op D S n hv hn hn1, text_ascii op D S n hv hn hn1⟩]
  rw [show (⟨(joinL D S n).toArray⟩ : ByteArray).data.toList = joinL D S n from rfl, text_trim op D S n hv hn hn1]
theorem Words_f (op D S n : Int) (y0 : (Lit.int .i64 op).wf = true) (y1 : (Lit.int .i64 D).wf = true) (y2 : (Lit.int .i64 S).wf = true) (y3 : (Lit.int .u16 n).wf = true) : pidginlaw09_Text86Words.f 1001 op D S n = some true := by
  obtain ⟨r, hr, hv⟩ := right_f op D S n
  obtain ⟨hn, hn1⟩ := wf_u16 y3
  have hsh : text86_Show.f op D S n = if r = 0 then (textB op D S n).bind fun t => some (t, 0) else some (⟨#[]⟩, r) := by
    unfold text86_Show.f
    rw [if_pos ⟨wf_le y0, wf_le y1, wf_le y2, hn, hn1⟩, hr, Option.bind_some]
  unfold pidginlaw09_Text86Words.f pidginlaw08_Own.f
  simp only [Option.bind_some]
  rw [hsh]
  by_cases h0 : r = 0
  · have hv : V3' op D S := hv h0
    rw [if_pos h0, text_is op D S n hv hn hn1]
    simp only [Option.bind_some]
    have hz : (⟨(textL op D S n).toArray⟩ : ByteArray).size = (textL op D S n).length := by simp [ByteArray.size]
    obtain ⟨l, b, hl, hb⟩ := last_text op D S n hv hn hn1
    obtain ⟨h3, h4, h5⟩ := name_facts op D S n hv hn hn1
    have hlen : (textL op D S n).length ≤ 32 := by
      have hj := join_len op D S n hv hn hn1
      have e : (nameB op).data.toList.length = (nameB op).size := rfl
      unfold joinL at hj
      unfold textL
      by_cases hD : D = 0
      · rw [if_pos hD, List.append_nil]; omega
      · rw [if_neg hD] at hj ⊢
        rw [List.length_append, List.length_cons]
        omega
    have e : (nameB op).data.toList.length = (nameB op).size := rfl
    have hp : (nameB op).data.toList = (textL op D S n).take (nameB op).size := by
      unfold textL
      rw [← e, List.take_left]
    have hle : (nameB op).size ≤ (textL op D S n).length := by
      unfold textL
      rw [List.length_append]; omega
    have hnm : text86_Name.f op = some (nameB op) := if_pos (wf_le y0)
    rw [if_pos trivial, if_neg (by rw [hz, hl]; simp; omega), hnm, Option.bind_some]
    have hD : D = 0 → (nameB op).data.toList = textL op D S n := fun h => by unfold textL; rw [if_pos h, List.append_nil]
    have := loop_all (textL op D S n) (nameB op) D S op n (by omega) l b hl hb hp hle (count_text op D S n hv hn hn1) hD (textL op D S n).length 0 (by omega) 1001 (by omega)
    simpa using this
  · rw [if_neg h0]
    rw [Option.bind_some, if_neg h0, if_pos ((Pl9.tl_nil _).2 rfl)]
    rfl
end Go.Proofs.YtejhagejjogbaaaDoor.Pz9
