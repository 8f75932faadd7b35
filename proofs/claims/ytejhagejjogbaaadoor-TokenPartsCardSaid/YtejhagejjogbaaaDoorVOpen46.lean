import Derived.Test.YtejhagejjogbaaaDoorVPa0
import Derived.Test.YtejhagejjogbaaaDoorVDoor
import Derived.Deep.Slices
import Derived.ChangeSame
import Derived.ChangeArms
import Derived.DataReads
namespace Go.Proofs.YtejhagejjogbaaaDoor.Open46
open Go Go.RowKit Go.ChangeShapes Go.WideShapes Go.Deep Go.Proofs.YtejhagejjogbaaaDoor.Pa Go.Proofs.YtejhagejjogbaaaDoorW.PrintWords Go.Proofs.YtejhagejjogbaaaDoorW.PrintLast
variable {H : Type} {enc : TypeId × Value → H} {w : World} {base : Nat} {spare : Nat → Bool} {held : Bool}
theorem list_of {α : Type} (n : Nat) (Q : Nat → α → Prop) (h : ∀ i, i < n → ∃ x, Q i x) : ∃ l : List α, l.length = n ∧ ∀ j p, l[j]? = some p → Q j p := by
  induction n with
  | zero => exact ⟨[], rfl, fun j p hp => by simp at hp⟩
  | succ n ih =>
    obtain ⟨l, hl, hq⟩ := ih (fun i hi => h i (by omega))
    obtain ⟨x, hx⟩ := h n (by omega)
    refine ⟨l ++ [x], by simp [hl], fun j p hp => ?_⟩
    by_cases hj : j < l.length
    · rw [List.getElem?_append_left hj] at hp; exact hq j p hp
    · rw [List.getElem?_append_right (by omega)] at hp
      have hj2 : j - l.length = 0 := by
        by_cases e : j - l.length = 0
        · exact e
        · rw [List.getElem?_eq_none (by simp; omega)] at hp; cases hp
      rw [hj2] at hp
      have : x = p := by simpa using hp
      subst this
      have : j = n := by omega
      rw [this]; exact hx
theorem three {α : Type} {l : List α} (h : l.length = 3) : ∃ a b c, l = [a, b, c] := by
  match l, h with
  | [a, b, c], _ => exact ⟨a, b, c, rfl⟩
theorem c46 : Tryd.prog.cellsOf 46 = 3 := by kernel_rfl
theorem c3 : Tryd.prog.cellsOf 3 = 1 := by kernel_rfl
theorem c9 : Tryd.prog.cellsOf 9 = 1 := by kernel_rfl
theorem c28 : Tryd.prog.cellsOf 28 = 1 := by kernel_rfl
theorem elem46 {n : Nat} {cs : List Value} {x : DataW H × List MemPlace} (h : DataW.trod enc Tryd.prog w base spare held n 46 cs = some x) : ∃ p : S46, cs = [.int .i64 p.f0, .string p.f1, .int .u16 p.f2] := by
  obtain ⟨ys, n', _, _, hlen, hyl, hf⟩ := DataW.trod_struct Tryd.underlying46 h
  obtain ⟨a, b, c, rfl⟩ := three (hlen.trans c46)
  obtain ⟨y0, y1, y2, rfl⟩ := three (show ys.length = 3 from hyl)
  have h0 : DataW.trod enc Tryd.prog w base spare held n' 3 ([a, b, c].take (Tryd.prog.cellsOf 3)) = some y0 := hf 0 _ rfl
  have h1 : DataW.trod enc Tryd.prog w base spare held n' 9 ([b, c].take (Tryd.prog.cellsOf 9)) = some y1 := hf 1 _ rfl
  have h2 : DataW.trod enc Tryd.prog w base spare held n' 28 ([c].take (Tryd.prog.cellsOf 28)) = some y2 := hf 2 _ rfl
  rw [c3] at h0
  rw [c9] at h1
  rw [c28] at h2
  obtain ⟨u, e0, _⟩ := DataW.trod_int Tryd.underlying3 h0
  obtain ⟨s, e1, _⟩ := DataW.trod_string Tryd.underlying9 h1
  obtain ⟨v, e2, _⟩ := DataW.trod_int Tryd.underlying28 h2
  simp only [List.take_succ_cons, List.take_zero, List.cons.injEq, and_true] at e0 e1 e2
  exact ⟨⟨u, s, v⟩, by rw [e0, e1, e2]⟩
theorem open46 {t : TypeId} {fuel : Nat} {cs : List Value} {x : DataW H × List MemPlace} (ht : Tryd.prog.underlying t = some (.slice 46)) (h : DataW.trod enc Tryd.prog w base spare held fuel t cs = some x) :
    ∃ (A : Option Addr) (l : List S46) (c : Nat), cs = [.slice A l.length c] ∧ l.length ≤ c ∧ Kd.C k46 w A l.length l := by
  rcases open_slice ht h with ⟨rfl, _⟩ | ⟨a, len, cap, m, n, D, Pl, rfl, _, hl, hm, hmm, _, hi⟩
  · exact ⟨none, [], 0, rfl, Nat.le_refl _, ⟨rfl, by simp, fun h => by simp at h⟩⟩
  · have hlm : len ≤ m := by rw [hmm]; split <;> omega
    obtain ⟨l, hll, hq⟩ := list_of len (fun i (p : S46) => ∀ u v, ([.int .i64 p.f0, .string p.f1, .int .u16 p.f2] : List Value)[u]? = some v → w.cell? (a.add (i * 3 + u)) = some v) (fun i hlt => by
      obtain ⟨cs', hc, ht'⟩ := hi i (by omega)
      obtain ⟨p, rfl⟩ := elem46 ht'
      obtain ⟨_, _, hat⟩ := World.cells?_some hc
      refine ⟨p, fun u v huv => ?_⟩
      have hu : u < 3 := by
        by_cases e : u < 3
        · exact e
        · rw [List.getElem?_eq_none (by simp; omega)] at huv; cases huv
      have h1 := (hat u (Nat.lt_of_lt_of_eq hu c46.symm)).trans huv
      rw [Go.Deep.add_add, show i * Tryd.prog.cellsOf 46 = i * 3 from congrArg (i * ·) c46] at h1
      exact h1)
    refine ⟨some a, l, cap, by rw [hll], by omega, rfl, ?_, fun _ => ⟨a, rfl, fun j p hp => ⟨_, rfl, k46_mk w p, hq j p hp⟩⟩⟩
    have : cap ≤ 9223372036854775807 := Nat.le_trans hm (by decide)
    omega
end Go.Proofs.YtejhagejjogbaaaDoor.Open46
