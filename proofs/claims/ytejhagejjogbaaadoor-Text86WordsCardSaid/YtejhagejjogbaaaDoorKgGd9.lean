import Derived.Test.YtejhagejjogbaaaDoorKgRa4
import Derived.Test.YtejhagejjogbaaaDoorKgRa2
import Derived.Test.YtejhagejjogbaaaDoorKgRa3
import Derived.Test.YtejhagejjogbaaaDoorKgRa6
namespace Go.Proofs.YtejhagejjogbaaaDoor.Gd9
open Go.RowKit Go.Proofs.YtejhagejjogbaaaDoorW.PrintWords Go.Proofs.YtejhagejjogbaaaDoorW.PrintLast Go.Proofs.YtejhagejjogbaaaDoorW.PrintMore Go.Proofs.YtejhagejjogbaaaDoor.Ra
set_option linter.unusedVariables false
set_option linter.unusedSimpArgs false
def Good (V : Prop) (o : Option (List Int × Int)) : Prop := ∃ l t, o = some (l, t) ∧ (l ≠ [] → V)
section
variable {V : Prop}
theorem good_if {c : Prop} [Decidable c] {a b : Option (List Int × Int)} (h1 : c → Good V a) (h2 : ¬ c → Good V b) : Good V (if c then a else b) := by
  by_cases h : c
  · rw [if_pos h]; exact h1 h
  · rw [if_neg h]; exact h2 h
theorem good_nil (t : Int) : Good V (some ([], t)) := ⟨[], t, rfl, fun h => absurd rfl h⟩
theorem good_some (l : List Int) (t : Int) (h : V) : Good V (some (l, t)) := ⟨l, t, rfl, fun _ => h⟩
theorem Good.imp {W : Prop} {o : Option (List Int × Int)} (h : Good V o) (hi : V → W) : Good W o := by
  obtain ⟨l, t, h1, h2⟩ := h
  exact ⟨l, t, h1, fun h => hi (h2 h)⟩
theorem good_through {o : Option (List Int × Int)} (h : Good V o) : Good V (o.bind fun b => some (b.1, b.2)) := by
  obtain ⟨l, t, rfl, h2⟩ := h
  exact ⟨l, t, rfl, h2⟩
end
def wideN (a : Int) : Int := if 1 ≤ a ∧ a ≤ 8 then 8 else if 9 ≤ a ∧ a ≤ 16 then 16 else 0
theorem wide_fact (a : Int) : (wideN a = 8 ∧ 1 ≤ a ∧ a ≤ 8) ∨ (wideN a = 16 ∧ 9 ≤ a ∧ a ≤ 16) ∨ (wideN a = 0 ∧ (a < 1 ∨ 16 < a)) := by
  unfold wideN
  by_cases h : 1 ≤ a ∧ a ≤ 8
  · rw [if_pos h]; omega
  · rw [if_neg h]
    by_cases h2 : 9 ≤ a ∧ a ≤ 16
    · rw [if_pos h2]; omega
    · rw [if_neg h2]; omega
theorem wide_f (n : Nat) (a : Int) : isa86_wide.f (n + 1) a = some (wideN a) := by
  unfold isa86_wide.f wideN
  simp only [isa86_wide.j0]
  by_cases h1 : 1 ≤ a
  · by_cases h2 : a ≤ 8
    · simp [h1, h2]
    · have h4 : 9 ≤ a := by omega
      by_cases h3 : a ≤ 16 <;> simp [h1, h2, h3, h4]
  · have h2 : ¬ 9 ≤ a := by omega
    simp [h1, h2]
theorem of_f (a : Int) (l : List Int) : isa86_of.f a l = some (l, a) := rfl
theorem num_f (a : Int) : isa86_num.f a = some (Go.bits .and .u8 ((wrap64 (a - 1)) % 256) 7) := rfl
theorem mem_f (a b : Int) : isa86_mem.f a b = some (Go.bits .or .u8 ((a * 8) % 256) b) := rfl
theorem rm_f (a b : Int) : isa86_rm.f a b = some (Go.bits .or .u8 (Go.bits .or .u8 192 ((a * 8) % 256)) b) := rfl
def VDS (d s : Int) : Prop := 1 ≤ d ∧ d ≤ 20 ∧ 0 ≤ s ∧ s ≤ 20
theorem places_j9 (n : Nat) (x0 x1 : Int) (b : Bool) (hb : b = true → VDS x0 x1) : Good (VDS x0 x1) (isa86_places.j9 (n + 1) x0 x1 b) := by
  have w0 := wide_fact x0
  have w1 := wide_fact x1
  rw [isa86_places.j9]
  simp only [num_f, mem_f, rm_f, of_f, Option.bind_some]
  repeat' (first
    | with_reducible refine good_if (fun h => ?_) (fun h => ?_)
    | exact good_nil _
    | exact good_some _ _ (hb (by assumption))
    | exact good_some _ _ (by unfold VDS; omega)
    | fail)
theorem places_j8 (n : Nat) (x0 x1 : Int) (b : Bool) (hb : b = true → VDS x0 x1) : Good (VDS x0 x1) (isa86_places.j8 (n + 2) x0 x1 b) := by
  have w0 := wide_fact x0
  have w1 := wide_fact x1
  have e0 : isa86_wide.f (n + 1) x0 = some (wideN x0) := wide_f (n + 0) x0
  have e1 : isa86_wide.f (n + 1) x1 = some (wideN x1) := wide_f (n + 0) x1
  rw [isa86_places.j8]
  simp only [num_f, mem_f, rm_f, of_f, e0, e1, Option.bind_some]
  repeat' (first
    | with_reducible refine good_if (fun h => ?_) (fun h => ?_)
    | exact good_nil _
    | exact good_some _ _ (hb (by assumption))
    | exact good_some _ _ (by unfold VDS; omega)
    | exact places_j9 n _ _ _ (fun hh => by simp only [beq_iff_eq, bne_iff_ne, ne_eq, Bool.false_eq_true] at hh; try (unfold VDS; omega))
    | fail)
theorem places_j7 (n : Nat) (x0 x1 : Int) (b : Bool) (hb : b = true → VDS x0 x1) : Good (VDS x0 x1) (isa86_places.j7 (n + 3) x0 x1 b) := by
  have w0 := wide_fact x0
  have w1 := wide_fact x1
  have e0 : isa86_wide.f (n + 2) x0 = some (wideN x0) := wide_f (n + 1) x0
  have e1 : isa86_wide.f (n + 2) x1 = some (wideN x1) := wide_f (n + 1) x1
  rw [isa86_places.j7]
  simp only [num_f, mem_f, rm_f, of_f, e0, e1, Option.bind_some]
  repeat' (first
    | with_reducible refine good_if (fun h => ?_) (fun h => ?_)
    | exact good_nil _
    | exact good_some _ _ (hb (by assumption))
    | exact good_some _ _ (by unfold VDS; omega)
    | exact places_j8 n _ _ _ (fun hh => by simp only [beq_iff_eq, bne_iff_ne, ne_eq, Bool.false_eq_true] at hh; try (unfold VDS; omega))
    | fail)
theorem places_j6 (n : Nat) (x0 x1 : Int) (b : Bool) (hb : b = true → VDS x0 x1) : Good (VDS x0 x1) (isa86_places.j6 (n + 4) x0 x1 b) := by
  have w0 := wide_fact x0
  have w1 := wide_fact x1
  have e0 : isa86_wide.f (n + 3) x0 = some (wideN x0) := wide_f (n + 2) x0
  have e1 : isa86_wide.f (n + 3) x1 = some (wideN x1) := wide_f (n + 2) x1
  rw [isa86_places.j6]
  simp only [num_f, mem_f, rm_f, of_f, e0, e1, Option.bind_some]
  repeat' (first
    | with_reducible refine good_if (fun h => ?_) (fun h => ?_)
    | exact good_nil _
    | exact good_some _ _ (hb (by assumption))
    | exact good_some _ _ (by unfold VDS; omega)
    | exact places_j7 n _ _ _ (fun hh => by simp only [beq_iff_eq, bne_iff_ne, ne_eq, Bool.false_eq_true] at hh; try (unfold VDS; omega))
    | fail)
theorem places_j5 (n : Nat) (x0 x1 : Int) (b : Bool) (hb : b = true → VDS x0 x1) : Good (VDS x0 x1) (isa86_places.j5 (n + 5) x0 x1 b) := by
  have w0 := wide_fact x0
  have w1 := wide_fact x1
  have e0 : isa86_wide.f (n + 4) x0 = some (wideN x0) := wide_f (n + 3) x0
  have e1 : isa86_wide.f (n + 4) x1 = some (wideN x1) := wide_f (n + 3) x1
  rw [isa86_places.j5]
  simp only [num_f, mem_f, rm_f, of_f, e0, e1, Option.bind_some]
  repeat' (first
    | with_reducible refine good_if (fun h => ?_) (fun h => ?_)
    | exact good_nil _
    | exact good_some _ _ (hb (by assumption))
    | exact good_some _ _ (by unfold VDS; omega)
    | exact places_j6 n _ _ _ (fun hh => by simp only [beq_iff_eq, bne_iff_ne, ne_eq, Bool.false_eq_true] at hh; try (unfold VDS; omega))
    | fail)
theorem places_j4 (n : Nat) (x0 x1 : Int) (b : Bool) (hb : b = true → VDS x0 x1) : Good (VDS x0 x1) (isa86_places.j4 (n + 6) x0 x1 b) := by
  have w0 := wide_fact x0
  have w1 := wide_fact x1
  have e0 : isa86_wide.f (n + 5) x0 = some (wideN x0) := wide_f (n + 4) x0
  have e1 : isa86_wide.f (n + 5) x1 = some (wideN x1) := wide_f (n + 4) x1
  rw [isa86_places.j4]
  simp only [num_f, mem_f, rm_f, of_f, e0, e1, Option.bind_some]
  repeat' (first
    | with_reducible refine good_if (fun h => ?_) (fun h => ?_)
    | exact good_nil _
    | exact good_some _ _ (hb (by assumption))
    | exact good_some _ _ (by unfold VDS; omega)
    | exact places_j5 n _ _ _ (fun hh => by simp only [beq_iff_eq, bne_iff_ne, ne_eq, Bool.false_eq_true] at hh; try (unfold VDS; omega))
    | fail)
theorem places_j3 (n : Nat) (x0 x1 : Int) (b : Bool) (hb : b = true → VDS x0 x1) : Good (VDS x0 x1) (isa86_places.j3 (n + 7) x0 x1 b) := by
  have w0 := wide_fact x0
  have w1 := wide_fact x1
  have e0 : isa86_wide.f (n + 6) x0 = some (wideN x0) := wide_f (n + 5) x0
  have e1 : isa86_wide.f (n + 6) x1 = some (wideN x1) := wide_f (n + 5) x1
  rw [isa86_places.j3]
  simp only [num_f, mem_f, rm_f, of_f, e0, e1, Option.bind_some]
  repeat' (first
    | with_reducible refine good_if (fun h => ?_) (fun h => ?_)
    | exact good_nil _
    | exact good_some _ _ (hb (by assumption))
    | exact good_some _ _ (by unfold VDS; omega)
    | exact places_j4 n _ _ _ (fun hh => by simp only [beq_iff_eq, bne_iff_ne, ne_eq, Bool.false_eq_true] at hh; try (unfold VDS; omega))
    | fail)
theorem places_j2 (n : Nat) (x0 x1 : Int) (b : Bool) (hb : b = true → VDS x0 x1) : Good (VDS x0 x1) (isa86_places.j2 (n + 8) x0 x1 b) := by
  have w0 := wide_fact x0
  have w1 := wide_fact x1
  have e0 : isa86_wide.f (n + 7) x0 = some (wideN x0) := wide_f (n + 6) x0
  have e1 : isa86_wide.f (n + 7) x1 = some (wideN x1) := wide_f (n + 6) x1
  rw [isa86_places.j2]
  simp only [num_f, mem_f, rm_f, of_f, e0, e1, Option.bind_some]
  repeat' (first
    | with_reducible refine good_if (fun h => ?_) (fun h => ?_)
    | exact good_nil _
    | exact good_some _ _ (hb (by assumption))
    | exact good_some _ _ (by unfold VDS; omega)
    | exact places_j3 n _ _ _ (fun hh => by simp only [beq_iff_eq, bne_iff_ne, ne_eq, Bool.false_eq_true] at hh; try (unfold VDS; omega))
    | fail)
theorem places_j1 (n : Nat) (x0 x1 : Int) (b : Bool) (hb : b = true → VDS x0 x1) : Good (VDS x0 x1) (isa86_places.j1 (n + 9) x0 x1 b) := by
  have w0 := wide_fact x0
  have w1 := wide_fact x1
  have e0 : isa86_wide.f (n + 8) x0 = some (wideN x0) := wide_f (n + 7) x0
  have e1 : isa86_wide.f (n + 8) x1 = some (wideN x1) := wide_f (n + 7) x1
  rw [isa86_places.j1]
  simp only [num_f, mem_f, rm_f, of_f, e0, e1, Option.bind_some]
  repeat' (first
    | with_reducible refine good_if (fun h => ?_) (fun h => ?_)
    | exact good_nil _
    | exact good_some _ _ (hb (by assumption))
    | exact good_some _ _ (by unfold VDS; omega)
    | exact places_j2 n _ _ _ (fun hh => by simp only [beq_iff_eq, bne_iff_ne, ne_eq, Bool.false_eq_true] at hh; try (unfold VDS; omega))
    | fail)
theorem places_j0 (n : Nat) (x0 x1 : Int) (b : Bool) (hb : b = true → VDS x0 x1) : Good (VDS x0 x1) (isa86_places.j0 (n + 10) x0 x1 b) := by
  have w0 := wide_fact x0
  have w1 := wide_fact x1
  have e0 : isa86_wide.f (n + 9) x0 = some (wideN x0) := wide_f (n + 8) x0
  have e1 : isa86_wide.f (n + 9) x1 = some (wideN x1) := wide_f (n + 8) x1
  rw [isa86_places.j0]
  simp only [num_f, mem_f, rm_f, of_f, e0, e1, Option.bind_some]
  repeat' (first
    | with_reducible refine good_if (fun h => ?_) (fun h => ?_)
    | exact good_nil _
    | exact good_some _ _ (hb (by assumption))
    | exact good_some _ _ (by unfold VDS; omega)
    | exact places_j1 n _ _ _ (fun hh => by simp only [beq_iff_eq, bne_iff_ne, ne_eq, Bool.false_eq_true] at hh; try (unfold VDS; omega))
    | fail)
theorem places_f (n : Nat) (x0 x1 : Int) : Good (VDS x0 x1) (isa86_places.f (n + 10) x0 x1) := by
  have w0 := wide_fact x0
  have w1 := wide_fact x1
  have e0 : isa86_wide.f (n + 10) x0 = some (wideN x0) := wide_f (n + 9) x0
  have e1 : isa86_wide.f (n + 10) x1 = some (wideN x1) := wide_f (n + 9) x1
  unfold isa86_places.f
  simp only [num_f, mem_f, rm_f, of_f, e0, e1, Option.bind_some]
  repeat' (first
    | with_reducible refine good_if (fun h => ?_) (fun h => ?_)
    | exact good_nil _
    | exact good_some _ _ (by unfold VDS; omega)
    | exact places_j0 n _ _ _ (fun hh => by simp only [beq_iff_eq, bne_iff_ne, ne_eq, Bool.false_eq_true] at hh; try (unfold VDS; omega))
    | fail)
theorem one_j5 (n : Nat) (x0 x1 : Int) (b : Bool) (hb : b = true → 1 ≤ x1 ∧ x1 ≤ 20) : Good (1 ≤ x1 ∧ x1 ≤ 20) (isa86_one.j5 (n + 1) x0 x1 b) := by
  have w1 := wide_fact x1
  rw [isa86_one.j5]
  try simp only [num_f, mem_f, rm_f, of_f, Option.bind_some]
  repeat' (first
    | with_reducible refine good_if (fun h => ?_) (fun h => ?_)
    | exact good_nil _
    | exact good_some _ _ (hb (by assumption))
    | fail)
theorem one_j4 (n : Nat) (x0 x1 : Int) (x5 : Int) (b : Bool) (h5 : x5 = wideN x1) (hb : b = true → 1 ≤ x1 ∧ x1 ≤ 20) : Good (1 ≤ x1 ∧ x1 ≤ 20) (isa86_one.j4 (n + 2) x0 x1 x5 b) := by
  have w1 := wide_fact x1
  rw [isa86_one.j4]
  try simp only [num_f, mem_f, rm_f, of_f, Option.bind_some]
  repeat' (first
    | with_reducible refine good_if (fun h => ?_) (fun h => ?_)
    | exact good_nil _
    | exact good_some _ _ (hb (by assumption))
    | exact one_j5 n _ _ _ (fun hh => by (try simp only [beq_iff_eq, bne_iff_ne, ne_eq, Bool.false_eq_true, decide_eq_true_eq] at hh); try omega)
    | fail)
theorem one_j3 (n : Nat) (x0 x1 : Int) (x5 : Int) (b : Bool) (h5 : x5 = wideN x1) (hb : b = true → 1 ≤ x1 ∧ x1 ≤ 20) : Good (1 ≤ x1 ∧ x1 ≤ 20) (isa86_one.j3 (n + 3) x0 x1 x5 b) := by
  have w1 := wide_fact x1
  rw [isa86_one.j3]
  try simp only [num_f, mem_f, rm_f, of_f, Option.bind_some]
  repeat' (first
    | with_reducible refine good_if (fun h => ?_) (fun h => ?_)
    | exact good_nil _
    | exact good_some _ _ (hb (by assumption))
    | exact one_j4 n _ _ _ _ h5 (fun hh => by (try simp only [beq_iff_eq, bne_iff_ne, ne_eq, Bool.false_eq_true, decide_eq_true_eq] at hh); try omega)
    | fail)
theorem one_j2 (n : Nat) (x0 x1 : Int) (x5 : Int) (b : Bool) (h5 : x5 = wideN x1) (hb : b = true → 1 ≤ x1 ∧ x1 ≤ 20) : Good (1 ≤ x1 ∧ x1 ≤ 20) (isa86_one.j2 (n + 4) x0 x1 x5 b) := by
  have w1 := wide_fact x1
  rw [isa86_one.j2]
  try simp only [num_f, mem_f, rm_f, of_f, Option.bind_some]
  repeat' (first
    | with_reducible refine good_if (fun h => ?_) (fun h => ?_)
    | exact good_nil _
    | exact good_some _ _ (hb (by assumption))
    | exact one_j3 n _ _ _ _ h5 (fun hh => by (try simp only [beq_iff_eq, bne_iff_ne, ne_eq, Bool.false_eq_true, decide_eq_true_eq] at hh); try omega)
    | fail)
theorem one_j1 (n : Nat) (x0 x1 : Int) (x5 : Int) (b : Bool) (h5 : x5 = wideN x1) (hb : b = true → 1 ≤ x1 ∧ x1 ≤ 20) : Good (1 ≤ x1 ∧ x1 ≤ 20) (isa86_one.j1 (n + 5) x0 x1 x5 b) := by
  have w1 := wide_fact x1
  rw [isa86_one.j1]
  try simp only [num_f, mem_f, rm_f, of_f, Option.bind_some]
  repeat' (first
    | with_reducible refine good_if (fun h => ?_) (fun h => ?_)
    | exact good_nil _
    | exact good_some _ _ (hb (by assumption))
    | exact one_j2 n _ _ _ _ h5 (fun hh => by (try simp only [beq_iff_eq, bne_iff_ne, ne_eq, Bool.false_eq_true, decide_eq_true_eq] at hh); try omega)
    | fail)
theorem one_j0 (n : Nat) (x0 x1 : Int) (x5 : Int) (b : Bool) (h5 : x5 = wideN x1) (hb : b = true → 1 ≤ x1 ∧ x1 ≤ 20) : Good (1 ≤ x1 ∧ x1 ≤ 20) (isa86_one.j0 (n + 6) x0 x1 x5 b) := by
  have w1 := wide_fact x1
  rw [isa86_one.j0]
  try simp only [num_f, mem_f, rm_f, of_f, Option.bind_some]
  repeat' (first
    | with_reducible refine good_if (fun h => ?_) (fun h => ?_)
    | exact good_nil _
    | exact good_some _ _ (hb (by assumption))
    | exact one_j1 n _ _ _ _ h5 (fun hh => by (try simp only [beq_iff_eq, bne_iff_ne, ne_eq, Bool.false_eq_true, decide_eq_true_eq] at hh); try omega)
    | fail)
theorem one_f (n : Nat) (x0 x1 : Int)  : Good (1 ≤ x1 ∧ x1 ≤ 20) (isa86_one.f (n + 6) x0 x1) := by
  have w1 := wide_fact x1
  have e0 : isa86_wide.f (n + 6) x1 = some (wideN x1) := wide_f (n + 5) x1
  unfold isa86_one.f
  try simp only [num_f, mem_f, rm_f, of_f, e0, Option.bind_some]
  repeat' (first
    | with_reducible refine good_if (fun h => ?_) (fun h => ?_)
    | exact good_nil _
    | exact one_j0 n _ _ _ _ rfl (fun hh => by (try simp only [beq_iff_eq, bne_iff_ne, ne_eq, Bool.false_eq_true, decide_eq_true_eq] at hh); try omega)
    | fail)
theorem two_j9 (n : Nat) {V : Prop} (x1 x7 : Int) (b : Bool) (hb : b = true → V) : Good V (isa86_two.j9 (n + 1) x1 x7 b) := by
  rw [isa86_two.j9]
  try simp only [num_f, mem_f, rm_f, of_f, Option.bind_some]
  repeat' (first
    | with_reducible refine good_if (fun h => ?_) (fun h => ?_)
    | exact good_nil _
    | exact good_some _ _ (hb (by assumption))
    | fail)
theorem two_j8 (n : Nat) {V : Prop} (x1 x2 x7 : Int) (b : Bool) (hV : VDS x1 x2 → V) (hb : b = true → V) : Good V (isa86_two.j8 (n + 2) x1 x2 x7 b) := by
  have w1 := wide_fact x1
  have w2 := wide_fact x2
  have e0 : isa86_wide.f (n + 1) x1 = some (wideN x1) := wide_f (n + 0) x1
  rw [isa86_two.j8]
  try simp only [num_f, mem_f, rm_f, of_f, e0, Option.bind_some]
  repeat' (first
    | with_reducible refine good_if (fun h => ?_) (fun h => ?_)
    | exact good_nil _
    | exact good_some _ _ (hb (by assumption))
    | exact two_j9 n _ _ _ (fun hh => by (try simp only [beq_iff_eq, bne_iff_ne, ne_eq, Bool.false_eq_true, decide_eq_true_eq] at hh); try exact hV (by unfold VDS; omega))
    | fail)
theorem two_j7 (n : Nat) {V : Prop} (x1 x2 x7 : Int) (b : Bool) (hV : VDS x1 x2 → V) (hb : b = true → V) : Good V (isa86_two.j7 (n + 3) x1 x2 x7 b) := by
  have w1 := wide_fact x1
  have w2 := wide_fact x2
  rw [isa86_two.j7]
  try simp only [num_f, mem_f, rm_f, of_f, Option.bind_some]
  repeat' (first
    | with_reducible refine good_if (fun h => ?_) (fun h => ?_)
    | exact good_nil _
    | exact good_some _ _ (hb (by assumption))
    | exact two_j8 n _ _ _ _ hV (fun hh => by (try simp only [beq_iff_eq, bne_iff_ne, ne_eq, Bool.false_eq_true, decide_eq_true_eq] at hh); try exact hV (by unfold VDS; omega))
    | fail)
theorem two_j6 {V : Prop} (n : Nat) (x1 x2 x7 : Int) (x8 : Bool) (x9 : Int) (b : Bool) (hV : b = false → VDS x1 x2 → V) (h8 : x8 = true → VDS x1 x2) : Good V (isa86_two.j6 (n + 4) x1 x2 x7 x8 x9 b) := by
  cases b with
  | true => rw [isa86_two.j6, if_pos rfl]; exact good_nil _
  | false =>
    replace hV := hV rfl
    have w1 := wide_fact x1
    have w2 := wide_fact x2
    have e0 : isa86_wide.f (n + 3) x1 = some (wideN x1) := wide_f (n + 2) x1
    rw [isa86_two.j6]
    simp only [num_f, mem_f, rm_f, of_f, e0, Option.bind_some]
    repeat' (first
    | with_reducible refine good_if (fun h => ?_) (fun h => ?_)
      | exact good_nil _
      | exact good_some _ _ (hV (h8 (by assumption)))
      | exact two_j7 n _ _ _ _ hV (fun hh => by (try simp only [beq_iff_eq, bne_iff_ne, ne_eq, Bool.false_eq_true, decide_eq_true_eq] at hh); try exact hV (by unfold VDS; omega))
      | fail)
theorem two_j5 (n : Nat) (x0 x1 x2 x7 : Int) (x8 : Bool) (x9 : Int) (b : Bool) (h8 : x8 = true → VDS x1 x2) (hb : b = true → 1 ≤ x0 ∧ x0 ≤ 35 ∧ VDS x1 x2) : Good (1 ≤ x0 ∧ x0 ≤ 35 ∧ VDS x1 x2) (isa86_two.j5 (n + 5) x0 x1 x2 x7 x8 x9 b) := by
  have w1 := wide_fact x1
  have w2 := wide_fact x2
  rw [isa86_two.j5]
  try simp only [num_f, mem_f, rm_f, of_f, Option.bind_some]
  repeat' (first
    | with_reducible refine good_if (fun h => ?_) (fun h => ?_)
    | exact good_nil _
    | exact good_some _ _ (hb (by assumption))
    | exact two_j6 n _ _ _ _ _ _ (fun hh hv => by simp only [decide_eq_false_iff_not, Bool.true_eq_false] at hh; exact ⟨by omega, by omega, hv⟩) h8
    | fail)
theorem two_j4 (n : Nat) (x0 x1 x2 x7 : Int) (x8 : Bool) (x9 : Int) (b : Bool) (h8 : x8 = true → VDS x1 x2) (hb : b = true → 1 ≤ x0 ∧ x0 ≤ 35 ∧ VDS x1 x2) : Good (1 ≤ x0 ∧ x0 ≤ 35 ∧ VDS x1 x2) (isa86_two.j4 (n + 6) x0 x1 x2 x7 x8 x9 b) := by
  have w1 := wide_fact x1
  have w2 := wide_fact x2
  rw [isa86_two.j4]
  try simp only [num_f, mem_f, rm_f, of_f, Option.bind_some]
  repeat' (first
    | with_reducible refine good_if (fun h => ?_) (fun h => ?_)
    | exact good_nil _
    | exact good_some _ _ (hb (by assumption))
    | exact two_j5 n _ _ _ _ _ _ _ h8 (fun hh => by (try simp only [beq_iff_eq, bne_iff_ne, ne_eq, Bool.false_eq_true, decide_eq_true_eq] at hh); try (first | exact ⟨by omega, by omega, h8 (by assumption)⟩ | (unfold VDS; omega)))
    | fail)
theorem two_j3 (n : Nat) (x0 x1 x2 x7 : Int) (x8 : Bool) (x9 : Int) (b : Bool) (h8 : x8 = true → VDS x1 x2) (hb : b = true → 1 ≤ x0 ∧ x0 ≤ 35 ∧ VDS x1 x2) : Good (1 ≤ x0 ∧ x0 ≤ 35 ∧ VDS x1 x2) (isa86_two.j3 (n + 7) x0 x1 x2 x7 x8 x9 b) := by
  have w1 := wide_fact x1
  have w2 := wide_fact x2
  rw [isa86_two.j3]
  try simp only [num_f, mem_f, rm_f, of_f, Option.bind_some]
  repeat' (first
    | with_reducible refine good_if (fun h => ?_) (fun h => ?_)
    | exact good_nil _
    | exact good_some _ _ (hb (by assumption))
    | exact two_j4 n _ _ _ _ _ _ _ h8 (fun hh => by (try simp only [beq_iff_eq, bne_iff_ne, ne_eq, Bool.false_eq_true, decide_eq_true_eq] at hh); try (first | exact ⟨by omega, by omega, h8 (by assumption)⟩ | (unfold VDS; omega)))
    | fail)
theorem two_j2 (n : Nat) (x0 x1 x2 x7 : Int) (x8 : Bool) (x9 : Int) (b : Bool) (h8 : x8 = true → VDS x1 x2) (hb : b = true → 1 ≤ x0 ∧ x0 ≤ 35 ∧ VDS x1 x2) : Good (1 ≤ x0 ∧ x0 ≤ 35 ∧ VDS x1 x2) (isa86_two.j2 (n + 11) x0 x1 x2 x7 x8 x9 b) := by
  have w1 := wide_fact x1
  have w2 := wide_fact x2
  rw [isa86_two.j2]
  try simp only [num_f, mem_f, rm_f, of_f, Option.bind_some]
  repeat' (first
    | with_reducible refine good_if (fun h => ?_) (fun h => ?_)
    | exact good_nil _
    | exact good_some _ _ (hb (by assumption))
    | exact two_j3 (n + 3) _ _ _ _ _ _ _ h8 (fun hh => by (try simp only [beq_iff_eq, bne_iff_ne, ne_eq, Bool.false_eq_true, decide_eq_true_eq] at hh); try (first | exact ⟨by omega, by omega, h8 (by assumption)⟩ | (unfold VDS; omega)))
    | exact good_through ((places_f n _ _).imp (fun hv => ⟨by omega, by omega, hv⟩))
    | fail)
theorem two_j1 (n : Nat) (x0 x1 x2 x7 : Int) (x8 : Bool) (x9 : Int) (h8 : x8 = true → VDS x1 x2) : Good (1 ≤ x0 ∧ x0 ≤ 35 ∧ VDS x1 x2) (isa86_two.j1 (n + 12) x0 x1 x2 x7 x8 x9) := by
  have w1 := wide_fact x1
  have w2 := wide_fact x2
  rw [isa86_two.j1]
  try simp only [num_f, mem_f, rm_f, of_f, Option.bind_some]
  repeat' (first
    | with_reducible refine good_if (fun h => ?_) (fun h => ?_)
    | exact good_nil _
    | exact two_j2 n _ _ _ _ _ _ _ h8 (fun hh => by (try simp only [beq_iff_eq, bne_iff_ne, ne_eq, Bool.false_eq_true, decide_eq_true_eq] at hh); try (first | exact ⟨by omega, by omega, h8 (by assumption)⟩ | (unfold VDS; omega)))
    | fail)
theorem two_j0 (n : Nat) (x0 x1 x2 x7 : Int) (x8 : Bool) (h8 : x8 = true → VDS x1 x2) : Good (1 ≤ x0 ∧ x0 ≤ 35 ∧ VDS x1 x2) (isa86_two.j0 (n + 13) x0 x1 x2 x7 x8) := by
  have w1 := wide_fact x1
  have w2 := wide_fact x2
  have e0 : isa86_wide.f (n + 12) x1 = some (wideN x1) := wide_f (n + 11) x1
  rw [isa86_two.j0]
  try simp only [num_f, mem_f, rm_f, of_f, e0, Option.bind_some]
  repeat' (first
    | with_reducible refine good_if (fun h => ?_) (fun h => ?_)
    | exact good_nil _
    | exact two_j1 n _ _ _ _ _ _ h8
    | fail)
theorem two_f (n : Nat) (x0 x1 x2 : Int)  : Good (1 ≤ x0 ∧ x0 ≤ 35 ∧ VDS x1 x2) (isa86_two.f (n + 13) x0 x1 x2) := by
  have w1 := wide_fact x1
  have w2 := wide_fact x2
  have e0 : isa86_wide.f (n + 13) x1 = some (wideN x1) := wide_f (n + 12) x1
  have e1 : isa86_wide.f (n + 13) x2 = some (wideN x2) := wide_f (n + 12) x2
  unfold isa86_two.f
  try simp only [num_f, mem_f, rm_f, of_f, e0, e1, Option.bind_some]
  repeat' (first
    | with_reducible refine good_if (fun h => ?_) (fun h => ?_)
    | exact good_nil _
    | exact two_j0 n _ _ _ _ _ (fun hh => by simp only [beq_iff_eq, Bool.false_eq_true] at hh; try (unfold VDS; omega))
    | fail)
def VT (x0 x1 : Int) : Prop := (10 ≤ x0 ∧ x0 ≤ 35 ∨ 42 ≤ x0 ∧ x0 ≤ 45 ∨ 48 ≤ x0 ∧ x0 ≤ 51) ∧ 0 ≤ x1 ∧ x1 ≤ 20
theorem heads_j3 (n : Nat) (x0 x1 : Int) (b : Bool) (hb : b = true → VT x0 x1) : Good (VT x0 x1) (isa86_heads.j3 (n + 1) x0 x1 b) := by
  rw [isa86_heads.j3]
  try simp only [num_f, mem_f, rm_f, of_f, Option.bind_some]
  repeat' (first
    | with_reducible refine good_if (fun h => ?_) (fun h => ?_)
    | exact good_nil _
    | exact good_some _ _ (hb (by assumption))
    | exact good_some _ _ (by unfold VT; omega)
    | fail)
theorem heads_j2 (n : Nat) (x0 x1 : Int) (b : Bool) (hb : b = true → 20 ≤ x0 ∧ x0 ≤ 29 ∧ x1 = 0) : Good (VT x0 x1) (isa86_heads.j2 (n + 2) x0 x1 b) := by
  rw [isa86_heads.j2]
  cases b with
  | true =>
    obtain ⟨h1, h2, h3⟩ := hb rfl
    have hw : wrap64 (x0 - 20) = x0 - 20 := by unfold wrap64; omega
    rw [if_pos rfl, hw, if_pos (by omega), if_pos (by omega)]
    exact good_some _ _ (by unfold VT; omega)
  | false =>
    rw [if_neg (by decide)]
    repeat' (first
    | with_reducible refine good_if (fun h => ?_) (fun h => ?_)
      | exact heads_j3 n _ _ _ (fun hh => by (try simp only [beq_iff_eq, bne_iff_ne, ne_eq, Bool.false_eq_true, decide_eq_true_eq] at hh); try (unfold VT; omega))
      | fail)
theorem heads_j1 (n : Nat) (x0 x1 : Int) (b : Bool) (hb : b = true → 10 ≤ x0 ∧ x0 ≤ 19) : Good (VT x0 x1) (isa86_heads.j1 (n + 7) x0 x1 b) := by
  rw [isa86_heads.j1]
  repeat' (first
    | with_reducible refine good_if (fun h => ?_) (fun h => ?_)
    | exact good_through ((one_f n _ _).imp (fun hv => by have := hb (by assumption); unfold VT; omega))
    | exact heads_j2 (n + 4) _ _ _ (fun hh => by (try simp only [beq_iff_eq, bne_iff_ne, ne_eq, Bool.false_eq_true, decide_eq_true_eq] at hh); try omega)
    | fail)
def V3 (x0 x1 x2 : Int) : Prop := (1 ≤ x0 ∧ x0 ≤ 35 ∨ 42 ≤ x0 ∧ x0 ≤ 45 ∨ 48 ≤ x0 ∧ x0 ≤ 51) ∧ 0 ≤ x1 ∧ x1 ≤ 20 ∧ 0 ≤ x2 ∧ x2 ≤ 20 ∧ (x2 ≠ 0 → x1 ≠ 0)
theorem heads_j0 (n : Nat) (x0 x1 x2 : Int) (b : Bool) (hb : b = false → x2 = 0) : Good (V3 x0 x1 x2) (isa86_heads.j0 (n + 14) x0 x1 x2 b) := by
  rw [isa86_heads.j0]
  cases b with
  | true =>
    rw [if_pos rfl]
    exact good_through ((two_f n _ _ _).imp (fun hv => by obtain ⟨h1, h2, h3⟩ := hv; unfold VDS at h3; unfold V3; omega))
  | false =>
    have h0 := hb rfl
    rw [if_neg (by decide)]
    have hi : VT x0 x1 → V3 x0 x1 x2 := fun hv => by unfold VT at hv; unfold V3; omega
    repeat' (first
    | with_reducible refine good_if (fun h => ?_) (fun h => ?_)
      | exact (heads_j1 (n + 6) _ _ _ (fun hh => by simp only [Bool.false_eq_true, decide_eq_true_eq] at hh; try omega)).imp hi
      | fail)
theorem heads_f (n : Nat) (x0 x1 x2 : Int) : Good (V3 x0 x1 x2) (isa86_heads.f (n + 14) x0 x1 x2) := by
  unfold isa86_heads.f
  repeat' (first
    | with_reducible refine good_if (fun h => ?_) (fun h => ?_)
    | exact good_nil _
    | exact heads_j0 n _ _ _ _ (fun hh => by first | omega | cases hh)
    | fail)
theorem right_f (op D S N : Int) : ∃ r, isa86_Right.f 14 op D S N = some r ∧ (r = 0 → V3 op D S) := by
  obtain ⟨l, t, h1, h2⟩ := heads_f 0 op D S
  unfold isa86_Right.f
  rw [h1, Option.bind_some]
  by_cases hl : (l.length : Int) = 0
  · rw [if_pos hl]; exact ⟨12, rfl, fun h => by cases h⟩
  · rw [if_neg hl]
    have hv : V3 op D S := h2 (fun e => hl (by rw [e]; rfl))
    simp only [isa86_Right.j0, isa86_Right.j1]
    repeat' split
    all_goals exact ⟨_, rfl, fun _ => hv⟩
end Go.Proofs.YtejhagejjogbaaaDoor.Gd9
