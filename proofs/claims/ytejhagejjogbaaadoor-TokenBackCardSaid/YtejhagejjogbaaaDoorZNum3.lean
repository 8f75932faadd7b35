import Derived.Test.YtejhagejjogbaaaDoorZNum2
namespace Go.Proofs.YtejhagejjogbaaaDoor.Num
open Go.RowKit Go.Proofs.YtejhagejjogbaaaDoor.Given Go.Proofs.YtejhagejjogbaaaDoor.Pn Go.Proofs.YtejhagejjogbaaaDoorW.PrintWords Go.Proofs.YtejhagejjogbaaaDoorW.PrintLast
set_option linter.unusedSimpArgs false
theorem hexd_len (m : Nat) : ∀ n, n < 16 ^ m → (hexd n).length ≤ m := by
  induction m with
  | zero => intro n h; have : n = 0 := by omega
            subst this; rw [hexd]; simp
  | succ m ih =>
    intro n h
    by_cases h0 : n = 0
    · subst h0; rw [hexd]; simp
    · rw [hexd_pos (by omega), List.length_cons]
      have := ih (n / 16) (by rw [Nat.pow_succ] at h; omega)
      omega
theorem zeroed_len (l : List UInt8) : (zeroed l).length ≤ l.length + 1 := by
  unfold zeroed
  split
  · simp
  · split <;> simp
theorem show_len (n : Nat) (hn : n ≤ 65535) : 1 ≤ (showL n).length ∧ (showL n).length ≤ 6 := by
  unfold showL
  by_cases h : n < 10
  · rw [if_pos h]; simp
  · rw [if_neg h]
    have h1 := zeroed_len ((hexd n).reverse ++ [72])
    have h2 := hexd_len 4 n (by omega)
    simp only [List.length_append, List.length_reverse, List.length_singleton] at h1
    refine ⟨?_, by omega⟩
    obtain ⟨t, ht, _⟩ := hexd_top n (by omega) 0
    rw [ht, List.cons_append]
    unfold zeroed
    simp only
    split <;> simp
def letterB (c : UInt8) : Bool := (97 ≤ c && c ≤ 122) || (65 ≤ c && c ≤ 90) || c == 63 || c == 64 || c == 95
def digitB (c : UInt8) : Bool := 48 ≤ c && c ≤ 57
def tailB (c : UInt8) : Bool := letterB c || digitB c
def nameL (l : List UInt8) : Bool := match l with
  | [] => false
  | c :: t => decide (t.length < 16) && letterB c && t.all tailB
theorem up1_idem (c : UInt8) : up1 (up1 c) = up1 c := by
  have : ∀ c : Fin 256, up1 (up1 (UInt8.ofNat c.val)) = up1 (UInt8.ofNat c.val) := by decide +kernel
  have := this ⟨c.toNat, c.toNat_lt⟩
  simpa using this
end Go.Proofs.YtejhagejjogbaaaDoor.Num
