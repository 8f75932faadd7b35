import Derived.Test.YtejhagejjogbaaaDoorKdM3
import Derived.Test.YtejhagejjogbaaaDoorKdM2
import Derived.Test.YtejhagejjogbaaaDoorProg
import Derived.Below
import Derived.Deep.Draws
import Derived.Deep.AppendLies
import Derived.Maps.AppendAt
import Derived.OwnWalk
import Derived.Laws.BytesArg
import Derived.Laws.MakeOwn
import Derived.Laws.OwnMore
import Derived.Deep.OwnRows
import Derived.Tactics
import Derived.Lib.ConvBytes
import Derived.Laws.Slices
import Derived.WalkKit
import Derived.KernelRfl
import Derived.RowKit3
import Derived.Deep.LoopGhost
import Derived.Deep.QuietTactic
import Derived.BigQuiet
import Derived.WideLaws
import Derived.Deep.DeepCutAuto
import Derived.Deep.CutBlock
import Derived.Deep.RegionHeld3
import Derived.Laws.Rows
import Derived.Lib.AppendStr
import Derived.ArgAppend
import Derived.Laws.IdiomCopy
import Derived.OrdersHeld
import Derived.Laws.BitsLemmas
import Derived.RowKit
import Derived.WalkMore
import Derived.Test.YtejhagejjogbaaaDoorKdM1
section
namespace Go.Proofs.YtejhagejjogbaaaDoor.TokSpan
open Go.RowKit Go.Proofs.YtejhagejjogbaaaDoorW.PrintWords Go.Proofs.YtejhagejjogbaaaDoorW.PrintLast Go.Proofs.YtejhagejjogbaaaDoorW.PrintMore Go.Proofs.YtejhagejjogbaaaDoor.Given Go.Proofs.YtejhagejjogbaaaDoor.Pn Go.Proofs.YtejhagejjogbaaaDoor.Pa
set_option linter.unusedVariables false
set_option linter.unusedSimpArgs false
def letB (c : UInt8) : Bool := (97 ≤ c && c ≤ 122) || (65 ≤ c && c ≤ 90)
def digB (c : UInt8) : Bool := 48 ≤ c && c ≤ 57
def begB (c : UInt8) : Bool := letB c || c == 63 || c == 64 || c == 95
def p1 (c : UInt8) : Bool := begB c || digB c
def p2 (c : UInt8) : Bool := letB c || digB c
theorem let_all : ∀ c : Fin 256, token_letter.f ((c.val : Nat) : Int) = some (letB (UInt8.ofNat c.val)) := by decide +kernel
theorem let_at (c : UInt8) : token_letter.f (c.toNat : Int) = some (letB c) := by
  have := let_all ⟨c.toNat, c.toNat_lt⟩
  simpa using this
theorem dig_all : ∀ c : Fin 256, token_digit.f ((c.val : Nat) : Int) = some (digB (UInt8.ofNat c.val)) := by decide +kernel
theorem dig_at (c : UInt8) : token_digit.f (c.toNat : Int) = some (digB c) := by
  have := dig_all ⟨c.toNat, c.toNat_lt⟩
  simpa using this
theorem beg_all : ∀ c : Fin 256, token_begin.f ((c.val : Nat) : Int) = some (begB (UInt8.ofNat c.val)) := by decide +kernel
theorem beg_at (c : UInt8) : token_begin.f (c.toNat : Int) = some (begB c) := by
  have := beg_all ⟨c.toNat, c.toNat_lt⟩
  simpa using this
theorem span_at {p : UInt8 → Bool} {l : List UInt8} {k : Nat} (ha : (l.take k).all p = true) (hk : k < l.length) (hp : p l[k] = false) : (l.takeWhile p).length = k := by
  have e : l = l.take k ++ l[k] :: l.drop (k + 1) := by rw [← List.drop_eq_getElem_cons hk, List.take_append_drop]
  rw [e, List.takeWhile_append_of_pos (fun a h => List.all_eq_true.1 ha a h), List.takeWhile_cons_of_neg (by simp [hp])]
  simp; omega
theorem span_end {p : UInt8 → Bool} {l : List UInt8} (ha : l.all p = true) : (l.takeWhile p).length = l.length := by
  have := List.takeWhile_append_of_pos (p := p) (l₁ := l) (l₂ := []) (fun a h => List.all_eq_true.1 ha a h)
  simp only [List.append_nil, List.takeWhile_nil] at this
  rw [this]
theorem take_all {p : UInt8 → Bool} {l : List UInt8} {k : Nat} (ha : (l.take k).all p = true) (hk : k < l.length) (hp : p l[k] = true) : (l.take (k + 1)).all p = true := by
  rw [List.take_succ_eq_append_getElem hk, List.all_append, ha]
  simp [hp]
set_option maxHeartbeats 8000000 in
set_option maxRecDepth 100000 in
theorem clo1 (c : UInt8) (w : World) : Calls Tryd.prog 107 #[.int .u8 (c.toNat : Int)] w fun e w' => e = .returned (.bool (p1 c)) ∧ Drawn0 w w' := by
  have A1 := Aside0.mk (beg_at c)
  have A2 := Aside0.mk (dig_at c)
  have e : p1 c = (begB c || digB c) := rfl
  rw [e]
  clear e
  generalize (c.toNat : Int) = z at A1 A2 ⊢
  generalize begB c = b1 at A1 ⊢
  generalize digB c = b2 at A2 ⊢
  cases b1
  all_goals
    go_enter Tryd.func107, Tryd.ntmps107
    go_wp2_with (first | (go_at_call 105; refine (token_begin.calls z _ _ A1.out).mono ?_; rintro e w' ⟨rfl, ⟨nd, rfl⟩⟩) | (go_at_call 108; refine (token_digit.calls z _ _ A2.out).mono ?_; rintro e w' ⟨rfl, ⟨nd, rfl⟩⟩))
    go_ret
    exact ⟨by first | rfl | simp, by repeat (first | exact Drawn0.refl _ | apply Drawn0.step)⟩
set_option maxHeartbeats 8000000 in
set_option maxRecDepth 100000 in
theorem span1_calls (a0 : ByteArray) (w : World) (hs : a0.size ≤ 9223372036854775806) :
    Calls Tryd.prog 106 #[.string a0, .func (.func 107) #[] #[]] w fun e w' => e = .returned (.int .i64 (((a0.data.toList.takeWhile p1).length : Nat) : Int)) ∧ Drawn0 w w' := by
  go_enter Tryd.func106, Tryd.ntmps106
  go_wp2
  go_loopw [8] (fun v wr => ∃ k : Nat, k ≤ a0.size ∧ v = .int .i64 k ∧ Aside0 ((a0.data.toList.take k).all p1 = true) ∧ Aside0 (Drawn0 w wr)) (fun v _ => a0.size - (intOf v).toNat)
  case atStart => exact ⟨0, Nat.zero_le _, rfl, ⟨rfl⟩, ⟨Drawn0.refl _⟩⟩
  case round =>
    obtain ⟨k, hk, rfl, HA, HD⟩ := hrel
    by_cases hlt : k < a0.size
    · have hl : k < a0.data.toList.length := by rw [data_length]; exact hlt
      have hc : a0.data.toList[k] = a0[k]'hlt := rfl
      have HC := Aside0.mk (clo1 (a0[k]'hlt))
      cases hb : p1 (a0[k]'hlt) with
      | true =>
        have HN := Aside0.mk (take_all HA.out hl (by rw [hc]; exact hb))
        go_wp2_with (go_at_call 107; refine (HC.out _).mono ?_; rintro e w' ⟨rfl, ⟨nd, rfl⟩⟩; rw [hb])
        refine ⟨⟨k + 1, by omega, by go_num, HN, ⟨by repeat (first | exact HD.out | apply Drawn0.step)⟩⟩, by simp [intOf]; omega⟩
      | false =>
        have HN := Aside0.mk (span_at HA.out hl (by rw [hc]; exact hb))
        go_wp2_with (go_at_call 107; refine (HC.out _).mono ?_; rintro e w' ⟨rfl, ⟨nd, rfl⟩⟩; rw [hb])
        go_ret
        exact ⟨by rw [HN.out]; rfl, by repeat (first | exact HD.out | apply Drawn0.step)⟩
    · obtain rfl : k = a0.size := by omega
      have HN := Aside0.mk (span_end (p := p1) (l := a0.data.toList) (by have := HA.out; rwa [List.take_of_length_le (by rw [data_length]; exact Nat.le_refl _)] at this))
      go_wp2
      go_ret
      exact ⟨by rw [HN.out, data_length]; rfl, HD.out⟩
def token_span1.f (a0 : ByteArray) : Option Int := if a0.size ≤ 9223372036854775806 then some (((a0.data.toList.takeWhile p1).length : Nat) : Int) else none
theorem token_span1.calls (a0 : ByteArray) (r : Int) (w : World) (h : token_span1.f a0 = some r) :
    Calls Tryd.prog 106 #[.string a0, .func (.func 107) #[] #[]] w fun e w' => e = .returned (.int .i64 r) ∧ Drawn0 w w' := by
  unfold token_span1.f at h
  by_cases hs : a0.size ≤ 9223372036854775806
  · rw [if_pos hs] at h
    obtain rfl := Option.some.inj h
    exact span1_calls a0 w hs
  · rw [if_neg hs] at h; cases h
set_option maxHeartbeats 8000000 in
set_option maxRecDepth 100000 in
theorem clo2 (c : UInt8) (w : World) : Calls Tryd.prog 109 #[.int .u8 (c.toNat : Int)] w fun e w' => e = .returned (.bool (p2 c)) ∧ Drawn0 w w' := by
  have A1 := Aside0.mk (let_at c)
  have A2 := Aside0.mk (dig_at c)
  have e : p2 c = (letB c || digB c) := rfl
  rw [e]
  clear e
  generalize (c.toNat : Int) = z at A1 A2 ⊢
  generalize letB c = b1 at A1 ⊢
  generalize digB c = b2 at A2 ⊢
  cases b1
  all_goals
    go_enter Tryd.func109, Tryd.ntmps109
    go_wp2_with (first | (go_at_call 110; refine (token_letter.calls z _ _ A1.out).mono ?_; rintro e w' ⟨rfl, ⟨nd, rfl⟩⟩) | (go_at_call 108; refine (token_digit.calls z _ _ A2.out).mono ?_; rintro e w' ⟨rfl, ⟨nd, rfl⟩⟩))
    go_ret
    exact ⟨by first | rfl | simp, by repeat (first | exact Drawn0.refl _ | apply Drawn0.step)⟩
set_option maxHeartbeats 8000000 in
set_option maxRecDepth 100000 in
theorem span2_calls (a0 : ByteArray) (w : World) (hs : a0.size ≤ 9223372036854775806) :
    Calls Tryd.prog 106 #[.string a0, .func (.func 109) #[] #[]] w fun e w' => e = .returned (.int .i64 (((a0.data.toList.takeWhile p2).length : Nat) : Int)) ∧ Drawn0 w w' := by
  go_enter Tryd.func106, Tryd.ntmps106
  go_wp2
  go_loopw [8] (fun v wr => ∃ k : Nat, k ≤ a0.size ∧ v = .int .i64 k ∧ Aside0 ((a0.data.toList.take k).all p2 = true) ∧ Aside0 (Drawn0 w wr)) (fun v _ => a0.size - (intOf v).toNat)
  case atStart => exact ⟨0, Nat.zero_le _, rfl, ⟨rfl⟩, ⟨Drawn0.refl _⟩⟩
  case round =>
    obtain ⟨k, hk, rfl, HA, HD⟩ := hrel
    by_cases hlt : k < a0.size
    · have hl : k < a0.data.toList.length := by rw [data_length]; exact hlt
      have hc : a0.data.toList[k] = a0[k]'hlt := rfl
      have HC := Aside0.mk (clo2 (a0[k]'hlt))
      cases hb : p2 (a0[k]'hlt) with
      | true =>
        have HN := Aside0.mk (take_all HA.out hl (by rw [hc]; exact hb))
        go_wp2_with (go_at_call 109; refine (HC.out _).mono ?_; rintro e w' ⟨rfl, ⟨nd, rfl⟩⟩; rw [hb])
        refine ⟨⟨k + 1, by omega, by go_num, HN, ⟨by repeat (first | exact HD.out | apply Drawn0.step)⟩⟩, by simp [intOf]; omega⟩
      | false =>
        have HN := Aside0.mk (span_at HA.out hl (by rw [hc]; exact hb))
        go_wp2_with (go_at_call 109; refine (HC.out _).mono ?_; rintro e w' ⟨rfl, ⟨nd, rfl⟩⟩; rw [hb])
        go_ret
        exact ⟨by rw [HN.out]; rfl, by repeat (first | exact HD.out | apply Drawn0.step)⟩
    · obtain rfl : k = a0.size := by omega
      have HN := Aside0.mk (span_end (p := p2) (l := a0.data.toList) (by have := HA.out; rwa [List.take_of_length_le (by rw [data_length]; exact Nat.le_refl _)] at this))
      go_wp2
      go_ret
      exact ⟨by rw [HN.out, data_length]; rfl, HD.out⟩
def token_span2.f (a0 : ByteArray) : Option Int := if a0.size ≤ 9223372036854775806 then some (((a0.data.toList.takeWhile p2).length : Nat) : Int) else none
theorem token_span2.calls (a0 : ByteArray) (r : Int) (w : World) (h : token_span2.f a0 = some r) :
    Calls Tryd.prog 106 #[.string a0, .func (.func 109) #[] #[]] w fun e w' => e = .returned (.int .i64 r) ∧ Drawn0 w w' := by
  unfold token_span2.f at h
  by_cases hs : a0.size ≤ 9223372036854775806
  · rw [if_pos hs] at h
    obtain rfl := Option.some.inj h
    exact span2_calls a0 w hs
  · rw [if_neg hs] at h; cases h
end Go.Proofs.YtejhagejjogbaaaDoor.TokSpan
end
section
namespace Go.Proofs.YtejhagejjogbaaaDoor.Pb
open Go.RowKit Go.Proofs.YtejhagejjogbaaaDoorW.PrintWords Go.Proofs.YtejhagejjogbaaaDoorW.PrintLast Go.Proofs.YtejhagejjogbaaaDoorW.PrintMore Go.Proofs.YtejhagejjogbaaaDoor.Given Go.Proofs.YtejhagejjogbaaaDoor.TokSpan Go.Proofs.YtejhagejjogbaaaDoor.Pn Go.Proofs.YtejhagejjogbaaaDoor.Pa
attribute [local go_sem] max2_int min2_int max_two min_two max_three min_three max_four min_four   -- for this text's walks alone
set_option linter.unusedVariables false
set_option linter.unusedSimpArgs false
def errW : Option Int → Value
 | none => .nilIface
 | some c => .iface 0 (.int .i64 c)
theorem errW_none : errW none = .nilIface := rfl
theorem errW_some (c : Int) : errW (some c) = .iface 0 (.int .i64 c) := rfl
theorem info41 : (Tryd.prog.info? 41).map (fun i => (i.zero, i.size, i.bytes)) = some (some (.agg #[(.int .i64 0), (.string ⟨#[]⟩), (.int .u16 0)]), 3, 32) := by kernel_rfl
end Go.Proofs.YtejhagejjogbaaaDoor.Pb
end
