import Derived.Test.YtejhagejjogbaaaDoorProg
import Derived.Below
import Derived.Deep.Draws
import Derived.Deep.AppendLies
import Derived.Maps.AppendAt
import Derived.OwnWalk
import Derived.Laws.BytesArg
import Derived.Laws.MakeOwn
import Derived.Laws.OwnMore
import Derived.Deep.OwnRows
import Derived.Tactics
import Derived.Lib.ConvBytes
import Derived.Laws.Slices
import Derived.WalkKit
import Derived.KernelRfl
import Derived.RowKit3
import Derived.Deep.LoopGhost
import Derived.Deep.QuietTactic
import Derived.BigQuiet
import Derived.WideLaws
import Derived.Deep.DeepCutAuto
import Derived.Deep.CutBlock
import Derived.Deep.RegionHeld3
import Derived.Laws.Rows
import Derived.Lib.AppendStr
import Derived.ArgAppend
import Derived.Laws.IdiomCopy
import Derived.OrdersHeld
import Derived.Laws.BitsLemmas
import Derived.RowKit
import Derived.Test.YtejhagejjogbaaaDoorKeM2
import Derived.Test.YtejhagejjogbaaaDoorKeM3
import Derived.Test.YtejhagejjogbaaaDoorKeM4
import Derived.Test.YtejhagejjogbaaaDoorKeM5
import Derived.Test.YtejhagejjogbaaaDoorKeM6
import Derived.Test.YtejhagejjogbaaaDoorKeM7
import Derived.Test.YtejhagejjogbaaaDoorKeM8
import Derived.Test.YtejhagejjogbaaaDoorKeM9
import Derived.Test.YtejhagejjogbaaaDoorKeM10
import Derived.Test.YtejhagejjogbaaaDoorKeM13
import Derived.Test.YtejhagejjogbaaaDoorKeM14
import Derived.Test.YtejhagejjogbaaaDoorKeM15
import Derived.Test.YtejhagejjogbaaaDoorKeM1
import Derived.Test.YtejhagejjogbaaaDoorKeM11
import Derived.Deep.Slices
import Derived.ChangeSame
import Derived.ChangeArms
import Derived.DataReads
section
namespace Go.Proofs.YtejhagejjogbaaaDoor.Qg
open Go.RowKit YtejhagejjogbaaaDoorW.PrintWords YtejhagejjogbaaaDoorW.PrintLast YtejhagejjogbaaaDoorW.PrintMore Given TokSpan TokJoin TokRep Right.R LawC PsrI.R SameC.R Pn Pa Pb Pc Pd Pe Qa Qc Qf
attribute [local go_sem] max2_int min2_int max_two min_two max_three min_three max_four min_four   -- for this text's walks alone
def errW : Option Int → Value
 | none => .nilIface
 | some c => .iface 0 (.int .i64 c)
theorem zN : errW none = .nilIface := rfl
theorem zM (c : Int) : errW (some c) = .iface 0 (.int .i64 c) := rfl
theorem info41 : (Tryd.prog.info? 41).map (fun i => (i.zero, i.size, i.bytes)) = some (some (.agg #[(.int .i64 0), (.string ⟨#[]⟩), (.int .u16 0)]), 3, 32) := by kernel_rfl
end Go.Proofs.YtejhagejjogbaaaDoor.Qg
end
section
namespace Go.Proofs.YtejhagejjogbaaaDoor.Ee
open Go.RowKit YtejhagejjogbaaaDoorW.PrintWords YtejhagejjogbaaaDoorW.PrintLast YtejhagejjogbaaaDoorW.PrintMore Given Pn Pa Qa Qc Qf Qg Num AnyNot EvB EvC LawC Right.R
theorem tdiv_ev (x y : Int) : expr_two.f (⟨#[47]⟩ : ByteArray) x y = if y = 0 then some (0, 5) else some (IntKind.u16.wrap (Int.tdiv x y), 0) := by unfold expr_two.f; simp only [Lib.toList_data]; rfl
theorem tmod_ev (x y : Int) : expr_two.f (⟨#[77, 79, 68]⟩ : ByteArray) x y = if y = 0 then some (0, 5) else some (Int.tmod x y, 0) := by unfold expr_two.f; simp only [Lib.toList_data]; rfl
theorem tshl_ev (x y : Int) : expr_two.f (⟨#[83, 72, 76]⟩ : ByteArray) x y = if 0 ≤ y then some (shl .u16 x y, 0) else none := by unfold expr_two.f; simp only [Lib.toList_data]; rfl
theorem tshr_ev (x y : Int) : expr_two.f (⟨#[83, 72, 82]⟩ : ByteArray) x y = if 0 ≤ y then some (shr .u16 x y, 0) else none := by unfold expr_two.f; simp only [Lib.toList_data]; rfl
theorem wrap_small {n : Int} (h0 : 0 ≤ n) (h1 : n ≤ 65535) : IntKind.u16.wrap n = n := by
  show n % 65536 = n
  omega
theorem u16_range {n : Int} (h : (Lit.int .u16 n).wf = true) : 0 ≤ n ∧ n ≤ 65535 := by
  simp only [Lit.wf, Bool.and_eq_true, decide_eq_true_eq] at h
  have h1 : IntKind.u16.min = 0 := by decide
  have h2 : IntKind.u16.max = 65535 := by decide
  omega
end Go.Proofs.YtejhagejjogbaaaDoor.Ee
end
section
namespace Go.Proofs.YtejhagejjogbaaaDoor.SumsC
open Go.RowKit YtejhagejjogbaaaDoorW.PrintWords YtejhagejjogbaaaDoorW.PrintLast YtejhagejjogbaaaDoorW.PrintMore Given Pn Pa Pb Qa Qc Qf Qg Num PsrC PsrD PsrF PsrI.R EvC LawC
def Bx (W : World) (g d : Nat) (e : S50) : Prop :=
  W.heap[g]? = some (.cells #[.string e.f0, .int .u16 e.f1, .string e.f2, .slice (some ⟨d, 0, none⟩) e.f3.length e.f3.length] 50 (0, 0)) ∧ Kd.C k50 W (some ⟨d, 0, none⟩) e.f3.length e.f3
def Bxs (W : World) (l : List (Nat × Nat × S50)) : Prop := ∀ p ∈ l, Bx W p.1 p.2.1 p.2.2
theorem Bxs.below {W W1 : World} {l : List (Nat × Nat × S50)} (h : Bxs W l) (hb : Below W.heap.size W W1) : Bxs W1 l := fun p hp => ⟨zK (h p hp).1 hb, Kd.zV (h p hp).2 hb⟩
theorem Bxs.cons {W : World} {g d : Nat} {e : S50} {l : List (Nat × Nat × S50)} (h : Bx W g d e) (hl : Bxs W l) : Bxs W ((g, d, e) :: l) := by
  intro p hp
  rcases List.mem_cons.1 hp with rfl | hp
  · exact h
  · exact hl p hp
end Go.Proofs.YtejhagejjogbaaaDoor.SumsC
end
section
namespace Go.Proofs.YtejhagejjogbaaaDoor.Ee
open Go.RowKit YtejhagejjogbaaaDoorW.PrintWords YtejhagejjogbaaaDoorW.PrintLast YtejhagejjogbaaaDoorW.PrintMore Given Pn Pa Pb Qa Qc Qf Qg Num AnyNot EvB EvC LawC Right.R Par SameC Tk PsrI.R SumsC
theorem notU_eq {x : Int} (h0 : 0 ≤ x) (h1 : x ≤ 65535) : notU x = 65535 - x := by
  unfold notU Go.bits
  show IntKind.u16.wrap ((BitVec.ofInt 16 65535 ^^^ BitVec.ofInt 16 x).toNat : Int) = _
  have e : BitVec.ofInt 16 65535 = BitVec.allOnes 16 := by decide
  rw [e, ← BitVec.not_def, BitVec.toNat_not, BitVec.toNat_ofInt]
  show (((2 ^ 16 - 1 - (x % ((2 ^ 16 : Nat) : Int)).toNat : Nat)) : Int) % 65536 = _
  have h2 : x % ((2 ^ 16 : Nat) : Int) = x := Int.emod_eq_of_lt h0 (by omega)
  rw [h2]
  omega
end Go.Proofs.YtejhagejjogbaaaDoor.Ee
end
section
namespace Go.Proofs.YtejhagejjogbaaaDoor.AliveC
open Go.RowKit YtejhagejjogbaaaDoorW.PrintWords YtejhagejjogbaaaDoorW.PrintLast YtejhagejjogbaaaDoorW.PrintMore Given Pn Pa Pb Qa Qc Qf Num PsrC PsrD PsrF PsrI.R EvC LawC
set_option maxHeartbeats 16000000 in
set_option maxRecDepth 100000 in
theorem of_calls (k : Nat) (s : ByteArray) (n : Int) (ts : List S41) (e : S50) (w : World) (hG : Aside0 (G0 w)) (h1 : token_Line.f k s = some (ts, 0)) (h2 : expr_All.f k ts = some (e.f0, e.f1, e.f2, e.f3, 0))
    (h3 : expr_Eval0.f k e.f0 e.f1 e.f2 e.f3 0 = some (n, 0)) (h4 : expr_Show.f k e.f0 e.f1 e.f2 e.f3 = some (s, 0)) (ht : (s.toList == s.toList) = true) :
    Calls Tryd.prog 75 #[.string s, .int .u16 n] w fun e w' => e = .returned (.bool true) ∧ Below w.heap.size w w' := by
  have hu50 := Tryd.underlying50
  have H1 := zz_ h1
  have H2 := zz_ h2
  have H3 := zz_ h3
  have H4 := zz_ h4
  clear h1 h2 h3 h4
  have HW0 := zz_ (Below.refl w.heap.size w)
  go_enter Tryd.func75, Tryd.ntmps75
  go_wp2_with (first | (go_at_call 28; (with_reducible refine (token_Line.calls k s ts 0 _ ⟨G0.below hG.out HW0.out⟩ H1.out).mono ?_); rintro ex w1 ⟨v1, rfl, ho, hb⟩; have HO1 := zz_ ho; have HW1 := zz_ (zG HW0.out hb); obtain ⟨At, ct, rfl⟩ := Kd.R_slice HO1.out; clear hb ho) | (go_at_call 45; (with_reducible refine (expr_All.calls k At ct ts e.f0 e.f1 e.f2 e.f3 0 _ (Kd.R_reads' HO1.out).2.2 (Kd.R_reads' HO1.out).2.1 H2.out).mono ?_); rintro ex w2 ⟨v2, rfl, ho, hb⟩; have HO2 := zz_ ho; have HW2 := zz_ (zG HW1.out hb); obtain ⟨Ah, ch, rfl⟩ := Kd.R_slice HO2.out; clear hb ho) | ((with_reducible refine zS (N := 7) rfl ?_); refine zO ?hg (N := 7) ?hd (cs := #[.string (⟨#[]⟩ : ByteArray), .int .u16 0, .string (⟨#[]⟩ : ByteArray), .slice none 0 0]) (t := 50) ?hr ?_; (case hd => rfl); (case hg => rfl); (case hr => first | (go_simp; done) | (go_simp; rfl)); intro gz hg w3 hbox hb; have HZ := zz_ hb; have BZ := zz_ hbox; have HE := zz_ hg; obtain ⟨⟨z0, z1, z2, z3⟩, ⟨u0, u1, u2, u3⟩⟩ := blk50 hbox; clear hb hbox hg) | ((with_reducible refine gate_store (t := 50) (p := 7) rfl ?_); refine store_event (t := 50) (p := 7) (v := ?vo7) ?hg ?ho ?hN (w1 := put50 w3 gz (.string e.f0) (.int .u16 e.f1) (.string e.f2) (.slice Ah e.f3.length ch)) ?hr ?_; (case ho => rfl); (case hg => rfl); (case hN => rfl); (case hr => first | (go_simp; done) | (go_simp; rfl)); intro w4 hw; have hb : Below w2.heap.size w2 w4 := (by rw [hw]; exact below_put HZ.out (Nat.le_of_eq HE.out.symm)); have BH4 := zz_ (show w4.heap[gz]? = some (.cells #[.string e.f0, .int .u16 e.f1, .string e.f2, .slice Ah e.f3.length ch] 50 (0, 0)) from (by rw [hw]; exact put50_blk BZ.out)); have HO4 := zz_ (RE_below HO2.out hb); have HW4 := zz_ (zG HW2.out hb); clear z0 z1 z2 z3 u0 u1 u2 u3 hb hw; obtain ⟨⟨z0, z1, z2, z3⟩, ⟨u0, u1, u2, u3⟩⟩ := blk50 BH4.out) | (go_at_call 40; (with_reducible refine (expr_Eval0.calls k e.f0 e.f1 e.f2 Ah ch e.f3 0 n 0 _ (Kd.R_reads' HO4.out).2.2 (Kd.R_reads' HO4.out).2.1 H3.out).mono ?_); rintro ex w5 ⟨rfl, hb⟩; clear z0 z1 z2 z3 u0 u1 u2 u3; have HW5 := zz_ (zG HW4.out hb); have BH5 := zz_ (zK BH4.out hb); have HO5 := zz_ (RE_below HO4.out hb); obtain ⟨⟨z0, z1, z2, z3⟩, ⟨u0, u1, u2, u3⟩⟩ := blk50 BH5.out; clear hb) | (go_at_call 44; (with_reducible refine (expr_Show.calls k e.f0 e.f1 e.f2 Ah ch e.f3 s 0 _ ⟨G0.below hG.out HW5.out⟩ (Kd.R_reads' HO5.out).2.2 (Kd.R_reads' HO5.out).2.1 H4.out).mono ?_); rintro ex w6 ⟨rfl, hb⟩; have HW6 := zz_ (zG HW5.out hb); clear hb))
  go_ret
  exact ⟨rfl, HW6.out⟩
def ofB (k : Nat) (s : ByteArray) (n : Int) : Bool := match token_Line.f k s with
  | some (ts, i) => match expr_All.f k ts with
    | some (o, x, m, l, j) => decide (i = 0) && decide (j = 0) && decide (expr_Eval0.f k o x m l 0 = some (n, 0)) && decide (expr_Show.f k o x m l = some (s, 0))
    | none => false
  | none => false
theorem of_good (s : ByteArray) (n : Int) (h : ∃ k, ofB k s n = true) (w : World) (hG : Aside0 (G0 w)) : Calls Tryd.prog 75 #[.string s, .int .u16 n] w fun e w' => e = .returned (.bool true) ∧ Below w.heap.size w w' := by
  obtain ⟨k, h⟩ := h
  unfold ofB at h
  cases h1 : token_Line.f k s with
  | none => rw [h1] at h; cases h
  | some p =>
    obtain ⟨ts, i⟩ := p
    rw [h1] at h
    simp only at h
    cases h2 : expr_All.f k ts with
    | none => rw [h2] at h; cases h
    | some q =>
      obtain ⟨o, x, m, l, j⟩ := q
      rw [h2] at h
      simp only [Bool.and_eq_true, decide_eq_true_eq] at h
      obtain ⟨⟨⟨rfl, rfl⟩, h3⟩, h4⟩ := h
      exact of_calls k s n ts ⟨o, x, m, l⟩ w hG h1 h2 h3 h4 (beq_self_eq_true _)
set_option maxRecDepth 100000 in
theorem o1 : ∃ k, ofB k (⟨#[49, 32, 43, 32, 50, 32, 42, 32, 51]⟩ : ByteArray) 7 = true := ⟨40, by decide +kernel⟩
set_option maxRecDepth 100000 in
theorem o2 : ∃ k, ofB k (⟨#[78, 79, 84, 32, 48, 32, 65, 78, 68, 32, 48, 70, 72]⟩ : ByteArray) 15 = true := ⟨40, by decide +kernel⟩
set_option maxRecDepth 100000 in
theorem o3 : ∃ k, ofB k (⟨#[40, 32, 49, 32, 43, 32, 50, 32, 41, 32, 42, 32, 51]⟩ : ByteArray) 9 = true := ⟨40, by decide +kernel⟩
set_option maxHeartbeats 16000000 in
set_option maxRecDepth 100000 in
theorem alive_calls (w : World) (hG : Aside0 (G0 w)) : Calls Tryd.prog 39 #[] w fun e w' => e = .returned (.bool true) ∧ Below w.heap.size w w' := by
  have HW0 := zz_ (Below.refl w.heap.size w)
  go_enter Tryd.func39, Tryd.ntmps39
  go_wp2_with (first | (go_at_call 75; (with_reducible refine (of_good (⟨#[49, 32, 43, 32, 50, 32, 42, 32, 51]⟩ : ByteArray) 7 o1 _ ⟨G0.below hG.out HW0.out⟩).mono ?_); rintro ex w1 ⟨rfl, hb⟩; have HW1 := zz_ (zG HW0.out hb); clear hb) | (go_at_call 75; (with_reducible refine (of_good (⟨#[78, 79, 84, 32, 48, 32, 65, 78, 68, 32, 48, 70, 72]⟩ : ByteArray) 15 o2 _ ⟨G0.below hG.out HW1.out⟩).mono ?_); rintro ex w2 ⟨rfl, hb⟩; have HW2 := zz_ (zG HW1.out hb); clear hb) | (go_at_call 75; (with_reducible refine (of_good (⟨#[40, 32, 49, 32, 43, 32, 50, 32, 41, 32, 42, 32, 51]⟩ : ByteArray) 9 o3 _ ⟨G0.below hG.out HW2.out⟩).mono ?_); rintro ex w3 ⟨rfl, hb⟩; have HW3 := zz_ (zG HW2.out hb); clear hb))
  go_ret
  exact ⟨rfl, HW3.out⟩
end Go.Proofs.YtejhagejjogbaaaDoor.AliveC
end
section
namespace Go.Proofs.YtejhagejjogbaaaDoor.EvalsC
open Go.RowKit YtejhagejjogbaaaDoorW.PrintWords YtejhagejjogbaaaDoorW.PrintLast YtejhagejjogbaaaDoorW.PrintMore Given Pn Pa Pb Qa Qc Qf Num PsrC PsrD PsrF EvB EvC LawC
def SymAt (gl : Nat) (A : Option Addr) (c : Nat) (l : List S98) (W : World) : Prop := W.heap[gl]? = some (.cells #[.slice A l.length c] 51 (0, 0)) ∧ Kd.C k98 W A l.length l
theorem SymAt.below {gl : Nat} {A : Option Addr} {c : Nat} {l : List S98} {W W' : World} (h : SymAt gl A c l W) (hb : Below W.heap.size W W') : SymAt gl A c l W' := ⟨zK h.1 hb, Kd.zV h.2 hb⟩
set_option maxHeartbeats 8000000 in
set_option maxRecDepth 100000 in
theorem find_calls (gl : Nat) (A : Option Addr) (c : Nat) (l : List S98) (hc : l.length ≤ c) (k : Nat) (s : ByteArray) (r1 r2 : Int) (h : pidginref05_Find.f k l s = some (r1, r2)) (w : World) (hI : SymAt gl A c l w) :
    Calls Tryd.prog 41 #[.string s, .pointer (some ⟨gl, 0, none⟩)] w fun e w' => e = .returned (.tuple #[.int .u16 r1, .int .i64 r2]) ∧ Below w.heap.size w w' := by
  have H := zz_ h
  have HI := zz_ hI.2
  have HC := zz_ hc
  have x0 : w.cell? ⟨gl, 0, none⟩ = some (.slice A l.length c) := (zD hI.1 0).trans rfl
  have f0 := zE hI.1 0
  clear h hI hc
  go_enter Tryd.func41, Tryd.ntmps41
  go_wp2_with (go_at_call 42; (with_reducible refine (pidginref05_Find.calls k A c l s r1 r2 _ HI.out HC.out H.out).mono ?_); rintro ex w1 ⟨rfl, hd⟩; have HW1 := zz_ hd.below; clear hd)
  go_ret2
  exact ⟨rfl, HW1.out⟩
theorem vok_find (gl : Nat) (A : Option Addr) (c : Nat) (l : List S98) (hc : l.length ≤ c) (F : ByteArray → Int × Int) (hF : ∀ s, ∃ k, pidginref05_Find.f k l s = some (F s)) : VOk 41 #[.pointer (some ⟨gl, 0, none⟩)] F (SymAt gl A c l) where
  fn := ⟨_, Tryd.func41, by kernel_rfl, rfl⟩
  go := fun s W hI => by
    obtain ⟨k, hk⟩ := hF s
    exact find_calls gl A c l hc k s (F s).1 (F s).2 hk W hI
  keep := fun _ _ h hb => h.below hb
set_option maxHeartbeats 32000000 in
set_option maxRecDepth 100000 in
theorem evals_large (k : Nat) (a : S50) (A : Option Addr) (c : Nat) (here : Int) (B : Option Addr) (d : Nat) (l : List S98)  (w : World) (hG : Aside0 (G0 w)) (hra : Kd.C k50 w A a.f3.length a.f3) (hca : a.f3.length ≤ c) (hrl : Kd.C k98 w B l.length l) (hcl : l.length ≤ d)
    (h1 : pidginlaw05_small.f k a.f0 a.f1 a.f2 a.f3 = some false) : Calls Tryd.prog 10 #[.agg #[.string a.f0, .int .u16 a.f1, .string a.f2, .slice A a.f3.length c], .int .u16 here, .slice B l.length d] w fun e w' => e = .returned (.bool true) ∧ Below w.heap.size w w' := by
  have hu50 := Tryd.underlying50
  have HRa := zz_ hra
  have HCa := zz_ hca
  have HRl := zz_ hrl
  have HCl := zz_ hcl
  have H1 := zz_ h1
  clear hra hca hrl hcl h1
  have HW0 := zz_ (Below.refl w.heap.size w)
  go_enter Tryd.func10, Tryd.ntmps10
  go_wp2_with (first | ((with_reducible refine zS (N := 3) rfl ?_); refine zO ?hg (N := 3) ?hd (cs := #[.string a.f0, .int .u16 a.f1, .string a.f2, .slice A a.f3.length c]) (t := 50) ?hr ?_; (case hd => rfl); (case hg => rfl); (case hr => first | (go_simp; done) | (go_simp; rfl)); intro ga hg w1 hbox hb; have HW1 := zz_ (zG HW0.out hb); have BK1 := zz_ hbox; clear hb hbox hg) | ((with_reducible refine zS (N := 5) rfl ?_); refine zO ?hg (N := 5) ?hd (cs := #[.slice B l.length d]) (t := 51) ?hr ?_; (case hd => rfl); (case hg => rfl); (case hr => first | (go_simp; done) | (go_simp; rfl)); intro gl hg w2 hbox hb; have HW2 := zz_ (zG HW1.out hb); have BK2 := zz_ (zK BK1.out hb); have BS2 := zz_ (show SymAt gl B d l w2 from ⟨hbox, Kd.zV HRl.out HW2.out⟩); obtain ⟨⟨x0, x1, x2, x3⟩, ⟨f0, f1, f2, f3⟩⟩ := blk50 BK2.out; have y0 : w2.cell? ⟨gl, 0, none⟩ = some (.slice B l.length d) := (zD BS2.out.1 0).trans rfl; have yf := zE BS2.out.1 0; clear hb hbox hg) | (go_at_call 38; (with_reducible refine (pidginlaw05_small.calls k a.f0 a.f1 a.f2 A c a.f3 false _ (Kd.zV HRa.out HW2.out) HCa.out H1.out).mono ?_); rintro ex w3 ⟨rfl, hb⟩; clear x0 x1 x2 x3 f0 f1 f2 f3 y0 yf; have HW3 := zz_ (zG HW2.out hb); have BK3 := zz_ (zK BK2.out hb); have BS3 := zz_ (BS2.out.below hb); obtain ⟨⟨x0, x1, x2, x3⟩, ⟨f0, f1, f2, f3⟩⟩ := blk50 BK3.out; have y0 : w3.cell? ⟨gl, 0, none⟩ = some (.slice B l.length d) := (zD BS3.out.1 0).trans rfl; have yf := zE BS3.out.1 0; clear hb) | (go_at_call 39; (with_reducible refine (AliveC.alive_calls _ ⟨G0.below hG.out HW3.out⟩).mono ?_); rintro ex w4 ⟨rfl, hb⟩; clear x0 x1 x2 x3 f0 f1 f2 f3 y0 yf; have HW4 := zz_ (zG HW3.out hb); have BK4 := zz_ (zK BK3.out hb); have BS4 := zz_ (BS3.out.below hb); obtain ⟨⟨x0, x1, x2, x3⟩, ⟨f0, f1, f2, f3⟩⟩ := blk50 BK4.out; have y0 : w4.cell? ⟨gl, 0, none⟩ = some (.slice B l.length d) := (zD BS4.out.1 0).trans rfl; have yf := zE BS4.out.1 0; clear hb))
  go_ret
  exact ⟨rfl, HW4.out⟩
set_option maxHeartbeats 32000000 in
set_option maxRecDepth 100000 in
theorem evals_many (k : Nat) (a : S50) (A : Option Addr) (c : Nat) (here : Int) (B : Option Addr) (d : Nat) (l : List S98)  (w : World) (hG : Aside0 (G0 w)) (hra : Kd.C k50 w A a.f3.length a.f3) (hca : a.f3.length ≤ c) (hrl : Kd.C k98 w B l.length l) (hcl : l.length ≤ d)
    (h1 : pidginlaw05_small.f k a.f0 a.f1 a.f2 a.f3 = some true) (hD : decide ((l.length : Int) > 100) = true) : Calls Tryd.prog 10 #[.agg #[.string a.f0, .int .u16 a.f1, .string a.f2, .slice A a.f3.length c], .int .u16 here, .slice B l.length d] w fun e w' => e = .returned (.bool true) ∧ Below w.heap.size w w' := by
  have hu50 := Tryd.underlying50
  have HRa := zz_ hra
  have HCa := zz_ hca
  have HRl := zz_ hrl
  have HCl := zz_ hcl
  have H1 := zz_ h1
  clear hra hca hrl hcl h1
  have HW0 := zz_ (Below.refl w.heap.size w)
  go_enter Tryd.func10, Tryd.ntmps10
  go_wp2_with (first | ((with_reducible refine zS (N := 3) rfl ?_); refine zO ?hg (N := 3) ?hd (cs := #[.string a.f0, .int .u16 a.f1, .string a.f2, .slice A a.f3.length c]) (t := 50) ?hr ?_; (case hd => rfl); (case hg => rfl); (case hr => first | (go_simp; done) | (go_simp; rfl)); intro ga hg w1 hbox hb; have HW1 := zz_ (zG HW0.out hb); have BK1 := zz_ hbox; clear hb hbox hg) | ((with_reducible refine zS (N := 5) rfl ?_); refine zO ?hg (N := 5) ?hd (cs := #[.slice B l.length d]) (t := 51) ?hr ?_; (case hd => rfl); (case hg => rfl); (case hr => first | (go_simp; done) | (go_simp; rfl)); intro gl hg w2 hbox hb; have HW2 := zz_ (zG HW1.out hb); have BK2 := zz_ (zK BK1.out hb); have BS2 := zz_ (show SymAt gl B d l w2 from ⟨hbox, Kd.zV HRl.out HW2.out⟩); obtain ⟨⟨x0, x1, x2, x3⟩, ⟨f0, f1, f2, f3⟩⟩ := blk50 BK2.out; have y0 : w2.cell? ⟨gl, 0, none⟩ = some (.slice B l.length d) := (zD BS2.out.1 0).trans rfl; have yf := zE BS2.out.1 0; clear hb hbox hg) | (go_at_call 38; (with_reducible refine (pidginlaw05_small.calls k a.f0 a.f1 a.f2 A c a.f3 true _ (Kd.zV HRa.out HW2.out) HCa.out H1.out).mono ?_); rintro ex w3 ⟨rfl, hb⟩; clear x0 x1 x2 x3 f0 f1 f2 f3 y0 yf; have HW3 := zz_ (zG HW2.out hb); have BK3 := zz_ (zK BK2.out hb); have BS3 := zz_ (BS2.out.below hb); obtain ⟨⟨x0, x1, x2, x3⟩, ⟨f0, f1, f2, f3⟩⟩ := blk50 BK3.out; have y0 : w3.cell? ⟨gl, 0, none⟩ = some (.slice B l.length d) := (zD BS3.out.1 0).trans rfl; have yf := zE BS3.out.1 0; clear hb) | (go_at_call 39; (with_reducible refine (AliveC.alive_calls _ ⟨G0.below hG.out HW3.out⟩).mono ?_); rintro ex w4 ⟨rfl, hb⟩; clear x0 x1 x2 x3 f0 f1 f2 f3 y0 yf; have HW4 := zz_ (zG HW3.out hb); have BK4 := zz_ (zK BK3.out hb); have BS4 := zz_ (BS3.out.below hb); obtain ⟨⟨x0, x1, x2, x3⟩, ⟨f0, f1, f2, f3⟩⟩ := blk50 BK4.out; have y0 : w4.cell? ⟨gl, 0, none⟩ = some (.slice B l.length d) := (zD BS4.out.1 0).trans rfl; have yf := zE BS4.out.1 0; clear hb))
  go_ret
  exact ⟨rfl, HW4.out⟩
set_option maxHeartbeats 32000000 in
set_option maxRecDepth 100000 in
theorem evals_go (k : Nat) (a : S50) (A : Option Addr) (c : Nat) (here : Int) (B : Option Addr) (d : Nat) (l : List S98) (F : ByteArray → Int × Int) (x q : Int) (w : World) (hG : Aside0 (G0 w)) (hra : Kd.C k50 w A a.f3.length a.f3) (hca : a.f3.length ≤ c) (hrl : Kd.C k98 w B l.length l) (hcl : l.length ≤ d)
    (h1 : pidginlaw05_small.f k a.f0 a.f1 a.f2 a.f3 = some true) (hD : decide ((l.length : Int) > 100) = false) (hF : ∀ s, ∃ k, pidginref05_Find.f k l s = some (F s)) (h2 : evalT k a here F = some (x, q)) (h3 : pidginref05_Eval.f k a.f0 a.f1 a.f2 a.f3 here l = some (x, q)) : Calls Tryd.prog 10 #[.agg #[.string a.f0, .int .u16 a.f1, .string a.f2, .slice A a.f3.length c], .int .u16 here, .slice B l.length d] w fun e w' => e = .returned (.bool true) ∧ Below w.heap.size w w' := by
  have hu50 := Tryd.underlying50
  have HRa := zz_ hra
  have HCa := zz_ hca
  have HRl := zz_ hrl
  have HCl := zz_ hcl
  have H1 := zz_ h1
  have H2 := zz_ h2
  have H3 := zz_ h3
  have HF := zz_ hF
  clear hra hca hrl hcl h1 h2 h3 hF
  have HW0 := zz_ (Below.refl w.heap.size w)
  go_enter Tryd.func10, Tryd.ntmps10
  go_wp2_with (first | ((with_reducible refine zS (N := 3) rfl ?_); refine zO ?hg (N := 3) ?hd (cs := #[.string a.f0, .int .u16 a.f1, .string a.f2, .slice A a.f3.length c]) (t := 50) ?hr ?_; (case hd => rfl); (case hg => rfl); (case hr => first | (go_simp; done) | (go_simp; rfl)); intro ga hg w1 hbox hb; have HW1 := zz_ (zG HW0.out hb); have BK1 := zz_ hbox; clear hb hbox hg) | ((with_reducible refine zS (N := 5) rfl ?_); refine zO ?hg (N := 5) ?hd (cs := #[.slice B l.length d]) (t := 51) ?hr ?_; (case hd => rfl); (case hg => rfl); (case hr => first | (go_simp; done) | (go_simp; rfl)); intro gl hg w2 hbox hb; have HW2 := zz_ (zG HW1.out hb); have BK2 := zz_ (zK BK1.out hb); have BS2 := zz_ (show SymAt gl B d l w2 from ⟨hbox, Kd.zV HRl.out HW2.out⟩); obtain ⟨⟨x0, x1, x2, x3⟩, ⟨f0, f1, f2, f3⟩⟩ := blk50 BK2.out; have y0 : w2.cell? ⟨gl, 0, none⟩ = some (.slice B l.length d) := (zD BS2.out.1 0).trans rfl; have yf := zE BS2.out.1 0; clear hb hbox hg) | (go_at_call 38; (with_reducible refine (pidginlaw05_small.calls k a.f0 a.f1 a.f2 A c a.f3 true _ (Kd.zV HRa.out HW2.out) HCa.out H1.out).mono ?_); rintro ex w3 ⟨rfl, hb⟩; clear x0 x1 x2 x3 f0 f1 f2 f3 y0 yf; have HW3 := zz_ (zG HW2.out hb); have BK3 := zz_ (zK BK2.out hb); have BS3 := zz_ (BS2.out.below hb); obtain ⟨⟨x0, x1, x2, x3⟩, ⟨f0, f1, f2, f3⟩⟩ := blk50 BK3.out; have y0 : w3.cell? ⟨gl, 0, none⟩ = some (.slice B l.length d) := (zD BS3.out.1 0).trans rfl; have yf := zE BS3.out.1 0; clear hb) | (go_at_call 40; refine (eval_fn k a here x q A c _ (vok_find gl B d l HCl.out F HF.out) BS3.out H2.out (Kd.zV HRa.out HW3.out) HCa.out).mono ?_; rintro ex w4 ⟨rfl, hb⟩; clear x0 x1 x2 x3 f0 f1 f2 f3 y0 yf; have HW4 := zz_ (zG HW3.out hb); have BK4 := zz_ (zK BK3.out hb); have BS4 := zz_ (BS3.out.below hb); obtain ⟨⟨x0, x1, x2, x3⟩, ⟨f0, f1, f2, f3⟩⟩ := blk50 BK4.out; have y0 : w4.cell? ⟨gl, 0, none⟩ = some (.slice B l.length d) := (zD BS4.out.1 0).trans rfl; have yf := zE BS4.out.1 0; clear hb) | (go_at_call 43; (with_reducible refine (pidginref05_Eval.calls k a.f0 a.f1 a.f2 A c a.f3 here B d l x q _ (Kd.zV HRa.out HW4.out) HCa.out (Kd.zV HRl.out HW4.out) HCl.out H3.out).mono ?_); rintro ex w5 ⟨rfl, hb⟩; clear x0 x1 x2 x3 f0 f1 f2 f3 y0 yf; have HW5 := zz_ (zG HW4.out hb); have BK5 := zz_ (zK BK4.out hb); have BS5 := zz_ (BS4.out.below hb); obtain ⟨⟨x0, x1, x2, x3⟩, ⟨f0, f1, f2, f3⟩⟩ := blk50 BK5.out; have y0 : w5.cell? ⟨gl, 0, none⟩ = some (.slice B l.length d) := (zD BS5.out.1 0).trans rfl; have yf := zE BS5.out.1 0; clear hb) | (go_at_call 39; (with_reducible refine (AliveC.alive_calls _ ⟨G0.below hG.out HW5.out⟩).mono ?_); rintro ex w6 ⟨rfl, hb⟩; clear x0 x1 x2 x3 f0 f1 f2 f3 y0 yf; have HW6 := zz_ (zG HW5.out hb); have BK6 := zz_ (zK BK5.out hb); have BS6 := zz_ (BS5.out.below hb); obtain ⟨⟨x0, x1, x2, x3⟩, ⟨f0, f1, f2, f3⟩⟩ := blk50 BK6.out; have y0 : w6.cell? ⟨gl, 0, none⟩ = some (.slice B l.length d) := (zD BS6.out.1 0).trans rfl; have yf := zE BS6.out.1 0; clear hb))
  go_ret
  exact ⟨rfl, HW6.out⟩
end Go.Proofs.YtejhagejjogbaaaDoor.EvalsC
end
section
namespace Go.Proofs.YtejhagejjogbaaaDoor.Ee
open Go.RowKit YtejhagejjogbaaaDoorW.PrintWords YtejhagejjogbaaaDoorW.PrintLast YtejhagejjogbaaaDoorW.PrintMore Given Pn Pa Pb Qa Qc Qf Num AnyNot EvB EvC LawC Right.R Par SameC EvalsC
theorem and_i64 {z : Int} (h0 : -4611686018427387904 ≤ z) (h1 : z ≤ 4611686018427387904) : Go.bits .and .i64 z 65535 = z % 65536 := by
  unfold Go.bits
  have e : (BitVec.ofInt IntKind.i64.bits z &&& BitVec.ofInt IntKind.i64.bits 65535).toNat = (z % 65536).toNat := by
    rw [show IntKind.i64.bits = 64 from rfl, BitVec.toNat_and]
    rw [show (BitVec.ofInt 64 65535).toNat = 2 ^ 16 - 1 by rfl, Nat.and_two_pow_sub_one_eq_mod, BitVec.toNat_ofInt]
    show (z % 18446744073709551616).toNat % 65536 = (z % 65536).toNat
    omega
  simp only [e]
  rw [i64_w, w64 (by omega) (by omega)]
  omega
theorem and_u64 {z : Int} (h0 : 0 ≤ z) (h1 : z ≤ 4611686018427387904) : Go.bits .and .u64 z 65535 = z % 65536 := by
  unfold Go.bits
  have e : (BitVec.ofInt IntKind.u64.bits z &&& BitVec.ofInt IntKind.u64.bits 65535).toNat = (z % 65536).toNat := by
    rw [show IntKind.u64.bits = 64 from rfl, BitVec.toNat_and]
    rw [show (BitVec.ofInt 64 65535).toNat = 2 ^ 16 - 1 by rfl, Nat.and_two_pow_sub_one_eq_mod, BitVec.toNat_ofInt]
    show (z % 18446744073709551616).toNat % 65536 = (z % 65536).toNat
    omega
  simp only [e]
  show ((z % 65536).toNat : Int) % 18446744073709551616 = z % 65536
  omega
theorem wrap_rng (n : Int) : 0 ≤ IntKind.u16.wrap n ∧ IntKind.u16.wrap n ≤ 65535 := by
  show 0 ≤ n % 65536 ∧ n % 65536 ≤ 65535
  omega
theorem wrap_mod (n : Int) : IntKind.u16.wrap (n % 65536) = IntKind.u16.wrap n := by
  show n % 65536 % 65536 = n % 65536
  omega
theorem wrap_mul (a b : Int) : IntKind.u16.wrap (IntKind.u16.wrap a * b) = IntKind.u16.wrap (a * b) := by
  show (a % 65536 * b) % 65536 = (a * b) % 65536
  rw [Int.mul_emod, Int.emod_emod_of_dvd a (Int.dvd_refl 65536), ← Int.mul_emod]
def findP : List S98 → ByteArray → Int × Int
  | [], _ => (0, 3)
  | s :: l, n => if s.f0.toList = n.toList then (s.f1, 0) else findP l n
theorem rd98_at (l : List S98) (i : Nat) (h : i < l.length) : rd_T98 l (i : Int) = l[i] := by
  simp [rd_T98, List.getD_eq_getElem?_getD, List.getElem?_eq_getElem h]
theorem find_l0 (l : List S98) (n : ByteArray) (hs : l.length ≤ 1000) (d : Nat) : ∀ i : Nat, i + d = l.length → Ev (fun k => pidginref05_Find.l0 k l n (i : Int)) (findP (l.drop i) n) := by
  induction d with
  | zero =>
    intro i hi
    refine Ev.step (fun k => rfl) ?_
    simp only [pidginref05_Find.l0, if_neg (show ¬ (i : Int) < (l.length : Int) by omega)]
    rw [List.drop_of_length_le (by omega)]
    exact Ev.now _
  | succ d ih =>
    intro i hi
    have h1 : i < l.length := by omega
    refine Ev.step (fun k => rfl) ?_
    simp only [pidginref05_Find.l0, if_pos (show (i : Int) < (l.length : Int) by omega), if_pos (show (0 : Int) ≤ (i : Int) by omega), rd98_at l i h1]
    rw [List.drop_eq_getElem_cons h1, findP]
    by_cases h : l[i].f0.toList = n.toList
    · simp only [if_pos h]; exact Ev.now _
    · simp only [if_neg h, show wrap64 ((i : Int) + 1) = ((i + 1 : Nat) : Int) from (w64 (by omega) (by omega)).trans (by omega)]
      exact ih (i + 1) (by omega)
theorem find_ev (l : List S98) (n : ByteArray) (hs : l.length ≤ 1000) : Ev (fun k => pidginref05_Find.f k l n) (findP l n) := by
  have := find_l0 l n hs l.length 0 (by omega)
  rw [List.drop_zero] at this
  exact this
theorem find_rng {l : List S98} (h : ∀ s ∈ l, 0 ≤ s.f1 ∧ s.f1 ≤ 65535) (n : ByteArray) : 0 ≤ (findP l n).1 ∧ (findP l n).1 ≤ 65535 := by
  induction l with
  | nil => exact ⟨Int.le_refl 0, by show (0 : Int) ≤ 65535; decide⟩
  | cons s l ih =>
    rw [findP]
    by_cases hs : s.f0.toList = n.toList
    · rw [if_pos hs]; exact h s (by simp)
    · rw [if_neg hs]; exact ih fun t ht => h t (by simp [ht])
theorem power_l0 (y : Int) (hy : 0 ≤ y) (d : Nat) : ∀ (i : Nat) (x : Int), 0 ≤ x → x ≤ 65535 → i + d = min y.toNat 16 → Ev (fun k => pidginref05_power.l0 k x y (i : Int)) (IntKind.u16.wrap (x * 2 ^ d)) := by
  induction d with
  | zero =>
    intro i x x0 x1 hi
    refine Ev.step (fun k => rfl) ?_
    have e : IntKind.u16.wrap (x * 2 ^ 0) = x := by rw [Int.pow_zero, Int.mul_one]; exact wrap_small x0 x1
    rw [e]
    by_cases h : (i : Int) < y
    · simp only [pidginref05_power.l0, if_pos h, if_neg (show ¬ (i : Int) < 16 by omega)]; exact Ev.now _
    · simp only [pidginref05_power.l0, if_neg h]; exact Ev.now _
  | succ d ih =>
    intro i x x0 x1 hi
    refine Ev.step (fun k => rfl) ?_
    simp only [pidginref05_power.l0, if_pos (show (i : Int) < y by omega), if_pos (show (i : Int) < 16 by omega), show IntKind.u16.wrap ((i : Int) + 1) = ((i + 1 : Nat) : Int) from (wrap_small (by omega) (by omega)).trans (by omega)]
    have := ih (i + 1) (IntKind.u16.wrap (x * 2)) (wrap_rng _).1 (wrap_rng _).2 (by omega)
    rw [wrap_mul, Int.mul_assoc, show (2 : Int) * 2 ^ d = 2 ^ (d + 1) by rw [Int.pow_succ, Int.mul_comm]] at this
    exact this
theorem half_l0 (y : Int) (hy : 0 ≤ y) (d : Nat) : ∀ (i : Nat) (x : Int), 0 ≤ x → x ≤ 65535 → i + d = min y.toNat 16 → Ev (fun k => pidginref05_half.l0 k x y (i : Int)) (x / 2 ^ d) := by
  induction d with
  | zero =>
    intro i x x0 x1 hi
    refine Ev.step (fun k => rfl) ?_
    have e : x / 2 ^ 0 = x := by rw [Int.pow_zero, Int.ediv_one]
    rw [e]
    by_cases h : (i : Int) < y
    · simp only [pidginref05_half.l0, if_pos h, if_neg (show ¬ (i : Int) < 16 by omega)]; exact Ev.now _
    · simp only [pidginref05_half.l0, if_neg h]; exact Ev.now _
  | succ d ih =>
    intro i x x0 x1 hi
    refine Ev.step (fun k => rfl) ?_
    have eh : IntKind.u16.wrap (Int.tdiv x 2) = x / 2 := by rw [Int.tdiv_eq_ediv_of_nonneg x0]; exact wrap_small (by omega) (by omega)
    simp only [pidginref05_half.l0, if_pos (show (i : Int) < y by omega), if_pos (show (i : Int) < 16 by omega), show IntKind.u16.wrap ((i : Int) + 1) = ((i + 1 : Nat) : Int) from (wrap_small (by omega) (by omega)).trans (by omega), eh]
    have := ih (i + 1) (x / 2) (by omega) (by omega) (by omega)
    rw [Int.ediv_ediv_of_nonneg (by decide), show (2 : Int) * 2 ^ d = 2 ^ (d + 1) by rw [Int.pow_succ, Int.mul_comm]] at this
    exact this
def TwoOk (op : List UInt8) (x y : Int) : Prop := ∃ r, expr_two.f ⟨op.toArray⟩ x y = some r ∧ Ev (fun k => pidginref05_two.f k ⟨op.toArray⟩ x y) r ∧ 0 ≤ r.1 ∧ r.1 ≤ 65535
theorem two_ok {op : List UInt8} {rk : Int} (hop : (op, rk) ∈ binops) {x y : Int} (x0 : 0 ≤ x) (x1 : x ≤ 65535) (y0 : 0 ≤ y) (y1 : y ≤ 65535) : TwoOk op x y := by
  simp only [binops, List.mem_cons, Prod.mk.injEq, List.mem_nil_iff, or_false] at hop
  have wx : wrap64 x = x := w64 (by omega) (by omega)
  have wy : wrap64 y = y := w64 (by omega) (by omega)
  rcases hop with ⟨rfl, _⟩ | ⟨rfl, _⟩ | ⟨rfl, _⟩ | ⟨rfl, _⟩ | ⟨rfl, _⟩ | ⟨rfl, _⟩ | ⟨rfl, _⟩ | ⟨rfl, _⟩ | ⟨rfl, _⟩ | ⟨rfl, _⟩
  · exact ⟨(Go.bits .or .u16 x y, 0), by unfold expr_two.f; simp only [Lib.toList_data]; rfl, Ev.congr (f := fun _ => some (Go.bits .or .u16 x y, 0)) (fun k => by unfold pidginref05_two.f; simp only [Lib.toList_data]; rfl) (Ev.now _), wrap_rng _⟩
  · exact ⟨(Go.bits .xor .u16 x y, 0), by unfold expr_two.f; simp only [Lib.toList_data]; rfl, Ev.congr (f := fun _ => some (Go.bits .xor .u16 x y, 0)) (fun k => by unfold pidginref05_two.f; simp only [Lib.toList_data]; rfl) (Ev.now _), wrap_rng _⟩
  · exact ⟨(Go.bits .and .u16 x y, 0), by unfold expr_two.f; simp only [Lib.toList_data]; rfl, Ev.congr (f := fun _ => some (Go.bits .and .u16 x y, 0)) (fun k => by unfold pidginref05_two.f; simp only [Lib.toList_data]; rfl) (Ev.now _), wrap_rng _⟩
  · refine ⟨(IntKind.u16.wrap (x + y), 0), by unfold expr_two.f; simp only [Lib.toList_data]; rfl, Ev.congr (f := fun _ => some (IntKind.u16.wrap (Go.bits .and .i64 (wrap64 (wrap64 x + wrap64 y)) 65535), 0)) (fun k => by unfold pidginref05_two.f; simp only [Lib.toList_data]; rfl) ?_, wrap_rng _⟩
    rw [wx, wy, w64 (by omega) (by omega), and_i64 (by omega) (by omega), wrap_mod]; exact Ev.now _
  · refine ⟨(IntKind.u16.wrap (x - y), 0), by unfold expr_two.f; simp only [Lib.toList_data]; rfl, Ev.congr (f := fun _ => some (IntKind.u16.wrap (Go.bits .and .i64 (wrap64 (wrap64 x - wrap64 y)) 65535), 0)) (fun k => by unfold pidginref05_two.f; simp only [Lib.toList_data]; rfl) ?_, wrap_rng _⟩
    rw [wx, wy, w64 (by omega) (by omega), and_i64 (by omega) (by omega), wrap_mod]; exact Ev.now _
  · refine ⟨(IntKind.u16.wrap (x * y), 0), by unfold expr_two.f; simp only [Lib.toList_data]; rfl, Ev.congr (f := fun _ => some (IntKind.u16.wrap (Go.bits .and .u64 (IntKind.u64.wrap (IntKind.u64.wrap x * IntKind.u64.wrap y)) 65535), 0)) (fun k => by unfold pidginref05_two.f; simp only [Lib.toList_data]; rfl) ?_, wrap_rng _⟩
    have p0 : 0 ≤ x * y := Int.mul_nonneg x0 y0
    have p1 : x * y ≤ 65535 * 65535 := Int.mul_le_mul x1 y1 y0 (by decide)
    have u : ∀ z : Int, 0 ≤ z → z ≤ 65535 * 65535 → IntKind.u64.wrap z = z := fun z h0 h1 => by
      show z % 18446744073709551616 = z
      omega
    rw [u x x0 (by omega), u y y0 (by omega), u _ p0 p1, and_u64 p0 (by omega), wrap_mod]; exact Ev.now _
  · by_cases h : y = 0
    · subst h
      exact ⟨(0, 5), by unfold expr_two.f; simp only [Lib.toList_data]; rfl, Ev.congr (f := fun _ => some (0, 5)) (fun k => by unfold pidginref05_two.f; simp only [Lib.toList_data]; rfl) (Ev.now _), Int.le_refl 0, by show (0 : Int) ≤ 65535; decide⟩
    · refine ⟨(IntKind.u16.wrap (Int.tdiv x y), 0), (tdiv_ev x y).trans (if_neg h), Ev.congr (f := fun _ => if y = 0 then some (0, 5) else some (IntKind.u16.wrap (Int.tdiv x y), 0)) (fun k => by unfold pidginref05_two.f; simp only [Lib.toList_data]; rfl) ?_, wrap_rng _⟩
      rw [if_neg h]; exact Ev.now _
  · by_cases h : y = 0
    · subst h
      exact ⟨(0, 5), by unfold expr_two.f; simp only [Lib.toList_data]; rfl, Ev.congr (f := fun _ => some (0, 5)) (fun k => by unfold pidginref05_two.f; simp only [Lib.toList_data]; rfl) (Ev.now _), Int.le_refl 0, by show (0 : Int) ≤ 65535; decide⟩
    · refine ⟨(Int.tmod x y, 0), (tmod_ev x y).trans (if_neg h), Ev.congr (f := fun _ => if y = 0 then some (0, 5) else some (Int.tmod x y, 0)) (fun k => by unfold pidginref05_two.f; simp only [Lib.toList_data]; rfl) ?_, ?_⟩
      · rw [if_neg h]; exact Ev.now _
      · show 0 ≤ Int.tmod x y ∧ Int.tmod x y ≤ 65535
        rw [Int.tmod_eq_emod_of_nonneg x0]
        have m0 := Int.emod_nonneg x h
        have m1 := Int.emod_lt_of_pos x (show 0 < y by omega)
        omega
  · refine ⟨(shl .u16 x y, 0), (tshl_ev x y).trans (if_pos y0), Ev.congr (f := fun k => (pidginref05_power.f k x y).bind fun t => some (t, 0)) (fun k => by unfold pidginref05_two.f; simp only [Lib.toList_data]; rfl) (Ev.bind (a := shl .u16 x y) ?_ (Ev.now _)), wrap_rng _⟩
    exact power_l0 y y0 (min y.toNat 16) 0 x x0 x1 (by omega)
  · refine ⟨(shr .u16 x y, 0), (tshr_ev x y).trans (if_pos y0), Ev.congr (f := fun k => (pidginref05_half.f k x y).bind fun t => some (t, 0)) (fun k => by unfold pidginref05_two.f; simp only [Lib.toList_data]; rfl) (Ev.bind (a := shr .u16 x y) ?_ (Ev.now _)), ?_⟩
    · exact half_l0 y y0 (min y.toNat 16) 0 x x0 x1 (by omega)
    · show 0 ≤ x / 2 ^ min y.toNat 16 ∧ x / 2 ^ min y.toNat 16 ≤ 65535
      have hp : (0 : Int) ≤ 2 ^ min y.toNat 16 := Int.pow_nonneg (by decide)
      have q0 : 0 ≤ x / 2 ^ min y.toNat 16 := Int.ediv_nonneg x0 hp
      have q1 : x / 2 ^ min y.toNat 16 ≤ x := Int.ediv_le_self _ x0
      omega
end Go.Proofs.YtejhagejjogbaaaDoor.Ee
end
section
namespace Go.Proofs.YtejhagejjogbaaaDoor.Ee
open Go.RowKit YtejhagejjogbaaaDoorW.PrintWords YtejhagejjogbaaaDoorW.PrintLast YtejhagejjogbaaaDoorW.PrintMore Given Pn Pa Pb Qa Qc Qf Num AnyNot EvB EvC LawC Right.R Par SameC EvalsC
theorem rank_ev (o : ByteArray) : Ev (fun k => pidginref05_rank.f k o) (bindsL o.data.toList) := by
  refine ⟨4, fun k hk => ?_⟩
  obtain ⟨m, rfl⟩ : ∃ m, k = m + 4 := ⟨k - 4, by omega⟩
  simp only [pidginref05_rank.f, pidginref05_rank.j0, pidginref05_rank.j1, pidginref05_rank.j2, Lib.toList_data]
  generalize o.data.toList = t
  by_cases h1 : t = [79, 82]
  · subst h1; rfl
  by_cases h2 : t = [88, 79, 82]
  · subst h2; rfl
  by_cases h3 : t = [65, 78, 68]
  · subst h3; rfl
  by_cases h4 : t = [78, 79, 84]
  · subst h4; rfl
  by_cases h5 : t = [43]
  · subst h5; rfl
  by_cases h6 : t = [45]
  · subst h6; rfl
  by_cases h7 : t = [42]
  · subst h7; rfl
  by_cases h8 : t = [47]
  · subst h8; rfl
  by_cases h9 : t = [77, 79, 68]
  · subst h9; rfl
  by_cases h10 : t = [83, 72, 76]
  · subst h10; rfl
  by_cases h11 : t = [83, 72, 82]
  · subst h11; rfl
  by_cases h12 : t = [78, 69, 71]
  · subst h12; rfl
  by_cases h13 : t = [35]
  · subst h13; rfl
  by_cases h14 : t = [110]
  · subst h14; rfl
  by_cases h15 : t = [36]
  · subst h15; rfl
  simp [bindsL, h1, h2, h3, h4, h5, h6, h7, h8, h9, h10, h11, h12, h13, h14, h15]
theorem word_at (s : ByteArray) : pidginref05_Word.f s = some (wordL s.data.toList) := by
  simp only [pidginref05_Word.f, Lib.toList_data]
  generalize s.data.toList = t
  by_cases h1 : t = [79, 82]
  · subst h1; rfl
  by_cases h2 : t = [88, 79, 82]
  · subst h2; rfl
  by_cases h3 : t = [65, 78, 68]
  · subst h3; rfl
  by_cases h4 : t = [78, 79, 84]
  · subst h4; rfl
  by_cases h5 : t = [77, 79, 68]
  · subst h5; rfl
  by_cases h6 : t = [83, 72, 76]
  · subst h6; rfl
  by_cases h7 : t = [83, 72, 82]
  · subst h7; rfl
  simp [wordL, h1, h2, h3, h4, h5, h6, h7]
theorem rr_fail (e : S50) (d m : Int) : Ev (fun k => pidginref05_right.j0 k d m true e.f0 e.f1 e.f2 e.f3) false := by
  refine Ev.step (fun k => rfl) ?_
  simp only [pidginref05_right.j0, if_true]
  exact Ev.now _
theorem rr_l0 (n : Nat) (hn : n ≤ 24) (o m : ByteArray) (x : Int) (l : List S50) (hl : l.length ≤ 3)
    (ih : ∀ e ∈ l, Ev (fun k => pidginref05_right.f k e.f0 e.f1 e.f2 e.f3 (25 - (n : Int))) (rightN n e)) (d : Nat) : ∀ i : Nat, i + d = l.length →
    Ev (fun k => pidginref05_right.l0 k (24 - (n : Int)) (l.length : Int) (i : Int) o x m l) ((l.drop i).all (rightN n)) := by
  induction d with
  | zero =>
    intro i hi
    refine Ev.step (fun k => rfl) ?_
    simp only [pidginref05_right.l0, if_neg (show ¬ (i : Int) < (l.length : Int) by omega)]
    rw [List.drop_of_length_le (by omega)]
    exact Ev.now _
  | succ d ihd =>
    intro i hi
    have h1 : i < l.length := by omega
    refine Ev.step (fun k => rfl) ?_
    have e1 : wrap64 (24 - (n : Int) + 1) = 25 - (n : Int) := (w64 (by omega) (by omega)).trans (by omega)
    simp only [pidginref05_right.l0, if_pos (show (i : Int) < (l.length : Int) by omega), if_pos (show (0 : Int) ≤ (i : Int) by omega), rd50_at l i h1, e1]
    refine Ev.bind (ih l[i] (List.getElem_mem h1)) ?_
    rw [List.drop_eq_getElem_cons h1, List.all_cons]
    cases rightN n l[i] with
    | true =>
      simp only [if_true, Bool.true_and, show wrap64 ((i : Int) + 1) = ((i + 1 : Nat) : Int) from (w64 (by omega) (by omega)).trans (by omega)]
      exact ihd (i + 1) (by omega)
    | false => simp only [Bool.false_eq_true, if_false, Bool.false_and]; exact Ev.now _
theorem rr_j0 (n : Nat) (hn : n ≤ 24) (e : S50) (hl : e.f3.length ≤ 3) (hz : e.f2.size ≤ 50)
    (ih : ∀ e' ∈ e.f3, Ev (fun k => pidginref05_right.f k e'.f0 e'.f1 e'.f2 e'.f3 (25 - (n : Int))) (rightN n e')) :
    Ev (fun k => pidginref05_right.j0 k (24 - (n : Int)) (e.f3.length : Int) false e.f0 e.f1 e.f2 e.f3) ((if e.f0.data.toList = [110] then namedL e.f2.data.toList else e.f2.data.toList == []) && e.f3.all (rightN n)) := by
  have hj : Ev (fun k => pidginref05_right.j1 k (24 - (n : Int)) (e.f3.length : Int) e.f0 e.f1 e.f2 e.f3) (e.f3.all (rightN n)) := by
    refine Ev.step (fun k => rfl) ?_
    simp only [pidginref05_right.j1]
    have := rr_l0 n hn e.f0 e.f2 e.f1 e.f3 hl ih e.f3.length 0 (by omega)
    rw [List.drop_zero] at this
    exact this
  refine Ev.step (fun k => rfl) ?_
  simp only [pidginref05_right.j0, Lib.toList_data, Bool.false_eq_true, if_false]
  by_cases h : e.f0.data.toList = [110]
  · simp only [if_pos h]
    refine Ev.bind (ref_name e.f2 (by omega)) ?_
    have hn' : nameL (L e.f2) = nameQ e.f2.data.toList := (Right.nameQ_eq _).symm
    rw [hn']
    unfold namedL
    cases hq : nameQ e.f2.data.toList with
    | false => simp only [Bool.false_eq_true, if_false, Bool.false_and]; exact Ev.now _
    | true =>
      simp only [if_true, Bool.true_and]
      refine Ev.bind (ref_upper e.f2 (by omega)) ?_
      have hu : (upB e.f2).data.toList = e.f2.data.toList.map up1 := L_up e.f2
      simp only [hu]
      by_cases h2 : e.f2.data.toList.map up1 = e.f2.data.toList
      · simp only [if_pos h2, h2, beq_self_eq_true, Bool.true_and, word_at, Option.bind_some]
        cases wordL e.f2.data.toList with
        | true => simp only [if_true, Bool.not_true, Bool.false_and]; exact Ev.now _
        | false => simp only [Bool.false_eq_true, if_false, Bool.not_false, Bool.true_and]; exact hj
      · simp only [if_neg h2, beq_eq_false_iff_ne.mpr h2, Bool.false_and]; exact Ev.now _
  · simp only [if_neg h]
    by_cases h2 : e.f2.data.toList = []
    · simp only [if_pos h2, h2, beq_self_eq_true, Bool.true_and]; exact hj
    · simp only [if_neg h2, beq_eq_false_iff_ne.mpr h2, Bool.false_and]; exact Ev.now _
theorem rr_ev (n : Nat) : n ≤ 24 → ∀ e : S50, lightN (n + 16) e = true → Ev (fun k => pidginref05_right.f k e.f0 e.f1 e.f2 e.f3 (25 - (n : Int))) (rightN n e) := by
  induction n with
  | zero =>
    intro _ e h
    refine Ev.step (fun k => rfl) ?_
    simp only [pidginref05_right.f]
    refine Ev.bind (rank_ev e.f0) ?_
    simp only [if_pos (show (25 : Int) - ((0 : Nat) : Int) > 24 by decide)]
    exact rr_fail e _ _
  | succ n ih =>
    intro hn e h
    rw [show n + 1 + 16 = (n + 16) + 1 by omega, lightN] at h
    simp only [Bool.and_eq_true, decide_eq_true_eq] at h
    obtain ⟨⟨⟨hl, _⟩, hz⟩, hs⟩ := h
    have ih' : ∀ e' ∈ e.f3, Ev (fun k => pidginref05_right.f k e'.f0 e'.f1 e'.f2 e'.f3 (25 - (n : Int))) (rightN n e') := fun e' he => ih (by omega) e' (List.all_eq_true.1 hs e' he)
    have e25 : (25 : Int) - ((n + 1 : Nat) : Int) = 24 - (n : Int) := by omega
    refine Ev.step (fun k => rfl) ?_
    simp only [pidginref05_right.f, e25]
    refine Ev.bind (rank_ev e.f0) ?_
    simp only [if_neg (show ¬ (24 : Int) - (n : Int) > 24 by omega)]
    have dead : condR e = false → rightN (n + 1) e = false := fun hc => by rw [rightN, hc]; rfl
    by_cases h0 : (bindsL e.f0.data.toList).1 = 0
    · simp only [if_pos h0]
      rw [dead (by simp [condR, h0])]
      exact rr_fail e _ _
    · simp only [if_neg h0]
      by_cases hlen : (e.f3.length : Int) = (bindsL e.f0.data.toList).2
      · simp only [if_pos hlen, Lib.toList_data, ← hlen]
        have live : (e.f0.data.toList = [35] ∨ e.f1 = 0) → rightN (n + 1) e = ((if e.f0.data.toList = [110] then namedL e.f2.data.toList else e.f2.data.toList == []) && e.f3.all (rightN n)) := fun hc => by
          rw [rightN]
          unfold condR
          simp only [decide_eq_true (show (bindsL e.f0.data.toList).1 ≠ 0 from h0), decide_eq_true hlen, Bool.true_and]
          have : (decide (e.f1 = 0) || e.f0.data.toList == [35]) = true := by
            rcases hc with hc | hc
            · rw [beq_iff_eq.mpr hc, Bool.or_true]
            · rw [decide_eq_true hc, Bool.true_or]
          rw [this, Bool.true_and]
        by_cases ho : e.f0.data.toList = [35]
        · simp only [if_pos ho]
          rw [live (.inl ho)]
          exact rr_j0 n (by omega) e hl hz ih'
        · simp only [if_neg ho]
          by_cases h1 : e.f1 = 0
          · simp only [bne_eq_false_iff_eq.mpr h1]
            rw [live (.inr h1)]
            exact rr_j0 n (by omega) e hl hz ih'
          · simp only [bne_iff_ne.mpr h1]
            rw [dead (by simp [condR, h1, ho])]
            exact rr_fail e _ _
      · simp only [if_neg hlen]
        rw [dead (by simp [condR, hlen])]
        exact rr_fail e _ _
theorem refRight_ev (e : S50) (h : lightN 40 e = true) : Ev (fun k => pidginref05_Right.f k e.f0 e.f1 e.f2 e.f3) (if rightN 24 e = true then 0 else 2) := by
  unfold pidginref05_Right.f
  refine Ev.bind (rr_ev 24 (Nat.le_refl _) e h) ?_
  cases rightN 24 e with
  | true => simp only [if_true]; exact Ev.now _
  | false => simp only [Bool.false_eq_true, if_false]; exact Ev.now _
end Go.Proofs.YtejhagejjogbaaaDoor.Ee
end
section
namespace Go.Proofs.YtejhagejjogbaaaDoor.Ee
open Go.RowKit YtejhagejjogbaaaDoorW.PrintWords YtejhagejjogbaaaDoorW.PrintLast YtejhagejjogbaaaDoorW.PrintMore Given Pn Pa Pb Qa Qc Qf Num AnyNot EvB EvC LawC Right.R Par SameC EvalsC
theorem ev_not' {here : Int} {F : ByteArray → Int × Int} {k : Nat} {A : S50} {x : Int} (hx : evalP here F k A = some (x, 0)) : evalP here F (k + 1) ⟨⟨#[78, 79, 84]⟩, 0, ⟨#[]⟩, [A]⟩ = some (notU x, 0) := by
  rw [evalP]
  simp only [if_neg (show ¬ (#[78, 79, 84] : Array UInt8).toList = [35] by decide), if_neg (show ¬ (#[78, 79, 84] : Array UInt8).toList = [36] by decide), if_neg (show ¬ (#[78, 79, 84] : Array UInt8).toList = [110] by decide), hx, if_true]
theorem ev_neg' {here : Int} {F : ByteArray → Int × Int} {k : Nat} {A : S50} {x : Int} (hx : evalP here F k A = some (x, 0)) : evalP here F (k + 1) ⟨⟨#[78, 69, 71]⟩, 0, ⟨#[]⟩, [A]⟩ = some (negU x, 0) := by
  rw [evalP]
  simp only [if_neg (show ¬ (#[78, 69, 71] : Array UInt8).toList = [35] by decide), if_neg (show ¬ (#[78, 69, 71] : Array UInt8).toList = [36] by decide), if_neg (show ¬ (#[78, 69, 71] : Array UInt8).toList = [110] by decide), if_neg (show ¬ (#[78, 69, 71] : Array UInt8).toList = [78, 79, 84] by decide), hx, if_true]
def ValOk (n : Nat) (here : Int) (l : List S98) (e : S50) : Prop :=
  ∃ r, evalP here (findP l) n e = some r ∧ Ev (fun k => pidginref05_eval.f k e.f0 e.f1 e.f2 e.f3 here l) r ∧ 0 ≤ r.1 ∧ r.1 ≤ 65535
theorem z16 : (0 : Int) ≤ 0 ∧ (0 : Int) ≤ 65535 := by decide
theorem val_ok (here : Int) (h0 : 0 ≤ here) (h1 : here ≤ 65535) (l : List S98) (hs : l.length ≤ 1000) (hl : ∀ s ∈ l, 0 ≤ s.f1 ∧ s.f1 ≤ 65535) (n : Nat) : ∀ e : S50, rightN n e = true → NumOk e → ValOk n here l e := by
  induction n with
  | zero => intro e h; simp [rightN] at h
  | succ n ih =>
    intro e h hok
    have hlo := hok.lo
    have hhi := hok.hi
    have hsub := hok.sub
    obtain ⟨rk, hc⟩ := rc_of h
    cases hc with
    | num m => exact ⟨(m, 0), by rw [evalP]; exact if_pos rfl, Ev.step (f := fun _ => some (m, 0)) (fun k => by rw [pidginref05_eval.f]; simp only [Lib.toList_data]; rfl) (Ev.now _), hlo, hhi⟩
    | name nm hnm =>
      refine ⟨findP l nm, ?_, Ev.step (f := fun k => (pidginref05_Find.f k l nm).bind fun p => some (p.1, p.2)) (fun k => by rw [pidginref05_eval.f]; simp only [Lib.toList_data]; rfl) (Ev.bind (find_ev l nm hs) (Ev.now _)), find_rng hl nm⟩
      rw [evalP]
      simp only [if_neg (show ¬ (#[110] : Array UInt8).toList = [35] by decide), if_neg (show ¬ (#[110] : Array UInt8).toList = [36] by decide), if_true]
    | here => exact ⟨(here, 0), by rw [evalP]; rfl, Ev.step (f := fun _ => some (here, 0)) (fun k => by rw [pidginref05_eval.f]; simp only [Lib.toList_data]; rfl) (Ev.now _), h0, h1⟩
    | neg a ha =>
      obtain ⟨⟨x, q⟩, ex, hx, x0, x1⟩ := ih a ha (hsub a (by simp))
      simp only at x0 x1
      have hstep : ∀ k, pidginref05_eval.f (k + 1) ⟨#[78, 69, 71]⟩ 0 ⟨#[]⟩ [a] here l = (pidginref05_eval.f k a.f0 a.f1 a.f2 a.f3 here l).bind fun p => if p.2 = 0 then some (IntKind.u16.wrap (Go.bits .and .i64 (wrap64 (65536 - wrap64 p.1)) 65535), 0) else some (0, p.2) := fun k => by
        rw [pidginref05_eval.f]; simp only [Lib.toList_data]; rfl
      by_cases hq : q = 0
      · subst hq
        refine ⟨(negU x, 0), ev_neg' ex, Ev.step hstep (Ev.bind hx ?_), wrap_rng _⟩
        simp only [if_true]
        rw [w64 (n := x) (by omega) (by omega), w64 (by omega) (by omega), and_i64 (by omega) (by omega), wrap_mod, show IntKind.u16.wrap (65536 - x) = negU x by show (65536 - x) % 65536 = (-x) % 65536; omega]
        exact Ev.now _
      · refine ⟨(0, q), ?_, Ev.step hstep (Ev.bind hx ?_), z16⟩
        · rw [evalP]
          simp only [if_neg (show ¬ (#[78, 69, 71] : Array UInt8).toList = [35] by decide), if_neg (show ¬ (#[78, 69, 71] : Array UInt8).toList = [36] by decide), if_neg (show ¬ (#[78, 69, 71] : Array UInt8).toList = [110] by decide), ex, if_neg hq]
        · simp only [if_neg hq]; exact Ev.now _
    | not a ha =>
      obtain ⟨⟨x, q⟩, ex, hx, x0, x1⟩ := ih a ha (hsub a (by simp))
      simp only at x0 x1
      have hstep : ∀ k, pidginref05_eval.f (k + 1) ⟨#[78, 79, 84]⟩ 0 ⟨#[]⟩ [a] here l = (pidginref05_eval.f k a.f0 a.f1 a.f2 a.f3 here l).bind fun p => if p.2 = 0 then some (IntKind.u16.wrap (65535 - p.1), 0) else some (0, p.2) := fun k => by
        rw [pidginref05_eval.f]; simp only [Lib.toList_data]; rfl
      by_cases hq : q = 0
      · subst hq
        refine ⟨(notU x, 0), ev_not' ex, Ev.step hstep (Ev.bind hx ?_), by show 0 ≤ notU x ∧ notU x ≤ 65535; rw [notU_eq x0 x1]; omega⟩
        simp only [if_true]
        rw [wrap_small (by omega) (by omega), notU_eq x0 x1]
        exact Ev.now _
      · refine ⟨(0, q), ?_, Ev.step hstep (Ev.bind hx ?_), z16⟩
        · rw [evalP]
          simp only [if_neg (show ¬ (#[78, 79, 84] : Array UInt8).toList = [35] by decide), if_neg (show ¬ (#[78, 79, 84] : Array UInt8).toList = [36] by decide), if_neg (show ¬ (#[78, 79, 84] : Array UInt8).toList = [110] by decide), ex, if_neg hq]
        · simp only [if_neg hq]; exact Ev.now _
    | bin op rk a b hop ha hb =>
      obtain ⟨⟨x, q⟩, ex, hx, x0, x1⟩ := ih a ha (hsub a (by simp))
      obtain ⟨⟨y, p⟩, ey, hy, y0, y1⟩ := ih b hb (hsub b (by simp))
      simp only at x0 x1 y0 y1
      have hne : op ≠ [35] ∧ op ≠ [36] ∧ op ≠ [110] ∧ op ≠ [78, 79, 84] ∧ op ≠ [78, 69, 71] := by
        have : ∀ z ∈ binops, z.1 ≠ [35] ∧ z.1 ≠ [36] ∧ z.1 ≠ [110] ∧ z.1 ≠ [78, 79, 84] ∧ z.1 ≠ [78, 69, 71] := by decide
        exact this _ hop
      obtain ⟨n1, n2, n3, n4, n5⟩ := hne
      have hL : (⟨op.toArray⟩ : ByteArray).data.toList = op := rfl
      have hstep : ∀ k, pidginref05_eval.f (k + 1) ⟨op.toArray⟩ 0 ⟨#[]⟩ [a, b] here l = (pidginref05_eval.f k a.f0 a.f1 a.f2 a.f3 here l).bind fun u => if u.2 = 0 then (pidginref05_eval.f k b.f0 b.f1 b.f2 b.f3 here l).bind (fun v => if v.2 = 0 then (pidginref05_two.f k ⟨op.toArray⟩ u.1 v.1).bind (fun t => some (t.1, t.2)) else some (0, v.2)) else some (0, u.2) := fun k => by
        rw [pidginref05_eval.f]
        simp only [Lib.toList_data, hL, if_neg n1, if_neg n2, if_neg n3, if_neg n4, if_neg n5]
        rfl
      have hev : evalP here (findP l) (n + 1) ⟨⟨op.toArray⟩, 0, ⟨#[]⟩, [a, b]⟩ = if q = 0 then (if p = 0 then expr_two.f ⟨op.toArray⟩ x y else some (0, p)) else some (0, q) := by
        rw [evalP]
        simp only [hL, if_neg n1, if_neg n2, if_neg n3, if_neg n4, if_neg n5, ex, ey]
      by_cases hq : q = 0
      · subst hq
        by_cases hp : p = 0
        · subst hp
          obtain ⟨r, e1, e2, r0, r1⟩ := two_ok hop x0 x1 y0 y1
          refine ⟨r, ?_, Ev.step hstep (Ev.bind hx ?_), r0, r1⟩
          · rw [hev]; simp only [if_true]; exact e1
          · simp only [if_true]
            refine Ev.bind hy ?_
            simp only [if_true]
            exact Ev.bind e2 (Ev.now _)
        · refine ⟨(0, p), ?_, Ev.step hstep (Ev.bind hx ?_), z16⟩
          · rw [hev]; simp only [if_true, if_neg hp]
          · simp only [if_true]
            refine Ev.bind hy ?_
            simp only [if_neg hp]
            exact Ev.now _
      · refine ⟨(0, q), ?_, Ev.step hstep (Ev.bind hx ?_), z16⟩
        · rw [hev]; simp only [if_neg hq]
        · simp only [if_neg hq]; exact Ev.now _
theorem ExprEvals_calls (a : S50) (A : Option Addr) (c : Nat) (here : Int) (B : Option Addr) (d : Nat) (l : List S98) (hok : NumOk a) (wh : (Lit.int .u16 here).wf = true) (hl : ∀ s ∈ l, 0 ≤ s.f1 ∧ s.f1 ≤ 65535) (w : World) (hG : Aside0 (G0 w))
    (hra : Kd.C k50 w A a.f3.length a.f3) (hca : a.f3.length ≤ c) (hrl : Kd.C k98 w B l.length l) (hcl : l.length ≤ d) :
    Calls Tryd.prog 10 #[.agg #[.string a.f0, .int .u16 a.f1, .string a.f2, .slice A a.f3.length c], .int .u16 here, .slice B l.length d] w fun e w' => e = .returned (.bool true) ∧ Below w.heap.size w w' := by
  obtain ⟨h0, h1⟩ := u16_range wh
  obtain ⟨b, ⟨K0, hsm⟩, hlt⟩ := small_ev a
  cases b with
  | false => exact evals_large K0 a A c here B d l w hG hra hca hrl hcl (hsm _ (Nat.le_refl _))
  | true =>
    have hlt := hlt rfl
    by_cases hm : 100 < l.length
    · exact evals_many K0 a A c here B d l w hG hra hca hrl hcl (hsm _ (Nat.le_refl _)) (decide_eq_true (show (l.length : Int) > 100 by omega))
    · have hF : ∀ s, ∃ k, pidginref05_Find.f k l s = some (findP l s) := fun s => (find_ev l s (by omega)).rounds
      have hR := Right_at a (light_ok 40 24 a (by decide) hlt)
      obtain ⟨K1, hr'⟩ := refRight_ev a hlt
      have hr : ∀ k, K1 ≤ k → pidginref05_Right.f k a.f0 a.f1 a.f2 a.f3 = some (if rightN 24 a = true then 0 else 2) := hr'
      cases hy : rightN 24 a with
      | false =>
        rw [hy] at hR
        have e1 : evalT (K0 + K1) a here (findP l) = some (0, 2) := by
          unfold evalT
          rw [hR]
          rfl
        have e2 : pidginref05_Eval.f (K0 + K1) a.f0 a.f1 a.f2 a.f3 here l = some (0, 2) := by
          unfold pidginref05_Eval.f
          rw [hr (K0 + K1) (by omega), hy]
          rfl
        exact evals_go (K0 + K1) a A c here B d l (findP l) 0 2 w hG hra hca hrl hcl (hsm _ (by omega)) (decide_eq_false (show ¬ (l.length : Int) > 100 by omega)) hF e1 e2
      | true =>
        obtain ⟨⟨x, q⟩, ev, ⟨K2, hv'⟩, _, _⟩ := val_ok here h0 h1 l (by omega) hl 24 a hy hok
        have hv : ∀ k, K2 ≤ k → pidginref05_eval.f k a.f0 a.f1 a.f2 a.f3 here l = some (x, q) := hv'
        have e1 : evalT (K0 + K1 + K2 + 24) a here (findP l) = some (x, q) := by
          unfold evalT
          rw [hR, hy]
          simp only [if_true]
          exact ups (P := fun k => evalP here (findP l) k a = some (x, q)) (show 24 ≤ K0 + K1 + K2 + 24 by omega) (fun k hk => mono_ev here (findP l) k a _ hk) ev
        have e2 : pidginref05_Eval.f (K0 + K1 + K2 + 24) a.f0 a.f1 a.f2 a.f3 here l = some (x, q) := by
          unfold pidginref05_Eval.f
          rw [hr _ (by omega), hy]
          simp only [if_true, Option.bind_some]
          rw [hv _ (by omega)]
          rfl
        exact evals_go (K0 + K1 + K2 + 24) a A c here B d l (findP l) x q w hG hra hca hrl hcl (hsm _ (by omega)) (decide_eq_false (show ¬ (l.length : Int) > 100 by omega)) hF e1 e2
end Go.Proofs.YtejhagejjogbaaaDoor.Ee
end
section
namespace Go.Proofs.YtejhagejjogbaaaDoor.Open46
open Go Go.RowKit Go.ChangeShapes Go.WideShapes Go.Deep Pa YtejhagejjogbaaaDoorW.PrintWords YtejhagejjogbaaaDoorW.PrintLast
variable {H : Type} {enc : TypeId × Value → H} {w : World} {base : Nat} {spare : Nat → Bool} {held : Bool}
theorem list_of {α : Type} (n : Nat) (Q : Nat → α → Prop) (h : ∀ i, i < n → ∃ x, Q i x) : ∃ l : List α, l.length = n ∧ ∀ j p, l[j]? = some p → Q j p := by
  induction n with
  | zero => exact ⟨[], rfl, fun j p hp => by simp at hp⟩
  | succ n ih =>
    obtain ⟨l, hl, hq⟩ := ih (fun i hi => h i (by omega))
    obtain ⟨x, hx⟩ := h n (by omega)
    refine ⟨l ++ [x], by simp [hl], fun j p hp => ?_⟩
    by_cases hj : j < l.length
    · rw [List.getElem?_append_left hj] at hp; exact hq j p hp
    · rw [List.getElem?_append_right (by omega)] at hp
      have hj2 : j - l.length = 0 := by
        by_cases e : j - l.length = 0
        · exact e
        · rw [List.getElem?_eq_none (by simp; omega)] at hp; cases hp
      rw [hj2] at hp
      have : x = p := by simpa using hp
      subst this
      have : j = n := by omega
      rw [this]; exact hx
theorem c3 : Tryd.prog.cellsOf 3 = 1 := by kernel_rfl
theorem c9 : Tryd.prog.cellsOf 9 = 1 := by kernel_rfl
theorem c28 : Tryd.prog.cellsOf 28 = 1 := by kernel_rfl
end Go.Proofs.YtejhagejjogbaaaDoor.Open46
end
section
namespace Go.Proofs.YtejhagejjogbaaaDoor.Open50
open Go Go.RowKit Go.ChangeShapes Go.WideShapes Go.Deep Pa Qa Ee Open46 YtejhagejjogbaaaDoorW.PrintWords YtejhagejjogbaaaDoorW.PrintLast
variable {H : Type} {enc : TypeId × Value → H} {w : World} {base : Nat} {spare : Nat → Bool} {held : Bool}
theorem four {α : Type} {l : List α} (h : l.length = 4) : ∃ a b c d, l = [a, b, c, d] := by
  match l, h with
  | [a, b, c, d], _ => exact ⟨a, b, c, d, rfl⟩
theorem c50 : Tryd.prog.cellsOf 50 = 4 := by kernel_rfl
theorem c48 : Tryd.prog.cellsOf 48 = 1 := by kernel_rfl
theorem u16_range {n : Int} (h : (Lit.int .u16 n).wf = true) : 0 ≤ n ∧ n ≤ 65535 := by
  simp only [Lit.wf, Bool.and_eq_true, decide_eq_true_eq] at h
  have h1 : IntKind.u16.min = 0 := by decide
  have h2 : IntKind.u16.max = 65535 := by decide
  omega
theorem open50 (fuel : Nat) : ∀ {cs : List Value} {x : DataW H × List MemPlace}, DataW.trod enc Tryd.prog w base spare held fuel 50 cs = some x →
    ∃ (e : S50) (A : Option Addr) (c : Nat), cs = [.string e.f0, .int .u16 e.f1, .string e.f2, .slice A e.f3.length c] ∧ e.f3.length ≤ c ∧ Kd.C k50 w A e.f3.length e.f3 ∧ NumOk e := by
  induction fuel using Nat.strongRecOn with
  | _ fuel ih =>
    intro cs x h
    obtain ⟨ys, n', hfu, _, hlen, hyl, hf⟩ := DataW.trod_struct Tryd.underlying50 h
    obtain ⟨a, b, c, d, rfl⟩ := four (hlen.trans c50)
    obtain ⟨y0, y1, y2, y3, rfl⟩ := four (show ys.length = 4 from hyl)
    have h0 : DataW.trod enc Tryd.prog w base spare held n' 9 ([a, b, c, d].take (Tryd.prog.cellsOf 9)) = some y0 := hf 0 _ rfl
    have h1 : DataW.trod enc Tryd.prog w base spare held n' 28 ([b, c, d].take (Tryd.prog.cellsOf 28)) = some y1 := hf 1 _ rfl
    have h2 : DataW.trod enc Tryd.prog w base spare held n' 9 ([c, d].take (Tryd.prog.cellsOf 9)) = some y2 := hf 2 _ rfl
    have h3 : DataW.trod enc Tryd.prog w base spare held n' 48 ([d].take (Tryd.prog.cellsOf 48)) = some y3 := hf 3 _ rfl
    rw [c9] at h0 h2
    rw [c28] at h1
    rw [c48] at h3
    obtain ⟨u, e0, _⟩ := DataW.trod_string Tryd.underlying9 h0
    obtain ⟨s, e1, _, hwf⟩ := DataW.trod_int Tryd.underlying28 h1
    obtain ⟨v, e2, _⟩ := DataW.trod_string Tryd.underlying9 h2
    simp only [List.take_succ_cons, List.take_zero, List.cons.injEq, and_true] at e0 e1 e2
    subst e0 e1 e2
    obtain ⟨r0, r1⟩ := u16_range hwf
    rcases DataW.trod_slice Tryd.underlying48 h3 with ⟨e3, _⟩ | ⟨ad, len, cap, elems, rest, m, hfm, e3, _, hb, hl, hm, hlen3, hel, _, _⟩
    · simp only [List.take_succ_cons, List.take_zero, List.cons.injEq, and_true] at e3
      subst e3
      exact ⟨⟨u, s, v, []⟩, none, 0, rfl, Nat.le_refl _, ⟨rfl, by simp, fun h => by simp at h⟩, .mk _ _ _ _ r0 r1 (fun x hx => by cases hx)⟩
    · simp only [List.take_succ_cons, List.take_zero, List.cons.injEq, and_true] at e3
      subst e3
      obtain ⟨l, hll, hq⟩ := list_of len (fun i (p : S50) => (∃ cs, k50.K w p cs ∧ cs.length = 4 ∧ ∀ u v, cs[u]? = some v → w.cell? (ad.add (i * 4 + u)) = some v) ∧ NumOk p) (fun i hlt => by
        have key := hel i hlt
        rw [List.getElem?_eq_getElem (by omega)] at key
        obtain ⟨cs', hc, ht'⟩ := Option.bind_eq_some_iff.1 key
        obtain ⟨p, A, q, rfl, hpq, hpc, hpn⟩ := ih m (by omega) ht'
        obtain ⟨_, _, hat⟩ := World.cells?_some hc
        refine ⟨p, ⟨_, k50_mk w p hpq hpc, rfl, fun u v huv => ?_⟩, hpn⟩
        have hu : u < 4 := by
          by_cases e : u < 4
          · exact e
          · rw [List.getElem?_eq_none (by simp; omega)] at huv; cases huv
        have h1 := (hat u (Nat.lt_of_lt_of_eq hu c50.symm)).trans huv
        rw [Go.Deep.add_add, show i * Tryd.prog.cellsOf 50 = i * 4 from congrArg (i * ·) c50] at h1
        exact h1)
      have hcap : cap ≤ 9223372036854775807 := Nat.le_trans hm (by decide)
      refine ⟨⟨u, s, v, l⟩, some ad, cap, by rw [hll], by show l.length ≤ cap; omega, ⟨rfl, by show l.length ≤ _; omega, fun _ => ⟨ad, rfl, fun j p hp => ?_⟩⟩, .mk _ _ _ _ r0 r1 (fun x hx => ?_)⟩
      · obtain ⟨⟨cs, h1, h2, h3⟩, _⟩ := hq j p hp
        exact ⟨cs, h2, h1, h3⟩
      · obtain ⟨j, hj, rfl⟩ := List.getElem_of_mem hx
        exact (hq j _ (List.getElem?_eq_getElem hj)).2
end Go.Proofs.YtejhagejjogbaaaDoor.Open50
end
section
namespace Go.Proofs.YtejhagejjogbaaaDoor.Open98
open Go Go.RowKit Go.ChangeShapes Go.WideShapes Go.Deep Pa Qa Open46 YtejhagejjogbaaaDoorW.PrintWords YtejhagejjogbaaaDoorW.PrintLast
variable {H : Type} {enc : TypeId × Value → H} {w : World} {base : Nat} {spare : Nat → Bool} {held : Bool}
theorem two' {α : Type} {l : List α} (h : l.length = 2) : ∃ a b, l = [a, b] := by
  match l, h with
  | [a, b], _ => exact ⟨a, b, rfl⟩
theorem c98 : Tryd.prog.cellsOf 98 = 2 := by kernel_rfl
theorem elem98 {n : Nat} {cs : List Value} {x : DataW H × List MemPlace} (h : DataW.trod enc Tryd.prog w base spare held n 98 cs = some x) : ∃ p : S98, cs = [.string p.f0, .int .u16 p.f1] ∧ 0 ≤ p.f1 ∧ p.f1 ≤ 65535 := by
  obtain ⟨ys, n', _, _, hlen, hyl, hf⟩ := DataW.trod_struct Tryd.underlying98 h
  obtain ⟨a, b, rfl⟩ := two' (hlen.trans c98)
  obtain ⟨y0, y1, rfl⟩ := two' (show ys.length = 2 from hyl)
  have h0 : DataW.trod enc Tryd.prog w base spare held n' 9 ([a, b].take (Tryd.prog.cellsOf 9)) = some y0 := hf 0 _ rfl
  have h1 : DataW.trod enc Tryd.prog w base spare held n' 28 ([b].take (Tryd.prog.cellsOf 28)) = some y1 := hf 1 _ rfl
  rw [c9] at h0
  rw [c28] at h1
  obtain ⟨s, e0, _⟩ := DataW.trod_string Tryd.underlying9 h0
  obtain ⟨v, e1, _, hwf⟩ := DataW.trod_int Tryd.underlying28 h1
  simp only [List.take_succ_cons, List.take_zero, List.cons.injEq, and_true] at e0 e1
  obtain ⟨r0, r1⟩ := Open50.u16_range hwf
  exact ⟨⟨s, v⟩, by rw [e0, e1], r0, r1⟩
theorem open98 {fuel : Nat} {cs : List Value} {x : DataW H × List MemPlace} (h : DataW.trod enc Tryd.prog w base spare held fuel 51 cs = some x) :
    ∃ (A : Option Addr) (l : List S98) (c : Nat), cs = [.slice A l.length c] ∧ l.length ≤ c ∧ Kd.C k98 w A l.length l ∧ ∀ s ∈ l, 0 ≤ s.f1 ∧ s.f1 ≤ 65535 := by
  rcases open_slice Tryd.underlying51 h with ⟨rfl, _⟩ | ⟨a, len, cap, m, n, D, Pl, rfl, _, hl, hm, hmm, _, hi⟩
  · exact ⟨none, [], 0, rfl, Nat.le_refl _, ⟨rfl, by simp, fun h => by simp at h⟩, fun s hs => by cases hs⟩
  · have hlm : len ≤ m := by rw [hmm]; split <;> omega
    obtain ⟨l, hll, hq⟩ := list_of len (fun i (p : S98) => (∀ u v, ([.string p.f0, .int .u16 p.f1] : List Value)[u]? = some v → w.cell? (a.add (i * 2 + u)) = some v) ∧ 0 ≤ p.f1 ∧ p.f1 ≤ 65535) (fun i hlt => by
      obtain ⟨cs', hc, ht'⟩ := hi i (by omega)
      obtain ⟨p, rfl, hp0⟩ := elem98 ht'
      obtain ⟨_, _, hat⟩ := World.cells?_some hc
      refine ⟨p, fun u v huv => ?_, hp0⟩
      have hu : u < 2 := by
        by_cases e : u < 2
        · exact e
        · rw [List.getElem?_eq_none (by simp; omega)] at huv; cases huv
      have h1 := (hat u (Nat.lt_of_lt_of_eq hu c98.symm)).trans huv
      rw [Go.Deep.add_add, show i * Tryd.prog.cellsOf 98 = i * 2 from congrArg (i * ·) c98] at h1
      exact h1)
    refine ⟨some a, l, cap, by rw [hll], by omega, ⟨rfl, ?_, fun _ => ⟨a, rfl, fun j p hp => ⟨_, rfl, k98_mk w p, (hq j p hp).1⟩⟩⟩, fun s hs => ?_⟩
    · have : cap ≤ 9223372036854775807 := Nat.le_trans hm (by decide)
      omega
    · obtain ⟨j, hj, rfl⟩ := List.getElem_of_mem hs
      exact (hq j _ (List.getElem?_eq_getElem hj)).2
end Go.Proofs.YtejhagejjogbaaaDoor.Open98
end
