import Derived.Test.YtejhagejjogbaaaDoorKaM11
import Derived.Test.YtejhagejjogbaaaDoorKaM13
import Derived.Test.YtejhagejjogbaaaDoorProg
import Derived.Below
import Derived.Deep.Draws
import Derived.Deep.AppendLies
import Derived.Maps.AppendAt
import Derived.OwnWalk
import Derived.Laws.BytesArg
import Derived.Laws.MakeOwn
import Derived.Laws.OwnMore
import Derived.Deep.OwnRows
import Derived.Tactics
import Derived.Lib.ConvBytes
import Derived.Laws.Slices
import Derived.WalkKit
import Derived.KernelRfl
import Derived.RowKit3
import Derived.Deep.LoopGhost
import Derived.Deep.QuietTactic
import Derived.BigQuiet
import Derived.WideLaws
import Derived.Deep.DeepCutAuto
import Derived.Deep.CutBlock
import Derived.Deep.RegionHeld3
import Derived.Laws.Rows
import Derived.Lib.AppendStr
import Derived.ArgAppend
import Derived.Laws.IdiomCopy
import Derived.OrdersHeld
import Derived.Laws.BitsLemmas
import Derived.RowKit
import Derived.Test.YtejhagejjogbaaaDoorKaM2
import Derived.Test.YtejhagejjogbaaaDoorKaM3
import Derived.Test.YtejhagejjogbaaaDoorKaM4
import Derived.Test.YtejhagejjogbaaaDoorKaM5
import Derived.Test.YtejhagejjogbaaaDoorKaM6
import Derived.Test.YtejhagejjogbaaaDoorKaM7
import Derived.Test.YtejhagejjogbaaaDoorKaM8
import Derived.Test.YtejhagejjogbaaaDoorKaM12
import Derived.Test.YtejhagejjogbaaaDoorKaM1
section
namespace Go.Proofs.YtejhagejjogbaaaDoor.Ee
open Go.RowKit Go.Proofs.YtejhagejjogbaaaDoorW.PrintWords Go.Proofs.YtejhagejjogbaaaDoorW.PrintLast Go.Proofs.YtejhagejjogbaaaDoor.Given Go.Proofs.YtejhagejjogbaaaDoor.Pn Go.Proofs.YtejhagejjogbaaaDoor.Pa Go.Proofs.YtejhagejjogbaaaDoor.Pb Go.Proofs.YtejhagejjogbaaaDoor.Qa Go.Proofs.YtejhagejjogbaaaDoor.Qc Go.Proofs.YtejhagejjogbaaaDoor.Num Go.Proofs.YtejhagejjogbaaaDoor.AnyNot Go.Proofs.YtejhagejjogbaaaDoor.Par Go.Proofs.YtejhagejjogbaaaDoor.SameC Go.Proofs.YtejhagejjogbaaaDoor.SameD Go.Proofs.YtejhagejjogbaaaDoor.Tk Go.Proofs.YtejhagejjogbaaaDoor.TokJoin Go.Proofs.YtejhagejjogbaaaDoor.TokRep Go.Proofs.YtejhagejjogbaaaDoor.LawC Go.Proofs.YtejhagejjogbaaaDoor.PsrI.R
set_option linter.unusedSimpArgs false
set_option linter.unusedVariables false
theorem op_good : ∀ p ∈ binops, TkP (opTok ⟨p.1.toArray⟩) := by
  intro p hp
  simp only [binops, List.mem_cons, List.not_mem_nil, or_false] at hp
  rcases hp with rfl | rfl | rfl | rfl | rfl | rfl | rfl | rfl | rfl | rfl
  · exact .name [79, 82] (by decide) (by decide)
  · exact .name [88, 79, 82] (by decide) (by decide)
  · exact .name [65, 78, 68] (by decide) (by decide)
  · exact .mark 43 (by decide)
  · exact .mark 45 (by decide)
  · exact .mark 42 (by decide)
  · exact .mark 47 (by decide)
  · exact .name [77, 79, 68] (by decide) (by decide)
  · exact .name [83, 72, 76] (by decide) (by decide)
  · exact .name [83, 72, 82] (by decide) (by decide)
theorem named_good {nm : ByteArray} (h : namedL nm.data.toList = true) : TkP ⟨1, nm, 0⟩ := by
  unfold namedL at h
  simp only [Bool.and_eq_true, beq_iff_eq] at h
  have e : nm = ⟨nm.data.toList.toArray⟩ := ba_of rfl
  rw [e]
  exact .name nm.data.toList (by rw [← Right.nameQ_eq]; exact h.1.1) h.1.2
theorem et_good (n : Nat) : ∀ (e : S50) (w : Int), rightN n e = true → NumOk e → ∀ t ∈ etN n e w, TkP t := by
  induction n with
  | zero => intro e w h; simp [rightN] at h
  | succ n ih =>
    intro e w h hok
    obtain ⟨rk, hc⟩ := rc_of h
    have hb : ∀ t ∈ bodyT (etN n) e, TkP t := by
      cases hc with
      | num m =>
        have hm0 := hok.lo
        have hm1 := hok.hi
        simp only at hm0 hm1
        obtain ⟨q, rfl⟩ : ∃ q : Nat, m = (q : Int) := ⟨m.toNat, by omega⟩
        intro t ht
        obtain rfl : t = ⟨2, ⟨#[]⟩, (q : Int)⟩ := List.mem_singleton.1 ht
        exact .num q (by omega)
      | name nm hn =>
        intro t ht
        obtain rfl : t = ⟨1, nm, 0⟩ := List.mem_singleton.1 ht
        exact named_good hn
      | here =>
        intro t ht
        obtain rfl : t = ⟨4, ⟨#[36]⟩, 0⟩ := List.mem_singleton.1 ht
        exact .mark 36 (by decide)
      | neg a ha =>
        intro t ht
        rcases List.mem_cons.1 (show t ∈ (⟨4, ⟨#[45]⟩, 0⟩ : S41) :: etN n a 6 from ht) with rfl | ht
        · exact .mark 45 (by decide)
        · exact ih a 6 ha (hok.sub a (by simp)) t ht
      | not a ha =>
        intro t ht
        rcases List.mem_cons.1 (show t ∈ (⟨1, ⟨#[78, 79, 84]⟩, 0⟩ : S41) :: etN n a 3 from ht) with rfl | ht
        · exact .name [78, 79, 84] (by decide) (by decide)
        · exact ih a 3 ha (hok.sub a (by simp)) t ht
      | bin op rk a b hop ha hb =>
        intro t ht
        rw [body_bin _ hop] at ht
        rcases List.mem_append.1 ht with ht | ht
        · exact ih a rk ha (hok.sub a (by simp)) t ht
        · rcases List.mem_cons.1 ht with rfl | ht
          · exact op_good _ hop
          · exact ih b (rk + 1) hb (hok.sub b (by simp)) t ht
    rw [etN]
    split
    · intro t ht
      rcases List.mem_cons.1 ht with rfl | ht
      · exact .mark 40 (by decide)
      · rcases List.mem_append.1 ht with ht | ht
        · exact hb t ht
        · obtain rfl := List.mem_singleton.1 ht
          exact .mark 41 (by decide)
    · exact hb
theorem line_et {e : S50} (h : rightN 24 e = true) (hok : NumOk e) (x : ByteArray) (hx : L x = joinT (etN 24 e 1)) (hs : ¬ 200 < x.size) : lineT x = (etN 24 e 1, 0) := by
  unfold lineT
  rw [if_neg hs, hx]
  exact show_toks _ _ (et_good 24 e 1 h hok) (by rw [← hx, L_len]; exact Nat.le_refl _)
theorem all_ev (ts : List S41) (e : S50) (hl : ts.length ≤ 200) (hB : Bi 1 ⟨ts, 0, 0⟩ (e, ⟨[], 0, 0⟩)) (h : rightN 24 e = true) : Ev (fun k => expr_All.f k ts) (e.f0, e.f1, e.f2, e.f3, 0) := by
  obtain ⟨n, hn⟩ := hB
  obtain ⟨v, ⟨m, hm⟩, v0, vn⟩ := deep_ev 24 (by decide) e h
  refine ⟨max n m, fun k hk => ?_⟩
  have h1 : binP k 1 ⟨ts, 0, 0⟩ = some (e, ⟨[], 0, 0⟩) := ups (P := fun k => binP k 1 ⟨ts, 0, 0⟩ = some (e, ⟨[], 0, 0⟩)) (show n ≤ k by omega) (fun k => (up k).b _ _ _) hn
  have h2 := hm k (by omega)
  unfold expr_All.f PsrI.allP PsrI.parseP
  have hw : wrap64 ((ts.length : Int) - (([] : List S41).length : Int)) = (ts.length : Int) := (w64 (by simp <;> omega) (by simp <;> omega)).trans (by simp)
  simp only [h1, if_true, h2, hw]
  rw [if_neg (by omega)]
  simp only [if_true, Int.lt_irrefl, if_false, Option.map_some]
theorem all_right (e : S50) (h : rightN 24 e = true) (hl : (etN 24 e 1).length ≤ 200) : Ev (fun k => expr_All.f k (etN 24 e 1)) (e.f0, e.f1, e.f2, e.f3, 0) := all_ev _ e hl (main_all e h) h
theorem ref_same_l0 (l : List S50) (hl : l.length ≤ 3) (o m : ByteArray) (x : Int)
    (ih : ∀ e ∈ l, Ev (fun k => pidginref05_Same.f k e.f0 e.f1 e.f2 e.f3 e.f0 e.f1 e.f2 e.f3) true) (d : Nat) : ∀ i : Nat, i + d = l.length →
    Ev (fun k => pidginref05_Same.l0 k (i : Int) o x m l o x m l) true := by
  induction d with
  | zero =>
    intro i hi
    refine Ev.step (fun k => rfl) ?_
    simp only [pidginref05_Same.l0, if_neg (show ¬ (i : Int) < (l.length : Int) by omega)]
    exact Ev.now _
  | succ d ihd =>
    intro i hi
    have h1 : i < l.length := by omega
    refine Ev.step (fun k => rfl) ?_
    simp only [pidginref05_Same.l0, if_pos (show (i : Int) < (l.length : Int) by omega), if_pos (show (0 : Int) ≤ (i : Int) by omega), rd50_at l i h1]
    refine Ev.bind (ih l[i] (List.getElem_mem h1)) ?_
    simp only [if_true, show wrap64 ((i : Int) + 1) = ((i + 1 : Nat) : Int) from (w64 (by omega) (by omega)).trans (by omega)]
    exact ihd (i + 1) (by omega)
theorem ref_same (n : Nat) : ∀ e : S50, lightN n e = true → Ev (fun k => pidginref05_Same.f k e.f0 e.f1 e.f2 e.f3 e.f0 e.f1 e.f2 e.f3) true := by
  induction n with
  | zero => intro e h; simp [lightN] at h
  | succ n ih =>
    intro e h
    rw [lightN] at h
    simp only [Bool.and_eq_true, decide_eq_true_eq] at h
    refine Ev.step (fun k => rfl) ?_
    simp only [pidginref05_Same.f, if_true]
    refine Ev.step (fun k => rfl) ?_
    simp only [pidginref05_Same.j0, bne_self_eq_false, Bool.false_eq_true, if_false]
    exact ref_same_l0 e.f3 h.1.1.1 e.f0 e.f2 e.f1 (fun x hx => ih x (List.all_eq_true.1 h.2 x hx)) e.f3.length 0 (by omega)
theorem Show_ev (e : S50) (hl : lightN 40 e = true) (hok : NumOk e) : Ev (fun k => expr_Show.f k e.f0 e.f1 e.f2 e.f3) (if rightN 24 e = true then (⟨(joinT (etN 24 e 1)).toArray⟩, 0) else (⟨#[]⟩, 2)) := by
  unfold expr_Show.f
  rw [Right_at e (light_ok 40 24 e (by decide) hl)]
  simp only [Option.bind_some]
  cases hr : rightN 24 e with
  | true =>
    simp only [if_true]
    exact Ev.bind (show_ev 24 (by decide) e 1 hr hok (by decide) (by decide)).1 (Ev.now _)
  | false =>
    simp only [Bool.false_eq_true, if_false, show ¬ ((2 : Int) = 0) by decide]
    exact Ev.now _
end Go.Proofs.YtejhagejjogbaaaDoor.Ee
end
section
namespace Go.Proofs.YtejhagejjogbaaaDoor.Qg
open Go.RowKit Go.Proofs.YtejhagejjogbaaaDoorW.PrintWords Go.Proofs.YtejhagejjogbaaaDoorW.PrintLast Go.Proofs.YtejhagejjogbaaaDoorW.PrintMore Go.Proofs.YtejhagejjogbaaaDoor.Given Go.Proofs.YtejhagejjogbaaaDoor.TokSpan Go.Proofs.YtejhagejjogbaaaDoor.TokJoin Go.Proofs.YtejhagejjogbaaaDoor.TokRep Go.Proofs.YtejhagejjogbaaaDoor.Right.R Go.Proofs.YtejhagejjogbaaaDoor.LawC Go.Proofs.YtejhagejjogbaaaDoor.PsrI.R Go.Proofs.YtejhagejjogbaaaDoor.SameC.R Go.Proofs.YtejhagejjogbaaaDoor.Pn Go.Proofs.YtejhagejjogbaaaDoor.Pa Go.Proofs.YtejhagejjogbaaaDoor.Pb Go.Proofs.YtejhagejjogbaaaDoor.Pc Go.Proofs.YtejhagejjogbaaaDoor.Pd Go.Proofs.YtejhagejjogbaaaDoor.Pe Go.Proofs.YtejhagejjogbaaaDoor.Qa Go.Proofs.YtejhagejjogbaaaDoor.Qc Go.Proofs.YtejhagejjogbaaaDoor.Qf
attribute [local go_sem] max2_int min2_int max_two min_two max_three min_three max_four min_four   -- for this text's walks alone
set_option linter.unusedVariables false
set_option linter.unusedSimpArgs false
def errW : Option Int → Value
 | none => .nilIface
 | some c => .iface 0 (.int .i64 c)
theorem errW_none : errW none = .nilIface := rfl
theorem errW_some (c : Int) : errW (some c) = .iface 0 (.int .i64 c) := rfl
theorem info41 : (Tryd.prog.info? 41).map (fun i => (i.zero, i.size, i.bytes)) = some (some (.agg #[(.int .i64 0), (.string ⟨#[]⟩), (.int .u16 0)]), 3, 32) := by kernel_rfl
end Go.Proofs.YtejhagejjogbaaaDoor.Qg
end
