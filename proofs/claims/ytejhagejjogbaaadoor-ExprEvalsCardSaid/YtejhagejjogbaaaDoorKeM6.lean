import Derived.Test.YtejhagejjogbaaaDoorProg
import Derived.Below
import Derived.Deep.Draws
import Derived.Deep.AppendLies
import Derived.Maps.AppendAt
import Derived.OwnWalk
import Derived.Laws.BytesArg
import Derived.Laws.MakeOwn
import Derived.Laws.OwnMore
import Derived.Deep.OwnRows
import Derived.Tactics
import Derived.Lib.ConvBytes
import Derived.Laws.Slices
import Derived.WalkKit
import Derived.KernelRfl
import Derived.RowKit3
import Derived.Deep.LoopGhost
import Derived.Deep.QuietTactic
import Derived.BigQuiet
import Derived.WideLaws
import Derived.Deep.DeepCutAuto
import Derived.Deep.CutBlock
import Derived.Deep.RegionHeld3
import Derived.Laws.Rows
import Derived.Lib.AppendStr
import Derived.ArgAppend
import Derived.Laws.IdiomCopy
import Derived.OrdersHeld
import Derived.Laws.BitsLemmas
import Derived.RowKit
import Derived.WalkMore
import Derived.Test.YtejhagejjogbaaaDoorKeM2
import Derived.Test.YtejhagejjogbaaaDoorKeM3
import Derived.Test.YtejhagejjogbaaaDoorKeM4
import Derived.Test.YtejhagejjogbaaaDoorKeM5
import Derived.Test.YtejhagejjogbaaaDoorKeM1
import Derived.Shelf.Strings.Builder1
import Derived.Shelf.Strings.Builder2
import Derived.Shelf.Strings.OnBuilder
import Derived.Shelf.Strings.TrimSpace
import Derived.Shelf.Small.Utf8
import Derived.Shelf.Small.Strs
import Derived.Shelf.Small.Wraps
import Derived.Shelf.Strings.BuilderF
import Derived.Shelf.Strings.BuilderK
import Derived.Shelf.Utf8.RuneCount
import Derived.Shelf.Strings.Builder2Cap
import Derived.Shelf.Strconv.Itoa0
import Derived.Shelf.Strconv.Itoa1
import Derived.Shelf.LaysM
import Derived.Shelf.Strconv.Itoa2
import Derived.Shelf.Strconv.Itoa3
import Derived.Shelf.Strings.Search1
import Derived.Shelf.Strings.Search2
import Derived.Shelf.Strings.Search3
import Derived.Shelf.Strings.Count
import Derived.Shelf.Strings.Shaped
import Derived.Shelf.GgClosure.StringsIndexFunc
import Derived.Shelf.Strings.Prefix
import Derived.Shelf.Strings.Split
import Derived.Shelf.Strings.Fields
import Derived.Shelf.Strings.Replace
import Derived.Shelf.Strings.SplitShaped
import Derived.Shelf.Unicode.Latin
import Derived.Shelf.Unicode.Decode
import Derived.Shelf.Strings.RuneCount
import Derived.Shelf.Unicode.DecodeSlow
import Derived.Shelf.Unicode.DecodeAny
import Derived.Shelf.Unicode.Is16White
import Derived.Shelf.Unicode.IsSpaceAny
import Derived.Shelf.Unicode.DecodeLast
import Derived.Shelf.Strings.TrimSpaceAny
import Derived.Shelf.Unicode.Is16WhiteD
import Derived.Shelf.Unicode.IsSpaceAnyD
import Derived.Shelf.Strings.FieldsAny
import Derived.Shelf.Strings.FieldsFuncAny
import Derived.Shelf.Unicode.Is16Any
import Derived.Shelf.Unicode.Is32Any
import Derived.Shelf.Unicode.ExclAny
import Derived.Shelf.Slices.Turned
import Derived.Lib.Join
import Derived.Shelf.Strings.BuilderCap
section
namespace Go.Proofs.YtejhagejjogbaaaDoor.Pc
open Go.RowKit YtejhagejjogbaaaDoorW.PrintWords YtejhagejjogbaaaDoorW.PrintLast YtejhagejjogbaaaDoorW.PrintMore Given TokSpan Pn Pa Pb
attribute [local go_sem] max2_int min2_int max_two min_two max_three min_three max_four min_four   -- for this text's walks alone
set_option linter.unusedVariables false
set_option linter.unusedSimpArgs false
def errW : Option Int → Value
 | none => .nilIface
 | some c => .iface 0 (.int .i64 c)
theorem zN : errW none = .nilIface := rfl
theorem zM (c : Int) : errW (some c) = .iface 0 (.int .i64 c) := rfl
theorem info41 : (Tryd.prog.info? 41).map (fun i => (i.zero, i.size, i.bytes)) = some (some (.agg #[(.int .i64 0), (.string ⟨#[]⟩), (.int .u16 0)]), 3, 32) := by kernel_rfl
end Go.Proofs.YtejhagejjogbaaaDoor.Pc
end
section
namespace Go.Proofs
open Go.Shelf
def Tryd.lays156_ren : Go.Shelf.Ren := ⟨fun | 156 => 72 | 165 => 118 | 166 => 119 | 169 => 120 | 240 => 142 | 241 => 143 | 276 => 168 | 277 => 169 | n => n, fun | 31 => 89 | 9 => 9 | 3 => 3 | 4 => 4 | 0 => 0 | 20 => 20 | 72 => 123 | 76 => 127 | 70 => 121 | 37 => 82 | 75 => 126 | 127 => 152 | 164 => 166 | 5 => 5 | 80 => 129 | n => n, fun | n => n⟩
theorem Tryd.lays156 : Go.Proofs.Lays.n156 Tryd.prog Tryd.lays156_ren := {
  mixed := by kernel_rfl
  f156 := Tryd.func72.trans (congrArg some (by kernel_rfl))
  f165 := Tryd.func118.trans (congrArg some (by kernel_rfl))
  f166 := Tryd.func119.trans (congrArg some (by kernel_rfl))
  f169 := Tryd.func120.trans (congrArg some (by kernel_rfl))
  f240 := Tryd.func142.trans (congrArg some (by kernel_rfl))
  f241 := Tryd.func143.trans (congrArg some (by kernel_rfl))
  f276 := Tryd.func168.trans (congrArg some (by kernel_rfl))
  f277 := Tryd.func169.trans (congrArg some (by kernel_rfl))
  t0 := Tryd.underlying0
  a0 := Tryd.isAgg0
  z0 := Tryd.sizeOf0
  v0 := Tryd.zeroValue0
  t3 := Tryd.underlying3
  a3 := Tryd.isAgg3
  z3 := Tryd.sizeOf3
  v3 := Tryd.zeroValue3
  t4 := Tryd.underlying4
  a4 := Tryd.isAgg4
  z4 := Tryd.sizeOf4
  v4 := Tryd.zeroValue4
  t9 := Tryd.underlying9
  a9 := Tryd.isAgg9
  z9 := Tryd.sizeOf9
  v9 := Tryd.zeroValue9
  t20 := Tryd.underlying20
  a20 := Tryd.isAgg20
  z20 := Tryd.sizeOf20
  v20 := Tryd.zeroValue20
  t31 := Tryd.underlying89
  a31 := Tryd.isAgg89
  z31 := Tryd.sizeOf89
  v31 := Tryd.zeroValue89
  t37 := Tryd.underlying82
  a37 := Tryd.isAgg82
  z37 := Tryd.sizeOf82
  v37 := Tryd.zeroValue82
  t70 := Tryd.underlying121
  a70 := Tryd.isAgg121
  z70 := Tryd.sizeOf121
  v70 := Tryd.zeroValue121
  t72 := Tryd.underlying123
  a72 := Tryd.isAgg123
  z72 := Tryd.sizeOf123
  v72 := Tryd.zeroValue123
  t75 := Tryd.underlying126
  a75 := Tryd.isAgg126
  z75 := Tryd.sizeOf126
  v75 := Tryd.zeroValue126
  t76 := Tryd.underlying127
  a76 := Tryd.isAgg127
  z76 := Tryd.sizeOf127
  v76 := Tryd.zeroValue127
  t127 := Tryd.underlying152
  a127 := Tryd.isAgg152
  z127 := Tryd.sizeOf152
  v127 := Tryd.zeroValue152
  t164 := Tryd.underlying166
  a164 := Tryd.isAgg166
  z164 := Tryd.sizeOf166
  v164 := Tryd.zeroValue166 }
theorem Tryd.Builder_Extra_156 : Builder.Extra Tryd.prog Tryd.lays156_ren := {
  sizeBuilder := by kernel_rfl
  liesBuilder := by kernel_rfl
  t5 := Tryd.underlying5
  a5 := Tryd.isAgg5
  z5 := Tryd.sizeOf5
  v5 := Tryd.zeroValue5
  infoByte := by kernel_rfl
  cellsByte := by kernel_rfl
  sizeByte := by kernel_rfl
  neB5 := by decide }
open Go.RowKit in
theorem Tryd.strings_Join_none (a : Option Addr) (c : Nat) (sep : ByteArray) (w : World) :
    Calls Tryd.prog 72 #[.slice a 0 c, .string sep] w fun e w' => e = .returned (.string ⟨#[]⟩) ∧ w' = w := Any.strings_Join_none Tryd.lays156 Tryd.Builder_Extra_156 a c sep w
open Go.RowKit in
theorem Tryd.strings_Join (bk o c : Nat) (xs : List ByteArray) (sep : ByteArray) (w : World) (hcells : ∀ (j : Nat) x, xs[j]? = some x → w.cell? ⟨bk, o + j, none⟩ = some (.string x)) (hbk : bk < w.heap.size) (hN : xs.length ≤ 140737488355328) (hcap : xs.length ≤ c) (hlen : (Lib.join (xs.map (·.data.toList)) sep.data.toList).length ≤ 140737488355328) :
    Calls Tryd.prog 72 #[.slice (some ⟨bk, o, none⟩) xs.length c, .string sep] w fun e w' => e = .returned (.string ⟨(Lib.join (xs.map (·.data.toList)) sep.data.toList).toArray⟩) ∧ Below w.heap.size w w' := Any.strings_Join Tryd.lays156 Tryd.Builder_Extra_156 bk o c xs sep w hcells hbk hN hcap hlen
end Go.Proofs
end
section
namespace Go.Proofs.YtejhagejjogbaaaDoor.TokJoin
open Go.RowKit YtejhagejjogbaaaDoorW.PrintWords YtejhagejjogbaaaDoorW.PrintLast YtejhagejjogbaaaDoorW.PrintMore Given
def strings_Join.f (l0 : List ByteArray) (a1 : ByteArray) : Option ByteArray :=
  if l0.length ≤ 140737488355328 ∧ (Lib.join (l0.map (·.data.toList)) a1.data.toList).length ≤ 140737488355328 then some ⟨(Lib.join (l0.map (·.data.toList)) a1.data.toList).toArray⟩ else none
theorem strings_Join.calls (A0 : Option Addr) (c0 : Nat) (l0 : List ByteArray) (a1 : ByteArray) (r : ByteArray) (w : World) (hr0 : Kd.C Kd.string w A0 l0.length l0) (hc0 : l0.length ≤ c0) (h : strings_Join.f l0 a1 = some r) :
    Calls Tryd.prog 72 #[.slice A0 l0.length c0, .string a1] w fun e w' => e = .returned (.string r) ∧ Below w.heap.size w w' := by
  unfold strings_Join.f at h
  by_cases hs : l0.length ≤ 140737488355328 ∧ (Lib.join (l0.map (·.data.toList)) a1.data.toList).length ≤ 140737488355328
  · rw [if_pos hs] at h
    obtain rfl := Option.some.inj h
    cases l0 with
    | nil =>
      refine (Tryd.strings_Join_none A0 c0 a1 w).mono fun e w' ⟨he, hw⟩ => ⟨?_, hw ▸ Below.refl _ _⟩
      rw [he]
      rfl
    | cons x t =>
      obtain ⟨ad, rfl, hc⟩ := hr0.2.2 (by simp)
      have cell (j : Nat) (y : ByteArray) (hy : (x :: t)[j]? = some y) : w.cell? (ad.add j) = some (.string y) := by
        obtain ⟨c, h1, h2, h3⟩ := hc j y hy
        have e : c = [.string y] := h2
        subst e
        have := h3 0 (.string y) rfl
        simpa [Kd.string, Kd.scalar] using this
      have c0' := cell 0 x rfl
      obtain ⟨bk, o, q⟩ := ad
      have hq : q = none := by
        cases q with
        | none => rfl
        | some q =>
          simp [World.cell?, Addr.add] at c0'
          split at c0' <;> cases c0'
      subst hq
      refine Tryd.strings_Join bk o c0 (x :: t) a1 w (fun j y hy => ?_) ?_ hs.1 hc0 hs.2
      · have := cell j y hy
        by_cases hj : j = 0
        · subst hj; simpa [Addr.add] using this
        · simpa [Addr.add, hj] using this
      · exact World.block_lt_of_cell? w _ c0'
  · rw [if_neg hs] at h; cases h
end Go.Proofs.YtejhagejjogbaaaDoor.TokJoin
end
section
namespace Go.Proofs.YtejhagejjogbaaaDoor.Pd
open Go.RowKit YtejhagejjogbaaaDoorW.PrintWords YtejhagejjogbaaaDoorW.PrintLast YtejhagejjogbaaaDoorW.PrintMore Given TokSpan TokJoin Pn Pa Pb Pc
attribute [local go_sem] max2_int min2_int max_two min_two max_three min_three max_four min_four   -- for this text's walks alone
set_option linter.unusedVariables false
set_option linter.unusedSimpArgs false
def errW : Option Int → Value
 | none => .nilIface
 | some c => .iface 0 (.int .i64 c)
theorem zN : errW none = .nilIface := rfl
theorem zM (c : Int) : errW (some c) = .iface 0 (.int .i64 c) := rfl
theorem info9 : (Tryd.prog.info? 9).map (fun i => (i.zero, i.size, i.bytes)) = some (some (.string ⟨#[]⟩), 1, 16) := by kernel_rfl
theorem info41 : (Tryd.prog.info? 41).map (fun i => (i.zero, i.size, i.bytes)) = some (some (.agg #[(.int .i64 0), (.string ⟨#[]⟩), (.int .u16 0)]), 3, 32) := by kernel_rfl
end Go.Proofs.YtejhagejjogbaaaDoor.Pd
end
section
namespace Go.Proofs.YtejhagejjogbaaaDoor.TokIs
open Go.RowKit YtejhagejjogbaaaDoorW.PrintWords YtejhagejjogbaaaDoorW.PrintLast YtejhagejjogbaaaDoorW.PrintMore Given Pn Pa
set_option linter.unusedVariables false
set_option linter.unusedSimpArgs false
end Go.Proofs.YtejhagejjogbaaaDoor.TokIs
end
section
namespace Go.Proofs.YtejhagejjogbaaaDoor.Pe
open Go.RowKit YtejhagejjogbaaaDoorW.PrintWords YtejhagejjogbaaaDoorW.PrintLast YtejhagejjogbaaaDoorW.PrintMore Given TokSpan TokJoin TokIs Pn Pa Pb Pc
attribute [local go_sem] max2_int min2_int max_two min_two max_three min_three max_four min_four   -- for this text's walks alone
set_option linter.unusedVariables false
set_option linter.unusedSimpArgs false
def errW : Option Int → Value
 | none => .nilIface
 | some c => .iface 0 (.int .i64 c)
theorem zN : errW none = .nilIface := rfl
theorem zM (c : Int) : errW (some c) = .iface 0 (.int .i64 c) := rfl
theorem info9 : (Tryd.prog.info? 9).map (fun i => (i.zero, i.size, i.bytes)) = some (some (.string ⟨#[]⟩), 1, 16) := by kernel_rfl
theorem info41 : (Tryd.prog.info? 41).map (fun i => (i.zero, i.size, i.bytes)) = some (some (.agg #[(.int .i64 0), (.string ⟨#[]⟩), (.int .u16 0)]), 3, 32) := by kernel_rfl
end Go.Proofs.YtejhagejjogbaaaDoor.Pe
end
section
namespace Go.Proofs
open Go.Shelf
def Tryd.lays154_ren : Go.Shelf.Ren := ⟨fun | 154 => 86 | 138 => 128 | 165 => 118 | 143 => 129 | 166 => 119 | 197 => 130 | 169 => 120 | 195 => 158 | 218 => 159 | 240 => 142 | 241 => 143 | 219 => 160 | 260 => 161 | 276 => 168 | 277 => 169 | 217 => 137 | 225 => 179 | 224 => 180 | 267 => 181 | 266 => 167 | 314 => 193 | n => n, fun | 9 => 9 | 3 => 3 | 4 => 4 | 72 => 123 | 0 => 0 | 76 => 127 | 105 => 143 | 21 => 21 | 5 => 5 | 70 => 121 | 20 => 20 | 37 => 82 | 75 => 126 | 127 => 152 | 164 => 166 | 46 => 83 | 119 => 147 | 139 => 178 | 138 => 177 | 146 => 197 | 51 => 161 | 80 => 129 | n => n, fun | 1 => 2 | 3 => 3 | 4 => 4 | n => n⟩
theorem Tryd.lays154 : Go.Proofs.Lays.n154 Tryd.prog Tryd.lays154_ren := {
  mixed := by kernel_rfl
  f138 := Tryd.func128.trans (congrArg some (by kernel_rfl))
  f143 := Tryd.func129.trans (congrArg some (by kernel_rfl))
  f154 := Tryd.func86.trans (congrArg some (by kernel_rfl))
  f165 := Tryd.func118.trans (congrArg some (by kernel_rfl))
  f166 := Tryd.func119.trans (congrArg some (by kernel_rfl))
  f169 := Tryd.func120.trans (congrArg some (by kernel_rfl))
  f195 := Tryd.func158.trans (congrArg some (by kernel_rfl))
  f197 := Tryd.func130.trans (congrArg some (by kernel_rfl))
  f217 := Tryd.func137.trans (congrArg some (by kernel_rfl))
  f218 := Tryd.func159.trans (congrArg some (by kernel_rfl))
  f219 := Tryd.func160.trans (congrArg some (by kernel_rfl))
  f224 := Tryd.func180.trans (congrArg some (by kernel_rfl))
  f225 := Tryd.func179.trans (congrArg some (by kernel_rfl))
  f240 := Tryd.func142.trans (congrArg some (by kernel_rfl))
  f241 := Tryd.func143.trans (congrArg some (by kernel_rfl))
  f260 := Tryd.func161.trans (congrArg some (by kernel_rfl))
  f266 := Tryd.func167.trans (congrArg some (by kernel_rfl))
  f267 := Tryd.func181.trans (congrArg some (by kernel_rfl))
  f276 := Tryd.func168.trans (congrArg some (by kernel_rfl))
  f277 := Tryd.func169.trans (congrArg some (by kernel_rfl))
  f314 := Tryd.func193.trans (congrArg some (by kernel_rfl))
  t0 := Tryd.underlying0
  a0 := Tryd.isAgg0
  z0 := Tryd.sizeOf0
  v0 := Tryd.zeroValue0
  t3 := Tryd.underlying3
  a3 := Tryd.isAgg3
  z3 := Tryd.sizeOf3
  v3 := Tryd.zeroValue3
  t4 := Tryd.underlying4
  a4 := Tryd.isAgg4
  z4 := Tryd.sizeOf4
  v4 := Tryd.zeroValue4
  t5 := Tryd.underlying5
  a5 := Tryd.isAgg5
  z5 := Tryd.sizeOf5
  v5 := Tryd.zeroValue5
  t9 := Tryd.underlying9
  a9 := Tryd.isAgg9
  z9 := Tryd.sizeOf9
  v9 := Tryd.zeroValue9
  t20 := Tryd.underlying20
  a20 := Tryd.isAgg20
  z20 := Tryd.sizeOf20
  v20 := Tryd.zeroValue20
  t21 := Tryd.underlying21
  a21 := Tryd.isAgg21
  z21 := Tryd.sizeOf21
  v21 := Tryd.zeroValue21
  t37 := Tryd.underlying82
  a37 := Tryd.isAgg82
  z37 := Tryd.sizeOf82
  v37 := Tryd.zeroValue82
  t46 := Tryd.underlying83
  a46 := Tryd.isAgg83
  z46 := Tryd.sizeOf83
  v46 := Tryd.zeroValue83
  t51 := Tryd.underlying161
  a51 := Tryd.isAgg161
  z51 := Tryd.sizeOf161
  v51 := Tryd.zeroValue161
  t70 := Tryd.underlying121
  a70 := Tryd.isAgg121
  z70 := Tryd.sizeOf121
  v70 := Tryd.zeroValue121
  t72 := Tryd.underlying123
  a72 := Tryd.isAgg123
  z72 := Tryd.sizeOf123
  v72 := Tryd.zeroValue123
  t75 := Tryd.underlying126
  a75 := Tryd.isAgg126
  z75 := Tryd.sizeOf126
  v75 := Tryd.zeroValue126
  t76 := Tryd.underlying127
  a76 := Tryd.isAgg127
  z76 := Tryd.sizeOf127
  v76 := Tryd.zeroValue127
  t105 := Tryd.underlying143
  a105 := Tryd.isAgg143
  z105 := Tryd.sizeOf143
  v105 := Tryd.zeroValue143
  t119 := Tryd.underlying147
  a119 := Tryd.isAgg147
  z119 := Tryd.sizeOf147
  t127 := Tryd.underlying152
  a127 := Tryd.isAgg152
  z127 := Tryd.sizeOf152
  v127 := Tryd.zeroValue152
  t138 := Tryd.underlying177
  a138 := Tryd.isAgg177
  z138 := Tryd.sizeOf177
  v138 := Tryd.zeroValue177
  t139 := Tryd.underlying178
  a139 := Tryd.isAgg178
  z139 := Tryd.sizeOf178
  v139 := Tryd.zeroValue178
  t146 := Tryd.underlying197
  a146 := Tryd.isAgg197
  z146 := Tryd.sizeOf197
  v146 := Tryd.zeroValue197
  t164 := Tryd.underlying166
  a164 := Tryd.isAgg166
  z164 := Tryd.sizeOf166
  v164 := Tryd.zeroValue166
  g1 := by kernel_rfl
  g3 := by kernel_rfl
  g4 := by kernel_rfl }
theorem Tryd.Builder_Extra_154 : Builder.Extra Tryd.prog Tryd.lays154_ren := {
  sizeBuilder := by kernel_rfl
  liesBuilder := by kernel_rfl
  t5 := Tryd.underlying5
  a5 := Tryd.isAgg5
  z5 := Tryd.sizeOf5
  v5 := Tryd.zeroValue5
  infoByte := by kernel_rfl
  cellsByte := by kernel_rfl
  sizeByte := by kernel_rfl
  neB5 := by decide }
open Go.RowKit Go.Lib in
theorem Tryd.strings_Replace (s old new : ByteArray) (n : Int) (m : Int) (w : World) (hs : s.size < 4294967281) (hm : w.cell? ⟨2, 0, none⟩ = some (.int .i64 m)) (h1 : 1 ≤ old.size) (hlen : s.size + Lib.countB s old * new.size ≤ 140737488355328) :
    Calls Tryd.prog 86 #[.string s, .string old, .string new, .int .i64 n] w fun e w' =>
      e = .returned (.string ⟨(Lib.replace s.data.toList old.data.toList new.data.toList n).toArray⟩) ∧ Below w.heap.size w w' := Any.strings_Replace Tryd.lays154 Tryd.Builder_Extra_154 s old new n m w hs hm h1 hlen
end Go.Proofs
end
section
namespace Go.Proofs.YtejhagejjogbaaaDoor.TokRep
open Go.RowKit YtejhagejjogbaaaDoorW.PrintWords YtejhagejjogbaaaDoorW.PrintLast YtejhagejjogbaaaDoorW.PrintMore Given
def strings_Replace.f (a0 a1 a2 : ByteArray) (a3 : Int) : Option ByteArray :=
  if a0.size < 4294967281 ∧ 1 ≤ a1.size ∧ a0.size + Lib.countB a0 a1 * a2.size ≤ 140737488355328 then some ⟨(Lib.replace a0.data.toList a1.data.toList a2.data.toList a3).toArray⟩ else none
theorem strings_Replace.calls (a0 a1 a2 : ByteArray) (a3 : Int) (r : ByteArray) (w : World) (hG : Aside0 (G0 w)) (h : strings_Replace.f a0 a1 a2 a3 = some r) :
    Calls Tryd.prog 86 #[.string a0, .string a1, .string a2, .int .i64 a3] w fun e w' => e = .returned (.string r) ∧ Below w.heap.size w w' := by
  unfold strings_Replace.f at h
  by_cases hs : a0.size < 4294967281 ∧ 1 ≤ a1.size ∧ a0.size + Lib.countB a0 a1 * a2.size ≤ 140737488355328
  · rw [if_pos hs] at h
    obtain rfl := Option.some.inj h
    obtain ⟨m, hm⟩ := hG.out
    exact Tryd.strings_Replace a0 a1 a2 a3 m w hs.1 hm hs.2.1 hs.2.2
  · rw [if_neg hs] at h; cases h
end Go.Proofs.YtejhagejjogbaaaDoor.TokRep
end
section
namespace Go.Proofs.YtejhagejjogbaaaDoor.Qa
open Go.RowKit YtejhagejjogbaaaDoorW.PrintWords YtejhagejjogbaaaDoorW.PrintLast YtejhagejjogbaaaDoorW.PrintMore Given TokSpan TokJoin TokRep Pn Pa Pb Pc Pd Pe
attribute [local go_sem] max2_int min2_int max_two min_two max_three min_three max_four min_four   -- for this text's walks alone
set_option linter.unusedVariables false
set_option linter.unusedSimpArgs false
def errW : Option Int → Value
 | none => .nilIface
 | some c => .iface 0 (.int .i64 c)
theorem zN : errW none = .nilIface := rfl
theorem zM (c : Int) : errW (some c) = .iface 0 (.int .i64 c) := rfl
theorem info9 : (Tryd.prog.info? 9).map (fun i => (i.zero, i.size, i.bytes)) = some (some (.string ⟨#[]⟩), 1, 16) := by kernel_rfl
theorem info41 : (Tryd.prog.info? 41).map (fun i => (i.zero, i.size, i.bytes)) = some (some (.agg #[(.int .i64 0), (.string ⟨#[]⟩), (.int .u16 0)]), 3, 32) := by kernel_rfl
structure S50 where
 f0 : ByteArray
 f1 : Int
 f2 : ByteArray
 f3 : (List S50)
def z50 : S50 := ⟨(⟨#[]⟩ : ByteArray), (0 : Int), (⟨#[]⟩ : ByteArray), ([] : List S50)⟩
def F50 (d : Kd S50) : Kd S50 := Kd.iso (Kd.pair Kd.string (Kd.pair (Kd.int .u16) (Kd.pair Kd.string (Kd.slice 50 d)))) (fun x : S50 => (x.f0, x.f1, x.f2, x.f3))
theorem mono50 : Kd.Mono F50 := Kd.mono_iso _ (Kd.mono_pair (Kd.mono_const _) (Kd.mono_pair (Kd.mono_const _) (Kd.mono_pair (Kd.mono_const _) (Kd.mono_slice 50 Kd.mono_id))))
theorem sub50 : Kd.Sub F50 [50] := Kd.sub_iso _ (Kd.sub_pair (Kd.sub_const _ (by decide)) (Kd.sub_pair (Kd.sub_const _ (by decide)) (Kd.sub_pair (Kd.sub_const _ (by decide)) (Kd.sub_slice 50 (by decide) Kd.sub_id))))
theorem sz50 : ∀ n, (Kd.upto F50 4 [50] n).sz = 4 := Kd.upto_sz (fun _ => rfl)
def k50 : Kd S50 := Kd.fix F50 4 [50] sz50 (Kd.upto_E sub50)
theorem k50_open {w : World} {x : S50} {cs : List Value} (h : k50.K w x cs) : ∃ A3 c3, cs = [.string x.f0, .int .u16 x.f1, .string x.f2, .slice A3 x.f3.length c3] ∧ x.f3.length ≤ c3 ∧ k50.C w A3 x.f3.length x.f3 := by
 obtain ⟨n, h⟩ := h
 cases n with
 | zero => exact h.elim
 | succ n =>
  obtain ⟨_, _, rfl, rfl, ⟨_, _, rfl, rfl, ⟨_, _, rfl, rfl, ⟨A3, c3, rfl, l3, g3⟩⟩⟩⟩ := h
  exact ⟨A3, c3, rfl, l3, Kd.fix_C g3⟩
theorem k50_mk (w : World) (x : S50) {A3 : Option Addr} {c3 : Nat} (l3 : x.f3.length ≤ c3) (g3 : k50.C w A3 x.f3.length x.f3) : k50.K w x [.string x.f0, .int .u16 x.f1, .string x.f2, .slice A3 x.f3.length c3] := by
 obtain ⟨n3, q3⟩ := Kd.fix_C_back mono50 g3
 have r3 := Kd.upto_C_le mono50 sz50 (show n3 ≤ n3 by omega) q3
 exact ⟨n3 + 1, ⟨[.string x.f0], [.int .u16 x.f1, .string x.f2, .slice A3 x.f3.length c3], rfl, rfl, ⟨[.int .u16 x.f1], [.string x.f2, .slice A3 x.f3.length c3], rfl, rfl, ⟨[.string x.f2], [.slice A3 x.f3.length c3], rfl, rfl, ⟨A3, c3, rfl, l3, r3⟩⟩⟩⟩⟩
theorem k50_mkM (w : World) (base : Nat) (ok : Nat → Prop) (x : S50) {v3 : Value} (g3 : k50.R 50 w base ok v3 x.f3) : k50.M w base ok x [.string x.f0, .int .u16 x.f1, .string x.f2, v3] := by
 obtain ⟨n3, q3⟩ := Kd.fix_R_back mono50 g3
 have r3 := Kd.upto_R_le mono50 sz50 (show n3 ≤ n3 by omega) q3
 exact ⟨n3 + 1, ⟨[.string x.f0], [.int .u16 x.f1, .string x.f2, v3], rfl, rfl, ⟨[.int .u16 x.f1], [.string x.f2, v3], rfl, rfl, ⟨[.string x.f2], [v3], rfl, rfl, ⟨v3, rfl, r3⟩⟩⟩⟩⟩
def zL (xs : List S50) (i : Int) : S50 := xs.getD i.toNat z50
theorem at_T50 {w : World} {A : Option Addr} {n : Nat} {xs : List S50} (h : Kd.C k50 w A n xs) (i : Int) (h0 : 0 ≤ i) (h1 : i < n) : ∃ ad A3 c3, A = some ad ∧ w.cell? (ad.add (i.toNat * 4)) = some (.string (zL xs i).f0) ∧ w.cell? ⟨(ad.add (i.toNat * 4)).block, (ad.add (i.toNat * 4)).off + 1, none⟩ = some (.int .u16 (zL xs i).f1) ∧ w.cell? ⟨(ad.add (i.toNat * 4)).block, (ad.add (i.toNat * 4)).off + 2, none⟩ = some (.string (zL xs i).f2) ∧ w.cell? ⟨(ad.add (i.toNat * 4)).block, (ad.add (i.toNat * 4)).off + 3, none⟩ = some (.slice A3 (zL xs i).f3.length c3) ∧ (zL xs i).f3.length ≤ c3 ∧ k50.C w A3 (zL xs i).f3.length (zL xs i).f3 := by
 obtain ⟨ad, c, e, _, hK, hc0⟩ := Kd.C_get h z50 i h0 h1
 have hc : ∀ j u, c[j]? = some u → w.cell? (ad.add (i.toNat * 4 + j)) = some u := hc0
 obtain ⟨A3, c3, rfl, l3, g3⟩ := k50_open hK
 exact ⟨ad, A3, c3, e, hc 0 _ rfl, by rw [← add_field _ _ 1 (by omega)]; exact hc 1 _ rfl, by rw [← add_field _ _ 2 (by omega)]; exact hc 2 _ rfl, by rw [← add_field _ _ 3 (by omega)]; exact hc 3 _ rfl, l3, g3⟩
structure S98 where
 f0 : ByteArray
 f1 : Int
def z98 : S98 := ⟨(⟨#[]⟩ : ByteArray), (0 : Int)⟩
def k98 : Kd S98 := Kd.iso (Kd.pair Kd.string (Kd.int .u16)) (fun x : S98 => (x.f0, x.f1))
theorem k98_open {w : World} {x : S98} {cs : List Value} (h : k98.K w x cs) : cs = [.string x.f0, .int .u16 x.f1] := by
 obtain ⟨_, _, rfl, rfl, rfl⟩ := h
 exact rfl
theorem k98_mk (w : World) (x : S98)  : k98.K w x [.string x.f0, .int .u16 x.f1] := ⟨[.string x.f0], [.int .u16 x.f1], rfl, rfl, rfl⟩
def rd_T98 (xs : List S98) (i : Int) : S98 := xs.getD i.toNat z98
theorem at_T98 {w : World} {A : Option Addr} {n : Nat} {xs : List S98} (h : Kd.C k98 w A n xs) (i : Int) (h0 : 0 ≤ i) (h1 : i < n) : ∃ ad , A = some ad ∧ w.cell? (ad.add (i.toNat * 2)) = some (.string (rd_T98 xs i).f0) ∧ w.cell? ⟨(ad.add (i.toNat * 2)).block, (ad.add (i.toNat * 2)).off + 1, none⟩ = some (.int .u16 (rd_T98 xs i).f1) := by
 obtain ⟨ad, c, e, _, hK, hc0⟩ := Kd.C_get h z98 i h0 h1
 have hc : ∀ j u, c[j]? = some u → w.cell? (ad.add (i.toNat * 2 + j)) = some u := hc0
 obtain rfl := k98_open hK
 exact ⟨ad, e, hc 0 _ rfl, by rw [← add_field _ _ 1 (by omega)]; exact hc 1 _ rfl⟩
end Go.Proofs.YtejhagejjogbaaaDoor.Qa
end
section
namespace Go.Proofs.YtejhagejjogbaaaDoor.Qa
open Go.RowKit YtejhagejjogbaaaDoorW.PrintWords YtejhagejjogbaaaDoorW.PrintLast YtejhagejjogbaaaDoorW.PrintMore Given TokSpan TokJoin TokRep Pn Pa Pb Pc Pd Pe
attribute [local go_sem] max2_int min2_int max_two min_two max_three min_three max_four min_four   -- for this text's walks alone
set_option linter.unusedVariables false
set_option linter.unusedSimpArgs false
def slices_Index_string_string.l0 : Nat → List ByteArray → ByteArray → Int → Int → Option (Int)
 | 0, _, _, _, _ => none
 | k + 1, x0, x1, x7, x8 => if x8 < x7 then (if 0 ≤ x8 then (if x8 < (x0.length : Int) then (if x1.toList = (rdOf ByteArray.empty x0 x8).toList then (some x8) else (slices_Index_string_string.l0 k x0 x1 x7 (wrap64 (x8 + 1)))) else (none)) else (none)) else (some (-1))
def slices_Index_string_string.f (k : Nat) (l0 : List ByteArray) (a1 : ByteArray) : Option (Int) := slices_Index_string_string.l0 k l0 a1 (l0.length : Int) 0
set_option maxHeartbeats 8000000 in
set_option maxRecDepth 100000 in
theorem slices_Index_string_string.calls (k : Nat) (A0 : Option Addr) (c0 : Nat) (l0 : List ByteArray) (a1 : ByteArray) (r : Int) (w : World) (hr0 : Kd.C Kd.string w A0 l0.length l0) (hc0 : l0.length ≤ c0) (h : slices_Index_string_string.f k l0 a1 = some r) :
  Calls Tryd.prog 136 #[.slice A0 l0.length c0, .string a1] w fun e w' => e = .returned (.int .i64 r) ∧ Drawn0 w w' := by
 have HR0 := zz_ hr0
 have HC0 := zz_ hc0
 clear hr0 hc0
 have H : (slices_Index_string_string.l0 k l0 a1 (l0.length : Int) 0) = some r := h
 clear h
 have H' := zz_ H
 clear H
 go_enter Tryd.func136, Tryd.ntmps136
 go_wp2
 first | go_loopg [8] k (fun kq v8 w' => ∃ (x8_1 : Int), v8 = .int .i64 x8_1 ∧ Aside0 (slices_Index_string_string.l0 kq l0 a1 (l0.length : Int) x8_1 = some r) ∧ Aside0 (kq ≤ k) ∧ Drawn0 w w') | (go_simp; go_loopg [8] k (fun kq v8 w' => ∃ (x8_1 : Int), v8 = .int .i64 x8_1 ∧ Aside0 (slices_Index_string_string.l0 kq l0 a1 (l0.length : Int) x8_1 = some r) ∧ Aside0 (kq ≤ k) ∧ Drawn0 w w'))
 case atStart => exact ⟨(0), (by first | rfl | (simp; done) | (simp [*]; done)), H', ⟨Nat.le_refl _⟩, by repeat (first | exact Drawn0.refl _ | apply Drawn0.step)⟩
 case round =>
  clear H'
  try clear c1
  try clear p2
  obtain ⟨x8_1, rfl, HA, HK1, ⟨m1, rfl⟩⟩ := hrel
  cases gk with
  | zero => exact absurd HA.out (by simp [slices_Index_string_string.l0])
  | succ k1 =>
   have H := HA.out
   clear HA
   simp only [slices_Index_string_string.l0] at H
   by_cases c3 : x8_1 < (l0.length : Int)
   ·rw [if_pos c3] at H
    have c3b0 : decide (x8_1 < (l0.length : Int)) = true := decide_eq_true c3
    clear c3
    by_cases c4 : 0 ≤ x8_1
    ·rw [if_pos c4] at H
     have c4b0 : decide (0 ≤ x8_1) = true := decide_eq_true c4
     clear c4
     by_cases c5 : x8_1 < (l0.length : Int)
     ·rw [if_pos c5] at H
      have c5b0 : decide (x8_1 < (l0.length : Int)) = true := decide_eq_true c5
      clear c5
      by_cases c6 : a1.toList = (rdOf ByteArray.empty l0 x8_1).toList
      ·rw [if_pos c6] at H
       have c6b0 : (a1.toList == (rdOf ByteArray.empty l0 x8_1).toList) = true := beq_iff_eq.mpr c6
       have c6b1 : (a1.toList != (rdOf ByteArray.empty l0 x8_1).toList) = false := bne_eq_false_iff_eq.mpr c6
       clear c6
       obtain rfl := Option.some.inj H
       have p104 : 0 ≤ (x8_1 : Int) := of_decide_eq_true (by first | (with_reducible assumption) | assumption)
       have q104 : x8_1 < (l0.length : Int) := of_decide_eq_true (by first | (with_reducible assumption) | assumption)
       obtain ⟨ad104, e104, hx104_0⟩ := Kd.at_string HR0.out x8_1 p104 q104
       cases e104
       replace p104 := eq_true p104
       replace q104 := eq_true q104
       go_wp2
       go_ret
       exact ⟨by first | rfl | (simp; done) | (simp [*]; done), by repeat (first | exact Drawn0.refl _ | apply Drawn0.step)⟩
      ·rw [if_neg c6] at H
       have c6b0 : (a1.toList == (rdOf ByteArray.empty l0 x8_1).toList) = false := beq_eq_false_iff_ne.mpr c6
       have c6b1 : (a1.toList != (rdOf ByteArray.empty l0 x8_1).toList) = true := bne_iff_ne.mpr c6
       have H' := zz_ H
       clear H
       have p104 : 0 ≤ (x8_1 : Int) := of_decide_eq_true (by first | (with_reducible assumption) | assumption)
       have q104 : x8_1 < (l0.length : Int) := of_decide_eq_true (by first | (with_reducible assumption) | assumption)
       obtain ⟨ad104, e104, hx104_0⟩ := Kd.at_string HR0.out x8_1 p104 q104
       cases e104
       replace p104 := eq_true p104
       replace q104 := eq_true q104
       go_wp2
       go_roundg k1
       case measure => have := HK1.out; omega
       case rel => exact ⟨(wrap64 (x8_1 + 1)), (by first | rfl | (simp; done) | (simp [*]; done)), H', ⟨by have := HK1.out; omega⟩, by repeat (first | exact Drawn0.refl _ | apply Drawn0.step)⟩
     ·rw [if_neg c5] at H
      exact absurd H (by simp)
    ·rw [if_neg c4] at H
     exact absurd H (by simp)
   ·rw [if_neg c3] at H
    have c3b0 : decide (x8_1 < (l0.length : Int)) = false := decide_eq_false c3
    clear c3
    obtain rfl := Option.some.inj H
    go_wp2
    go_ret
    exact ⟨by first | rfl | (simp; done) | (simp [*]; done), by repeat (first | exact Drawn0.refl _ | apply Drawn0.step)⟩
def slices_Contains_string_string.f (k : Nat) (l0 : List ByteArray) (a1 : ByteArray) : Option (Bool) := (slices_Index_string_string.f k l0 a1).bind fun t105 => (some (decide (t105 ≥ 0)))
set_option maxHeartbeats 8000000 in
set_option maxRecDepth 100000 in
theorem slices_Contains_string_string.calls (k : Nat) (A0 : Option Addr) (c0 : Nat) (l0 : List ByteArray) (a1 : ByteArray) (r : Bool) (w : World) (hr0 : Kd.C Kd.string w A0 l0.length l0) (hc0 : l0.length ≤ c0) (h : slices_Contains_string_string.f k l0 a1 = some r) :
  Calls Tryd.prog 191 #[.slice A0 l0.length c0, .string a1] w fun e w' => e = .returned (.bool r) ∧ Drawn0 w w' := by
 have HR0 := zz_ hr0
 have HC0 := zz_ hc0
 clear hr0 hc0
 have H : ((slices_Index_string_string.f k l0 a1).bind fun t105 => (some (decide (t105 ≥ 0)))) = some r := h
 clear h
 replace H := Option.bind_eq_some_iff.mp H
 obtain ⟨t105, A30, H⟩ := H
 replace H : (some (decide (t105 ≥ 0))) = some r := H
 have A3 := zz_ A30
 clear A30
 obtain rfl := Option.some.inj H
 go_enter Tryd.func191, Tryd.ntmps191
 go_wp2_with (first | ((with_reducible refine zQ (f := 136) rfl ?_); refine goesL_ (some 7) rfl rfl Tryd.func136 (by kernel_rfl) rfl #[.slice A0 l0.length c0, .string a1] rfl (by (try simp only [List.map_toArray, List.map_cons, List.map_nil]); first | done | rfl | (simp only [List.length_drop, List.length_take]; rfl)) ?_; (with_reducible refine (slices_Index_string_string.calls k _ _ l0 a1 t105 _ ?side1 ?side2 A3.out).mono ?_); (case side1 => repeat (first | exact HR0.out | (with_reducible refine Kd.C_alloc ?_ _) | (with_reducible refine Kd.C_drewN ?_ _) | (with_reducible refine Kd.C_drew ?_))); (case side2 => exact HC0.out); rintro e w' ⟨rfl, ⟨nd, rfl⟩⟩; refine ⟨_, rfl, ?_⟩))
 go_ret
 exact ⟨by first | rfl | (simp; done) | (simp [*]; done), by repeat (first | exact Drawn0.refl _ | apply Drawn0.step)⟩
def IsS134 (w0 W : World) (g : Nat) (f0 : List (S41)) : Prop := ∃ A0 c0, W.heap[g]? = some (.cells #[.slice A0 f0.length c0] 134 (0, 0)) ∧ w0.heap.size ≤ g ∧ Kd.C k41 w0 A0 f0.length f0
theorem IsS134.grown {w0 W : World} {g : Nat} {f0 : List (S41)} {W1 : World} {row : Option Nat} (h : IsS134 w0 W g f0) (hw : W.grownBy W1 row) (hne : some g ≠ row) : IsS134 w0 W1 g f0 := by
 obtain ⟨A0, c0, hb, hg, hr0⟩ := h
 exact ⟨A0, c0, blk_grown hb hw hne, hg, hr0⟩
theorem IsS134.fresh {w0 W : World} {g : Nat} {f0 : List (S41)} (h : IsS134 w0 W g f0) : ∀ k, W.heap.size ≤ k → k ≠ g := by
 obtain ⟨A0, c0, hb, hg, hr0⟩ := h
 exact Kd.freshB hb
theorem IsS134.kept {w0 W : World} {g : Nat} {f0 : List (S41)} {W1 : World} {S : Nat → Prop} (h : IsS134 w0 W g f0) (hk : Kept W W1 S) (hne : ¬ S g) : IsS134 w0 W1 g f0 := by
 obtain ⟨A0, c0, hb, hg, hr0⟩ := h
 exact ⟨A0, c0, blk_kept hb hk hne, hg, hr0⟩
theorem IsS134.below {w0 W : World} {g : Nat} {f0 : List (S41)} {W1 : World} (h : IsS134 w0 W g f0) (hw : Below W.heap.size W W1) : IsS134 w0 W1 g f0 := h.grown (grown_of_below hw none) (by simp)
theorem IsS134.alloc {w0 W : World} {g : Nat} {f0 : List (S41)} (h : IsS134 w0 W g f0) (o : Obj) : IsS134 w0 (W.alloc o) g f0 := h.below (zB (Below.refl _ _) o)
theorem IsS134.drewN {w0 W : World} {g : Nat} {f0 : List (S41)} (h : IsS134 w0 W g f0) (m : Nat) : IsS134 w0 (W.drewN m) g f0 := h
theorem IsS134.drew {w0 W : World} {g : Nat} {f0 : List (S41)} (h : IsS134 w0 W g f0) : IsS134 w0 W.drew g f0 := h
theorem IsS134.at_ {w0 W : World} {g : Nat} {f0 : List (S41)} {w' : World} {m : Nat} (hq : W.drewN m = w') (h : IsS134 w0 W g f0) : IsS134 w0 w' g f0 := by subst hq; exact IsS134.drewN h m
theorem IsS134.apart {w0 W : World} {g : Nat} {f0 : List (S41)} {α : Type} {d : Kd α} {e : Nat} {base : Nat} {ok : Nat → Prop} {v : Value} {xs : List α} (h : IsS134 w0 W g f0) (ho : d.R e W base ok v xs) (ht : ∀ q, q ∈ e :: d.E → q ≠ 134) : d.R e W base (fun k => ok k ∧ k ≠ g) v xs := by
 obtain ⟨A0, c0, hb, hg, hr0⟩ := h
 exact Kd.R_types ho hb ht
theorem IsS134.own_ne {w0 W : World} {g : Nat} {f0 : List (S41)} {α : Type} {d : Kd α} {e : Nat} {base : Nat} {ok : Nat → Prop} {v : Value} {xs : List α} (h : IsS134 w0 W g f0) (ho : d.R e W base ok v xs) (ht : e ≠ 134) : some g ≠ v.ownBlock := by
 obtain ⟨A0, c0, hb, hg, hr0⟩ := h
 exact Kd.R_ne ho hb ht
theorem IsS134.lt {w0 W : World} {g : Nat} {f0 : List (S41)} (h : IsS134 w0 W g f0) : g < W.heap.size := by
 obtain ⟨A0, c0, hb, hg, hr0⟩ := h
 exact blk_lt hb
theorem IsS134.ge {w0 W : World} {g : Nat} {f0 : List (S41)} (h : IsS134 w0 W g f0) : w0.heap.size ≤ g := by
 obtain ⟨A0, c0, hb, hg, hr0⟩ := h
 exact hg
theorem IsS134.far {w0 W : World} {g : Nat} {f0 : List (S41)} {p : Addr} (h : IsS134 w0 W g f0) (hne : g ≠ p.block) (u : Value) : IsS134 w0 (W.setCell p u) g f0 := by
 obtain ⟨A0, c0, hb, hg, hr0⟩ := h
 exact ⟨A0, c0, blk_far hb hne u, hg, hr0⟩
theorem IsS134.new (w0 W : World) (A0 : Option Addr) (c0 : Nat) (f0 : List (S41)) (hB : Below w0.heap.size w0 W) (hr0 : Kd.C k41 w0 A0 f0.length f0) : IsS134 w0 (W.alloc (.cells #[.slice A0 f0.length c0] 134)) W.heap.size f0 := ⟨A0, c0, by simpa using heap_alloc_new W _, hB.size, hr0⟩
mutual
def pidginlaw05_Light.j0 : Nat → Int → Bool → ByteArray → Int → ByteArray → List (S50) → Option (Bool)
 | 0, _, _, _, _, _, _ => none
 | k + 1, x1, x25, x111000, x111001, x111002, x111003 => if x25 = true then (some false) else (pidginlaw05_Light.l0 k x1 0 x111000 x111001 x111002 x111003)
def pidginlaw05_Light.l0 : Nat → Int → Int → ByteArray → Int → ByteArray → List (S50) → Option (Bool)
 | 0, _, _, _, _, _, _ => none
 | k + 1, x1, x5, x111000, x111001, x111002, x111003 => if x5 < (x111003.length : Int) then (if 0 ≤ x5 then ((pidginlaw05_Light.f k ((zL x111003 x5).f0) ((zL x111003 x5).f1) ((zL x111003 x5).f2) ((zL x111003 x5).f3) (wrap64 (x1 - 1))).bind fun t112 => (if t112 = true then (pidginlaw05_Light.l0 k x1 (wrap64 (x5 + 1)) x111000 x111001 x111002 x111003) else (some false))) else (none)) else (some true)
def pidginlaw05_Light.f : Nat → ByteArray → Int → ByteArray → List (S50) → Int → Option (Bool)
 | 0, _, _, _, _, _ => none
 | k + 1, a0_0, a0_1, a0_2, l0_3, a1 => if a1 = 0 then (pidginlaw05_Light.j0 k a1 true a0_0 a0_1 a0_2 l0_3) else (if (l0_3.length : Int) > 3 then (pidginlaw05_Light.j0 k a1 true a0_0 a0_1 a0_2 l0_3) else (if (a0_0.size : Int) > 50 then (pidginlaw05_Light.j0 k a1 true a0_0 a0_1 a0_2 l0_3) else (pidginlaw05_Light.j0 k a1 (decide ((a0_2.size : Int) > 50)) a0_0 a0_1 a0_2 l0_3)))
end
set_option maxHeartbeats 8000000 in
set_option maxRecDepth 100000 in
theorem pidginlaw05_Light.calls (k : Nat) : ∀ (a0_0 : ByteArray) (a0_1 : Int) (a0_2 : ByteArray) (A0_3 : Option Addr) (c0_3 : Nat) (l0_3 : List (S50)) (a1 : Int) (r : Bool) (w : World) (hr0_3 : Kd.C k50 w A0_3 l0_3.length l0_3) (hc0_3 : l0_3.length ≤ c0_3) (h : pidginlaw05_Light.f k a0_0 a0_1 a0_2 l0_3 a1 = some r),
  Calls Tryd.prog 73 #[.agg #[.string a0_0, .int .u16 a0_1, .string a0_2, .slice A0_3 l0_3.length c0_3], .int .i64 a1] w fun e w' => e = .returned (.bool r) ∧ Below w.heap.size w w' := by
 induction k using Nat.strongRecOn with
 | _ k ih =>
 intro a0_0 a0_1 a0_2 A0_3 c0_3 l0_3 a1 r w hr0_3 hc0_3 h
 cases k with
 | zero => exact absurd h (by simp [pidginlaw05_Light.f])
 | succ k =>
 simp only [pidginlaw05_Light.f] at h
 have hu50 := Tryd.underlying50
 have HR0_3 := zz_ hr0_3
 have HC0_3 := zz_ hc0_3
 clear hr0_3 hc0_3
 have HB := zz_ (Below.refl w.heap.size w)
 have H : (if a1 = 0 then (pidginlaw05_Light.j0 k a1 true a0_0 a0_1 a0_2 l0_3) else (if (l0_3.length : Int) > 3 then (pidginlaw05_Light.j0 k a1 true a0_0 a0_1 a0_2 l0_3) else (if (a0_0.size : Int) > 50 then (pidginlaw05_Light.j0 k a1 true a0_0 a0_1 a0_2 l0_3) else (pidginlaw05_Light.j0 k a1 (decide ((a0_2.size : Int) > 50)) a0_0 a0_1 a0_2 l0_3)))) = some r := h
 clear h
 have HC3 := zz_ H
 clear H
 go_enter Tryd.func73, Tryd.ntmps73
 go_upto_region 1 with (first | ((with_reducible refine zS (N := 2) rfl ?_); (try (refine gate_guard (by rfl) ?_; dsimp only)); refine zO ?hg (N := 2) ?hd (cs := #[.string a0_0, .int .u16 a0_1, .string a0_2, .slice A0_3 l0_3.length c0_3]) (t := 50) ?hr ?_; (case hd => rfl); (case hg => rfl); (case hr => first | (go_simp; done) | (go_simp; rfl)); intro gb110 hg w4 hbox hb; have n0_ := zz_ (zG (by repeat (first | (with_reducible first | exact HB.out | apply zB | apply zA | apply zC) | exact HB.out)) hb); have n1_ := zz_ (hbox); have n2_ := zz_ ((by rw [hg]; exact (zR (by repeat (first | (with_reducible first | exact HB.out | apply zB | apply zA | apply zC) | exact HB.out))) : w.heap.size ≤ gb110)); have n3_ := zz_ ((by rw [hg]; exact (zR (by repeat (first | (with_reducible first | exact HB.out | apply zB | apply zA | apply zC) | exact HB.out))) : w.heap.size ≤ gb110)); clear HB; have HB := n0_; have BK110 := n1_; have GW110 := n2_; have GE110 := n3_; clear n0_ n1_ n2_ n3_; clear hb hbox hg))
 (try simp only [Act.put, List.setIfInBounds_toArray, List.set_cons_zero, List.set_cons_succ])
 go_cut [25] (fun v25 wc => ∃ (kq : Nat) (x25_2 : Bool), v25 = .bool x25_2 ∧ Aside0 (pidginlaw05_Light.j0 kq a1 x25_2 a0_0 a0_1 a0_2 l0_3 = some r) ∧ Aside0 (kq ≤ k) ∧ Aside0 (wc.heap[gb110]? = some (.cells #[.string a0_0, .int .u16 a0_1, .string a0_2, (.slice A0_3 l0_3.length c0_3)] 50 (0, 0))) ∧ Aside0 (Below w.heap.size w wc))
 case first =>
  have H := HC3.out
  clear HC3
  by_cases c5 : a1 = 0
  ·rw [if_pos c5] at H
   have c5b0 : (a1 == 0) = true := beq_iff_eq.mpr c5
   have c5b1 : (a1 != 0) = false := bne_eq_false_iff_eq.mpr c5
   clear c5
   (first | rw [c5b0] | (simp only [i64_w, i32_w]; rw [c5b0]) | skip)
   have H' := zz_ H
   clear H
   go_wp2
   go_meet
   case rel => exact ⟨_, (true), (by first | rfl | (simp; done) | (simp [*]; done)), H', ⟨by first | omega | exact Nat.le_refl _⟩, ⟨by (with_reducible repeat (first | refine zH ?_ _ | refine zJ ?_ | refine zI ?_ _)); exact BK110.out⟩, ⟨by repeat (first | (with_reducible first | exact HB.out | apply zB | apply zA | apply zC | refine zF ?_ GE110.out) | exact HB.out)⟩⟩
  ·rw [if_neg c5] at H
   have c5b0 : (a1 == 0) = false := beq_eq_false_iff_ne.mpr c5
   have c5b1 : (a1 != 0) = true := bne_iff_ne.mpr c5
   (first | rw [c5b0] | (simp only [i64_w, i32_w]; rw [c5b0]) | skip)
   by_cases c6 : (l0_3.length : Int) > 3
   ·rw [if_pos c6] at H
    have c6b0 : decide (3 < (l0_3.length : Int)) = true := decide_eq_true c6
    have c6b1 : decide (3 < l0_3.length) = true := decide_eq_true (by omega)
    clear c6
    have H' := zz_ H
    clear H
    have hcz7_0 : w4.cell? ⟨gb110, 0, none⟩ = some (.string a0_0) := (zD BK110.out 0).trans rfl
    have hcz7_1 : w4.cell? ⟨gb110, 1, none⟩ = some (.int .u16 a0_1) := (zD BK110.out 1).trans rfl
    have hcz7_2 : w4.cell? ⟨gb110, 2, none⟩ = some (.string a0_2) := (zD BK110.out 2).trans rfl
    have hcz7_3 : w4.cell? ⟨gb110, 3, none⟩ = some (.slice A0_3 l0_3.length c0_3) := (zD BK110.out 3).trans rfl
    have hfz7_0 := zE BK110.out 0
    have hfz7_1 := zE BK110.out 1
    have hfz7_2 := zE BK110.out 2
    have hfz7_3 := zE BK110.out 3
    go_wp2
    go_meet
    case rel => exact ⟨_, (true), (by first | rfl | (simp; done) | (simp [*]; done)), H', ⟨by first | omega | exact Nat.le_refl _⟩, ⟨by (with_reducible repeat (first | refine zH ?_ _ | refine zJ ?_ | refine zI ?_ _)); exact BK110.out⟩, ⟨by repeat (first | (with_reducible first | exact HB.out | apply zB | apply zA | apply zC | refine zF ?_ GE110.out) | exact HB.out)⟩⟩
   ·rw [if_neg c6] at H
    have c6b0 : decide (3 < (l0_3.length : Int)) = false := decide_eq_false c6
    have c6b1 : decide (3 < l0_3.length) = false := decide_eq_false (by omega)
    clear c6
    by_cases c8 : (a0_0.size : Int) > 50
    ·rw [if_pos c8] at H
     have c8b0 : decide (50 < (a0_0.size : Int)) = true := decide_eq_true c8
     have c8b1 : decide (50 < a0_0.size) = true := decide_eq_true (by omega)
     clear c8
     have H' := zz_ H
     clear H
     have hcz9_0 : w4.cell? ⟨gb110, 0, none⟩ = some (.string a0_0) := (zD BK110.out 0).trans rfl
     have hcz9_1 : w4.cell? ⟨gb110, 1, none⟩ = some (.int .u16 a0_1) := (zD BK110.out 1).trans rfl
     have hcz9_2 : w4.cell? ⟨gb110, 2, none⟩ = some (.string a0_2) := (zD BK110.out 2).trans rfl
     have hcz9_3 : w4.cell? ⟨gb110, 3, none⟩ = some (.slice A0_3 l0_3.length c0_3) := (zD BK110.out 3).trans rfl
     have hfz9_0 := zE BK110.out 0
     have hfz9_1 := zE BK110.out 1
     have hfz9_2 := zE BK110.out 2
     have hfz9_3 := zE BK110.out 3
     go_wp2
     go_meet
     case rel => exact ⟨_, (true), (by first | rfl | (simp; done) | (simp [*]; done)), H', ⟨by first | omega | exact Nat.le_refl _⟩, ⟨by (with_reducible repeat (first | refine zH ?_ _ | refine zJ ?_ | refine zI ?_ _)); exact BK110.out⟩, ⟨by repeat (first | (with_reducible first | exact HB.out | apply zB | apply zA | apply zC | refine zF ?_ GE110.out) | exact HB.out)⟩⟩
    ·rw [if_neg c8] at H
     have c8b0 : decide (50 < (a0_0.size : Int)) = false := decide_eq_false c8
     have c8b1 : decide (50 < a0_0.size) = false := decide_eq_false (by omega)
     clear c8
     have H' := zz_ H
     clear H
     have hcz10_0 : w4.cell? ⟨gb110, 0, none⟩ = some (.string a0_0) := (zD BK110.out 0).trans rfl
     have hcz10_1 : w4.cell? ⟨gb110, 1, none⟩ = some (.int .u16 a0_1) := (zD BK110.out 1).trans rfl
     have hcz10_2 : w4.cell? ⟨gb110, 2, none⟩ = some (.string a0_2) := (zD BK110.out 2).trans rfl
     have hcz10_3 : w4.cell? ⟨gb110, 3, none⟩ = some (.slice A0_3 l0_3.length c0_3) := (zD BK110.out 3).trans rfl
     have hfz10_0 := zE BK110.out 0
     have hfz10_1 := zE BK110.out 1
     have hfz10_2 := zE BK110.out 2
     have hfz10_3 := zE BK110.out 3
     go_wp2
     go_meet
     case rel => exact ⟨_, (decide ((a0_2.size : Int) > 50)), (by first | rfl | (simp; done) | (simp [*]; done)), H', ⟨by first | omega | exact Nat.le_refl _⟩, ⟨by (with_reducible repeat (first | refine zH ?_ _ | refine zJ ?_ | refine zI ?_ _)); exact BK110.out⟩, ⟨by repeat (first | (with_reducible first | exact HB.out | apply zB | apply zA | apply zC | refine zF ?_ GE110.out) | exact HB.out)⟩⟩
 case rest =>
  clear HC3
  try clear p2
  try clear c5
  try clear c5b0
  try clear c5b1
  try clear c6
  try clear c6b0
  try clear c6b1
  try clear c7
  try clear c8
  try clear c8b0
  try clear c8b1
  try clear hcz10_0
  try clear hcz10_1
  try clear hcz10_2
  try clear hcz10_3
  try clear hcz7_0
  try clear hcz7_1
  try clear hcz7_2
  try clear hcz7_3
  try clear hcz9_0
  try clear hcz9_1
  try clear hcz9_2
  try clear hcz9_3
  try clear hfz10_0
  try clear hfz10_1
  try clear hfz10_2
  try clear hfz10_3
  try clear hfz7_0
  try clear hfz7_1
  try clear hfz7_2
  try clear hfz7_3
  try clear hfz9_0
  try clear hfz9_1
  try clear hfz9_2
  try clear hfz9_3
  obtain ⟨kq, x25_2, rfl, HA, HJ2, BK110, HB⟩ := hcut
  cases kq with
  | zero => exact absurd HA.out (by simp [pidginlaw05_Light.j0])
  | succ kj2 =>
   have H := HA.out
   clear HA
   simp only [pidginlaw05_Light.j0] at H
   by_cases c11 : x25_2 = true
   ·subst c11
    have H1 : (some false) = some r := by rw [if_pos rfl] at H; exact H
    clear H
    have H := H1
    clear H1
    obtain rfl := Option.some.inj H
    go_wp2
    go_ret
    exact ⟨by first | rfl | (simp [zN, zM] <;> rfl) | (simp [*, zN, zM] <;> rfl), by repeat (first | (with_reducible first | exact HB.out | apply zB | apply zA | apply zC | refine zF ?_ GE110.out) | exact HB.out)⟩
   ·replace c11 := Bool.eq_false_iff.mpr c11
    subst c11
    have H1 : (pidginlaw05_Light.l0 kj2 a1 0 a0_0 a0_1 a0_2 l0_3) = some r := by rw [if_neg (show ¬ (false = true) by decide)] at H; exact H
    clear H
    have H := H1
    clear H1
    have H' := zz_ H
    clear H
    go_wp2
    first | go_loopg [5] kj2 (fun kq v5 w' => ∃ (x5_2 : Int), v5 = .int .i64 x5_2 ∧ Aside0 (pidginlaw05_Light.l0 kq a1 x5_2 a0_0 a0_1 a0_2 l0_3 = some r) ∧ Aside0 (kq ≤ kj2) ∧ Aside0 (w'.heap[gb110]? = some (.cells #[.string a0_0, .int .u16 a0_1, .string a0_2, (.slice A0_3 l0_3.length c0_3)] 50 (0, 0))) ∧ Aside0 (Below w.heap.size w w')) | (go_simp; go_loopg [5] kj2 (fun kq v5 w' => ∃ (x5_2 : Int), v5 = .int .i64 x5_2 ∧ Aside0 (pidginlaw05_Light.l0 kq a1 x5_2 a0_0 a0_1 a0_2 l0_3 = some r) ∧ Aside0 (kq ≤ kj2) ∧ Aside0 (w'.heap[gb110]? = some (.cells #[.string a0_0, .int .u16 a0_1, .string a0_2, (.slice A0_3 l0_3.length c0_3)] 50 (0, 0))) ∧ Aside0 (Below w.heap.size w w')))
    case atStart => exact ⟨(0), (by first | rfl | (simp; done) | (simp [*]; done)), H', ⟨Nat.le_refl _⟩, ⟨by (with_reducible repeat (first | refine zH ?_ _ | refine zJ ?_ | refine zI ?_ _)); exact BK110.out⟩, ⟨by repeat (first | (with_reducible first | exact HB.out | apply zB | apply zA | apply zC | refine zF ?_ GE110.out) | exact HB.out)⟩⟩
    case round =>
     clear H'
     try clear c1
     try clear p2
     try clear c5
     try clear c5b0
     try clear c5b1
     try clear c6
     try clear c6b0
     try clear c6b1
     try clear c7
     try clear c8
     try clear c8b0
     try clear c8b1
     try clear c11
     try clear hcz10_0
     try clear hcz10_1
     try clear hcz10_2
     try clear hcz10_3
     try clear hcz7_0
     try clear hcz7_1
     try clear hcz7_2
     try clear hcz7_3
     try clear hcz9_0
     try clear hcz9_1
     try clear hcz9_2
     try clear hcz9_3
     try clear hfz10_0
     try clear hfz10_1
     try clear hfz10_2
     try clear hfz10_3
     try clear hfz7_0
     try clear hfz7_1
     try clear hfz7_2
     try clear hfz7_3
     try clear hfz9_0
     try clear hfz9_1
     try clear hfz9_2
     try clear hfz9_3
     try clear p2
     obtain ⟨x5_2, rfl, HA, HK2, BK110, HB⟩ := hrel
     cases gk with
     | zero => exact absurd HA.out (by simp [pidginlaw05_Light.l0])
     | succ k2 =>
      have H := HA.out
      clear HA
      simp only [pidginlaw05_Light.l0] at H
      by_cases c12 : x5_2 < (l0_3.length : Int)
      ·rw [if_pos c12] at H
       have c12b0 : decide (x5_2 < (l0_3.length : Int)) = true := decide_eq_true c12
       clear c12
       by_cases c13 : 0 ≤ x5_2
       ·rw [if_pos c13] at H
        have c13b0 : decide (0 ≤ x5_2) = true := decide_eq_true c13
        clear c13
        replace H := Option.bind_eq_some_iff.mp H
        obtain ⟨t112, A140, H⟩ := H
        replace H : (if t112 = true then (pidginlaw05_Light.l0 k2 a1 (wrap64 (x5_2 + 1)) a0_0 a0_1 a0_2 l0_3) else (some false)) = some r := H
        have A14 := zz_ A140
        clear A140
        by_cases c15 : t112 = true
        ·subst c15
         have H1 : (pidginlaw05_Light.l0 k2 a1 (wrap64 (x5_2 + 1)) a0_0 a0_1 a0_2 l0_3) = some r := by rw [if_pos rfl] at H; exact H
         clear H
         have H := H1
         clear H1
         have H' := zz_ H
         clear H
         have hcz16_0 : wr.cell? ⟨gb110, 0, none⟩ = some (.string a0_0) := (zD BK110.out 0).trans rfl
         have hcz16_1 : wr.cell? ⟨gb110, 1, none⟩ = some (.int .u16 a0_1) := (zD BK110.out 1).trans rfl
         have hcz16_2 : wr.cell? ⟨gb110, 2, none⟩ = some (.string a0_2) := (zD BK110.out 2).trans rfl
         have hcz16_3 : wr.cell? ⟨gb110, 3, none⟩ = some (.slice A0_3 l0_3.length c0_3) := (zD BK110.out 3).trans rfl
         have hfz16_0 := zE BK110.out 0
         have hfz16_1 := zE BK110.out 1
         have hfz16_2 := zE BK110.out 2
         have hfz16_3 := zE BK110.out 3
         have p111 : 0 ≤ (x5_2 : Int) := of_decide_eq_true (by first | (with_reducible assumption) | assumption)
         have q111 : x5_2 < (l0_3.length : Int) := of_decide_eq_true (by first | (with_reducible assumption) | assumption)
         obtain ⟨ad111, A111_3, c111_3, e111, hx111_0, hx111_1, hx111_2, hx111_3, hl111_3, hi111_3⟩ := at_T50 HR0_3.out x5_2 p111 q111
         cases e111
         replace hx111_0 := (HB.out.cell (World.block_lt_of_cell? w _ hx111_0)).trans hx111_0
         replace hx111_1 := (HB.out.cell (World.block_lt_of_cell? w _ hx111_1)).trans hx111_1
         replace hx111_2 := (HB.out.cell (World.block_lt_of_cell? w _ hx111_2)).trans hx111_2
         replace hx111_3 := (HB.out.cell (World.block_lt_of_cell? w _ hx111_3)).trans hx111_3
         have HR111_3 := zz_ hi111_3
         have HC111_3 := zz_ hl111_3
         clear hi111_3 hl111_3
         replace p111 := eq_true p111
         replace q111 := eq_true q111
         go_wp2_with (first | ((with_reducible refine zQ (f := 73) rfl ?_); refine goesL_ (some 40) rfl rfl Tryd.func73 (by kernel_rfl) rfl #[.agg #[.string ((zL l0_3 x5_2).f0), .int .u16 ((zL l0_3 x5_2).f1), .string ((zL l0_3 x5_2).f2), .slice A111_3 ((zL l0_3 x5_2).f3).length c111_3], .int .i64 (wrap64 (a1 - 1))] rfl (by (try simp only [List.map_toArray, List.map_cons, List.map_nil]); first | done | rfl | (simp only [List.length_drop, List.length_take]; rfl)) ?_; (with_reducible refine (ih k2 (by have := HJ2.out; have := HK2.out; omega) ((zL l0_3 x5_2).f0) ((zL l0_3 x5_2).f1) ((zL l0_3 x5_2).f2) _ _ ((zL l0_3 x5_2).f3) (wrap64 (a1 - 1)) true _ ?side1 ?side2 A14.out).mono ?_); (case side1 => repeat (first | exact (Kd.zV HR111_3.out HB.out) | (with_reducible refine Kd.C_alloc ?_ _) | (with_reducible refine Kd.C_drewN ?_ _) | (with_reducible refine Kd.C_drew ?_))); (case side2 => exact HC111_3.out); rintro e w17 ⟨rfl, hb⟩; refine ⟨_, rfl, ?_⟩; have n0_ := zz_ (zK (g := gb110) (o := .cells #[.string a0_0, .int .u16 a0_1, .string a0_2, .slice (some ad111) l0_3.length c0_3] 50 (0, 0)) (by (with_reducible repeat (first | refine zH ?_ _ | refine zJ ?_ | refine zI ?_ _)); exact BK110.out) hb); have n1_ := zz_ (zG (by repeat (first | (with_reducible first | exact HB.out | apply zB | apply zA | apply zC | refine zF ?_ GE110.out) | exact HB.out)) hb); clear BK110; clear HB; have BK110 := n0_; have HB := n1_; clear n0_ n1_; (try clear hb)))
         go_roundg k2
         case measure => have := HJ2.out; have := HK2.out; omega
         case rel => exact ⟨(wrap64 (x5_2 + 1)), (by first | rfl | (simp; done) | (simp [*]; done)), H', ⟨by have := HJ2.out; have := HK2.out; omega⟩, ⟨by (with_reducible repeat (first | refine zH ?_ _ | refine zJ ?_ | refine zI ?_ _)); exact BK110.out⟩, ⟨by repeat (first | (with_reducible first | exact HB.out | apply zB | apply zA | apply zC | refine zF ?_ GE110.out) | exact HB.out)⟩⟩
        ·replace c15 := Bool.eq_false_iff.mpr c15
         subst c15
         have H1 : (some false) = some r := by rw [if_neg (show ¬ (false = true) by decide)] at H; exact H
         clear H
         have H := H1
         clear H1
         obtain rfl := Option.some.inj H
         have hcz18_0 : wr.cell? ⟨gb110, 0, none⟩ = some (.string a0_0) := (zD BK110.out 0).trans rfl
         have hcz18_1 : wr.cell? ⟨gb110, 1, none⟩ = some (.int .u16 a0_1) := (zD BK110.out 1).trans rfl
         have hcz18_2 : wr.cell? ⟨gb110, 2, none⟩ = some (.string a0_2) := (zD BK110.out 2).trans rfl
         have hcz18_3 : wr.cell? ⟨gb110, 3, none⟩ = some (.slice A0_3 l0_3.length c0_3) := (zD BK110.out 3).trans rfl
         have hfz18_0 := zE BK110.out 0
         have hfz18_1 := zE BK110.out 1
         have hfz18_2 := zE BK110.out 2
         have hfz18_3 := zE BK110.out 3
         have p111 : 0 ≤ (x5_2 : Int) := of_decide_eq_true (by first | (with_reducible assumption) | assumption)
         have q111 : x5_2 < (l0_3.length : Int) := of_decide_eq_true (by first | (with_reducible assumption) | assumption)
         obtain ⟨ad111, A111_3, c111_3, e111, hx111_0, hx111_1, hx111_2, hx111_3, hl111_3, hi111_3⟩ := at_T50 HR0_3.out x5_2 p111 q111
         cases e111
         replace hx111_0 := (HB.out.cell (World.block_lt_of_cell? w _ hx111_0)).trans hx111_0
         replace hx111_1 := (HB.out.cell (World.block_lt_of_cell? w _ hx111_1)).trans hx111_1
         replace hx111_2 := (HB.out.cell (World.block_lt_of_cell? w _ hx111_2)).trans hx111_2
         replace hx111_3 := (HB.out.cell (World.block_lt_of_cell? w _ hx111_3)).trans hx111_3
         have HR111_3 := zz_ hi111_3
         have HC111_3 := zz_ hl111_3
         clear hi111_3 hl111_3
         replace p111 := eq_true p111
         replace q111 := eq_true q111
         go_wp2_with (first | ((with_reducible refine zQ (f := 73) rfl ?_); refine goesL_ (some 40) rfl rfl Tryd.func73 (by kernel_rfl) rfl #[.agg #[.string ((zL l0_3 x5_2).f0), .int .u16 ((zL l0_3 x5_2).f1), .string ((zL l0_3 x5_2).f2), .slice A111_3 ((zL l0_3 x5_2).f3).length c111_3], .int .i64 (wrap64 (a1 - 1))] rfl (by (try simp only [List.map_toArray, List.map_cons, List.map_nil]); first | done | rfl | (simp only [List.length_drop, List.length_take]; rfl)) ?_; (with_reducible refine (ih k2 (by have := HJ2.out; have := HK2.out; omega) ((zL l0_3 x5_2).f0) ((zL l0_3 x5_2).f1) ((zL l0_3 x5_2).f2) _ _ ((zL l0_3 x5_2).f3) (wrap64 (a1 - 1)) false _ ?side1 ?side2 A14.out).mono ?_); (case side1 => repeat (first | exact (Kd.zV HR111_3.out HB.out) | (with_reducible refine Kd.C_alloc ?_ _) | (with_reducible refine Kd.C_drewN ?_ _) | (with_reducible refine Kd.C_drew ?_))); (case side2 => exact HC111_3.out); rintro e w19 ⟨rfl, hb⟩; refine ⟨_, rfl, ?_⟩; have n0_ := zz_ (zK (g := gb110) (o := .cells #[.string a0_0, .int .u16 a0_1, .string a0_2, .slice (some ad111) l0_3.length c0_3] 50 (0, 0)) (by (with_reducible repeat (first | refine zH ?_ _ | refine zJ ?_ | refine zI ?_ _)); exact BK110.out) hb); have n1_ := zz_ (zG (by repeat (first | (with_reducible first | exact HB.out | apply zB | apply zA | apply zC | refine zF ?_ GE110.out) | exact HB.out)) hb); clear BK110; clear HB; have BK110 := n0_; have HB := n1_; clear n0_ n1_; (try clear hb)))
         go_ret
         exact ⟨by first | rfl | (simp [zN, zM] <;> rfl) | (simp [*, zN, zM] <;> rfl), by repeat (first | (with_reducible first | exact HB.out | apply zB | apply zA | apply zC | refine zF ?_ GE110.out) | exact HB.out)⟩
       ·rw [if_neg c13] at H
        exact absurd H (by simp)
      ·rw [if_neg c12] at H
       have c12b0 : decide (x5_2 < (l0_3.length : Int)) = false := decide_eq_false c12
       clear c12
       obtain rfl := Option.some.inj H
       have hcz20_0 : wr.cell? ⟨gb110, 0, none⟩ = some (.string a0_0) := (zD BK110.out 0).trans rfl
       have hcz20_1 : wr.cell? ⟨gb110, 1, none⟩ = some (.int .u16 a0_1) := (zD BK110.out 1).trans rfl
       have hcz20_2 : wr.cell? ⟨gb110, 2, none⟩ = some (.string a0_2) := (zD BK110.out 2).trans rfl
       have hcz20_3 : wr.cell? ⟨gb110, 3, none⟩ = some (.slice A0_3 l0_3.length c0_3) := (zD BK110.out 3).trans rfl
       have hfz20_0 := zE BK110.out 0
       have hfz20_1 := zE BK110.out 1
       have hfz20_2 := zE BK110.out 2
       have hfz20_3 := zE BK110.out 3
       go_wp2
       go_ret
       exact ⟨by first | rfl | (simp [zN, zM] <;> rfl) | (simp [*, zN, zM] <;> rfl), by repeat (first | (with_reducible first | exact HB.out | apply zB | apply zA | apply zC | refine zF ?_ GE110.out) | exact HB.out)⟩
end Go.Proofs.YtejhagejjogbaaaDoor.Qa
end
section
namespace Go.Proofs.YtejhagejjogbaaaDoor.Qa
open Go.RowKit YtejhagejjogbaaaDoorW.PrintWords YtejhagejjogbaaaDoorW.PrintLast YtejhagejjogbaaaDoorW.PrintMore Given TokSpan TokJoin TokRep Pn Pa Pb Pc Pd Pe
attribute [local go_sem] max2_int min2_int max_two min_two max_three min_three max_four min_four   -- for this text's walks alone
set_option linter.unusedVariables false
set_option linter.unusedSimpArgs false
mutual
def pidginlaw05_count.l0 : Nat → Int → Int → ByteArray → Int → ByteArray → List (S50) → Option (Int)
 | 0, _, _, _, _, _, _ => none
 | k + 1, x3, x4, x114000, x114001, x114002, x114003 => if x4 < (x114003.length : Int) then (if x3 ≤ 300 then (if 0 ≤ x4 then ((pidginlaw05_count.f k ((zL x114003 x4).f0) ((zL x114003 x4).f1) ((zL x114003 x4).f2) ((zL x114003 x4).f3)).bind fun t115 => (pidginlaw05_count.l0 k (wrap64 (x3 + t115)) (wrap64 (x4 + 1)) x114000 x114001 x114002 x114003)) else (none)) else (some x3)) else (some x3)
def pidginlaw05_count.f : Nat → ByteArray → Int → ByteArray → List (S50) → Option (Int)
 | 0, _, _, _, _ => none
 | k + 1, a0_0, a0_1, a0_2, l0_3 => pidginlaw05_count.l0 k 1 0 a0_0 a0_1 a0_2 l0_3
end
set_option maxHeartbeats 8000000 in
set_option maxRecDepth 100000 in
theorem pidginlaw05_count.calls (k : Nat) : ∀ (a0_0 : ByteArray) (a0_1 : Int) (a0_2 : ByteArray) (A0_3 : Option Addr) (c0_3 : Nat) (l0_3 : List (S50)) (r : Int) (w : World) (hr0_3 : Kd.C k50 w A0_3 l0_3.length l0_3) (hc0_3 : l0_3.length ≤ c0_3) (h : pidginlaw05_count.f k a0_0 a0_1 a0_2 l0_3 = some r),
  Calls Tryd.prog 74 #[.agg #[.string a0_0, .int .u16 a0_1, .string a0_2, .slice A0_3 l0_3.length c0_3]] w fun e w' => e = .returned (.int .i64 r) ∧ Below w.heap.size w w' := by
 induction k using Nat.strongRecOn with
 | _ k ih =>
 intro a0_0 a0_1 a0_2 A0_3 c0_3 l0_3 r w hr0_3 hc0_3 h
 cases k with
 | zero => exact absurd h (by simp [pidginlaw05_count.f])
 | succ k =>
 simp only [pidginlaw05_count.f] at h
 have hu50 := Tryd.underlying50
 have HR0_3 := zz_ hr0_3
 have HC0_3 := zz_ hc0_3
 clear hr0_3 hc0_3
 have HB := zz_ (Below.refl w.heap.size w)
 have H : (pidginlaw05_count.l0 k 1 0 a0_0 a0_1 a0_2 l0_3) = some r := h
 clear h
 have H' := zz_ H
 clear H
 go_enter Tryd.func74, Tryd.ntmps74
 go_wp2_with (first | ((with_reducible refine zS (N := 1) rfl ?_); refine zO ?hg (N := 1) ?hd (cs := #[.string a0_0, .int .u16 a0_1, .string a0_2, .slice A0_3 l0_3.length c0_3]) (t := 50) ?hr ?_; (case hd => rfl); (case hg => rfl); (case hr => first | (go_simp; done) | (go_simp; rfl)); intro gb113 hg w2 hbox hb; have n0_ := zz_ (zG (by repeat (first | (with_reducible first | exact HB.out | apply zB | apply zA | apply zC) | exact HB.out)) hb); have n1_ := zz_ (hbox); have n2_ := zz_ ((by rw [hg]; exact (zR (by repeat (first | (with_reducible first | exact HB.out | apply zB | apply zA | apply zC) | exact HB.out))) : w.heap.size ≤ gb113)); have n3_ := zz_ ((by rw [hg]; exact (zR (by repeat (first | (with_reducible first | exact HB.out | apply zB | apply zA | apply zC) | exact HB.out))) : w.heap.size ≤ gb113)); clear HB; have HB := n0_; have BK113 := n1_; have GW113 := n2_; have GE113 := n3_; clear n0_ n1_ n2_ n3_; clear hb hbox hg))
 first | go_loopg [3, 4] k (fun kq v3 v4 w' => ∃ (x3_1 : Int) (x4_1 : Int), v3 = .int .i64 x3_1 ∧ v4 = .int .i64 x4_1 ∧ Aside0 (pidginlaw05_count.l0 kq x3_1 x4_1 a0_0 a0_1 a0_2 l0_3 = some r) ∧ Aside0 (kq ≤ k) ∧ Aside0 (w'.heap[gb113]? = some (.cells #[.string a0_0, .int .u16 a0_1, .string a0_2, (.slice A0_3 l0_3.length c0_3)] 50 (0, 0))) ∧ Aside0 (Below w.heap.size w w')) | (go_simp; go_loopg [3, 4] k (fun kq v3 v4 w' => ∃ (x3_1 : Int) (x4_1 : Int), v3 = .int .i64 x3_1 ∧ v4 = .int .i64 x4_1 ∧ Aside0 (pidginlaw05_count.l0 kq x3_1 x4_1 a0_0 a0_1 a0_2 l0_3 = some r) ∧ Aside0 (kq ≤ k) ∧ Aside0 (w'.heap[gb113]? = some (.cells #[.string a0_0, .int .u16 a0_1, .string a0_2, (.slice A0_3 l0_3.length c0_3)] 50 (0, 0))) ∧ Aside0 (Below w.heap.size w w')))
 case atStart => exact ⟨(1), (0), (by first | rfl | (simp; done) | (simp [*]; done)), (by first | rfl | (simp; done) | (simp [*]; done)), H', ⟨Nat.le_refl _⟩, ⟨by (with_reducible repeat (first | refine zH ?_ _ | refine zJ ?_ | refine zI ?_ _)); exact BK113.out⟩, ⟨by repeat (first | (with_reducible first | exact HB.out | apply zB | apply zA | apply zC | refine zF ?_ GE113.out) | exact HB.out)⟩⟩
 case round =>
  clear H'
  try clear p2
  obtain ⟨x3_1, x4_1, rfl, rfl, HA, HK1, BK113, HB⟩ := hrel
  cases gk with
  | zero => exact absurd HA.out (by simp [pidginlaw05_count.l0])
  | succ k1 =>
   have H := HA.out
   clear HA
   simp only [pidginlaw05_count.l0] at H
   by_cases c3 : x4_1 < (l0_3.length : Int)
   ·rw [if_pos c3] at H
    have c3b0 : decide (x4_1 < (l0_3.length : Int)) = true := decide_eq_true c3
    clear c3
    by_cases c4 : x3_1 ≤ 300
    ·rw [if_pos c4] at H
     have c4b0 : decide (x3_1 ≤ 300) = true := decide_eq_true c4
     clear c4
     by_cases c5 : 0 ≤ x4_1
     ·rw [if_pos c5] at H
      have c5b0 : decide (0 ≤ x4_1) = true := decide_eq_true c5
      clear c5
      replace H := Option.bind_eq_some_iff.mp H
      obtain ⟨t115, A60, H⟩ := H
      replace H : (pidginlaw05_count.l0 k1 (wrap64 (x3_1 + t115)) (wrap64 (x4_1 + 1)) a0_0 a0_1 a0_2 l0_3) = some r := H
      have A6 := zz_ A60
      clear A60
      have H' := zz_ H
      clear H
      have hcz7_0 : wr.cell? ⟨gb113, 0, none⟩ = some (.string a0_0) := (zD BK113.out 0).trans rfl
      have hcz7_1 : wr.cell? ⟨gb113, 1, none⟩ = some (.int .u16 a0_1) := (zD BK113.out 1).trans rfl
      have hcz7_2 : wr.cell? ⟨gb113, 2, none⟩ = some (.string a0_2) := (zD BK113.out 2).trans rfl
      have hcz7_3 : wr.cell? ⟨gb113, 3, none⟩ = some (.slice A0_3 l0_3.length c0_3) := (zD BK113.out 3).trans rfl
      have hfz7_0 := zE BK113.out 0
      have hfz7_1 := zE BK113.out 1
      have hfz7_2 := zE BK113.out 2
      have hfz7_3 := zE BK113.out 3
      have p114 : 0 ≤ (x4_1 : Int) := of_decide_eq_true (by first | (with_reducible assumption) | assumption)
      have q114 : x4_1 < (l0_3.length : Int) := of_decide_eq_true (by first | (with_reducible assumption) | assumption)
      obtain ⟨ad114, A114_3, c114_3, e114, hx114_0, hx114_1, hx114_2, hx114_3, hl114_3, hi114_3⟩ := at_T50 HR0_3.out x4_1 p114 q114
      cases e114
      replace hx114_0 := (HB.out.cell (World.block_lt_of_cell? w _ hx114_0)).trans hx114_0
      replace hx114_1 := (HB.out.cell (World.block_lt_of_cell? w _ hx114_1)).trans hx114_1
      replace hx114_2 := (HB.out.cell (World.block_lt_of_cell? w _ hx114_2)).trans hx114_2
      replace hx114_3 := (HB.out.cell (World.block_lt_of_cell? w _ hx114_3)).trans hx114_3
      have HR114_3 := zz_ hi114_3
      have HC114_3 := zz_ hl114_3
      clear hi114_3 hl114_3
      replace p114 := eq_true p114
      replace q114 := eq_true q114
      go_wp2_with (first | ((with_reducible refine zQ (f := 74) rfl ?_); refine goesL_ (some 22) rfl rfl Tryd.func74 (by kernel_rfl) rfl #[.agg #[.string ((zL l0_3 x4_1).f0), .int .u16 ((zL l0_3 x4_1).f1), .string ((zL l0_3 x4_1).f2), .slice A114_3 ((zL l0_3 x4_1).f3).length c114_3]] rfl (by (try simp only [List.map_toArray, List.map_cons, List.map_nil]); first | done | rfl | (simp only [List.length_drop, List.length_take]; rfl)) ?_; (with_reducible refine (ih k1 (by have := HK1.out; omega) ((zL l0_3 x4_1).f0) ((zL l0_3 x4_1).f1) ((zL l0_3 x4_1).f2) _ _ ((zL l0_3 x4_1).f3) t115 _ ?side1 ?side2 A6.out).mono ?_); (case side1 => repeat (first | exact (Kd.zV HR114_3.out HB.out) | (with_reducible refine Kd.C_alloc ?_ _) | (with_reducible refine Kd.C_drewN ?_ _) | (with_reducible refine Kd.C_drew ?_))); (case side2 => exact HC114_3.out); rintro e w8 ⟨rfl, hb⟩; refine ⟨_, rfl, ?_⟩; have n0_ := zz_ (zK (g := gb113) (o := .cells #[.string a0_0, .int .u16 a0_1, .string a0_2, .slice (some ad114) l0_3.length c0_3] 50 (0, 0)) (by (with_reducible repeat (first | refine zH ?_ _ | refine zJ ?_ | refine zI ?_ _)); exact BK113.out) hb); have n1_ := zz_ (zG (by repeat (first | (with_reducible first | exact HB.out | apply zB | apply zA | apply zC | refine zF ?_ GE113.out) | exact HB.out)) hb); clear BK113; clear HB; have BK113 := n0_; have HB := n1_; clear n0_ n1_; (try clear hb)))
      go_roundg k1
      case measure => have := HK1.out; omega
      case rel => exact ⟨(wrap64 (x3_1 + t115)), (wrap64 (x4_1 + 1)), (by first | rfl | (simp; done) | (simp [*]; done)), (by first | rfl | (simp; done) | (simp [*]; done)), H', ⟨by have := HK1.out; omega⟩, ⟨by (with_reducible repeat (first | refine zH ?_ _ | refine zJ ?_ | refine zI ?_ _)); exact BK113.out⟩, ⟨by repeat (first | (with_reducible first | exact HB.out | apply zB | apply zA | apply zC | refine zF ?_ GE113.out) | exact HB.out)⟩⟩
     ·rw [if_neg c5] at H
      exact absurd H (by simp)
    ·rw [if_neg c4] at H
     have c4b0 : decide (x3_1 ≤ 300) = false := decide_eq_false c4
     clear c4
     obtain rfl := Option.some.inj H
     have hcz9_0 : wr.cell? ⟨gb113, 0, none⟩ = some (.string a0_0) := (zD BK113.out 0).trans rfl
     have hcz9_1 : wr.cell? ⟨gb113, 1, none⟩ = some (.int .u16 a0_1) := (zD BK113.out 1).trans rfl
     have hcz9_2 : wr.cell? ⟨gb113, 2, none⟩ = some (.string a0_2) := (zD BK113.out 2).trans rfl
     have hcz9_3 : wr.cell? ⟨gb113, 3, none⟩ = some (.slice A0_3 l0_3.length c0_3) := (zD BK113.out 3).trans rfl
     have hfz9_0 := zE BK113.out 0
     have hfz9_1 := zE BK113.out 1
     have hfz9_2 := zE BK113.out 2
     have hfz9_3 := zE BK113.out 3
     go_wp2
     go_ret
     exact ⟨by first | rfl | (simp [zN, zM] <;> rfl) | (simp [*, zN, zM] <;> rfl), by repeat (first | (with_reducible first | exact HB.out | apply zB | apply zA | apply zC | refine zF ?_ GE113.out) | exact HB.out)⟩
   ·rw [if_neg c3] at H
    have c3b0 : decide (x4_1 < (l0_3.length : Int)) = false := decide_eq_false c3
    clear c3
    obtain rfl := Option.some.inj H
    have hcz10_0 : wr.cell? ⟨gb113, 0, none⟩ = some (.string a0_0) := (zD BK113.out 0).trans rfl
    have hcz10_1 : wr.cell? ⟨gb113, 1, none⟩ = some (.int .u16 a0_1) := (zD BK113.out 1).trans rfl
    have hcz10_2 : wr.cell? ⟨gb113, 2, none⟩ = some (.string a0_2) := (zD BK113.out 2).trans rfl
    have hcz10_3 : wr.cell? ⟨gb113, 3, none⟩ = some (.slice A0_3 l0_3.length c0_3) := (zD BK113.out 3).trans rfl
    have hfz10_0 := zE BK113.out 0
    have hfz10_1 := zE BK113.out 1
    have hfz10_2 := zE BK113.out 2
    have hfz10_3 := zE BK113.out 3
    go_wp2
    go_ret
    exact ⟨by first | rfl | (simp [zN, zM] <;> rfl) | (simp [*, zN, zM] <;> rfl), by repeat (first | (with_reducible first | exact HB.out | apply zB | apply zA | apply zC | refine zF ?_ GE113.out) | exact HB.out)⟩
def pidginlaw05_small.f (k : Nat) (a0_0 : ByteArray) (a0_1 : Int) (a0_2 : ByteArray) (l0_3 : List (S50)) : Option (Bool) := (pidginlaw05_Light.f k a0_0 a0_1 a0_2 l0_3 40).bind fun t117 => (if t117 = true then ((pidginlaw05_count.f k a0_0 a0_1 a0_2 l0_3).bind fun t118 => (some (decide (t118 ≤ 300)))) else (some false))
set_option maxHeartbeats 8000000 in
set_option maxRecDepth 100000 in
theorem pidginlaw05_small.calls (k : Nat) (a0_0 : ByteArray) (a0_1 : Int) (a0_2 : ByteArray) (A0_3 : Option Addr) (c0_3 : Nat) (l0_3 : List (S50)) (r : Bool) (w : World) (hr0_3 : Kd.C k50 w A0_3 l0_3.length l0_3) (hc0_3 : l0_3.length ≤ c0_3) (h : pidginlaw05_small.f k a0_0 a0_1 a0_2 l0_3 = some r) :
  Calls Tryd.prog 38 #[.agg #[.string a0_0, .int .u16 a0_1, .string a0_2, .slice A0_3 l0_3.length c0_3]] w fun e w' => e = .returned (.bool r) ∧ Below w.heap.size w w' := by
 have hu50 := Tryd.underlying50
 have HR0_3 := zz_ hr0_3
 have HC0_3 := zz_ hc0_3
 clear hr0_3 hc0_3
 have HB := zz_ (Below.refl w.heap.size w)
 have H : ((pidginlaw05_Light.f k a0_0 a0_1 a0_2 l0_3 40).bind fun t117 => (if t117 = true then ((pidginlaw05_count.f k a0_0 a0_1 a0_2 l0_3).bind fun t118 => (some (decide (t118 ≤ 300)))) else (some false))) = some r := h
 clear h
 replace H := Option.bind_eq_some_iff.mp H
 obtain ⟨t117, A20, H⟩ := H
 replace H : (if t117 = true then ((pidginlaw05_count.f k a0_0 a0_1 a0_2 l0_3).bind fun t118 => (some (decide (t118 ≤ 300)))) else (some false)) = some r := H
 have A2 := zz_ A20
 clear A20
 by_cases c3 : t117 = true
 ·subst c3
  have H1 : ((pidginlaw05_count.f k a0_0 a0_1 a0_2 l0_3).bind fun t118 => (some (decide (t118 ≤ 300)))) = some r := by rw [if_pos rfl] at H; exact H
  clear H
  have H := H1
  clear H1
  replace H := Option.bind_eq_some_iff.mp H
  obtain ⟨t118, A40, H⟩ := H
  replace H : (some (decide (t118 ≤ 300))) = some r := H
  have A4 := zz_ A40
  clear A40
  obtain rfl := Option.some.inj H
  go_enter Tryd.func38, Tryd.ntmps38
  go_wp2_with (first | ((with_reducible refine zS (N := 1) rfl ?_); refine zO ?hg (N := 1) ?hd (cs := #[.string a0_0, .int .u16 a0_1, .string a0_2, .slice A0_3 l0_3.length c0_3]) (t := 50) ?hr ?_; (case hd => rfl); (case hg => rfl); (case hr => first | (go_simp; done) | (go_simp; rfl)); intro gb116 hg w5 hbox hb; have n0_ := zz_ (zG (by repeat (first | (with_reducible first | exact HB.out | apply zB | apply zA | apply zC) | exact HB.out)) hb); have n1_ := zz_ (hbox); have n2_ := zz_ ((by rw [hg]; exact (zR (by repeat (first | (with_reducible first | exact HB.out | apply zB | apply zA | apply zC) | exact HB.out))) : w.heap.size ≤ gb116)); have n3_ := zz_ ((by rw [hg]; exact (zR (by repeat (first | (with_reducible first | exact HB.out | apply zB | apply zA | apply zC) | exact HB.out))) : w.heap.size ≤ gb116)); clear HB; have HB := n0_; have BK116 := n1_; have GW116 := n2_; have GE116 := n3_; clear n0_ n1_ n2_ n3_; clear hb hbox hg; have hcz6_0 : w5.cell? ⟨gb116, 0, none⟩ = some (.string a0_0) := (zD BK116.out 0).trans rfl; have hcz6_1 : w5.cell? ⟨gb116, 1, none⟩ = some (.int .u16 a0_1) := (zD BK116.out 1).trans rfl; have hcz6_2 : w5.cell? ⟨gb116, 2, none⟩ = some (.string a0_2) := (zD BK116.out 2).trans rfl; have hcz6_3 : w5.cell? ⟨gb116, 3, none⟩ = some (.slice A0_3 l0_3.length c0_3) := (zD BK116.out 3).trans rfl; have hfz6_0 := zE BK116.out 0; have hfz6_1 := zE BK116.out 1; have hfz6_2 := zE BK116.out 2; have hfz6_3 := zE BK116.out 3) | ((with_reducible refine zQ (f := 73) rfl ?_); refine goesL_ (some 4) rfl rfl Tryd.func73 (by kernel_rfl) rfl #[.agg #[.string a0_0, .int .u16 a0_1, .string a0_2, .slice A0_3 l0_3.length c0_3], .int .i64 40] rfl (by (try simp only [List.map_toArray, List.map_cons, List.map_nil]); first | done | rfl | (simp only [List.length_drop, List.length_take]; rfl)) ?_; (with_reducible refine (pidginlaw05_Light.calls k a0_0 a0_1 a0_2 _ _ l0_3 40 true _ ?side1 ?side2 A2.out).mono ?_); (case side1 => repeat (first | exact (Kd.zV HR0_3.out HB.out) | (with_reducible refine Kd.C_alloc ?_ _) | (with_reducible refine Kd.C_drewN ?_ _) | (with_reducible refine Kd.C_drew ?_))); (case side2 => exact HC0_3.out); rintro e w7 ⟨rfl, hb⟩; refine ⟨_, rfl, ?_⟩; have n0_ := zz_ (zK (g := gb116) (o := .cells #[.string a0_0, .int .u16 a0_1, .string a0_2, .slice A0_3 l0_3.length c0_3] 50 (0, 0)) (by (with_reducible repeat (first | refine zH ?_ _ | refine zJ ?_ | refine zI ?_ _)); exact BK116.out) hb); have n1_ := zz_ (zG (by repeat (first | (with_reducible first | exact HB.out | apply zB | apply zA | apply zC | refine zF ?_ GE116.out) | exact HB.out)) hb); clear BK116; clear HB; have BK116 := n0_; have HB := n1_; clear n0_ n1_; (try clear hb); have hcz8_0 : w7.cell? ⟨gb116, 0, none⟩ = some (.string a0_0) := (zD BK116.out 0).trans rfl; have hcz8_1 : w7.cell? ⟨gb116, 1, none⟩ = some (.int .u16 a0_1) := (zD BK116.out 1).trans rfl; have hcz8_2 : w7.cell? ⟨gb116, 2, none⟩ = some (.string a0_2) := (zD BK116.out 2).trans rfl; have hcz8_3 : w7.cell? ⟨gb116, 3, none⟩ = some (.slice A0_3 l0_3.length c0_3) := (zD BK116.out 3).trans rfl; have hfz8_0 := zE BK116.out 0; have hfz8_1 := zE BK116.out 1; have hfz8_2 := zE BK116.out 2; have hfz8_3 := zE BK116.out 3) | (go_at_call 74; (with_reducible refine (pidginlaw05_count.calls k a0_0 a0_1 a0_2 _ _ l0_3 t118 _ ?side1 ?side2 A4.out).mono ?_); (case side1 => repeat (first | exact (Kd.zV HR0_3.out HB.out) | (with_reducible refine Kd.C_alloc ?_ _) | (with_reducible refine Kd.C_drewN ?_ _) | (with_reducible refine Kd.C_drew ?_))); (case side2 => exact HC0_3.out); rintro e w9 ⟨rfl, hb⟩; have n0_ := zz_ (zK (g := gb116) (o := .cells #[.string a0_0, .int .u16 a0_1, .string a0_2, .slice A0_3 l0_3.length c0_3] 50 (0, 0)) (by (with_reducible repeat (first | refine zH ?_ _ | refine zJ ?_ | refine zI ?_ _)); exact BK116.out) hb); have n1_ := zz_ (zG (by repeat (first | (with_reducible first | exact HB.out | apply zB | apply zA | apply zC | refine zF ?_ GE116.out) | exact HB.out)) hb); clear BK116; clear HB; have BK116 := n0_; have HB := n1_; clear n0_ n1_; (try clear hb)))
  go_ret
  exact ⟨by first | rfl | (simp [zN, zM] <;> rfl) | (simp [*, zN, zM] <;> rfl), by repeat (first | (with_reducible first | exact HB.out | apply zB | apply zA | apply zC | refine zF ?_ GE116.out) | exact HB.out)⟩
 ·replace c3 := Bool.eq_false_iff.mpr c3
  subst c3
  have H1 : (some false) = some r := by rw [if_neg (show ¬ (false = true) by decide)] at H; exact H
  clear H
  have H := H1
  clear H1
  obtain rfl := Option.some.inj H
  go_enter Tryd.func38, Tryd.ntmps38
  go_wp2_with (first | ((with_reducible refine zS (N := 1) rfl ?_); refine zO ?hg (N := 1) ?hd (cs := #[.string a0_0, .int .u16 a0_1, .string a0_2, .slice A0_3 l0_3.length c0_3]) (t := 50) ?hr ?_; (case hd => rfl); (case hg => rfl); (case hr => first | (go_simp; done) | (go_simp; rfl)); intro gb116 hg w10 hbox hb; have n0_ := zz_ (zG (by repeat (first | (with_reducible first | exact HB.out | apply zB | apply zA | apply zC) | exact HB.out)) hb); have n1_ := zz_ (hbox); have n2_ := zz_ ((by rw [hg]; exact (zR (by repeat (first | (with_reducible first | exact HB.out | apply zB | apply zA | apply zC) | exact HB.out))) : w.heap.size ≤ gb116)); have n3_ := zz_ ((by rw [hg]; exact (zR (by repeat (first | (with_reducible first | exact HB.out | apply zB | apply zA | apply zC) | exact HB.out))) : w.heap.size ≤ gb116)); clear HB; have HB := n0_; have BK116 := n1_; have GW116 := n2_; have GE116 := n3_; clear n0_ n1_ n2_ n3_; clear hb hbox hg; have hcz11_0 : w10.cell? ⟨gb116, 0, none⟩ = some (.string a0_0) := (zD BK116.out 0).trans rfl; have hcz11_1 : w10.cell? ⟨gb116, 1, none⟩ = some (.int .u16 a0_1) := (zD BK116.out 1).trans rfl; have hcz11_2 : w10.cell? ⟨gb116, 2, none⟩ = some (.string a0_2) := (zD BK116.out 2).trans rfl; have hcz11_3 : w10.cell? ⟨gb116, 3, none⟩ = some (.slice A0_3 l0_3.length c0_3) := (zD BK116.out 3).trans rfl; have hfz11_0 := zE BK116.out 0; have hfz11_1 := zE BK116.out 1; have hfz11_2 := zE BK116.out 2; have hfz11_3 := zE BK116.out 3) | ((with_reducible refine zQ (f := 73) rfl ?_); refine goesL_ (some 4) rfl rfl Tryd.func73 (by kernel_rfl) rfl #[.agg #[.string a0_0, .int .u16 a0_1, .string a0_2, .slice A0_3 l0_3.length c0_3], .int .i64 40] rfl (by (try simp only [List.map_toArray, List.map_cons, List.map_nil]); first | done | rfl | (simp only [List.length_drop, List.length_take]; rfl)) ?_; (with_reducible refine (pidginlaw05_Light.calls k a0_0 a0_1 a0_2 _ _ l0_3 40 false _ ?side1 ?side2 A2.out).mono ?_); (case side1 => repeat (first | exact (Kd.zV HR0_3.out HB.out) | (with_reducible refine Kd.C_alloc ?_ _) | (with_reducible refine Kd.C_drewN ?_ _) | (with_reducible refine Kd.C_drew ?_))); (case side2 => exact HC0_3.out); rintro e w12 ⟨rfl, hb⟩; refine ⟨_, rfl, ?_⟩; have n0_ := zz_ (zK (g := gb116) (o := .cells #[.string a0_0, .int .u16 a0_1, .string a0_2, .slice A0_3 l0_3.length c0_3] 50 (0, 0)) (by (with_reducible repeat (first | refine zH ?_ _ | refine zJ ?_ | refine zI ?_ _)); exact BK116.out) hb); have n1_ := zz_ (zG (by repeat (first | (with_reducible first | exact HB.out | apply zB | apply zA | apply zC | refine zF ?_ GE116.out) | exact HB.out)) hb); clear BK116; clear HB; have BK116 := n0_; have HB := n1_; clear n0_ n1_; (try clear hb)))
  go_ret
  exact ⟨by first | rfl | (simp [zN, zM] <;> rfl) | (simp [*, zN, zM] <;> rfl), by repeat (first | (with_reducible first | exact HB.out | apply zB | apply zA | apply zC | refine zF ?_ GE116.out) | exact HB.out)⟩
mutual
def expr_binds.j0 : Nat → ByteArray → Bool → Option (Int × Int)
 | 0, _, _ => none
 | k + 1, x4, x5 => if x5 = true then (some (7, 0)) else (if x4.toList = ([78, 69, 71] : List UInt8) then (some (6, 1)) else (if x4.toList = ([42] : List UInt8) then (expr_binds.j1 k x4 (x4.toList == ([42] : List UInt8))) else (if x4.toList = ([47] : List UInt8) then (expr_binds.j1 k x4 (x4.toList == ([47] : List UInt8))) else (if x4.toList = ([77, 79, 68] : List UInt8) then (expr_binds.j1 k x4 (x4.toList == ([77, 79, 68] : List UInt8))) else (if x4.toList = ([83, 72, 76] : List UInt8) then (expr_binds.j1 k x4 (x4.toList == ([83, 72, 76] : List UInt8))) else (expr_binds.j1 k x4 (x4.toList == ([83, 72, 82] : List UInt8))))))))
def expr_binds.j1 : Nat → ByteArray → Bool → Option (Int × Int)
 | 0, _, _ => none
 | k + 1, x4, x11 => if x11 = true then (some (5, 2)) else (if x4.toList = ([43] : List UInt8) then (expr_binds.j2 k x4 (x4.toList == ([43] : List UInt8))) else (expr_binds.j2 k x4 (x4.toList == ([45] : List UInt8))))
def expr_binds.j2 : Nat → ByteArray → Bool → Option (Int × Int)
 | 0, _, _ => none
 | k + 1, x4, x17 => if x17 = true then (some (4, 2)) else (if x4.toList = ([78, 79, 84] : List UInt8) then (some (3, 1)) else (if x4.toList = ([65, 78, 68] : List UInt8) then (some (2, 2)) else (if x4.toList = ([79, 82] : List UInt8) then (some (1, 2)) else (if x4.toList = ([88, 79, 82] : List UInt8) then (some (1, 2)) else (some (0, 0))))))
end
def expr_binds.f (k : Nat) (a0 : ByteArray) : Option (Int × Int) := if a0.toList = ([35] : List UInt8) then (expr_binds.j0 k a0 (a0.toList == ([35] : List UInt8))) else (if a0.toList = ([110] : List UInt8) then (expr_binds.j0 k a0 (a0.toList == ([110] : List UInt8))) else (expr_binds.j0 k a0 (a0.toList == ([36] : List UInt8))))
theorem expr_binds.mono_l : ∀ k, (∀ y0 y1, LeO (expr_binds.j0 k y0 y1) (expr_binds.j0 (k + 1) y0 y1)) ∧ (∀ y0 y1, LeO (expr_binds.j1 k y0 y1) (expr_binds.j1 (k + 1) y0 y1)) ∧ (∀ y0 y1, LeO (expr_binds.j2 k y0 y1) (expr_binds.j2 (k + 1) y0 y1))
 | 0 => ⟨fun _ _ r h => by simp [expr_binds.j0] at h, fun _ _ r h => by simp [expr_binds.j1] at h, fun _ _ r h => by simp [expr_binds.j2] at h⟩
 | k + 1 => by
  obtain ⟨ih0, ih1, ih2⟩ := expr_binds.mono_l k
  refine ⟨?_, ?_, ?_⟩
  ·intro y0 y1
   unfold expr_binds.j0
   repeat' first
   | (with_reducible exact ih0 _ _)
   | (with_reducible exact ih1 _ _)
   | (with_reducible exact ih2 _ _)
   | (with_reducible exact LeO.refl _)
   | (with_reducible exact LeO.none _)
   | (with_reducible refine LeO.ite ?_ ?_)
   | (with_reducible refine LeO.bind ?_ (fun _ => ?_))
   | exact ih0 _ _
   | exact ih1 _ _
   | exact ih2 _ _
   | exact LeO.none _
   | refine LeO.ite ?_ ?_
   | refine LeO.bind ?_ (fun _ => ?_)
  ·intro y0 y1
   unfold expr_binds.j1
   repeat' first
   | (with_reducible exact ih0 _ _)
   | (with_reducible exact ih1 _ _)
   | (with_reducible exact ih2 _ _)
   | (with_reducible exact LeO.refl _)
   | (with_reducible exact LeO.none _)
   | (with_reducible refine LeO.ite ?_ ?_)
   | (with_reducible refine LeO.bind ?_ (fun _ => ?_))
   | exact ih0 _ _
   | exact ih1 _ _
   | exact ih2 _ _
   | exact LeO.none _
   | refine LeO.ite ?_ ?_
   | refine LeO.bind ?_ (fun _ => ?_)
  ·intro y0 y1
   unfold expr_binds.j2
   repeat' first
   | (with_reducible exact ih0 _ _)
   | (with_reducible exact ih1 _ _)
   | (with_reducible exact ih2 _ _)
   | (with_reducible exact LeO.refl _)
   | (with_reducible exact LeO.none _)
   | (with_reducible refine LeO.ite ?_ ?_)
   | (with_reducible refine LeO.bind ?_ (fun _ => ?_))
   | exact ih0 _ _
   | exact ih1 _ _
   | exact ih2 _ _
   | exact LeO.none _
   | refine LeO.ite ?_ ?_
   | refine LeO.bind ?_ (fun _ => ?_)
theorem expr_binds.mono : ∀ a0 k, LeO (expr_binds.f k a0) (expr_binds.f (k + 1) a0) := by
 intro a0 k
 obtain ⟨ih0, ih1, ih2⟩ := expr_binds.mono_l k
 unfold expr_binds.f
 repeat' first
   | (with_reducible exact ih0 _ _)
   | (with_reducible exact ih1 _ _)
   | (with_reducible exact ih2 _ _)
   | (with_reducible exact LeO.refl _)
   | (with_reducible exact LeO.none _)
   | (with_reducible refine LeO.ite ?_ ?_)
   | (with_reducible refine LeO.bind ?_ (fun _ => ?_))
   | exact ih0 _ _
   | exact ih1 _ _
   | exact ih2 _ _
   | exact LeO.none _
   | refine LeO.ite ?_ ?_
   | refine LeO.bind ?_ (fun _ => ?_)
set_option maxHeartbeats 8000000 in
set_option maxRecDepth 100000 in
theorem expr_binds.calls (k : Nat) (a0 : ByteArray) (r1 : Int) (r2 : Int) (w : World) (h : expr_binds.f k a0 = some (r1, r2)) :
  Calls Tryd.prog 124 #[.string a0] w fun e w' => e = .returned (.tuple #[.int .i64 r1, .int .i64 r2]) ∧ Drawn0 w w' := by
 have H : (if a0.toList = ([35] : List UInt8) then (expr_binds.j0 k a0 (a0.toList == ([35] : List UInt8))) else (if a0.toList = ([110] : List UInt8) then (expr_binds.j0 k a0 (a0.toList == ([110] : List UInt8))) else (expr_binds.j0 k a0 (a0.toList == ([36] : List UInt8))))) = some (r1, r2) := h
 clear h
 have HC2 := zz_ H
 clear H
 go_enter Tryd.func124, Tryd.ntmps124
 go_upto_if 5 with (fail)
 go_cut [5] (fun v5 wc => ∃ (kq : Nat) (x5_1 : Bool), v5 = .bool x5_1 ∧ Aside0 (expr_binds.j0 kq a0 x5_1 = some (r1, r2)) ∧ Aside0 (kq ≤ k) ∧ Drawn0 w wc)
 case first =>
  have H := HC2.out
  clear HC2
  by_cases c3 : a0.toList = ([35] : List UInt8)
  ·rw [if_pos c3] at H
   have c3b0 : (a0.toList == ([35] : List UInt8)) = true := beq_iff_eq.mpr c3
   have c3b1 : (a0.toList != ([35] : List UInt8)) = false := bne_eq_false_iff_eq.mpr c3
   clear c3
   (first | rw [c3b0] | (simp only [i64_w, i32_w]; rw [c3b0]) | skip)
   have H' := zz_ H
   clear H
   go_wp2
   go_meet
   case rel => exact ⟨_, ((a0.toList == ([35] : List UInt8))), (by first | rfl | (simp; done) | (simp [*]; done)), H', ⟨by first | omega | exact Nat.le_refl _⟩, by repeat (first | exact Drawn0.refl _ | apply Drawn0.step)⟩
  ·rw [if_neg c3] at H
   have c3b0 : (a0.toList == ([35] : List UInt8)) = false := beq_eq_false_iff_ne.mpr c3
   have c3b1 : (a0.toList != ([35] : List UInt8)) = true := bne_iff_ne.mpr c3
   (first | rw [c3b0] | (simp only [i64_w, i32_w]; rw [c3b0]) | skip)
   by_cases c4 : a0.toList = ([110] : List UInt8)
   ·rw [if_pos c4] at H
    have c4b0 : (a0.toList == ([110] : List UInt8)) = true := beq_iff_eq.mpr c4
    have c4b1 : (a0.toList != ([110] : List UInt8)) = false := bne_eq_false_iff_eq.mpr c4
    clear c4
    have H' := zz_ H
    clear H
    go_wp2
    go_meet
    case rel => exact ⟨_, ((a0.toList == ([110] : List UInt8))), (by first | rfl | (simp; done) | (simp [*]; done)), H', ⟨by first | omega | exact Nat.le_refl _⟩, by repeat (first | exact Drawn0.refl _ | apply Drawn0.step)⟩
   ·rw [if_neg c4] at H
    have c4b0 : (a0.toList == ([110] : List UInt8)) = false := beq_eq_false_iff_ne.mpr c4
    have c4b1 : (a0.toList != ([110] : List UInt8)) = true := bne_iff_ne.mpr c4
    have H' := zz_ H
    clear H
    go_wp2
    go_meet
    case rel => exact ⟨_, ((a0.toList == ([36] : List UInt8))), (by first | rfl | (simp; done) | (simp [*]; done)), H', ⟨by first | omega | exact Nat.le_refl _⟩, by repeat (first | exact Drawn0.refl _ | apply Drawn0.step)⟩
 case rest =>
  clear HC2
  try clear c1
  try clear p2
  try clear c3
  try clear c3b0
  try clear c3b1
  try clear c4
  try clear c4b0
  try clear c4b1
  obtain ⟨kq, x5_1, rfl, HA, HJ1, ⟨mc1, rfl⟩⟩ := hcut
  cases kq with
  | zero => exact absurd HA.out (by simp [expr_binds.j0])
  | succ kj1 =>
   have H := HA.out
   clear HA
   simp only [expr_binds.j0] at H
   by_cases c5 : x5_1 = true
   ·subst c5
    have H1 : (some (7, 0)) = some (r1, r2) := by rw [if_pos rfl] at H; exact H
    clear H
    have H := H1
    clear H1
    simp only [Option.some.injEq, Prod.mk.injEq] at H
    obtain ⟨rfl, rfl⟩ := H
    go_wp2
    go_ret2
    exact ⟨by first | rfl | (simp; done) | (simp [*]; done), by repeat (first | exact Drawn0.refl _ | apply Drawn0.step)⟩
   ·replace c5 := Bool.eq_false_iff.mpr c5
    subst c5
    have H1 : (if a0.toList = ([78, 69, 71] : List UInt8) then (some (6, 1)) else (if a0.toList = ([42] : List UInt8) then (expr_binds.j1 kj1 a0 (a0.toList == ([42] : List UInt8))) else (if a0.toList = ([47] : List UInt8) then (expr_binds.j1 kj1 a0 (a0.toList == ([47] : List UInt8))) else (if a0.toList = ([77, 79, 68] : List UInt8) then (expr_binds.j1 kj1 a0 (a0.toList == ([77, 79, 68] : List UInt8))) else (if a0.toList = ([83, 72, 76] : List UInt8) then (expr_binds.j1 kj1 a0 (a0.toList == ([83, 72, 76] : List UInt8))) else (expr_binds.j1 kj1 a0 (a0.toList == ([83, 72, 82] : List UInt8)))))))) = some (r1, r2) := by rw [if_neg (show ¬ (false = true) by decide)] at H; exact H
    clear H
    have H := H1
    clear H1
    by_cases c6 : a0.toList = ([78, 69, 71] : List UInt8)
    ·rw [if_pos c6] at H
     have c6b0 : (a0.toList == ([78, 69, 71] : List UInt8)) = true := beq_iff_eq.mpr c6
     have c6b1 : (a0.toList != ([78, 69, 71] : List UInt8)) = false := bne_eq_false_iff_eq.mpr c6
     clear c6
     simp only [Option.some.injEq, Prod.mk.injEq] at H
     obtain ⟨rfl, rfl⟩ := H
     go_wp2
     go_ret2
     exact ⟨by first | rfl | (simp; done) | (simp [*]; done), by repeat (first | exact Drawn0.refl _ | apply Drawn0.step)⟩
    ·rw [if_neg c6] at H
     have c6b0 : (a0.toList == ([78, 69, 71] : List UInt8)) = false := beq_eq_false_iff_ne.mpr c6
     have c6b1 : (a0.toList != ([78, 69, 71] : List UInt8)) = true := bne_iff_ne.mpr c6
     have HC7 := zz_ H
     clear H
     go_upto_if 11 with (fail)
     go_cut [11] (fun v11 wc => ∃ (kq : Nat) (x11_6 : Bool), v11 = .bool x11_6 ∧ Aside0 (expr_binds.j1 kq a0 x11_6 = some (r1, r2)) ∧ Aside0 (kq ≤ kj1) ∧ Drawn0 w wc)
     case first =>
      have H := HC7.out
      clear HC7
      by_cases c8 : a0.toList = ([42] : List UInt8)
      ·rw [if_pos c8] at H
       have c8b0 : (a0.toList == ([42] : List UInt8)) = true := beq_iff_eq.mpr c8
       have c8b1 : (a0.toList != ([42] : List UInt8)) = false := bne_eq_false_iff_eq.mpr c8
       clear c8
       (first | rw [c8b0] | (simp only [i64_w, i32_w]; rw [c8b0]) | skip)
       have H' := zz_ H
       clear H
       go_wp2
       go_meet
       case rel => exact ⟨_, ((a0.toList == ([42] : List UInt8))), (by first | rfl | (simp; done) | (simp [*]; done)), H', ⟨by have := HJ1.out; first | omega | exact Nat.le_refl _⟩, by repeat (first | exact Drawn0.refl _ | apply Drawn0.step)⟩
      ·rw [if_neg c8] at H
       have c8b0 : (a0.toList == ([42] : List UInt8)) = false := beq_eq_false_iff_ne.mpr c8
       have c8b1 : (a0.toList != ([42] : List UInt8)) = true := bne_iff_ne.mpr c8
       (first | rw [c8b0] | (simp only [i64_w, i32_w]; rw [c8b0]) | skip)
       by_cases c9 : a0.toList = ([47] : List UInt8)
       ·rw [if_pos c9] at H
        have c9b0 : (a0.toList == ([47] : List UInt8)) = true := beq_iff_eq.mpr c9
        have c9b1 : (a0.toList != ([47] : List UInt8)) = false := bne_eq_false_iff_eq.mpr c9
        clear c9
        have H' := zz_ H
        clear H
        go_wp2
        go_meet
        case rel => exact ⟨_, ((a0.toList == ([47] : List UInt8))), (by first | rfl | (simp; done) | (simp [*]; done)), H', ⟨by have := HJ1.out; first | omega | exact Nat.le_refl _⟩, by repeat (first | exact Drawn0.refl _ | apply Drawn0.step)⟩
       ·rw [if_neg c9] at H
        have c9b0 : (a0.toList == ([47] : List UInt8)) = false := beq_eq_false_iff_ne.mpr c9
        have c9b1 : (a0.toList != ([47] : List UInt8)) = true := bne_iff_ne.mpr c9
        by_cases c10 : a0.toList = ([77, 79, 68] : List UInt8)
        ·rw [if_pos c10] at H
         have c10b0 : (a0.toList == ([77, 79, 68] : List UInt8)) = true := beq_iff_eq.mpr c10
         have c10b1 : (a0.toList != ([77, 79, 68] : List UInt8)) = false := bne_eq_false_iff_eq.mpr c10
         clear c10
         have H' := zz_ H
         clear H
         go_wp2
         go_meet
         case rel => exact ⟨_, ((a0.toList == ([77, 79, 68] : List UInt8))), (by first | rfl | (simp; done) | (simp [*]; done)), H', ⟨by have := HJ1.out; first | omega | exact Nat.le_refl _⟩, by repeat (first | exact Drawn0.refl _ | apply Drawn0.step)⟩
        ·rw [if_neg c10] at H
         have c10b0 : (a0.toList == ([77, 79, 68] : List UInt8)) = false := beq_eq_false_iff_ne.mpr c10
         have c10b1 : (a0.toList != ([77, 79, 68] : List UInt8)) = true := bne_iff_ne.mpr c10
         by_cases c11 : a0.toList = ([83, 72, 76] : List UInt8)
         ·rw [if_pos c11] at H
          have c11b0 : (a0.toList == ([83, 72, 76] : List UInt8)) = true := beq_iff_eq.mpr c11
          have c11b1 : (a0.toList != ([83, 72, 76] : List UInt8)) = false := bne_eq_false_iff_eq.mpr c11
          clear c11
          have H' := zz_ H
          clear H
          go_wp2
          go_meet
          case rel => exact ⟨_, ((a0.toList == ([83, 72, 76] : List UInt8))), (by first | rfl | (simp; done) | (simp [*]; done)), H', ⟨by have := HJ1.out; first | omega | exact Nat.le_refl _⟩, by repeat (first | exact Drawn0.refl _ | apply Drawn0.step)⟩
         ·rw [if_neg c11] at H
          have c11b0 : (a0.toList == ([83, 72, 76] : List UInt8)) = false := beq_eq_false_iff_ne.mpr c11
          have c11b1 : (a0.toList != ([83, 72, 76] : List UInt8)) = true := bne_iff_ne.mpr c11
          have H' := zz_ H
          clear H
          go_wp2
          go_meet
          case rel => exact ⟨_, ((a0.toList == ([83, 72, 82] : List UInt8))), (by first | rfl | (simp; done) | (simp [*]; done)), H', ⟨by have := HJ1.out; first | omega | exact Nat.le_refl _⟩, by repeat (first | exact Drawn0.refl _ | apply Drawn0.step)⟩
     case rest =>
      clear HC7
      try clear c1
      try clear p2
      try clear c3
      try clear c3b0
      try clear c3b1
      try clear c4
      try clear c4b0
      try clear c4b1
      try clear c5
      try clear c6
      try clear c6b0
      try clear c6b1
      try clear c8
      try clear c8b0
      try clear c8b1
      try clear c9
      try clear c9b0
      try clear c9b1
      try clear c10
      try clear c10b0
      try clear c10b1
      try clear c11
      try clear c11b0
      try clear c11b1
      try clear p2
      obtain ⟨kq, x11_6, rfl, HA, HJ6, ⟨mc6, rfl⟩⟩ := hcut
      cases kq with
      | zero => exact absurd HA.out (by simp [expr_binds.j1])
      | succ kj6 =>
       have H := HA.out
       clear HA
       simp only [expr_binds.j1] at H
       by_cases c12 : x11_6 = true
       ·subst c12
        have H1 : (some (5, 2)) = some (r1, r2) := by rw [if_pos rfl] at H; exact H
        clear H
        have H := H1
        clear H1
        simp only [Option.some.injEq, Prod.mk.injEq] at H
        obtain ⟨rfl, rfl⟩ := H
        go_wp2
        go_ret2
        exact ⟨by first | rfl | (simp; done) | (simp [*]; done), by repeat (first | exact Drawn0.refl _ | apply Drawn0.step)⟩
       ·replace c12 := Bool.eq_false_iff.mpr c12
        subst c12
        have H1 : (if a0.toList = ([43] : List UInt8) then (expr_binds.j2 kj6 a0 (a0.toList == ([43] : List UInt8))) else (expr_binds.j2 kj6 a0 (a0.toList == ([45] : List UInt8)))) = some (r1, r2) := by rw [if_neg (show ¬ (false = true) by decide)] at H; exact H
        clear H
        have H := H1
        clear H1
        have HC13 := zz_ H
        clear H
        go_upto_if 17 with (fail)
        go_cut [17] (fun v17 wc => ∃ (kq : Nat) (x17_12 : Bool), v17 = .bool x17_12 ∧ Aside0 (expr_binds.j2 kq a0 x17_12 = some (r1, r2)) ∧ Aside0 (kq ≤ kj6) ∧ Drawn0 w wc)
        case first =>
         have H := HC13.out
         clear HC13
         by_cases c14 : a0.toList = ([43] : List UInt8)
         ·rw [if_pos c14] at H
          have c14b0 : (a0.toList == ([43] : List UInt8)) = true := beq_iff_eq.mpr c14
          have c14b1 : (a0.toList != ([43] : List UInt8)) = false := bne_eq_false_iff_eq.mpr c14
          clear c14
          (first | rw [c14b0] | (simp only [i64_w, i32_w]; rw [c14b0]) | skip)
          have H' := zz_ H
          clear H
          go_wp2
          go_meet
          case rel => exact ⟨_, ((a0.toList == ([43] : List UInt8))), (by first | rfl | (simp; done) | (simp [*]; done)), H', ⟨by have := HJ1.out; have := HJ6.out; first | omega | exact Nat.le_refl _⟩, by repeat (first | exact Drawn0.refl _ | apply Drawn0.step)⟩
         ·rw [if_neg c14] at H
          have c14b0 : (a0.toList == ([43] : List UInt8)) = false := beq_eq_false_iff_ne.mpr c14
          have c14b1 : (a0.toList != ([43] : List UInt8)) = true := bne_iff_ne.mpr c14
          (first | rw [c14b0] | (simp only [i64_w, i32_w]; rw [c14b0]) | skip)
          have H' := zz_ H
          clear H
          go_wp2
          go_meet
          case rel => exact ⟨_, ((a0.toList == ([45] : List UInt8))), (by first | rfl | (simp; done) | (simp [*]; done)), H', ⟨by have := HJ1.out; have := HJ6.out; first | omega | exact Nat.le_refl _⟩, by repeat (first | exact Drawn0.refl _ | apply Drawn0.step)⟩
        case rest =>
         clear HC13
         try clear c1
         try clear p2
         try clear c3
         try clear c3b0
         try clear c3b1
         try clear c4
         try clear c4b0
         try clear c4b1
         try clear c5
         try clear c6
         try clear c6b0
         try clear c6b1
         try clear c8
         try clear c8b0
         try clear c8b1
         try clear c9
         try clear c9b0
         try clear c9b1
         try clear c10
         try clear c10b0
         try clear c10b1
         try clear c11
         try clear c11b0
         try clear c11b1
         try clear c12
         try clear c14
         try clear c14b0
         try clear c14b1
         try clear p2
         obtain ⟨kq, x17_12, rfl, HA, HJ12, ⟨mc12, rfl⟩⟩ := hcut
         cases kq with
         | zero => exact absurd HA.out (by simp [expr_binds.j2])
         | succ kj12 =>
          have H := HA.out
          clear HA
          simp only [expr_binds.j2] at H
          by_cases c15 : x17_12 = true
          ·subst c15
           have H1 : (some (4, 2)) = some (r1, r2) := by rw [if_pos rfl] at H; exact H
           clear H
           have H := H1
           clear H1
           simp only [Option.some.injEq, Prod.mk.injEq] at H
           obtain ⟨rfl, rfl⟩ := H
           go_wp2
           go_ret2
           exact ⟨by first | rfl | (simp; done) | (simp [*]; done), by repeat (first | exact Drawn0.refl _ | apply Drawn0.step)⟩
          ·replace c15 := Bool.eq_false_iff.mpr c15
           subst c15
           have H1 : (if a0.toList = ([78, 79, 84] : List UInt8) then (some (3, 1)) else (if a0.toList = ([65, 78, 68] : List UInt8) then (some (2, 2)) else (if a0.toList = ([79, 82] : List UInt8) then (some (1, 2)) else (if a0.toList = ([88, 79, 82] : List UInt8) then (some (1, 2)) else (some (0, 0)))))) = some (r1, r2) := by rw [if_neg (show ¬ (false = true) by decide)] at H; exact H
           clear H
           have H := H1
           clear H1
           by_cases c16 : a0.toList = ([78, 79, 84] : List UInt8)
           ·rw [if_pos c16] at H
            have c16b0 : (a0.toList == ([78, 79, 84] : List UInt8)) = true := beq_iff_eq.mpr c16
            have c16b1 : (a0.toList != ([78, 79, 84] : List UInt8)) = false := bne_eq_false_iff_eq.mpr c16
            clear c16
            simp only [Option.some.injEq, Prod.mk.injEq] at H
            obtain ⟨rfl, rfl⟩ := H
            go_wp2
            go_ret2
            exact ⟨by first | rfl | (simp; done) | (simp [*]; done), by repeat (first | exact Drawn0.refl _ | apply Drawn0.step)⟩
           ·rw [if_neg c16] at H
            have c16b0 : (a0.toList == ([78, 79, 84] : List UInt8)) = false := beq_eq_false_iff_ne.mpr c16
            have c16b1 : (a0.toList != ([78, 79, 84] : List UInt8)) = true := bne_iff_ne.mpr c16
            by_cases c17 : a0.toList = ([65, 78, 68] : List UInt8)
            ·rw [if_pos c17] at H
             have c17b0 : (a0.toList == ([65, 78, 68] : List UInt8)) = true := beq_iff_eq.mpr c17
             have c17b1 : (a0.toList != ([65, 78, 68] : List UInt8)) = false := bne_eq_false_iff_eq.mpr c17
             clear c17
             simp only [Option.some.injEq, Prod.mk.injEq] at H
             obtain ⟨rfl, rfl⟩ := H
             go_wp2
             go_ret2
             exact ⟨by first | rfl | (simp; done) | (simp [*]; done), by repeat (first | exact Drawn0.refl _ | apply Drawn0.step)⟩
            ·rw [if_neg c17] at H
             have c17b0 : (a0.toList == ([65, 78, 68] : List UInt8)) = false := beq_eq_false_iff_ne.mpr c17
             have c17b1 : (a0.toList != ([65, 78, 68] : List UInt8)) = true := bne_iff_ne.mpr c17
             by_cases c18 : a0.toList = ([79, 82] : List UInt8)
             ·rw [if_pos c18] at H
              have c18b0 : (a0.toList == ([79, 82] : List UInt8)) = true := beq_iff_eq.mpr c18
              have c18b1 : (a0.toList != ([79, 82] : List UInt8)) = false := bne_eq_false_iff_eq.mpr c18
              clear c18
              simp only [Option.some.injEq, Prod.mk.injEq] at H
              obtain ⟨rfl, rfl⟩ := H
              go_wp2
              go_ret2
              exact ⟨by first | rfl | (simp; done) | (simp [*]; done), by repeat (first | exact Drawn0.refl _ | apply Drawn0.step)⟩
             ·rw [if_neg c18] at H
              have c18b0 : (a0.toList == ([79, 82] : List UInt8)) = false := beq_eq_false_iff_ne.mpr c18
              have c18b1 : (a0.toList != ([79, 82] : List UInt8)) = true := bne_iff_ne.mpr c18
              by_cases c19 : a0.toList = ([88, 79, 82] : List UInt8)
              ·rw [if_pos c19] at H
               have c19b0 : (a0.toList == ([88, 79, 82] : List UInt8)) = true := beq_iff_eq.mpr c19
               have c19b1 : (a0.toList != ([88, 79, 82] : List UInt8)) = false := bne_eq_false_iff_eq.mpr c19
               clear c19
               simp only [Option.some.injEq, Prod.mk.injEq] at H
               obtain ⟨rfl, rfl⟩ := H
               go_wp2
               go_ret2
               exact ⟨by first | rfl | (simp; done) | (simp [*]; done), by repeat (first | exact Drawn0.refl _ | apply Drawn0.step)⟩
              ·rw [if_neg c19] at H
               have c19b0 : (a0.toList == ([88, 79, 82] : List UInt8)) = false := beq_eq_false_iff_ne.mpr c19
               have c19b1 : (a0.toList != ([88, 79, 82] : List UInt8)) = true := bne_iff_ne.mpr c19
               simp only [Option.some.injEq, Prod.mk.injEq] at H
               obtain ⟨rfl, rfl⟩ := H
               go_wp2
               go_ret2
               exact ⟨by first | rfl | (simp; done) | (simp [*]; done), by repeat (first | exact Drawn0.refl _ | apply Drawn0.step)⟩
def expr_word.f (a0 : ByteArray) : Option (Bool) := if a0.toList = ([79, 82] : List UInt8) then (some true) else (if a0.toList = ([88, 79, 82] : List UInt8) then (some true) else (if a0.toList = ([65, 78, 68] : List UInt8) then (some true) else (if a0.toList = ([78, 79, 84] : List UInt8) then (some true) else (if a0.toList = ([77, 79, 68] : List UInt8) then (some true) else (if a0.toList = ([83, 72, 76] : List UInt8) then (some true) else (if a0.toList = ([83, 72, 82] : List UInt8) then (some true) else (some false)))))))
set_option maxHeartbeats 8000000 in
set_option maxRecDepth 100000 in
theorem expr_word.calls (a0 : ByteArray) (r : Bool) (w : World) (h : expr_word.f a0 = some r) :
  Calls Tryd.prog 144 #[.string a0] w fun e w' => e = .returned (.bool r) ∧ Drawn0 w w' := by
 have H : (if a0.toList = ([79, 82] : List UInt8) then (some true) else (if a0.toList = ([88, 79, 82] : List UInt8) then (some true) else (if a0.toList = ([65, 78, 68] : List UInt8) then (some true) else (if a0.toList = ([78, 79, 84] : List UInt8) then (some true) else (if a0.toList = ([77, 79, 68] : List UInt8) then (some true) else (if a0.toList = ([83, 72, 76] : List UInt8) then (some true) else (if a0.toList = ([83, 72, 82] : List UInt8) then (some true) else (some false)))))))) = some r := h
 clear h
 by_cases c2 : a0.toList = ([79, 82] : List UInt8)
 ·rw [if_pos c2] at H
  have c2b0 : (a0.toList == ([79, 82] : List UInt8)) = true := beq_iff_eq.mpr c2
  have c2b1 : (a0.toList != ([79, 82] : List UInt8)) = false := bne_eq_false_iff_eq.mpr c2
  clear c2
  obtain rfl := Option.some.inj H
  go_enter Tryd.func144, Tryd.ntmps144
  go_wp2
  go_ret
  exact ⟨by first | rfl | (simp; done) | (simp [*]; done), by repeat (first | exact Drawn0.refl _ | apply Drawn0.step)⟩
 ·rw [if_neg c2] at H
  have c2b0 : (a0.toList == ([79, 82] : List UInt8)) = false := beq_eq_false_iff_ne.mpr c2
  have c2b1 : (a0.toList != ([79, 82] : List UInt8)) = true := bne_iff_ne.mpr c2
  by_cases c3 : a0.toList = ([88, 79, 82] : List UInt8)
  ·rw [if_pos c3] at H
   have c3b0 : (a0.toList == ([88, 79, 82] : List UInt8)) = true := beq_iff_eq.mpr c3
   have c3b1 : (a0.toList != ([88, 79, 82] : List UInt8)) = false := bne_eq_false_iff_eq.mpr c3
   clear c3
   obtain rfl := Option.some.inj H
   go_enter Tryd.func144, Tryd.ntmps144
   go_wp2
   go_ret
   exact ⟨by first | rfl | (simp; done) | (simp [*]; done), by repeat (first | exact Drawn0.refl _ | apply Drawn0.step)⟩
  ·rw [if_neg c3] at H
   have c3b0 : (a0.toList == ([88, 79, 82] : List UInt8)) = false := beq_eq_false_iff_ne.mpr c3
   have c3b1 : (a0.toList != ([88, 79, 82] : List UInt8)) = true := bne_iff_ne.mpr c3
   by_cases c4 : a0.toList = ([65, 78, 68] : List UInt8)
   ·rw [if_pos c4] at H
    have c4b0 : (a0.toList == ([65, 78, 68] : List UInt8)) = true := beq_iff_eq.mpr c4
    have c4b1 : (a0.toList != ([65, 78, 68] : List UInt8)) = false := bne_eq_false_iff_eq.mpr c4
    clear c4
    obtain rfl := Option.some.inj H
    go_enter Tryd.func144, Tryd.ntmps144
    go_wp2
    go_ret
    exact ⟨by first | rfl | (simp; done) | (simp [*]; done), by repeat (first | exact Drawn0.refl _ | apply Drawn0.step)⟩
   ·rw [if_neg c4] at H
    have c4b0 : (a0.toList == ([65, 78, 68] : List UInt8)) = false := beq_eq_false_iff_ne.mpr c4
    have c4b1 : (a0.toList != ([65, 78, 68] : List UInt8)) = true := bne_iff_ne.mpr c4
    by_cases c5 : a0.toList = ([78, 79, 84] : List UInt8)
    ·rw [if_pos c5] at H
     have c5b0 : (a0.toList == ([78, 79, 84] : List UInt8)) = true := beq_iff_eq.mpr c5
     have c5b1 : (a0.toList != ([78, 79, 84] : List UInt8)) = false := bne_eq_false_iff_eq.mpr c5
     clear c5
     obtain rfl := Option.some.inj H
     go_enter Tryd.func144, Tryd.ntmps144
     go_wp2
     go_ret
     exact ⟨by first | rfl | (simp; done) | (simp [*]; done), by repeat (first | exact Drawn0.refl _ | apply Drawn0.step)⟩
    ·rw [if_neg c5] at H
     have c5b0 : (a0.toList == ([78, 79, 84] : List UInt8)) = false := beq_eq_false_iff_ne.mpr c5
     have c5b1 : (a0.toList != ([78, 79, 84] : List UInt8)) = true := bne_iff_ne.mpr c5
     by_cases c6 : a0.toList = ([77, 79, 68] : List UInt8)
     ·rw [if_pos c6] at H
      have c6b0 : (a0.toList == ([77, 79, 68] : List UInt8)) = true := beq_iff_eq.mpr c6
      have c6b1 : (a0.toList != ([77, 79, 68] : List UInt8)) = false := bne_eq_false_iff_eq.mpr c6
      clear c6
      obtain rfl := Option.some.inj H
      go_enter Tryd.func144, Tryd.ntmps144
      go_wp2
      go_ret
      exact ⟨by first | rfl | (simp; done) | (simp [*]; done), by repeat (first | exact Drawn0.refl _ | apply Drawn0.step)⟩
     ·rw [if_neg c6] at H
      have c6b0 : (a0.toList == ([77, 79, 68] : List UInt8)) = false := beq_eq_false_iff_ne.mpr c6
      have c6b1 : (a0.toList != ([77, 79, 68] : List UInt8)) = true := bne_iff_ne.mpr c6
      by_cases c7 : a0.toList = ([83, 72, 76] : List UInt8)
      ·rw [if_pos c7] at H
       have c7b0 : (a0.toList == ([83, 72, 76] : List UInt8)) = true := beq_iff_eq.mpr c7
       have c7b1 : (a0.toList != ([83, 72, 76] : List UInt8)) = false := bne_eq_false_iff_eq.mpr c7
       clear c7
       obtain rfl := Option.some.inj H
       go_enter Tryd.func144, Tryd.ntmps144
       go_wp2
       go_ret
       exact ⟨by first | rfl | (simp; done) | (simp [*]; done), by repeat (first | exact Drawn0.refl _ | apply Drawn0.step)⟩
      ·rw [if_neg c7] at H
       have c7b0 : (a0.toList == ([83, 72, 76] : List UInt8)) = false := beq_eq_false_iff_ne.mpr c7
       have c7b1 : (a0.toList != ([83, 72, 76] : List UInt8)) = true := bne_iff_ne.mpr c7
       by_cases c8 : a0.toList = ([83, 72, 82] : List UInt8)
       ·rw [if_pos c8] at H
        have c8b0 : (a0.toList == ([83, 72, 82] : List UInt8)) = true := beq_iff_eq.mpr c8
        have c8b1 : (a0.toList != ([83, 72, 82] : List UInt8)) = false := bne_eq_false_iff_eq.mpr c8
        clear c8
        obtain rfl := Option.some.inj H
        go_enter Tryd.func144, Tryd.ntmps144
        go_wp2
        go_ret
        exact ⟨by first | rfl | (simp; done) | (simp [*]; done), by repeat (first | exact Drawn0.refl _ | apply Drawn0.step)⟩
       ·rw [if_neg c8] at H
        have c8b0 : (a0.toList == ([83, 72, 82] : List UInt8)) = false := beq_eq_false_iff_ne.mpr c8
        have c8b1 : (a0.toList != ([83, 72, 82] : List UInt8)) = true := bne_iff_ne.mpr c8
        obtain rfl := Option.some.inj H
        go_enter Tryd.func144, Tryd.ntmps144
        go_wp2
        go_ret
        exact ⟨by first | rfl | (simp; done) | (simp [*]; done), by repeat (first | exact Drawn0.refl _ | apply Drawn0.step)⟩
end Go.Proofs.YtejhagejjogbaaaDoor.Qa
end
