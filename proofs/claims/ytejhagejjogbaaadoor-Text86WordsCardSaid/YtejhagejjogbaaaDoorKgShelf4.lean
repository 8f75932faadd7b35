import Derived.Shelf.Strings.Builder1
import Derived.Shelf.Strings.Builder2
import Derived.Shelf.Strings.OnBuilder
import Derived.Shelf.Strings.TrimSpace
import Derived.Shelf.Small.Utf8
import Derived.Shelf.Small.Strs
import Derived.Shelf.Small.Wraps
import Derived.Shelf.Strings.BuilderF
import Derived.Shelf.Strings.BuilderK
import Derived.Shelf.Utf8.RuneCount
import Derived.Shelf.Strings.Builder2Cap
import Derived.Shelf.Strconv.Itoa0
import Derived.Shelf.Strconv.Itoa1
import Derived.Shelf.LaysM
import Derived.Shelf.Strconv.Itoa2
import Derived.Shelf.Strconv.Itoa3
import Derived.Shelf.Strings.Search1
import Derived.Shelf.Strings.Search2
import Derived.Shelf.Strings.Search3
import Derived.Shelf.Strings.Count
import Derived.Shelf.Strings.Shaped
import Derived.Shelf.GgClosure.StringsIndexFunc
import Derived.Shelf.Strings.Prefix
import Derived.Shelf.Strings.Split
import Derived.Shelf.Strings.Fields
import Derived.Shelf.Strings.Replace
import Derived.Shelf.Strings.SplitShaped
import Derived.Shelf.Unicode.Latin
import Derived.Shelf.Unicode.Decode
import Derived.Shelf.Strings.RuneCount
import Derived.Shelf.Unicode.DecodeSlow
import Derived.Shelf.Unicode.DecodeAny
import Derived.Shelf.Unicode.Is16White
import Derived.Shelf.Unicode.IsSpaceAny
import Derived.Shelf.Unicode.DecodeLast
import Derived.Shelf.Strings.TrimSpaceAny
import Derived.Shelf.Unicode.Is16WhiteD
import Derived.Shelf.Unicode.IsSpaceAnyD
import Derived.Shelf.Strings.FieldsAny
import Derived.Shelf.Strings.FieldsFuncAny
import Derived.Shelf.Unicode.Is16Any
import Derived.Shelf.Unicode.Is32Any
import Derived.Shelf.Unicode.ExclAny
import Derived.Shelf.Strings.BuilderCap
import Derived.Shelf.Slices.Turned
import Derived.Test.YtejhagejjogbaaaDoorProg
namespace Go.Proofs
open Go.Shelf
def Tryd.lays163_ren : Go.Shelf.Ren := ⟨fun | 163 => 88 | 237 => 132 | 199 => 133 | 238 => 134 | 272 => 163 | 261 => 164 | 273 => 165 | 197 => 130 | 315 => 186 | 311 => 187 | 312 => 188 | 271 => 189 | 260 => 161 | 120 => 199 | n => n, fun | 9 => 9 | 37 => 82 | 3 => 3 | 0 => 0 | 5 => 5 | 4 => 4 | 40 => 146 | 119 => 147 | 21 => 21 | 51 => 161 | 141 => 163 | 105 => 143 | 196 => 187 | 193 => 184 | 198 => 189 | 49 => 28 | 194 => 185 | 201 => 192 | 226 => 203 | 46 => 83 | 227 => 204 | 139 => 178 | 138 => 177 | n => n, fun | 0 => 0 | 6 => 1 | 3 => 3 | 4 => 4 | n => n⟩
theorem Tryd.lays163 : Go.Proofs.Lays.n163 Tryd.prog Tryd.lays163_ren := {
  mixed := by kernel_rfl
  f120 := Tryd.func199.trans (congrArg some (by kernel_rfl))
  f163 := Tryd.func88.trans (congrArg some (by kernel_rfl))
  f197 := Tryd.func130.trans (congrArg some (by kernel_rfl))
  f199 := Tryd.func133.trans (congrArg some (by kernel_rfl))
  f237 := Tryd.func132.trans (congrArg some (by kernel_rfl))
  f238 := Tryd.func134.trans (congrArg some (by kernel_rfl))
  f260 := Tryd.func161.trans (congrArg some (by kernel_rfl))
  f261 := Tryd.func164.trans (congrArg some (by kernel_rfl))
  f271 := Tryd.func189.trans (congrArg some (by kernel_rfl))
  f272 := Tryd.func163.trans (congrArg some (by kernel_rfl))
  f273 := Tryd.func165.trans (congrArg some (by kernel_rfl))
  f311 := Tryd.func187.trans (congrArg some (by kernel_rfl))
  f312 := Tryd.func188.trans (congrArg some (by kernel_rfl))
  f315 := Tryd.func186.trans (congrArg some (by kernel_rfl))
  t0 := Tryd.underlying0
  a0 := Tryd.isAgg0
  z0 := Tryd.sizeOf0
  v0 := Tryd.zeroValue0
  t3 := Tryd.underlying3
  a3 := Tryd.isAgg3
  z3 := Tryd.sizeOf3
  v3 := Tryd.zeroValue3
  t4 := Tryd.underlying4
  a4 := Tryd.isAgg4
  z4 := Tryd.sizeOf4
  v4 := Tryd.zeroValue4
  t5 := Tryd.underlying5
  a5 := Tryd.isAgg5
  z5 := Tryd.sizeOf5
  v5 := Tryd.zeroValue5
  t9 := Tryd.underlying9
  a9 := Tryd.isAgg9
  z9 := Tryd.sizeOf9
  v9 := Tryd.zeroValue9
  t21 := Tryd.underlying21
  a21 := Tryd.isAgg21
  z21 := Tryd.sizeOf21
  v21 := Tryd.zeroValue21
  t37 := Tryd.underlying82
  a37 := Tryd.isAgg82
  z37 := Tryd.sizeOf82
  v37 := Tryd.zeroValue82
  t40 := Tryd.underlying146
  a40 := Tryd.isAgg146
  z40 := Tryd.sizeOf146
  v40 := Tryd.zeroValue146
  t46 := Tryd.underlying83
  a46 := Tryd.isAgg83
  z46 := Tryd.sizeOf83
  v46 := Tryd.zeroValue83
  t49 := Tryd.underlying28
  a49 := Tryd.isAgg28
  z49 := Tryd.sizeOf28
  v49 := Tryd.zeroValue28
  t51 := Tryd.underlying161
  a51 := Tryd.isAgg161
  z51 := Tryd.sizeOf161
  v51 := Tryd.zeroValue161
  t105 := Tryd.underlying143
  a105 := Tryd.isAgg143
  z105 := Tryd.sizeOf143
  v105 := Tryd.zeroValue143
  t119 := Tryd.underlying147
  a119 := Tryd.isAgg147
  z119 := Tryd.sizeOf147
  t138 := Tryd.underlying177
  a138 := Tryd.isAgg177
  z138 := Tryd.sizeOf177
  v138 := Tryd.zeroValue177
  t139 := Tryd.underlying178
  a139 := Tryd.isAgg178
  z139 := Tryd.sizeOf178
  v139 := Tryd.zeroValue178
  t141 := Tryd.underlying163
  a141 := Tryd.isAgg163
  z141 := Tryd.sizeOf163
  v141 := Tryd.zeroValue163
  t193 := Tryd.underlying184
  a193 := Tryd.isAgg184
  z193 := Tryd.sizeOf184
  v193 := Tryd.zeroValue184
  t194 := Tryd.underlying185
  a194 := Tryd.isAgg185
  z194 := Tryd.sizeOf185
  v194 := Tryd.zeroValue185
  t196 := Tryd.underlying187
  a196 := Tryd.isAgg187
  z196 := Tryd.sizeOf187
  v196 := Tryd.zeroValue187
  t198 := Tryd.underlying189
  a198 := Tryd.isAgg189
  z198 := Tryd.sizeOf189
  v198 := Tryd.zeroValue189
  t201 := Tryd.underlying192
  a201 := Tryd.isAgg192
  z201 := Tryd.sizeOf192
  v201 := Tryd.zeroValue192
  t226 := Tryd.underlying203
  a226 := Tryd.isAgg203
  z226 := Tryd.sizeOf203
  v226 := Tryd.zeroValue203
  t227 := Tryd.underlying204
  a227 := Tryd.isAgg204
  z227 := Tryd.sizeOf204
  v227 := Tryd.zeroValue204
  g0 := by kernel_rfl
  g3 := by kernel_rfl
  g4 := by kernel_rfl
  g6 := by kernel_rfl }
theorem Tryd.Space_Extra_163 : Space.Extra Tryd.prog Tryd.lays163_ren := {
  gNamed := by kernel_rfl }
open Go.RowKit in
theorem Tryd.strings_TrimSpace (s : ByteArray) (w : World) (hs : s.size ≤ 9223372036854775807) (hascii : ∀ (j : Nat) b, s.data.toList[j]? = some b → b.toNat < 128) (htab : Lib.TabIs Tryd.prog w "strings.asciiSpace" .u8 Lib.asciiSpaceTab) :
    Calls Tryd.prog 88 #[.string s] w fun e w' => e = .returned (.string ⟨(Lib.trimSpace s.data.toList).toArray⟩) ∧ w' = Lib.bytesWorld w 5 s := Any.strings_TrimSpace Tryd.lays163 Tryd.Space_Extra_163 s w hs hascii htab
def Tryd.laysM171_ren : Go.Shelf.Ren := ⟨fun | 171 => 87 | 243 => 131 | 246 => 162 | 283 => 182 | 284 => 183 | 285 => 184 | 286 => 185 | 129 => 195 | 317 => 194 | 318 => 196 | 319 => 197 | 320 => 198 | 337 => 200 | 338 => 201 | n => n, fun | 3 => 3 | 9 => 9 | 2 => 2 | 4 => 4 | 171 => 179 | 0 => 0 | 53 => 154 | 37 => 82 | 5 => 5 | 173 => 182 | 212 => 200 | 51 => 161 | 20 => 20 | 213 => 201 | 46 => 83 | 232 => 209 | 233 => 210 | n => n, fun | 17 => 5 | 18 => 6 | 19 => 7 | n => n⟩
theorem Tryd.laysM171 : Go.Proofs.LaysM.n171 Tryd.prog Tryd.laysM171_ren := {
  mixed := by kernel_rfl
  f129 := Tryd.func195.trans (congrArg some (by kernel_rfl))
  f171 := Tryd.func87.trans (congrArg some (by kernel_rfl))
  f243 := Tryd.func131.trans (congrArg some (by kernel_rfl))
  f246 := Tryd.func162.trans (congrArg some (by kernel_rfl))
  f283 := Tryd.func182.trans (congrArg some (by kernel_rfl))
  f284 := Tryd.func183.trans (congrArg some (by kernel_rfl))
  f285 := Tryd.func184.trans (congrArg some (by kernel_rfl))
  f286 := Tryd.func185.trans (congrArg some (by kernel_rfl))
  f317 := Tryd.func194.trans (congrArg some (by kernel_rfl))
  f318 := Tryd.func196.trans (congrArg some (by kernel_rfl))
  f319 := Tryd.func197.trans (congrArg some (by kernel_rfl))
  f320 := Tryd.func198.trans (congrArg some (by kernel_rfl))
  f337 := Tryd.func200.trans (congrArg some (by kernel_rfl))
  f338 := Tryd.func201.trans (congrArg some (by kernel_rfl))
  t0 := Tryd.underlying0
  a0 := Tryd.isAgg0
  z0 := Tryd.sizeOf0
  v0 := Tryd.zeroValue0
  t2 := Tryd.underlying2
  a2 := Tryd.isAgg2
  z2 := Tryd.sizeOf2
  v2 := Tryd.zeroValue2
  t3 := Tryd.underlying3
  a3 := Tryd.isAgg3
  z3 := Tryd.sizeOf3
  v3 := Tryd.zeroValue3
  t4 := Tryd.underlying4
  a4 := Tryd.isAgg4
  z4 := Tryd.sizeOf4
  v4 := Tryd.zeroValue4
  t5 := Tryd.underlying5
  a5 := Tryd.isAgg5
  z5 := Tryd.sizeOf5
  v5 := Tryd.zeroValue5
  t9 := Tryd.underlying9
  a9 := Tryd.isAgg9
  z9 := Tryd.sizeOf9
  v9 := Tryd.zeroValue9
  t20 := Tryd.underlying20
  a20 := Tryd.isAgg20
  z20 := Tryd.sizeOf20
  v20 := Tryd.zeroValue20
  t37 := Tryd.underlying82
  a37 := Tryd.isAgg82
  z37 := Tryd.sizeOf82
  v37 := Tryd.zeroValue82
  t46 := Tryd.underlying83
  a46 := Tryd.isAgg83
  z46 := Tryd.sizeOf83
  v46 := Tryd.zeroValue83
  t51 := Tryd.underlying161
  a51 := Tryd.isAgg161
  z51 := Tryd.sizeOf161
  v51 := Tryd.zeroValue161
  t53 := Tryd.underlying154
  a53 := Tryd.isAgg154
  z53 := Tryd.sizeOf154
  v53 := Tryd.zeroValue154
  t171 := Tryd.underlying179
  a171 := Tryd.isAgg179
  z171 := Tryd.sizeOf179
  v171 := Tryd.zeroValue179
  t173 := Tryd.underlying182
  a173 := Tryd.isAgg182
  z173 := Tryd.sizeOf182
  v173 := Tryd.zeroValue182
  t212 := Tryd.underlying200
  a212 := Tryd.isAgg200
  z212 := Tryd.sizeOf200
  v212 := Tryd.zeroValue200
  t213 := Tryd.underlying201
  a213 := Tryd.isAgg201
  z213 := Tryd.sizeOf201
  t232 := Tryd.underlying209
  a232 := Tryd.isAgg209
  z232 := Tryd.sizeOf209
  v232 := Tryd.zeroValue209
  t233 := Tryd.underlying210
  a233 := Tryd.isAgg210
  z233 := Tryd.sizeOf210
  v233 := Tryd.zeroValue210
  g17 := by kernel_rfl
  g18 := by kernel_rfl
  g19 := by kernel_rfl
  i0 := by kernel_rfl
  i2 := by kernel_rfl
  i3 := by kernel_rfl
  i4 := by kernel_rfl
  i5 := by kernel_rfl
  i9 := by kernel_rfl
  i20 := by kernel_rfl
  i37 := by kernel_rfl
  i46 := by kernel_rfl
  i51 := by kernel_rfl
  i53 := by kernel_rfl
  i171 := by kernel_rfl
  i173 := by kernel_rfl
  i212 := by kernel_rfl
  i232 := by kernel_rfl
  i233 := by kernel_rfl
  m17 := by kernel_rfl
  m18 := by kernel_rfl
  m19 := by kernel_rfl }
open Go.RowKit Go.Sort Go.Lib in
theorem Tryd.strconv_Itoa (n : Int) (h0 : -9223372036854775808 ≤ n) (h1 : n ≤ 9223372036854775807) (w : World) (htab : Lib.TabIs Tryd.prog w "internal/strconv.uint64pow10" .u64 Lib.pow10Tab) :
    Calls Tryd.prog 87 #[.int .i64 n] w fun e w' => e = .returned (.string ⟨(Lib.itoa n).toArray⟩) ∧ ∃ k os, w' = grow (w.drewN k) os := Any.strconv_Itoa Tryd.laysM171 n h0 h1 w htab
def Tryd.lays157_ren : Go.Shelf.Ren := ⟨fun | 157 => 166 | 229 => 190 | 199 => 133 | 261 => 164 | 311 => 187 | 312 => 188 | n => n, fun | 9 => 9 | 31 => 89 | 3 => 3 | 5 => 5 | 4 => 4 | 119 => 147 | 0 => 0 | 40 => 146 | 152 => 205 | 21 => 21 | 154 => 207 | 51 => 161 | 141 => 163 | 196 => 187 | 193 => 184 | 198 => 189 | 49 => 28 | 194 => 185 | 201 => 192 | 226 => 203 | 46 => 83 | 227 => 204 | n => n, fun | 0 => 0 | 6 => 1 | n => n⟩
theorem Tryd.lays157 : Go.Proofs.Lays.n157 Tryd.prog Tryd.lays157_ren := {
  mixed := by kernel_rfl
  f157 := Tryd.func166.trans (congrArg some (by kernel_rfl))
  f199 := Tryd.func133.trans (congrArg some (by kernel_rfl))
  f229 := Tryd.func190.trans (congrArg some (by kernel_rfl))
  f261 := Tryd.func164.trans (congrArg some (by kernel_rfl))
  f311 := Tryd.func187.trans (congrArg some (by kernel_rfl))
  f312 := Tryd.func188.trans (congrArg some (by kernel_rfl))
  t0 := Tryd.underlying0
  a0 := Tryd.isAgg0
  z0 := Tryd.sizeOf0
  v0 := Tryd.zeroValue0
  t3 := Tryd.underlying3
  a3 := Tryd.isAgg3
  z3 := Tryd.sizeOf3
  v3 := Tryd.zeroValue3
  t4 := Tryd.underlying4
  a4 := Tryd.isAgg4
  z4 := Tryd.sizeOf4
  v4 := Tryd.zeroValue4
  t5 := Tryd.underlying5
  a5 := Tryd.isAgg5
  z5 := Tryd.sizeOf5
  v5 := Tryd.zeroValue5
  t9 := Tryd.underlying9
  a9 := Tryd.isAgg9
  z9 := Tryd.sizeOf9
  v9 := Tryd.zeroValue9
  t21 := Tryd.underlying21
  a21 := Tryd.isAgg21
  z21 := Tryd.sizeOf21
  v21 := Tryd.zeroValue21
  t31 := Tryd.underlying89
  a31 := Tryd.isAgg89
  z31 := Tryd.sizeOf89
  v31 := Tryd.zeroValue89
  t40 := Tryd.underlying146
  a40 := Tryd.isAgg146
  z40 := Tryd.sizeOf146
  v40 := Tryd.zeroValue146
  t46 := Tryd.underlying83
  a46 := Tryd.isAgg83
  z46 := Tryd.sizeOf83
  v46 := Tryd.zeroValue83
  t49 := Tryd.underlying28
  a49 := Tryd.isAgg28
  z49 := Tryd.sizeOf28
  v49 := Tryd.zeroValue28
  t51 := Tryd.underlying161
  a51 := Tryd.isAgg161
  z51 := Tryd.sizeOf161
  v51 := Tryd.zeroValue161
  t119 := Tryd.underlying147
  a119 := Tryd.isAgg147
  z119 := Tryd.sizeOf147
  t141 := Tryd.underlying163
  a141 := Tryd.isAgg163
  z141 := Tryd.sizeOf163
  v141 := Tryd.zeroValue163
  t152 := Tryd.underlying205
  a152 := Tryd.isAgg205
  z152 := Tryd.sizeOf205
  v152 := Tryd.zeroValue205
  t154 := Tryd.underlying207
  a154 := Tryd.isAgg207
  z154 := Tryd.sizeOf207
  v154 := Tryd.zeroValue207
  t193 := Tryd.underlying184
  a193 := Tryd.isAgg184
  z193 := Tryd.sizeOf184
  v193 := Tryd.zeroValue184
  t194 := Tryd.underlying185
  a194 := Tryd.isAgg185
  z194 := Tryd.sizeOf185
  v194 := Tryd.zeroValue185
  t196 := Tryd.underlying187
  a196 := Tryd.isAgg187
  z196 := Tryd.sizeOf187
  v196 := Tryd.zeroValue187
  t198 := Tryd.underlying189
  a198 := Tryd.isAgg189
  z198 := Tryd.sizeOf189
  v198 := Tryd.zeroValue189
  t201 := Tryd.underlying192
  a201 := Tryd.isAgg192
  z201 := Tryd.sizeOf192
  v201 := Tryd.zeroValue192
  t226 := Tryd.underlying203
  a226 := Tryd.isAgg203
  z226 := Tryd.sizeOf203
  v226 := Tryd.zeroValue203
  t227 := Tryd.underlying204
  a227 := Tryd.isAgg204
  z227 := Tryd.sizeOf204
  v227 := Tryd.zeroValue204
  g0 := by kernel_rfl
  g6 := by kernel_rfl }
open Go.RowKit Go.Lib in
theorem Tryd.strings_Fields (s : ByteArray) (w : World) (hs : s.size < 4294967281) (hascii : ∀ (j : Nat) b, s.data.toList[j]? = some b → b.toNat < 128) (htab : Lib.TabIs Tryd.prog w "strings.asciiSpace" .u8 Lib.asciiSpaceTab) :
    Calls Tryd.prog 166 #[.string s] w fun e w' =>
      e = .returned (.slice (some ⟨w.heap.size, 0, none⟩) (Lib.fields s.data.toList).length (Lib.fields s.data.toList).length) ∧ w' = w.alloc (.cells ((Lib.fields s.data.toList).map fun l => Value.string ⟨l.toArray⟩).toArray 9) := Any.strings_Fields Tryd.lays157 (by kernel_rfl) (by kernel_rfl) s w hs hascii htab
end Go.Proofs
