/- Library contracts off the shelf (laid by lay-shelf.mjs and lay-plain.mjs for this dump): IndexByte, FormatInt, ParseInt, HasSuffix, TrimPrefix, Split. Strings and rows of bytes, plain: a string cut at a byte; numerals that decimal printing gives back; tags as bits. The program's fields of a line, read one by one: the next word; a number. -/
import Derived.Shelf.Small.Strs
import Derived.Shelf.Utf8.RuneCount
import Derived.Shelf.Strconv.Itoa0
import Derived.Shelf.Strconv.Itoa1
import Derived.Shelf.LaysM
import Derived.Shelf.Strconv.Itoa2
import Derived.Shelf.Strconv.Itoa3
import Derived.Shelf.Strconv.Itoa4
import Derived.Shelf.Strconv.ParseIntEmpty
import Derived.Shelf.Strconv.Clone
import Derived.Shelf.Strconv.SyntaxError
import Derived.Shelf.LaysC
import Derived.Shelf.Strconv.ToError
import Derived.Shelf.Strconv.Lower
import Derived.Shelf.Strconv.ParseUint10
import Derived.Shelf.Strconv.ParseUint10Empty
import Derived.Shelf.Strconv.ParseUint10Any
import Derived.Shelf.Strconv.ParseInt10
import Derived.Shelf.Strconv.RangeError
import Derived.Shelf.Strconv.ToErrorRange
import Derived.Shelf.Strconv.ParseUintEmpty
import Derived.Shelf.Strconv.ParseUint10b64
import Derived.Shelf.Strconv.ParseUint10b32
import Derived.Shelf.Strconv.ParseUint10b16
import Derived.Shelf.Strconv.ParseUint10b8
import Derived.Shelf.Strconv.ParseUint10At
import Derived.Shelf.Strconv.ParseInt10At64
import Derived.Shelf.Strconv.ParseInt10At32
import Derived.Shelf.Strconv.ParseInt10At16
import Derived.Shelf.Strconv.ParseInt10At8
import Derived.Shelf.Strconv.ParseInt10All
import Derived.Shelf.Strconv.ParseIntPublic10
import Derived.Shelf.Strings.Search1
import Derived.Shelf.Strings.Search2
import Derived.Shelf.Strings.Search3
import Derived.Shelf.Strings.Count
import Derived.Shelf.Strings.Shaped
import Derived.Shelf.Strings.Prefix
import Derived.Shelf.Strings.Split
import Derived.Shelf.Strings.SplitShaped
import Derived.Shelf.Unicode.Decode
import Derived.Shelf.Strings.RuneCount
import Derived.Shelf.Strings.Explode
import Derived.Shelf.Unicode.DecodeSlow
import Derived.Shelf.Unicode.DecodeAny
import Derived.Ground.SlgnProg
import Derived.Shelf.SlicesG.SearchI
import Derived.Ground.SlgcProg
import Derived.Shelf.SlicesG.Cmp
import Derived.Test.YtbccaabaplbmhaaGreatDoorRows
import Derived.Test.YtbccaabaplbmhaaGreatDoorQT7
import Derived.Test.YtbccaabaplbmhaaGreatDoorQT4
import Derived.Lib.AppendIntMem
namespace Go.Proofs
open Go.Shelf
def Tryz.lays137_ren : Go.Shelf.Ren := ⟨fun | 137 => 45 | 217 => 64 | 266 => 76 | n => n, fun | 9 => 9 | 5 => 5 | 3 => 3 | n => n, fun | n => n⟩
theorem Tryz.lays137 : Go.Proofs.Lays.n137 Tryz.prog Tryz.lays137_ren := {
  mixed := by kernel_rfl
  f137 := Tryz.func45.trans (congrArg some (by kernel_rfl))
  f217 := Tryz.func64.trans (congrArg some (by kernel_rfl))
  f266 := Tryz.func76.trans (congrArg some (by kernel_rfl))
  t3 := Tryz.underlying3
  a3 := Tryz.isAgg3
  z3 := Tryz.sizeOf3
  v3 := Tryz.zeroValue3
  t5 := Tryz.underlying5
  a5 := Tryz.isAgg5
  z5 := Tryz.sizeOf5
  v5 := Tryz.zeroValue5
  t9 := Tryz.underlying9
  a9 := Tryz.isAgg9
  z9 := Tryz.sizeOf9
  v9 := Tryz.zeroValue9 }
open Go.RowKit in
theorem Tryz.strings_IndexByte (s : ByteArray) (c : Int) (w : World) :
    Calls Tryz.prog 45 #[.string s, .int .u8 c] w fun e w' => e = .returned (.int .i64 (Lib.indexByte s.data.toList c.toNat.toUInt8)) ∧ w' = w := Any.strings_IndexByte Tryz.lays137 s c w
def Tryz.laysM173_ren : Go.Shelf.Ren := ⟨fun | 173 => 42 | 246 => 63 | 283 => 72 | 284 => 73 | 285 => 74 | 286 => 75 | 129 => 84 | 317 => 83 | 318 => 85 | 319 => 86 | 320 => 87 | 337 => 98 | 338 => 99 | n => n, fun | 2 => 2 | 3 => 3 | 9 => 9 | 4 => 4 | 171 => 137 | 0 => 0 | 53 => 138 | 37 => 22 | 5 => 5 | 173 => 141 | 212 => 148 | 51 => 149 | 20 => 20 | 213 => 150 | 46 => 134 | 232 => 168 | 233 => 169 | n => n, fun | 17 => 2 | 18 => 6 | 19 => 7 | n => n⟩
theorem Tryz.laysM173 : Go.Proofs.LaysM.n173 Tryz.prog Tryz.laysM173_ren := {
  mixed := by kernel_rfl
  f129 := Tryz.func84.trans (congrArg some (by kernel_rfl))
  f173 := Tryz.func42.trans (congrArg some (by kernel_rfl))
  f246 := Tryz.func63.trans (congrArg some (by kernel_rfl))
  f283 := Tryz.func72.trans (congrArg some (by kernel_rfl))
  f284 := Tryz.func73.trans (congrArg some (by kernel_rfl))
  f285 := Tryz.func74.trans (congrArg some (by kernel_rfl))
  f286 := Tryz.func75.trans (congrArg some (by kernel_rfl))
  f317 := Tryz.func83.trans (congrArg some (by kernel_rfl))
  f318 := Tryz.func85.trans (congrArg some (by kernel_rfl))
  f319 := Tryz.func86.trans (congrArg some (by kernel_rfl))
  f320 := Tryz.func87.trans (congrArg some (by kernel_rfl))
  f337 := Tryz.func98.trans (congrArg some (by kernel_rfl))
  f338 := Tryz.func99.trans (congrArg some (by kernel_rfl))
  t0 := Tryz.underlying0
  a0 := Tryz.isAgg0
  z0 := Tryz.sizeOf0
  v0 := Tryz.zeroValue0
  t2 := Tryz.underlying2
  a2 := Tryz.isAgg2
  z2 := Tryz.sizeOf2
  v2 := Tryz.zeroValue2
  t3 := Tryz.underlying3
  a3 := Tryz.isAgg3
  z3 := Tryz.sizeOf3
  v3 := Tryz.zeroValue3
  t4 := Tryz.underlying4
  a4 := Tryz.isAgg4
  z4 := Tryz.sizeOf4
  v4 := Tryz.zeroValue4
  t5 := Tryz.underlying5
  a5 := Tryz.isAgg5
  z5 := Tryz.sizeOf5
  v5 := Tryz.zeroValue5
  t9 := Tryz.underlying9
  a9 := Tryz.isAgg9
  z9 := Tryz.sizeOf9
  v9 := Tryz.zeroValue9
  t20 := Tryz.underlying20
  a20 := Tryz.isAgg20
  z20 := Tryz.sizeOf20
  v20 := Tryz.zeroValue20
  t37 := Tryz.underlying22
  a37 := Tryz.isAgg22
  z37 := Tryz.sizeOf22
  v37 := Tryz.zeroValue22
  t46 := Tryz.underlying134
  a46 := Tryz.isAgg134
  z46 := Tryz.sizeOf134
  v46 := Tryz.zeroValue134
  t51 := Tryz.underlying149
  a51 := Tryz.isAgg149
  z51 := Tryz.sizeOf149
  v51 := Tryz.zeroValue149
  t53 := Tryz.underlying138
  a53 := Tryz.isAgg138
  z53 := Tryz.sizeOf138
  v53 := Tryz.zeroValue138
  t171 := Tryz.underlying137
  a171 := Tryz.isAgg137
  z171 := Tryz.sizeOf137
  v171 := Tryz.zeroValue137
  t173 := Tryz.underlying141
  a173 := Tryz.isAgg141
  z173 := Tryz.sizeOf141
  v173 := Tryz.zeroValue141
  t212 := Tryz.underlying148
  a212 := Tryz.isAgg148
  z212 := Tryz.sizeOf148
  v212 := Tryz.zeroValue148
  t213 := Tryz.underlying150
  a213 := Tryz.isAgg150
  z213 := Tryz.sizeOf150
  t232 := Tryz.underlying168
  a232 := Tryz.isAgg168
  z232 := Tryz.sizeOf168
  v232 := Tryz.zeroValue168
  t233 := Tryz.underlying169
  a233 := Tryz.isAgg169
  z233 := Tryz.sizeOf169
  v233 := Tryz.zeroValue169
  g17 := by kernel_rfl
  g18 := by kernel_rfl
  g19 := by kernel_rfl
  i0 := by kernel_rfl
  i2 := by kernel_rfl
  i3 := by kernel_rfl
  i4 := by kernel_rfl
  i5 := by kernel_rfl
  i9 := by kernel_rfl
  i20 := by kernel_rfl
  i37 := by kernel_rfl
  i46 := by kernel_rfl
  i51 := by kernel_rfl
  i53 := by kernel_rfl
  i171 := by kernel_rfl
  i173 := by kernel_rfl
  i212 := by kernel_rfl
  i232 := by kernel_rfl
  i233 := by kernel_rfl
  m17 := by kernel_rfl
  m18 := by kernel_rfl
  m19 := by kernel_rfl }
def Tryz.laysC174_ren : Go.Shelf.Ren := ⟨fun | 174 => 67 | 247 => 81 | 245 => 82 | 287 => 93 | 279 => 94 | 280 => 95 | 281 => 96 | 282 => 97 | 321 => 104 | 322 => 105 | 316 => 106 | 171 => 108 | 205 => 107 | 243 => 110 | 246 => 63 | 283 => 72 | 284 => 73 | 285 => 74 | 286 => 75 | 129 => 84 | 317 => 83 | 318 => 85 | 319 => 86 | 320 => 87 | 337 => 98 | 338 => 99 | n => n, fun | 9 => 9 | 3 => 3 | 2 => 2 | 75 => 67 | 85 => 118 | 4 => 4 | 167 => 156 | 5 => 5 | 53 => 138 | 175 => 157 | 46 => 134 | 168 => 159 | 37 => 22 | 0 => 0 | 210 => 166 | 21 => 21 | 127 => 176 | 145 => 179 | 143 => 177 | 171 => 137 | 173 => 141 | 212 => 148 | 51 => 149 | 20 => 20 | 213 => 150 | 232 => 168 | 233 => 169 | 80 => 97 | n => n, fun | 15 => 4 | 16 => 5 | 17 => 2 | 18 => 6 | 19 => 7 | n => n⟩
theorem Tryz.laysC174 : Go.Proofs.LaysC.n174 Tryz.prog Tryz.laysC174_ren := {
  mixed := by kernel_rfl
  f129 := Tryz.func84.trans (congrArg some (by kernel_rfl))
  f171 := Tryz.func108.trans (congrArg some (by kernel_rfl))
  f174 := Tryz.func67.trans (congrArg some (by kernel_rfl))
  f205 := Tryz.func107.trans (congrArg some (by kernel_rfl))
  f243 := Tryz.func110.trans (congrArg some (by kernel_rfl))
  f245 := Tryz.func82.trans (congrArg some (by kernel_rfl))
  f246 := Tryz.func63.trans (congrArg some (by kernel_rfl))
  f247 := Tryz.func81.trans (congrArg some (by kernel_rfl))
  f279 := Tryz.func94.trans (congrArg some (by kernel_rfl))
  f280 := Tryz.func95.trans (congrArg some (by kernel_rfl))
  f281 := Tryz.func96.trans (congrArg some (by kernel_rfl))
  f282 := Tryz.func97.trans (congrArg some (by kernel_rfl))
  f283 := Tryz.func72.trans (congrArg some (by kernel_rfl))
  f284 := Tryz.func73.trans (congrArg some (by kernel_rfl))
  f285 := Tryz.func74.trans (congrArg some (by kernel_rfl))
  f286 := Tryz.func75.trans (congrArg some (by kernel_rfl))
  f287 := Tryz.func93.trans (congrArg some (by kernel_rfl))
  f316 := Tryz.func106.trans (congrArg some (by kernel_rfl))
  f317 := Tryz.func83.trans (congrArg some (by kernel_rfl))
  f318 := Tryz.func85.trans (congrArg some (by kernel_rfl))
  f319 := Tryz.func86.trans (congrArg some (by kernel_rfl))
  f320 := Tryz.func87.trans (congrArg some (by kernel_rfl))
  f321 := Tryz.func104.trans (congrArg some (by kernel_rfl))
  f322 := Tryz.func105.trans (congrArg some (by kernel_rfl))
  f337 := Tryz.func98.trans (congrArg some (by kernel_rfl))
  f338 := Tryz.func99.trans (congrArg some (by kernel_rfl))
  t0 := Tryz.underlying0
  a0 := Tryz.isAgg0
  z0 := Tryz.sizeOf0
  v0 := Tryz.zeroValue0
  t2 := Tryz.underlying2
  a2 := Tryz.isAgg2
  z2 := Tryz.sizeOf2
  v2 := Tryz.zeroValue2
  t3 := Tryz.underlying3
  a3 := Tryz.isAgg3
  z3 := Tryz.sizeOf3
  v3 := Tryz.zeroValue3
  t4 := Tryz.underlying4
  a4 := Tryz.isAgg4
  z4 := Tryz.sizeOf4
  v4 := Tryz.zeroValue4
  t5 := Tryz.underlying5
  a5 := Tryz.isAgg5
  z5 := Tryz.sizeOf5
  v5 := Tryz.zeroValue5
  t9 := Tryz.underlying9
  a9 := Tryz.isAgg9
  z9 := Tryz.sizeOf9
  v9 := Tryz.zeroValue9
  t20 := Tryz.underlying20
  a20 := Tryz.isAgg20
  z20 := Tryz.sizeOf20
  v20 := Tryz.zeroValue20
  t21 := Tryz.underlying21
  a21 := Tryz.isAgg21
  z21 := Tryz.sizeOf21
  v21 := Tryz.zeroValue21
  t37 := Tryz.underlying22
  a37 := Tryz.isAgg22
  z37 := Tryz.sizeOf22
  v37 := Tryz.zeroValue22
  t46 := Tryz.underlying134
  a46 := Tryz.isAgg134
  z46 := Tryz.sizeOf134
  v46 := Tryz.zeroValue134
  t51 := Tryz.underlying149
  a51 := Tryz.isAgg149
  z51 := Tryz.sizeOf149
  v51 := Tryz.zeroValue149
  t53 := Tryz.underlying138
  a53 := Tryz.isAgg138
  z53 := Tryz.sizeOf138
  v53 := Tryz.zeroValue138
  t75 := Tryz.underlying67
  a75 := Tryz.isAgg67
  z75 := Tryz.sizeOf67
  v75 := Tryz.zeroValue67
  t85 := Tryz.underlying118
  a85 := Tryz.isAgg118
  z85 := Tryz.sizeOf118
  v85 := Tryz.zeroValue118
  t127 := Tryz.underlying176
  a127 := Tryz.isAgg176
  z127 := Tryz.sizeOf176
  v127 := Tryz.zeroValue176
  t143 := Tryz.underlying177
  a143 := Tryz.isAgg177
  z143 := Tryz.sizeOf177
  v143 := Tryz.zeroValue177
  t145 := Tryz.underlying179
  a145 := Tryz.isAgg179
  z145 := Tryz.sizeOf179
  v145 := Tryz.zeroValue179
  t167 := Tryz.underlying156
  a167 := Tryz.isAgg156
  z167 := Tryz.sizeOf156
  v167 := Tryz.zeroValue156
  t168 := Tryz.underlying159
  a168 := Tryz.isAgg159
  z168 := Tryz.sizeOf159
  v168 := Tryz.zeroValue159
  t171 := Tryz.underlying137
  a171 := Tryz.isAgg137
  z171 := Tryz.sizeOf137
  v171 := Tryz.zeroValue137
  t173 := Tryz.underlying141
  a173 := Tryz.isAgg141
  z173 := Tryz.sizeOf141
  v173 := Tryz.zeroValue141
  t175 := Tryz.underlying157
  a175 := Tryz.isAgg157
  z175 := Tryz.sizeOf157
  v175 := Tryz.zeroValue157
  t210 := Tryz.underlying166
  a210 := Tryz.isAgg166
  z210 := Tryz.sizeOf166
  v210 := Tryz.zeroValue166
  t212 := Tryz.underlying148
  a212 := Tryz.isAgg148
  z212 := Tryz.sizeOf148
  v212 := Tryz.zeroValue148
  t213 := Tryz.underlying150
  a213 := Tryz.isAgg150
  z213 := Tryz.sizeOf150
  t232 := Tryz.underlying168
  a232 := Tryz.isAgg168
  z232 := Tryz.sizeOf168
  v232 := Tryz.zeroValue168
  t233 := Tryz.underlying169
  a233 := Tryz.isAgg169
  z233 := Tryz.sizeOf169
  v233 := Tryz.zeroValue169
  g15 := by kernel_rfl
  g16 := by kernel_rfl
  g17 := by kernel_rfl
  g18 := by kernel_rfl
  g19 := by kernel_rfl
  t80 := Tryz.underlying97
  a80 := Tryz.isAgg97
  z80 := Tryz.sizeOf97
  v80 := Tryz.zeroValue97
  i0 := by kernel_rfl
  i2 := by kernel_rfl
  i3 := by kernel_rfl
  i4 := by kernel_rfl
  i5 := by kernel_rfl
  i9 := by kernel_rfl
  i20 := by kernel_rfl
  i21 := by kernel_rfl
  i37 := by kernel_rfl
  i46 := by kernel_rfl
  i51 := by kernel_rfl
  i53 := by kernel_rfl
  i75 := by kernel_rfl
  i80 := by kernel_rfl
  i85 := by kernel_rfl
  i127 := by kernel_rfl
  i143 := by kernel_rfl
  i145 := by kernel_rfl
  i167 := by kernel_rfl
  i168 := by kernel_rfl
  i171 := by kernel_rfl
  i173 := by kernel_rfl
  i175 := by kernel_rfl
  i210 := by kernel_rfl
  i212 := by kernel_rfl
  i232 := by kernel_rfl
  i233 := by kernel_rfl
  m15 := by kernel_rfl
  m16 := by kernel_rfl
  m17 := by kernel_rfl
  m18 := by kernel_rfl
  m19 := by kernel_rfl
  c0 := by kernel_rfl
  c2 := by kernel_rfl
  c3 := by kernel_rfl
  c4 := by kernel_rfl
  c5 := by kernel_rfl
  c9 := by kernel_rfl
  c20 := by kernel_rfl
  c21 := by kernel_rfl
  c37 := by kernel_rfl
  c46 := by kernel_rfl
  c51 := by kernel_rfl
  c53 := by kernel_rfl
  c75 := by kernel_rfl
  c80 := by kernel_rfl
  c85 := by kernel_rfl
  c127 := by kernel_rfl
  c143 := by kernel_rfl
  c145 := by kernel_rfl
  c167 := by kernel_rfl
  c168 := by kernel_rfl
  c171 := by kernel_rfl
  c173 := by kernel_rfl
  c175 := by kernel_rfl
  c210 := by kernel_rfl
  c212 := by kernel_rfl
  c213 := by kernel_rfl
  c232 := by kernel_rfl
  c233 := by kernel_rfl }
open Go.RowKit in
theorem Tryz.strconv_ParseInt_10_at64_ok (s : ByteArray) (hmax : s.size ≤ 9223372036854775806) (v : Int) (h : Lib.parseIntB 64 s.data.toList = .ok v) (w : World) :
    Calls Tryz.prog 67 #[.string s, .int .i64 10, .int .i64 64] w fun e w' => e = .returned (.tuple #[.int .i64 v, .nilIface]) ∧ (w' = w ∨ ∃ t, w' = Lib.bytesWorld w 5 t) := Any.strconv_ParseInt_10_at64_ok Tryz.laysC174 s hmax v h w
open Go.RowKit in
theorem Tryz.strconv_ParseInt_10_at64_syntax (s : ByteArray) (hlim : s.size ≤ 281474976710656) (h : Lib.parseIntB 64 s.data.toList = Lib.parseIntB 64 []) (ev : Value) (w : World) (hv : w.cell? ⟨4, 0, none⟩ = some ev) (hev : ev = .nilIface ∨ ∃ te pe, ev = .iface te pe) :
    Calls Tryz.prog 67 #[.string s, .int .i64 10, .int .i64 64] w fun e w' => ∃ N, e = .returned (.tuple #[.int .i64 (0), .iface 159 (.pointer (some ⟨N, 0, none⟩))]) ∧ w.heap.size ≤ N ∧ w'.heap[N]? = some (.cells #[.string ⟨#[80, 97, 114, 115, 101, 73, 110, 116]⟩, .string s, ev] 166 (0, 0)) ∧ Below w.heap.size w w' := Any.strconv_ParseInt_10_at64_syntax Tryz.laysC174 s hlim (h.trans rfl) ev w hv hev
open Go.RowKit in
theorem Tryz.strconv_ParseInt_10_at64_range (s : ByteArray) (hlim : s.size ≤ 281474976710656) (h : Lib.parseIntB 64 s.data.toList = .range) (ev : Value) (w : World) (hv : w.cell? ⟨5, 0, none⟩ = some ev) (hev : ev = .nilIface ∨ ∃ te pe, ev = .iface te pe) :
    Calls Tryz.prog 67 #[.string s, .int .i64 10, .int .i64 64] w fun e w' => ∃ N, e = .returned (.tuple #[.int .i64 (Lib.intSat 64 s.data.toList), .iface 159 (.pointer (some ⟨N, 0, none⟩))]) ∧ w.heap.size ≤ N ∧ w'.heap[N]? = some (.cells #[.string ⟨#[80, 97, 114, 115, 101, 73, 110, 116]⟩, .string s, ev] 166 (0, 0)) ∧ Below w.heap.size w w' := Any.strconv_ParseInt_10_at64_range Tryz.laysC174 s hlim h ev w hv hev
def Tryz.lays100_ren : Go.Shelf.Ren := ⟨fun | 100 => 25 | 207 => 46 | n => n, fun | 9 => 9 | 4 => 4 | 3 => 3 | n => n, fun | n => n⟩
theorem Tryz.lays100 : Go.Proofs.Lays.n100 Tryz.prog Tryz.lays100_ren := {
  mixed := by kernel_rfl
  f100 := Tryz.func25.trans (congrArg some (by kernel_rfl))
  f207 := Tryz.func46.trans (congrArg some (by kernel_rfl))
  t3 := Tryz.underlying3
  a3 := Tryz.isAgg3
  z3 := Tryz.sizeOf3
  v3 := Tryz.zeroValue3
  t4 := Tryz.underlying4
  a4 := Tryz.isAgg4
  z4 := Tryz.sizeOf4
  v4 := Tryz.zeroValue4
  t9 := Tryz.underlying9
  a9 := Tryz.isAgg9
  z9 := Tryz.sizeOf9
  v9 := Tryz.zeroValue9 }
open Go.RowKit Go.Lib in
theorem Tryz.strings_HasSuffix (s p : ByteArray) (w : World) (hs : s.size ≤ 9223372036854775807) :
    Calls Tryz.prog 25 #[.string s, .string p] w fun e w' => e = .returned (.bool (Lib.hasSuffix s.data.toList p.data.toList)) ∧ w' = w := Any.strings_HasSuffix Tryz.lays100 s p w hs
def Tryz.lays101_ren : Go.Shelf.Ren := ⟨fun | 101 => 66 | 208 => 80 | 206 => 92 | n => n, fun | 9 => 9 | 4 => 4 | 3 => 3 | n => n, fun | n => n⟩
theorem Tryz.lays101 : Go.Proofs.Lays.n101 Tryz.prog Tryz.lays101_ren := {
  mixed := by kernel_rfl
  f101 := Tryz.func66.trans (congrArg some (by kernel_rfl))
  f206 := Tryz.func92.trans (congrArg some (by kernel_rfl))
  f208 := Tryz.func80.trans (congrArg some (by kernel_rfl))
  t3 := Tryz.underlying3
  a3 := Tryz.isAgg3
  z3 := Tryz.sizeOf3
  v3 := Tryz.zeroValue3
  t4 := Tryz.underlying4
  a4 := Tryz.isAgg4
  z4 := Tryz.sizeOf4
  v4 := Tryz.zeroValue4
  t9 := Tryz.underlying9
  a9 := Tryz.isAgg9
  z9 := Tryz.sizeOf9
  v9 := Tryz.zeroValue9 }
open Go.RowKit Go.Lib in
theorem Tryz.strings_TrimPrefix (s p : ByteArray) (w : World) :
    Calls Tryz.prog 66 #[.string s, .string p] w fun e w' => e = .returned (.string ⟨(Lib.trimPrefix s.data.toList p.data.toList).toArray⟩) ∧ w' = w := Any.strings_TrimPrefix Tryz.lays101 s p w
def Tryz.lays146_ren : Go.Shelf.Ren := ⟨fun | 146 => 47 | 221 => 65 | 268 => 77 | 138 => 78 | 143 => 79 | 195 => 88 | 197 => 89 | 218 => 90 | 219 => 91 | 260 => 100 | 217 => 64 | 225 => 101 | 224 => 102 | 267 => 103 | 266 => 76 | 314 => 109 | n => n, fun | 9 => 9 | 31 => 93 | 3 => 3 | 4 => 4 | 0 => 0 | 105 => 154 | 21 => 21 | 5 => 5 | 46 => 134 | 119 => 170 | 139 => 173 | 138 => 172 | 146 => 174 | 51 => 149 | n => n, fun | 1 => 3 | 3 => 8 | 4 => 9 | n => n⟩
theorem Tryz.lays146 : Go.Proofs.Lays.n146 Tryz.prog Tryz.lays146_ren := {
  mixed := by kernel_rfl
  f138 := Tryz.func78.trans (congrArg some (by kernel_rfl))
  f143 := Tryz.func79.trans (congrArg some (by kernel_rfl))
  f146 := Tryz.func47.trans (congrArg some (by kernel_rfl))
  f195 := Tryz.func88.trans (congrArg some (by kernel_rfl))
  f197 := Tryz.func89.trans (congrArg some (by kernel_rfl))
  f217 := Tryz.func64.trans (congrArg some (by kernel_rfl))
  f218 := Tryz.func90.trans (congrArg some (by kernel_rfl))
  f219 := Tryz.func91.trans (congrArg some (by kernel_rfl))
  f221 := Tryz.func65.trans (congrArg some (by kernel_rfl))
  f224 := Tryz.func102.trans (congrArg some (by kernel_rfl))
  f225 := Tryz.func101.trans (congrArg some (by kernel_rfl))
  f260 := Tryz.func100.trans (congrArg some (by kernel_rfl))
  f266 := Tryz.func76.trans (congrArg some (by kernel_rfl))
  f267 := Tryz.func103.trans (congrArg some (by kernel_rfl))
  f268 := Tryz.func77.trans (congrArg some (by kernel_rfl))
  f314 := Tryz.func109.trans (congrArg some (by kernel_rfl))
  t0 := Tryz.underlying0
  a0 := Tryz.isAgg0
  z0 := Tryz.sizeOf0
  v0 := Tryz.zeroValue0
  t3 := Tryz.underlying3
  a3 := Tryz.isAgg3
  z3 := Tryz.sizeOf3
  v3 := Tryz.zeroValue3
  t4 := Tryz.underlying4
  a4 := Tryz.isAgg4
  z4 := Tryz.sizeOf4
  v4 := Tryz.zeroValue4
  t5 := Tryz.underlying5
  a5 := Tryz.isAgg5
  z5 := Tryz.sizeOf5
  v5 := Tryz.zeroValue5
  t9 := Tryz.underlying9
  a9 := Tryz.isAgg9
  z9 := Tryz.sizeOf9
  v9 := Tryz.zeroValue9
  t21 := Tryz.underlying21
  a21 := Tryz.isAgg21
  z21 := Tryz.sizeOf21
  v21 := Tryz.zeroValue21
  t31 := Tryz.underlying93
  a31 := Tryz.isAgg93
  z31 := Tryz.sizeOf93
  v31 := Tryz.zeroValue93
  t46 := Tryz.underlying134
  a46 := Tryz.isAgg134
  z46 := Tryz.sizeOf134
  v46 := Tryz.zeroValue134
  t51 := Tryz.underlying149
  a51 := Tryz.isAgg149
  z51 := Tryz.sizeOf149
  v51 := Tryz.zeroValue149
  t105 := Tryz.underlying154
  a105 := Tryz.isAgg154
  z105 := Tryz.sizeOf154
  v105 := Tryz.zeroValue154
  t119 := Tryz.underlying170
  a119 := Tryz.isAgg170
  z119 := Tryz.sizeOf170
  t138 := Tryz.underlying172
  a138 := Tryz.isAgg172
  z138 := Tryz.sizeOf172
  v138 := Tryz.zeroValue172
  t139 := Tryz.underlying173
  a139 := Tryz.isAgg173
  z139 := Tryz.sizeOf173
  v139 := Tryz.zeroValue173
  t146 := Tryz.underlying174
  a146 := Tryz.isAgg174
  z146 := Tryz.sizeOf174
  v146 := Tryz.zeroValue174
  g1 := by kernel_rfl
  g3 := by kernel_rfl
  g4 := by kernel_rfl }
open Go.RowKit Go.Lib in
theorem Tryz.strings_Split (s sep : ByteArray) (m : Int) (w : World) (hs : s.size < 4294967281) (hm : w.cell? ⟨3, 0, none⟩ = some (.int .i64 m)) (h1 : 1 ≤ sep.size) :
    Calls Tryz.prog 47 #[.string s, .string sep] w fun e w' =>
      e = .returned (.slice (some ⟨w.heap.size, 0, none⟩) (Lib.countB s sep + 1) (Lib.countB s sep + 1)) ∧ w' = w.alloc (.cells ((Lib.splitB sep 0 (Lib.countB s sep) s).map Value.string).toArray 9) := Any.strings_Split Tryz.lays146 (by kernel_rfl) s sep m w hs hm h1
end Go.Proofs
namespace Go.Proofs.YtbccaabaplbmhaaGreatDoor.L1
/-- The table of powers of ten, by the row's own name for it. -/
def tabName : String := match Rows.fnInstTextRow.named with
  | a :: _ => a
  | _ => default
end Go.Proofs.YtbccaabaplbmhaaGreatDoor.L1
namespace Go.Proofs.YtbccaabaplbmhaaGreatDoor.L1
open Go.RowKit Go.Proofs.YtbccaabaplbmhaaGreatDoorW.PrintWords Go.Proofs.YtbccaabaplbmhaaGreatDoor.B
set_option linter.unusedVariables false
set_option linter.unusedSimpArgs false
def stepP (sep : Int) (acc : List (List Int) × List Int) (b : Int) : List (List Int) × List Int := if b = sep then (acc.1 ++ [acc.2], []) else (acc.1, acc.2 ++ [b])
theorem cutTo_fold (sep : Int) (bs : List Int) : ∀ k, k ≤ bs.length → cutTo sep bs k = (bs.take k).foldl (stepP sep) ([], [])
  | 0, _ => by simp [cutTo]
  | k + 1, hk => by
    have hb : bs.take (k + 1) = bs.take k ++ [bs.getD k 0] := by
      rw [List.take_add_one, List.getD_eq_getElem?_getD, List.getElem?_eq_getElem (by omega)]; rfl
    rw [hb, List.foldl_append, ← cutTo_fold sep bs k (by omega)]
    rfl
theorem pieces_fold (sep : Int) (bs : List Int) : pieces sep bs = (bs.foldl (stepP sep) ([], [])).1 ++ [(bs.foldl (stepP sep) ([], [])).2] := by
  unfold pieces
  rw [cutTo_fold sep bs bs.length (Nat.le_refl _), List.take_length]
theorem fold_none {sep : Int} : ∀ {a : List Int}, sep ∉ a → ∀ acc, a.foldl (stepP sep) acc = (acc.1, acc.2 ++ a)
  | [], _, acc => by simp
  | b :: a, h, acc => by
    have hb : ¬ b = sep := fun e => h (by simp [e])
    rw [List.foldl_cons, fold_none (fun hm => h (by simp [hm]))]
    simp [stepP, hb]
theorem fold_pre {sep : Int} : ∀ (b : List Int) (ps : List (List Int)) (cur : List Int), b.foldl (stepP sep) (ps, cur) = (ps ++ (b.foldl (stepP sep) ([], cur)).1, (b.foldl (stepP sep) ([], cur)).2)
  | [], ps, cur => by simp
  | x :: b, ps, cur => by
    rw [List.foldl_cons, List.foldl_cons]
    unfold stepP
    by_cases h : x = sep
    · simp only [h, if_true, List.nil_append]
      have h1 := fold_pre (sep := sep) b (ps ++ [cur]) []
      have h2 := fold_pre (sep := sep) b [cur] []
      unfold stepP at h1 h2
      rw [h1, h2]; simp
    · simp only [h, if_false]
      exact fold_pre b ps (cur ++ [x])
theorem pieces_none {sep : Int} {a : List Int} (h : sep ∉ a) : pieces sep a = [a] := by
  rw [pieces_fold, fold_none h]; rfl
theorem pieces_cons {sep : Int} {a b : List Int} (h : sep ∉ a) : pieces sep (a ++ sep :: b) = a :: pieces sep b := by
  rw [pieces_fold, pieces_fold, List.foldl_append, fold_none h, List.foldl_cons, show stepP sep (([], []).1, ([], []).2 ++ a) sep = ([a], []) by simp [stepP], fold_pre]
  simp
theorem byte_at : ∀ {l : List UInt8} {c : UInt8} {i : Nat}, Lib.indexByte l c = i → l = l.take i ++ c :: l.drop (i + 1) ∧ c ∉ l.take i ∧ i < l.length
  | [], c, i, h => by unfold Lib.indexByte at h; omega
  | b :: l, c, i, h => by
    unfold Lib.indexByte at h
    by_cases hb : b = c
    · rw [if_pos (by simp [hb])] at h
      have : i = 0 := by omega
      subst this; subst hb; simp
    · rw [if_neg (by simp [hb])] at h
      have hg := Lib.indexByte_ge l c
      by_cases h1 : Lib.indexByte l c = -1
      · rw [if_pos (by simp [h1])] at h; omega
      · rw [if_neg (by simp [h1])] at h
        obtain ⟨j, hj⟩ : ∃ j : Nat, Lib.indexByte l c = j := ⟨(Lib.indexByte l c).toNat, by omega⟩
        have : i = j + 1 := by omega
        subst this
        obtain ⟨e1, e2, e3⟩ := byte_at hj
        refine ⟨?_, ?_, by simp only [List.length_cons]; omega⟩
        · rw [List.take_succ_cons, List.drop_succ_cons, List.cons_append, ← e1]
        · rw [List.take_succ_cons, List.mem_cons]; rintro (e | e)
          · exact hb e.symm
          · exact e2 e
theorem byte_none : ∀ {l : List UInt8} {c : UInt8}, Lib.indexByte l c = -1 → c ∉ l
  | [], _, _ => by simp
  | b :: l, c, h => by
    unfold Lib.indexByte at h
    have hg := Lib.indexByte_ge l c
    by_cases hb : b = c
    · rw [if_pos (by simp [hb])] at h; omega
    · rw [if_neg (by simp [hb])] at h
      by_cases h1 : Lib.indexByte l c = -1
      · intro hm; rcases List.mem_cons.1 hm with e | e
        · exact hb e.symm
        · exact byte_none h1 e
      · rw [if_neg (by simp [h1])] at h; omega
theorem ofU_mem {l : List UInt8} {c : UInt8} : (c.toNat : Int) ∈ ofU l ↔ c ∈ l := by
  unfold ofU
  rw [List.mem_map]
  constructor
  · rintro ⟨b, hb, e⟩
    have : b = c := UInt8.toNat_inj.1 (by omega)
    rwa [← this]
  · intro h; exact ⟨c, h, rfl⟩
theorem ofU_app (a b : List UInt8) : ofU (a ++ b) = ofU a ++ ofU b := by simp [ofU]
theorem ofU_cons (a : UInt8) (b : List UInt8) : ofU (a :: b) = (a.toNat : Int) :: ofU b := rfl
theorem ofU_lenS (l : List UInt8) : (ofU l).length = l.length := by simp [ofU]
theorem pieces_hit {l : List UInt8} {c : UInt8} {i : Nat} (h : Lib.indexByte l c = i) : pieces c.toNat (ofU l) = ofU (l.take i) :: pieces c.toNat (ofU (l.drop (i + 1))) := by
  obtain ⟨e1, e2, _⟩ := byte_at h
  have : ofU l = ofU (l.take i) ++ (c.toNat : Int) :: ofU (l.drop (i + 1)) := by rw [← ofU_cons, ← ofU_app, ← e1]
  rw [this, pieces_cons fun hm => e2 (ofU_mem.1 hm)]
theorem pieces_miss {l : List UInt8} {c : UInt8} (h : Lib.indexByte l c = -1) : pieces c.toNat (ofU l) = [ofU l] := pieces_none fun hm => byte_none h (ofU_mem.1 hm)
theorem split_pieces (c : UInt8) : ∀ (n : Nat) (l : List UInt8), l.length ≤ n → (Lib.splitK [c] 0 (Lib.count l [c]) l).map ofU = pieces c.toNat (ofU l)
  | n, l, hn => by
    by_cases h : Lib.indexByte l c = -1
    · have h2 := Lib.index_one l c
      rw [pieces_miss h, Lib.count_miss (by rw [h2, h])]; rfl
    · obtain ⟨i, hi⟩ : ∃ i : Nat, Lib.indexByte l c = i := ⟨(Lib.indexByte l c).toNat, by have := Lib.indexByte_ge l c; omega⟩
      have h2 := Lib.index_one l c
      obtain ⟨e1, e2, e3⟩ := byte_at hi
      rw [pieces_hit hi, Lib.count_hit (i := i) (by simp) (by rw [h2, hi])]
      rw [show 1 + Lib.count (l.drop (i + [c].length)) [c] = Lib.count (l.drop (i + [c].length)) [c] + 1 by omega]
      unfold Lib.splitK
      rw [if_neg (by rw [h2, hi]; intro e; have := beq_iff_eq.1 e; omega), h2, hi]
      rw [List.map_cons]
      congr 1
      cases n with
      | zero => omega
      | succ n => exact split_pieces c n _ (by rw [List.length_drop]; simp only [List.length_cons, List.length_nil]; omega)
/-- The bytes of a string. -/
def bytesOf (s : ByteArray) : List Int := ofU s.data.toList
theorem bytesOf_len (s : ByteArray) : (bytesOf s).length = s.size := by unfold bytesOf; rw [ofU_lenS]; exact (Lib.size_eq s).symm
theorem bytesOf_bytes (s : ByteArray) : ∀ b, b ∈ bytesOf s → isByte b := by
  intro b hb
  unfold bytesOf ofU at hb
  obtain ⟨c, _, rfl⟩ := List.mem_map.1 hb
  have := c.toNat_lt
  unfold isByte; omega
theorem ofU_inj : ∀ {a b : List UInt8}, ofU a = ofU b → a = b
  | [], [], _ => rfl
  | [], _ :: _, h => by simp [ofU] at h
  | _ :: _, [], h => by simp [ofU] at h
  | x :: a, y :: b, h => by
    rw [ofU_cons, ofU_cons, List.cons.injEq] at h
    have : x = y := UInt8.toNat_inj.1 (by omega)
    rw [this, ofU_inj h.2]
theorem split_bytes (s : ByteArray) (c : UInt8) : (Lib.splitB ⟨#[c]⟩ 0 (Lib.countB s ⟨#[c]⟩) s).map bytesOf = pieces c.toNat (bytesOf s) := by
  have h := split_pieces c s.data.toList.length s.data.toList (Nat.le_refl _)
  rw [show bytesOf s = ofU s.data.toList from rfl, ← h]
  rw [show Lib.splitK [c] 0 (Lib.count s.data.toList [c]) s.data.toList = (Lib.splitB ⟨#[c]⟩ 0 (Lib.countB s ⟨#[c]⟩) s).map (·.data.toList) from (Lib.splitB_data ⟨#[c]⟩ 0 _ s).symm, List.map_map]
  rfl
theorem parse_bounds {l : List UInt8} {v : Int} (h : Lib.parseIntB 64 l = .ok v) : -9223372036854775808 ≤ v ∧ v ≤ 9223372036854775807 := by
  unfold Lib.parseIntB at h
  cases l with
  | nil => cases h
  | cons c r =>
    dsimp only at h
    split at h
    · cases h
    · cases h
    · rename_i u hu
      split at h
      · cases h
      split at h
      · cases h
      · injection h with h
        have e : (2 : Nat) ^ (64 - 1) = 9223372036854775808 := by decide
        rw [e] at *
        split at h <;> omega
theorem trim_tail (l : List UInt8) : (Lib.trimPrefix l [45]).length = (numTail (ofU l)).length := by
  unfold Lib.trimPrefix Lib.hasPrefix numTail
  cases l with
  | nil => rfl
  | cons c r =>
    have e0 : (ofU (c :: r)).getD 0 0 = (c.toNat : Int) := rfl
    rw [e0]
    by_cases h : c = 45
    · subst h
      rw [if_pos (by simp [List.isPrefixOf]), if_pos (by decide)]
      show (List.drop 1 (45 :: r)).length = (List.drop 1 (ofU (45 :: r))).length
      rw [ofU_cons, List.drop_succ_cons, List.drop_succ_cons, List.drop_zero, List.drop_zero, ofU_lenS]
    · have h2 : ¬ (c.toNat : Int) = 45 := fun e => h (UInt8.toNat_inj.1 (by show c.toNat = 45; omega))
      rw [if_neg (by simp [List.isPrefixOf]; exact fun e => h e.symm), if_neg h2, ofU_lenS]
/-- What the program asks of a field: it parses, it is short, and it is printed back. -/
theorem num_bad {l : List UInt8} (h : ∀ v, Lib.parseIntB 64 l ≠ .ok v) : isNum (ofU l) = false := by
  cases hn : isNum (ofU l) with
  | false => rfl
  | true => exact absurd (parse_dec hn) (h _)
theorem num_long {l : List UInt8} (h : 9 < (Lib.trimPrefix l [45]).length) : isNum (ofU l) = false := by
  cases hn : isNum (ofU l) with
  | false => rfl
  | true => have := (isNum_dec hn).2; rw [trim_tail] at h; omega
theorem num_other {l : List UInt8} {v : Int} (h : Lib.parseIntB 64 l = .ok v) (hne : Lib.itoa v ≠ l) : isNum (ofU l) = false := by
  cases hn : isNum (ofU l) with
  | false => rfl
  | true =>
    have h1 := parse_dec hn
    rw [h] at h1
    injection h1 with h1
    have h2 := (isNum_dec hn).1
    rw [← h1, dec_itoa] at h2
    exact absurd (ofU_inj h2).symm hne
theorem num_good {l : List UInt8} {v : Int} (hs : ¬ 9 < (Lib.trimPrefix l [45]).length) (he : Lib.itoa v = l) : isNum (ofU l) = true ∧ v = numVal (ofU l) := by
  have h1 : ofU l = dec v := by rw [dec_itoa, he]
  rw [trim_tail, h1] at hs
  obtain ⟨h2, h3⟩ := dec_isNum (v := v) (by omega)
  rw [h1]
  exact ⟨h2, h3.symm⟩
theorem or_add (m : Nat) (s : Int) (hm : m ≤ 15) (h0 : 0 ≤ s) (h1 : s < 2 ^ m) : bits .or .i64 s (2 ^ m) = s + 2 ^ m := by
  obtain ⟨n, rfl⟩ : ∃ n : Nat, s = n := ⟨s.toNat, by omega⟩
  have hp : (2 : Nat) ^ m ≤ 2 ^ 15 := Nat.pow_le_pow_right (by decide) hm
  have h15 : (2 : Nat) ^ 15 = 32768 := by decide
  have hc : ((2 : Int) ^ m) = ((2 ^ m : Nat) : Int) := by simp
  have hn : n < 2 ^ m := by omega
  have key : (BitVec.ofInt 64 (n : Int) ||| BitVec.ofInt 64 ((2 : Int) ^ m)).toNat = n + 2 ^ m := by
    rw [BitVec.toNat_or, hc, BitVec.ofInt_natCast, BitVec.ofInt_natCast, BitVec.toNat_ofNat, BitVec.toNat_ofNat, Nat.mod_eq_of_lt (by omega), Nat.mod_eq_of_lt (by omega), Nat.or_comm]
    have := Nat.two_pow_add_eq_or_of_lt hn 1
    rw [Nat.mul_one] at this
    rw [← this]; omega
  show IntKind.i64.wrap ((BitVec.ofInt 64 (n : Int) ||| BitVec.ofInt 64 ((2 : Int) ^ m)).toNat : Nat) = _
  rw [key, hc]
  rw [IntWalk.i64_in _ (by omega)]
  omega
theorem tagBit_pow {y : Int} (h : 97 ≤ y ∧ y ≤ 112) : tagBit y = 2 ^ (y - 97).toNat := by unfold tagBit; rw [if_neg (by omega)]
theorem pow_mono {a b : Nat} (h : a ≤ b) : (2 : Int) ^ a ≤ 2 ^ b := by
  have := Nat.pow_le_pow_right (n := 2) (by decide) h
  have e1 : ((2 ^ a : Nat) : Int) = (2 : Int) ^ a := by simp
  have e2 : ((2 ^ b : Nat) : Int) = (2 : Int) ^ b := by simp
  omega
theorem tagSum_top {f : List Int} : ∀ k, allI (k + 1) (tagStep f) = true → (97 ≤ f.getD k 0 ∧ f.getD k 0 ≤ 112) ∧ 2 ^ (f.getD k 0 - 97).toNat ≤ tagSum f (k + 1) ∧ tagSum f (k + 1) < 2 ^ ((f.getD k 0 - 97).toNat + 1)
  | 0, h => by
    have h0 := allI_iff.1 h 0 (by omega)
    unfold tagStep inB at h0
    simp only [Bool.and_eq_true, decide_eq_true_eq] at h0
    refine ⟨h0.1, ?_⟩
    show _ ≤ tagSum f 0 + tagBit _ ∧ tagSum f 0 + tagBit _ < _
    rw [show tagSum f 0 = 0 from rfl, tagBit_pow h0.1, Int.pow_succ]
    have := Int.pow_pos (n := 2) (m := (f.getD 0 0 - 97).toNat) (by decide)
    omega
  | k + 1, h => by
    have h0 := allI_iff.1 h (k + 1) (by omega)
    unfold tagStep inB at h0
    simp only [Bool.and_eq_true, Bool.or_eq_true, decide_eq_true_eq] at h0
    obtain ⟨h1, h2⟩ := h0
    have h3 : f.getD k 0 < f.getD (k + 1) 0 := by
      rcases h2 with h2 | h2
      · omega
      · exact h2
    obtain ⟨h4, h5, h6⟩ := tagSum_top k (by rw [allI_succ, Bool.and_eq_true] at h; exact h.1)
    refine ⟨h1, ?_⟩
    show _ ≤ tagSum f (k + 1) + tagBit _ ∧ tagSum f (k + 1) + tagBit _ < _
    rw [tagBit_pow h1, Int.pow_succ]
    have h7 := pow_mono (show (f.getD k 0 - 97).toNat + 1 ≤ (f.getD (k + 1) 0 - 97).toNat by omega)
    have h8 := Int.pow_pos (n := 2) (m := (f.getD k 0 - 97).toNat) (by decide)
    omega
/-- The tag behind k good ones: its bit is over their sum, or it is not above the last. -/
theorem tag_next {f : List Int} {k : Nat} (h : allI k (tagStep f) = true) (hy : 97 ≤ f.getD k 0 ∧ f.getD k 0 ≤ 112) : 0 ≤ tagSum f k ∧ (tagStep f k = true → tagSum f k < 2 ^ (f.getD k 0 - 97).toNat) ∧ (tagStep f k = false → 2 ^ (f.getD k 0 - 97).toNat ≤ tagSum f k) := by
  cases k with
  | zero =>
    refine ⟨Int.le_refl _, fun _ => Int.pow_pos (by decide), fun h2 => ?_⟩
    exfalso
    unfold tagStep inB at h2
    rw [decide_eq_true hy.1, decide_eq_true hy.2] at h2
    simp at h2
  | succ k =>
    obtain ⟨h1, h2, h3⟩ := tagSum_top k h
    have hp := Int.pow_pos (n := 2) (m := (f.getD k 0 - 97).toNat) (by decide)
    refine ⟨by omega, fun h4 => ?_, fun h4 => ?_⟩
    · unfold tagStep inB at h4
      simp only [Bool.and_eq_true, Bool.or_eq_true, decide_eq_true_eq] at h4
      have h5 : f.getD k 0 < f.getD (k + 1) 0 := by
        rcases h4.2 with h5 | h5
        · omega
        · exact h5
      have := pow_mono (show (f.getD k 0 - 97).toNat + 1 ≤ (f.getD (k + 1) 0 - 97).toNat by omega)
      omega
    · unfold tagStep inB at h4
      rw [decide_eq_true hy.1, decide_eq_true hy.2, show k + 1 - 1 = k from rfl] at h4
      simp only [Bool.and_self, Bool.true_and, Bool.or_eq_false_iff, decide_eq_false_iff_not] at h4
      have := pow_mono (show (f.getD (k + 1) 0 - 97).toNat ≤ (f.getD k 0 - 97).toNat by omega)
      omega
end Go.Proofs.YtbccaabaplbmhaaGreatDoor.L1
namespace Go.Proofs.YtbccaabaplbmhaaGreatDoor.L1
open Go.RowKit Go.Proofs.YtbccaabaplbmhaaGreatDoorW.PrintWords Go.Proofs.YtbccaabaplbmhaaGreatDoor.B
set_option linter.unusedVariables false
set_option linter.unusedSimpArgs false
attribute [local go_sem] mk_cell mk_frozen
/-- What the program's variables hold, whatever is done from w0 on. -/
structure Gl (w0 : World) : Prop where
  max : ∃ m : Int, w0.cell? ⟨3, 0, none⟩ = some (.int .i64 m)
  syn : ∃ ev : Value, w0.cell? ⟨4, 0, none⟩ = some ev ∧ (ev = .nilIface ∨ ∃ te pe, ev = .iface te pe)
  rng : ∃ ev : Value, w0.cell? ⟨5, 0, none⟩ = some ev ∧ (ev = .nilIface ∨ ∃ te pe, ev = .iface te pe)
  tab : Lib.TabBelow Tryz.prog w0.heap.size w0 tabName .u64 Lib.pow10Tab
  kinds : w0.cell? ⟨0, 0, none⟩ = some (.string ⟨#[118, 101, 104, 105, 99, 108, 101]⟩) ∧ w0.cell? ⟨0, 1, none⟩ = some (.int .i64 8) ∧ w0.cell? ⟨0, 2, none⟩ = some (.string ⟨#[114, 101, 113, 117, 101, 115, 116]⟩) ∧ w0.cell? ⟨0, 3, none⟩ = some (.int .i64 13) ∧ w0.cell? ⟨0, 4, none⟩ = some (.string ⟨#[114, 111, 97, 100]⟩) ∧ w0.cell? ⟨0, 5, none⟩ = some (.int .i64 4)
/-- The reader of fields stands before word i, m words are left. -/
def FAt (W : World) (g B i m : Nat) (frm : Bool) : Prop := ∃ p : Addr, W.heap[g]? = some (.cells #[.slice (some p) m m, .bool frm] 96 (0, 0)) ∧ (0 < m → p = ⟨B, i, none⟩)
theorem FAt.below {W W1 : World} {g B i m : Nat} {frm : Bool} (h : FAt W g B i m frm) (hb : Below W.heap.size W W1) : FAt W1 g B i m frm := by
  obtain ⟨p, h1, h2⟩ := h
  exact ⟨p, blk_below h1 hb, h2⟩
set_option maxRecDepth 100000 in
set_option maxHeartbeats 4000000 in
theorem impl_next (w : World) (g B i m : Nat) (frm : Bool) (s : ByteArray) (hF : FAt w g B i (m + 1) frm) (hs : w.cell? ⟨B, i, none⟩ = some (.string s)) : Calls Tryz.prog 48 #[.pointer (some ⟨g, 0, none⟩)] w fun e w' => e = .returned (.string s) ∧ FAt w' g B (i + 1) m frm ∧ Tch (fun k => k = g) w w' := by
  obtain ⟨p, h1, h2⟩ := hF
  obtain rfl := h2 (Nat.succ_pos _)
  clear h2
  have HG := Aside0.mk h1
  obtain ⟨x1, x2⟩ := lay (Below.refl _ _) h1
  have hlt : (0 : Int) < (m : Int) + 1 := by omega
  have hle : 1 ≤ m + 1 := by omega
  rcases Nat.eq_zero_or_pos m with rfl | hm
  · go_enter Tryz.func48, Tryz.ntmps48
    go_wp2
    go_ret
    refine ⟨rfl, ⟨⟨B, i, none⟩, ?_, fun h => absurd h (Nat.lt_irrefl _)⟩, Tch.set rfl⟩
    exact blk_set HG.out 0 _
  · have hm1 : ¬ m = 0 := by omega
    go_enter Tryz.func48, Tryz.ntmps48
    go_wp2
    go_ret
    refine ⟨rfl, ⟨⟨B, i + 1, none⟩, ?_, fun h => rfl⟩, Tch.set rfl⟩
    exact blk_set HG.out 0 _
theorem bytesW_below {w w' : World} (h : w' = w ∨ ∃ t, w' = Lib.bytesWorld w 5 t) : Below w.heap.size w w' := by
  rcases h with rfl | ⟨t, rfl⟩
  · exact Below.refl _ _
  · exact Lib.bytesWorld_below _ _ _
theorem FAt.set {W : World} {g B i m : Nat} {frm : Bool} (h : FAt W g B i m frm) (b : Bool) : FAt (W.setCell ⟨g, 1, none⟩ (.bool b)) g B i m b := by
  obtain ⟨p, h1, h2⟩ := h
  exact ⟨p, blk_set h1 1 _, h2⟩
theorem impl_parse (w0 w : World) (hG : Gl w0) (hB : Below w0.heap.size w0 w) (s : ByteArray) (hs : s.size ≤ 1048576) : Calls Tryz.prog 67 #[.string s, .int .i64 10, .int .i64 64] w fun e w' => (∃ v : Int, Lib.parseIntB 64 s.data.toList = .ok v ∧ e = .returned (.tuple #[.int .i64 v, .nilIface]) ∧ Below w.heap.size w w') ∨ ((∀ v, Lib.parseIntB 64 s.data.toList ≠ .ok v) ∧ ∃ (v : Int) (t : TypeId) (q : Value), e = .returned (.tuple #[.int .i64 v, .iface t q]) ∧ Below w.heap.size w w') := by
  rcases hp : Lib.parseIntB 64 s.data.toList with v | _ | _
  · refine (Tryz.strconv_ParseInt_10_at64_ok s (by omega) v hp w).mono ?_
    rintro e w' ⟨rfl, h⟩
    exact Or.inl ⟨v, rfl, rfl, bytesW_below h⟩
  · obtain ⟨ev, h1, h2⟩ := hG.syn
    refine (Tryz.strconv_ParseInt_10_at64_syntax s (by omega) (hp.trans rfl) ev w (pw_cell_below hB h1) h2).mono ?_
    rintro e w' ⟨N, rfl, _, _, h⟩
    exact Or.inr ⟨fun v hv => (by cases hv), _, _, _, rfl, h⟩
  · obtain ⟨ev, h1, h2⟩ := hG.rng
    refine (Tryz.strconv_ParseInt_10_at64_range s (by omega) hp ev w (pw_cell_below hB h1) h2).mono ?_
    rintro e w' ⟨N, rfl, _, _, h⟩
    exact Or.inr ⟨fun v hv => (by cases hv), _, _, _, rfl, h⟩
theorem impl_formatP (w0 w : World) (hG : Gl w0) (hB : Below w0.heap.size w0 w) (n : Int) (hn : -9223372036854775808 ≤ n ∧ n ≤ 9223372036854775807) :
    Calls Tryz.prog 42 #[.int .i64 n, .int .i64 10] w fun e w' => e = .returned (.string ⟨(Lib.itoa n).toArray⟩) ∧ Below w.heap.size w w' := by
  refine (Any.strconv_FormatInt_10 Tryz.laysM173 n hn.1 hn.2 w (hG.tab w hB)).mono ?_
  rintro e w' ⟨rfl, k, os, rfl⟩
  exact ⟨rfl, Lib.below_grow _ _ (Nat.le_refl _) k os⟩
set_option maxRecDepth 100000 in
set_option maxHeartbeats 4000000 in
theorem impl_number (w0 w : World) (hG : Gl w0) (hB : Below w0.heap.size w0 w) (g B i m : Nat) (hg : w0.heap.size ≤ g) (frm : Bool) (s : ByteArray) (hF : FAt w g B i (m + 1) frm) (hs : w.cell? ⟨B, i, none⟩ = some (.string s)) (hz : s.size ≤ 1048576) :
    Calls Tryz.prog 49 #[.pointer (some ⟨g, 0, none⟩)] w fun e w' => ∃ v : Int, e = .returned (.int .i64 v) ∧ (isNum (bytesOf s) = true → v = numVal (bytesOf s)) ∧ FAt w' g B (i + 1) m (frm || !isNum (bytesOf s)) ∧ Tch (fun k => k = g) w w' := by
  have HGL := Aside0.mk hG; have HB := Aside0.mk hB; have HGE := Aside0.mk hg; have HF := Aside0.mk hF; have HS := Aside0.mk hs; have HZ := Aside0.mk hz
  clear hG hB hg hF hs hz
  go_enter Tryz.func49, Tryz.ntmps49
  go_wp2_with fail
  go_at_call 48
  refine (impl_next _ g B i m frm s HF.out HS.out).mono ?_
  rintro e w1 ⟨rfl, hF, hT⟩
  have HF1 := Aside0.mk hF; have HT1 := Aside0.mk hT; have HB1 := Aside0.mk (hT.below w0 (fun k hk => by rw [hk]; exact HGE.out) HB.out); clear hF hT
  go_wp2_with fail
  go_at_call 66
  refine (Tryz.strings_TrimPrefix s ⟨#[45]⟩ _).mono ?_
  rintro e w' ⟨rfl, rfl⟩
  have HTP := Aside0.mk (show ∃ t : ByteArray, (⟨(Lib.trimPrefix s.data.toList [45]).toArray⟩ : ByteArray) = t ∧ t.size = (Lib.trimPrefix s.data.toList [45]).length from ⟨_, rfl, by rw [Lib.size_eq]⟩)
  obtain ⟨t, ht, htz⟩ := HTP.out
  have HTZ := Aside0.mk htz; clear HTP htz
  rw [show (⟨(Lib.trimPrefix s.data.toList (⟨#[45]⟩ : ByteArray).data.toList).toArray⟩ : ByteArray) = t from ht]
  clear ht
  go_wp2_with fail
  go_at_call 67
  refine (impl_parse w0 _ HGL.out HB1.out s HZ.out).mono ?_
  rintro e w2 (⟨v, hp, rfl, hb⟩ | ⟨hp, v, ty, q, rfl, hb⟩)
  · have HP := Aside0.mk hp
    have HF2 := Aside0.mk (HF1.out.below hb); have HT2 := Aside0.mk (HT1.out.trans (Tch.of_below hb)); have HB2 := Aside0.mk (bel_call HB1.out hb); clear hp hb
    by_cases hl : 9 < t.size
    · have HV := Aside0.mk (show isNum (bytesOf s) = false from num_long (by rw [← HTZ.out]; exact hl))
      have l0 : decide ((9 : Int) < (t.size : Int)) = true := decide_eq_true (by omega)
      have l1 : decide (9 < t.size) = true := decide_eq_true hl
      clear hl
      obtain ⟨p, k1, k2⟩ := HF2.out
      obtain ⟨x1, x2⟩ := lay (Below.refl _ _) k1
      clear k2 k1
      go_wp2
      go_ret
      exact ⟨_, rfl, fun h => absurd (h.symm.trans HV.out) (by decide), by rw [HV.out]; simpa using HF2.out.set true, HT2.out.trans (Tch.set rfl)⟩
    · have HL := Aside0.mk (show ¬ 9 < (Lib.trimPrefix s.data.toList [45]).length by rw [← HTZ.out]; exact hl)
      have l0 : decide ((9 : Int) < (t.size : Int)) = false := decide_eq_false (by omega)
      have l1 : decide (9 < t.size) = false := decide_eq_false hl
      clear hl
      have HQ := Aside0.mk (parse_bounds HP.out)
      go_wp2_with fail
      go_at_call 42
      refine (impl_formatP w0 _ HGL.out HB2.out v HQ.out).mono ?_
      rintro e w3 ⟨rfl, hb⟩
      have HF3 := Aside0.mk (HF2.out.below hb); have HT3 := Aside0.mk (HT2.out.trans (Tch.of_below hb)); clear hb HF2 HT2
      have HF2 := HF3; have HT2 := HT3; clear HF3 HT3
      by_cases he : Lib.itoa v = s.data.toList
      · have HV := Aside0.mk (num_good HL.out he)
        have hst : (⟨(Lib.itoa v).toArray⟩ : ByteArray) = s := by rw [he]
        rw [hst]
        clear he hst
        go_wp2
        go_ret
        exact ⟨_, rfl, fun _ => HV.out.2, by rw [show isNum (bytesOf s) = true from HV.out.1]; simpa using HF2.out, HT2.out⟩
      · have HV := Aside0.mk (show isNum (bytesOf s) = false from num_other HP.out he)
        have m0 : ((⟨(Lib.itoa v).toArray⟩ : ByteArray).toList == s.toList) = false := by
          rw [ByteArray.toList_eq, ByteArray.toList_eq]
          exact beq_false_of_ne fun h => he (by simpa using h)
        generalize (⟨(Lib.itoa v).toArray⟩ : ByteArray) = st at m0
        clear he
        obtain ⟨p, k1, k2⟩ := HF2.out
        obtain ⟨x1, x2⟩ := lay (Below.refl _ _) k1
        clear k2 k1
        go_wp2
        go_ret
        exact ⟨_, rfl, fun h => absurd (h.symm.trans HV.out) (by decide), by rw [HV.out]; simpa using HF2.out.set true, HT2.out.trans (Tch.set rfl)⟩
  · have HV := Aside0.mk (show isNum (bytesOf s) = false from num_bad hp)
    have HF2 := Aside0.mk (HF1.out.below hb); have HT2 := Aside0.mk (HT1.out.trans (Tch.of_below hb)); clear hp hb
    obtain ⟨p, k1, k2⟩ := HF2.out
    obtain ⟨x1, x2⟩ := lay (Below.refl _ _) k1
    clear k2 k1
    go_wp2
    go_ret
    exact ⟨_, rfl, fun h => absurd (h.symm.trans HV.out) (by decide), by rw [HV.out]; simpa using HF2.out.set true, HT2.out.trans (Tch.set rfl)⟩
end Go.Proofs.YtbccaabaplbmhaaGreatDoor.L1
