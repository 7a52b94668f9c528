/- Contracts of the library at this program: layings, and one application each (written by the kit's own tools, then cut). No condition. -/
import Derived.Test.YtakcacejpbiogaaGreatDoorR4
import Derived.Shelf.Strings.Builder1
import Derived.Shelf.Strings.Builder2
import Derived.Shelf.Strings.OnBuilder
import Derived.Shelf.Strings.Trim
import Derived.Shelf.Small.Utf8
import Derived.Shelf.Small.Bits
import Derived.Shelf.Small.Strs
import Derived.Shelf.Small.Wraps
import Derived.Shelf.Utf8.RuneCount
import Derived.Shelf.Strconv.Atoi
import Derived.Shelf.Strconv.Itoa0
import Derived.Shelf.Strconv.Itoa1
import Derived.Shelf.LaysM
import Derived.Shelf.Strconv.Itoa2
import Derived.Shelf.Strconv.Itoa3
import Derived.Shelf.Strconv.AtoiErrFast
import Derived.Shelf.Strconv.ParseIntEmpty
import Derived.Shelf.Strconv.AtoiFail
import Derived.Shelf.Strconv.Clone
import Derived.Shelf.Strconv.SyntaxError
import Derived.Shelf.LaysC
import Derived.Shelf.Strconv.ToError
import Derived.Shelf.Strconv.Lower
import Derived.Shelf.Strconv.ParseUint10
import Derived.Shelf.Strconv.ParseUint10Empty
import Derived.Shelf.Strconv.ParseUint10Any
import Derived.Shelf.Strconv.ParseInt10
import Derived.Shelf.Strconv.AtoiLong
import Derived.Shelf.Strconv.AtoiInnerAll
import Derived.Shelf.Strconv.RangeError
import Derived.Shelf.Strconv.ToErrorRange
import Derived.Shelf.Strconv.AtoiAll
import Derived.Shelf.Strconv.ErrVarAll
import Derived.Shelf.Strings.Search1
import Derived.Shelf.Strings.Search2
import Derived.Shelf.Strings.Search3
import Derived.Shelf.Strings.Cut
import Derived.Shelf.Strings.Count
import Derived.Shelf.Strings.Shaped
import Derived.Shelf.Strings.Prefix
import Derived.Shelf.Strings.Split
import Derived.Shelf.Strings.SplitShaped
import Derived.Shelf.Unicode.Decode
import Derived.Shelf.Strings.Runes
import Derived.Shelf.Strings.RuneCount
import Derived.Shelf.Strings.AsciiSet
import Derived.Shelf.Strings.Explode
import Derived.Shelf.Unicode.DecodeSlow
import Derived.Shelf.Unicode.DecodeAny
import Derived.Shelf.Unicode.DecodeLast
import Derived.Ground.Names2Prog
import Derived.Shelf.Slices.Clone
import Derived.Shelf.Slices.CompactS
import Derived.Shelf.Slices.Cells
import Derived.Ground.SlgnProg
import Derived.Shelf.SlicesE.Clone
import Derived.Ground.SlsfProg
import Derived.Shelf.SlSortCmp.Insertion
import Derived.Shelf.SlSortCmp.SiftDown1
import Derived.Shelf.SlSortCmp.HeapSort1
import Derived.Shelf.SlSortCmp.Insertion1
import Derived.Shelf.SlSortCmp.Median1
import Derived.Shelf.SlSortCmp.Pivot1
import Derived.Shelf.SlSortCmp.ReverseRange1
import Derived.Shelf.SlSortCmp.PartialInsertion1
import Derived.Shelf.SlSortCmp.PartitionEqual1
import Derived.Shelf.SlSortCmp.Partition1
import Derived.Shelf.SlSortCmp.Pdq1
import Derived.Shelf.SlSortCmp.Whole1
import Derived.Shelf.SlSortCmp.NoneTotal
import Derived.Test.YtakcacejpbiogaaGreatDoorProg
import Derived.WalkKit
import Derived.Sort.Walk0
set_option linter.all false
set_option maxHeartbeats 8000000
set_option maxRecDepth 100000
namespace Go.Proofs
open Go.Shelf
def Tryz.lays156_ren : Go.Shelf.Ren := ⟨fun | 156 => 25 | 165 => 47 | 166 => 48 | 169 => 49 | 240 => 71 | 241 => 72 | 276 => 99 | 277 => 100 | n => n, fun | 31 => 26 | 9 => 9 | 3 => 3 | 4 => 4 | 0 => 0 | 20 => 20 | 72 => 84 | 76 => 88 | 70 => 81 | 37 => 82 | 75 => 87 | 127 => 104 | 164 => 126 | 5 => 5 | 80 => 90 | n => n, fun | n => n⟩
theorem Tryz.lays156 : Go.Proofs.Lays.n156 Tryz.prog Tryz.lays156_ren := {
 mixed := by kernel_rfl
 f156 := Tryz.func25.trans (congrArg some (by kernel_rfl))
 f165 := Tryz.func47.trans (congrArg some (by kernel_rfl))
 f166 := Tryz.func48.trans (congrArg some (by kernel_rfl))
 f169 := Tryz.func49.trans (congrArg some (by kernel_rfl))
 f240 := Tryz.func71.trans (congrArg some (by kernel_rfl))
 f241 := Tryz.func72.trans (congrArg some (by kernel_rfl))
 f276 := Tryz.func99.trans (congrArg some (by kernel_rfl))
 f277 := Tryz.func100.trans (congrArg some (by kernel_rfl))
 t0 := Tryz.underlying0
 a0 := Tryz.isAgg0
 z0 := Tryz.sizeOf0
 v0 := Tryz.zeroValue0
 t3 := Tryz.underlying3
 a3 := Tryz.isAgg3
 z3 := Tryz.sizeOf3
 v3 := Tryz.zeroValue3
 t4 := Tryz.underlying4
 a4 := Tryz.isAgg4
 z4 := Tryz.sizeOf4
 v4 := Tryz.zeroValue4
 t9 := Tryz.underlying9
 a9 := Tryz.isAgg9
 z9 := Tryz.sizeOf9
 v9 := Tryz.zeroValue9
 t20 := Tryz.underlying20
 a20 := Tryz.isAgg20
 z20 := Tryz.sizeOf20
 v20 := Tryz.zeroValue20
 t31 := Tryz.underlying26
 a31 := Tryz.isAgg26
 z31 := Tryz.sizeOf26
 v31 := Tryz.zeroValue26
 t37 := Tryz.underlying82
 a37 := Tryz.isAgg82
 z37 := Tryz.sizeOf82
 v37 := Tryz.zeroValue82
 t70 := Tryz.underlying81
 a70 := Tryz.isAgg81
 z70 := Tryz.sizeOf81
 v70 := Tryz.zeroValue81
 t72 := Tryz.underlying84
 a72 := Tryz.isAgg84
 z72 := Tryz.sizeOf84
 v72 := Tryz.zeroValue84
 t75 := Tryz.underlying87
 a75 := Tryz.isAgg87
 z75 := Tryz.sizeOf87
 v75 := Tryz.zeroValue87
 t76 := Tryz.underlying88
 a76 := Tryz.isAgg88
 z76 := Tryz.sizeOf88
 v76 := Tryz.zeroValue88
 t127 := Tryz.underlying104
 a127 := Tryz.isAgg104
 z127 := Tryz.sizeOf104
 v127 := Tryz.zeroValue104
 t164 := Tryz.underlying126
 a164 := Tryz.isAgg126
 z164 := Tryz.sizeOf126
 v164 := Tryz.zeroValue126 }
theorem Tryz.Builder_Extra_156 : Builder.Extra Tryz.prog Tryz.lays156_ren := {
 sizeBuilder := by kernel_rfl
 liesBuilder := by kernel_rfl
 t5 := Tryz.underlying5
 a5 := Tryz.isAgg5
 z5 := Tryz.sizeOf5
 v5 := Tryz.zeroValue5
 infoByte := by kernel_rfl
 cellsByte := by kernel_rfl
 sizeByte := by kernel_rfl
 neB5 := by decide }
open Go.RowKit in
theorem Tryz.strings_Join_none (a : Option Addr) (c : Nat) (sep : ByteArray) (w : World) :
 Calls Tryz.prog 25 #[.slice a 0 c, .string sep] w fun e w' => e = .returned (.string ⟨#[]⟩) /\ w' = w := Any.strings_Join_none Tryz.lays156 Tryz.Builder_Extra_156 a c sep w
open Go.RowKit in
theorem Tryz.strings_Join (bk o c : Nat) (xs : List ByteArray) (sep : ByteArray) (w : World) (hcells : ∀ (j : Nat) x, xs[j]? = some x -> w.cell? ⟨bk, o + j, none⟩ = some (.string x)) (hbk : bk < w.heap.size) (hN : xs.length <= 140737488355328) (hcap : xs.length <= c) (hlen : (Lib.join (xs.map (·.data.toList)) sep.data.toList).length <= 140737488355328) :
 Calls Tryz.prog 25 #[.slice (some ⟨bk, o, none⟩) xs.length c, .string sep] w fun e w' => e = .returned (.string ⟨(Lib.join (xs.map (·.data.toList)) sep.data.toList).toArray⟩) /\ Below w.heap.size w w' := Any.strings_Join Tryz.lays156 Tryz.Builder_Extra_156 bk o c xs sep w hcells hbk hN hcap hlen
def Tryz.lays160_ren : Go.Shelf.Ren := ⟨fun | 160 => 63 | 232 => 81 | 231 => 80 | 227 => 82 | 234 => 84 | 233 => 83 | 236 => 86 | 235 => 85 | 228 => 107 | 271 => 109 | 151 => 108 | 197 => 90 | 120 => 131 | 152 => 130 | 260 => 115 | 137 => 140 | 119 => 141 | 224 => 105 | 225 => 104 | 217 => 103 | 266 => 128 | n => n, fun | 9 => 9 | 4 => 4 | 3 => 3 | 5 => 5 | 117 => 110 | 116 => 109 | 0 => 0 | 124 => 113 | 21 => 21 | 105 => 115 | 46 => 132 | 119 => 158 | 139 => 161 | 138 => 160 | n => n, fun | 3 => 4 | 4 => 5 | n => n⟩
theorem Tryz.lays160 : Go.Proofs.Lays.n160 Tryz.prog Tryz.lays160_ren := {
 mixed := by kernel_rfl
 f119 := Tryz.func141.trans (congrArg some (by kernel_rfl))
 f120 := Tryz.func131.trans (congrArg some (by kernel_rfl))
 f137 := Tryz.func140.trans (congrArg some (by kernel_rfl))
 f151 := Tryz.func108.trans (congrArg some (by kernel_rfl))
 f152 := Tryz.func130.trans (congrArg some (by kernel_rfl))
 f160 := Tryz.func63.trans (congrArg some (by kernel_rfl))
 f197 := Tryz.func90.trans (congrArg some (by kernel_rfl))
 f217 := Tryz.func103.trans (congrArg some (by kernel_rfl))
 f224 := Tryz.func105.trans (congrArg some (by kernel_rfl))
 f225 := Tryz.func104.trans (congrArg some (by kernel_rfl))
 f227 := Tryz.func82.trans (congrArg some (by kernel_rfl))
 f228 := Tryz.func107.trans (congrArg some (by kernel_rfl))
 f231 := Tryz.func80.trans (congrArg some (by kernel_rfl))
 f232 := Tryz.func81.trans (congrArg some (by kernel_rfl))
 f233 := Tryz.func83.trans (congrArg some (by kernel_rfl))
 f234 := Tryz.func84.trans (congrArg some (by kernel_rfl))
 f235 := Tryz.func85.trans (congrArg some (by kernel_rfl))
 f236 := Tryz.func86.trans (congrArg some (by kernel_rfl))
 f260 := Tryz.func115.trans (congrArg some (by kernel_rfl))
 f266 := Tryz.func128.trans (congrArg some (by kernel_rfl))
 f271 := Tryz.func109.trans (congrArg some (by kernel_rfl))
 t0 := Tryz.underlying0
 a0 := Tryz.isAgg0
 z0 := Tryz.sizeOf0
 v0 := Tryz.zeroValue0
 t3 := Tryz.underlying3
 a3 := Tryz.isAgg3
 z3 := Tryz.sizeOf3
 v3 := Tryz.zeroValue3
 t4 := Tryz.underlying4
 a4 := Tryz.isAgg4
 z4 := Tryz.sizeOf4
 v4 := Tryz.zeroValue4
 t5 := Tryz.underlying5
 a5 := Tryz.isAgg5
 z5 := Tryz.sizeOf5
 v5 := Tryz.zeroValue5
 t9 := Tryz.underlying9
 a9 := Tryz.isAgg9
 z9 := Tryz.sizeOf9
 v9 := Tryz.zeroValue9
 t21 := Tryz.underlying21
 a21 := Tryz.isAgg21
 z21 := Tryz.sizeOf21
 v21 := Tryz.zeroValue21
 t46 := Tryz.underlying132
 a46 := Tryz.isAgg132
 z46 := Tryz.sizeOf132
 v46 := Tryz.zeroValue132
 t105 := Tryz.underlying115
 a105 := Tryz.isAgg115
 z105 := Tryz.sizeOf115
 v105 := Tryz.zeroValue115
 t116 := Tryz.underlying109
 a116 := Tryz.isAgg109
 z116 := Tryz.sizeOf109
 t117 := Tryz.underlying110
 a117 := Tryz.isAgg110
 z117 := Tryz.sizeOf110
 v117 := Tryz.zeroValue110
 t119 := Tryz.underlying158
 a119 := Tryz.isAgg158
 z119 := Tryz.sizeOf158
 t124 := Tryz.underlying113
 a124 := Tryz.isAgg113
 z124 := Tryz.sizeOf113
 v124 := Tryz.zeroValue113
 t138 := Tryz.underlying160
 a138 := Tryz.isAgg160
 z138 := Tryz.sizeOf160
 v138 := Tryz.zeroValue160
 t139 := Tryz.underlying161
 a139 := Tryz.isAgg161
 z139 := Tryz.sizeOf161
 v139 := Tryz.zeroValue161
 g3 := by kernel_rfl
 g4 := by kernel_rfl }
def Tryz.lays106_ren : Go.Shelf.Ren := ⟨fun | 106 => 121 | 213 => 137 | 265 => 153 | n => n, fun | 9 => 9 | 3 => 3 | n => n, fun | n => n⟩
theorem Tryz.lays106 : Go.Proofs.Lays.n106 Tryz.prog Tryz.lays106_ren := {
 mixed := by kernel_rfl
 f106 := Tryz.func121.trans (congrArg some (by kernel_rfl))
 f213 := Tryz.func137.trans (congrArg some (by kernel_rfl))
 f265 := Tryz.func153.trans (congrArg some (by kernel_rfl))
 t3 := Tryz.underlying3
 a3 := Tryz.isAgg3
 z3 := Tryz.sizeOf3
 v3 := Tryz.zeroValue3
 t9 := Tryz.underlying9
 a9 := Tryz.isAgg9
 z9 := Tryz.sizeOf9
 v9 := Tryz.zeroValue9 }
open Go.RowKit in
theorem Tryz.strings_Compare (a b : ByteArray) (w : World) :
 Calls Tryz.prog 121 #[.string a, .string b] w fun e w' => e = .returned (.int .i64 (Lib.compareBytes a.data.toList b.data.toList)) /\ w' = w := Any.strings_Compare Tryz.lays106 a b w
def Tryz.lays103_ren : Go.Shelf.Ren := ⟨fun | 103 => 36 | 210 => 58 | 206 => 76 | n => n, fun | 9 => 9 | 4 => 4 | 24 => 66 | 3 => 3 | n => n, fun | n => n⟩
theorem Tryz.lays103 : Go.Proofs.Lays.n103 Tryz.prog Tryz.lays103_ren := {
 mixed := by kernel_rfl
 f103 := Tryz.func36.trans (congrArg some (by kernel_rfl))
 f206 := Tryz.func76.trans (congrArg some (by kernel_rfl))
 f210 := Tryz.func58.trans (congrArg some (by kernel_rfl))
 t3 := Tryz.underlying3
 a3 := Tryz.isAgg3
 z3 := Tryz.sizeOf3
 v3 := Tryz.zeroValue3
 t4 := Tryz.underlying4
 a4 := Tryz.isAgg4
 z4 := Tryz.sizeOf4
 v4 := Tryz.zeroValue4
 t9 := Tryz.underlying9
 a9 := Tryz.isAgg9
 z9 := Tryz.sizeOf9
 v9 := Tryz.zeroValue9
 t24 := Tryz.underlying66
 a24 := Tryz.isAgg66
 z24 := Tryz.sizeOf66
 v24 := Tryz.zeroValue66 }
open Go.RowKit in
theorem Tryz.strings_CutPrefix (s p : ByteArray) (w : World) :
 Calls Tryz.prog 36 #[.string s, .string p] w fun e w' => e = .returned (.tuple #[.string ⟨(Lib.trimPrefix s.data.toList p.data.toList).toArray⟩, .bool (Lib.hasPrefix s.data.toList p.data.toList)]) /\ w' = w := Any.strings_CutPrefix Tryz.lays103 s p w
def Tryz.laysM171_ren : Go.Shelf.Ren := ⟨fun | 171 => 24 | 243 => 46 | 246 => 70 | 283 => 95 | 284 => 96 | 285 => 97 | 286 => 98 | 129 => 124 | 317 => 123 | 318 => 125 | 319 => 126 | 320 => 127 | 337 => 138 | 338 => 139 | n => n, fun | 3 => 3 | 9 => 9 | 2 => 2 | 4 => 4 | 171 => 120 | 0 => 0 | 53 => 121 | 37 => 82 | 5 => 5 | 173 => 124 | 212 => 144 | 51 => 145 | 20 => 20 | 213 => 146 | 46 => 132 | 232 => 177 | 233 => 178 | n => n, fun | 17 => 1 | 18 => 6 | 19 => 7 | n => n⟩
theorem Tryz.laysM171 : Go.Proofs.LaysM.n171 Tryz.prog Tryz.laysM171_ren := {
 mixed := by kernel_rfl
 f129 := Tryz.func124.trans (congrArg some (by kernel_rfl))
 f171 := Tryz.func24.trans (congrArg some (by kernel_rfl))
 f243 := Tryz.func46.trans (congrArg some (by kernel_rfl))
 f246 := Tryz.func70.trans (congrArg some (by kernel_rfl))
 f283 := Tryz.func95.trans (congrArg some (by kernel_rfl))
 f284 := Tryz.func96.trans (congrArg some (by kernel_rfl))
 f285 := Tryz.func97.trans (congrArg some (by kernel_rfl))
 f286 := Tryz.func98.trans (congrArg some (by kernel_rfl))
 f317 := Tryz.func123.trans (congrArg some (by kernel_rfl))
 f318 := Tryz.func125.trans (congrArg some (by kernel_rfl))
 f319 := Tryz.func126.trans (congrArg some (by kernel_rfl))
 f320 := Tryz.func127.trans (congrArg some (by kernel_rfl))
 f337 := Tryz.func138.trans (congrArg some (by kernel_rfl))
 f338 := Tryz.func139.trans (congrArg some (by kernel_rfl))
 t0 := Tryz.underlying0
 a0 := Tryz.isAgg0
 z0 := Tryz.sizeOf0
 v0 := Tryz.zeroValue0
 t2 := Tryz.underlying2
 a2 := Tryz.isAgg2
 z2 := Tryz.sizeOf2
 v2 := Tryz.zeroValue2
 t3 := Tryz.underlying3
 a3 := Tryz.isAgg3
 z3 := Tryz.sizeOf3
 v3 := Tryz.zeroValue3
 t4 := Tryz.underlying4
 a4 := Tryz.isAgg4
 z4 := Tryz.sizeOf4
 v4 := Tryz.zeroValue4
 t5 := Tryz.underlying5
 a5 := Tryz.isAgg5
 z5 := Tryz.sizeOf5
 v5 := Tryz.zeroValue5
 t9 := Tryz.underlying9
 a9 := Tryz.isAgg9
 z9 := Tryz.sizeOf9
 v9 := Tryz.zeroValue9
 t20 := Tryz.underlying20
 a20 := Tryz.isAgg20
 z20 := Tryz.sizeOf20
 v20 := Tryz.zeroValue20
 t37 := Tryz.underlying82
 a37 := Tryz.isAgg82
 z37 := Tryz.sizeOf82
 v37 := Tryz.zeroValue82
 t46 := Tryz.underlying132
 a46 := Tryz.isAgg132
 z46 := Tryz.sizeOf132
 v46 := Tryz.zeroValue132
 t51 := Tryz.underlying145
 a51 := Tryz.isAgg145
 z51 := Tryz.sizeOf145
 v51 := Tryz.zeroValue145
 t53 := Tryz.underlying121
 a53 := Tryz.isAgg121
 z53 := Tryz.sizeOf121
 v53 := Tryz.zeroValue121
 t171 := Tryz.underlying120
 a171 := Tryz.isAgg120
 z171 := Tryz.sizeOf120
 v171 := Tryz.zeroValue120
 t173 := Tryz.underlying124
 a173 := Tryz.isAgg124
 z173 := Tryz.sizeOf124
 v173 := Tryz.zeroValue124
 t212 := Tryz.underlying144
 a212 := Tryz.isAgg144
 z212 := Tryz.sizeOf144
 v212 := Tryz.zeroValue144
 t213 := Tryz.underlying146
 a213 := Tryz.isAgg146
 z213 := Tryz.sizeOf146
 t232 := Tryz.underlying177
 a232 := Tryz.isAgg177
 z232 := Tryz.sizeOf177
 v232 := Tryz.zeroValue177
 t233 := Tryz.underlying178
 a233 := Tryz.isAgg178
 z233 := Tryz.sizeOf178
 v233 := Tryz.zeroValue178
 g17 := by kernel_rfl
 g18 := by kernel_rfl
 g19 := by kernel_rfl
 i0 := by kernel_rfl
 i2 := by kernel_rfl
 i3 := by kernel_rfl
 i4 := by kernel_rfl
 i5 := by kernel_rfl
 i9 := by kernel_rfl
 i20 := by kernel_rfl
 i37 := by kernel_rfl
 i46 := by kernel_rfl
 i51 := by kernel_rfl
 i53 := by kernel_rfl
 i171 := by kernel_rfl
 i173 := by kernel_rfl
 i212 := by kernel_rfl
 i232 := by kernel_rfl
 i233 := by kernel_rfl
 m17 := by kernel_rfl
 m18 := by kernel_rfl
 m19 := by kernel_rfl }
open Go.RowKit Go.Sort Go.Lib in
theorem Tryz.strconv_Itoa (n : Int) (h0 : -9223372036854775808 <= n) (h1 : n <= 9223372036854775807) (w : World) (htab : Lib.TabIs Tryz.prog w "internal/strconv.uint64pow10" .u64 Lib.pow10Tab) :
 Calls Tryz.prog 24 #[.int .i64 n] w fun e w' => e = .returned (.string ⟨(Lib.itoa n).toArray⟩) /\ ∃ k os, w' = grow (w.drewN k) os := Any.strconv_Itoa Tryz.laysM171 n h0 h1 w htab
def Tryz.laysC172_ren : Go.Shelf.Ren := ⟨fun | 172 => 64 | 244 => 87 | 245 => 88 | 247 => 110 | 279 => 111 | 280 => 112 | 281 => 113 | 282 => 114 | 287 => 132 | 316 => 133 | 171 => 24 | 205 => 134 | 321 => 142 | 322 => 143 | 243 => 46 | 246 => 70 | 283 => 95 | 284 => 96 | 285 => 97 | 286 => 98 | 129 => 124 | 317 => 123 | 318 => 125 | 319 => 126 | 320 => 127 | 337 => 138 | 338 => 139 | n => n, fun | 9 => 9 | 3 => 3 | 75 => 87 | 76 => 88 | 4 => 4 | 5 => 5 | 167 => 134 | 37 => 82 | 0 => 0 | 85 => 135 | 2 => 2 | 168 => 137 | 53 => 121 | 175 => 152 | 46 => 132 | 210 => 156 | 127 => 104 | 145 => 168 | 143 => 166 | 21 => 21 | 171 => 120 | 173 => 124 | 212 => 144 | 51 => 145 | 20 => 20 | 213 => 146 | 232 => 177 | 233 => 178 | 80 => 90 | n => n, fun | 15 => 2 | 16 => 3 | 17 => 1 | 18 => 6 | 19 => 7 | n => n⟩
theorem Tryz.laysC172 : Go.Proofs.LaysC.n172 Tryz.prog Tryz.laysC172_ren := {
 mixed := by kernel_rfl
 f129 := Tryz.func124.trans (congrArg some (by kernel_rfl))
 f171 := Tryz.func24.trans (congrArg some (by kernel_rfl))
 f172 := Tryz.func64.trans (congrArg some (by kernel_rfl))
 f205 := Tryz.func134.trans (congrArg some (by kernel_rfl))
 f243 := Tryz.func46.trans (congrArg some (by kernel_rfl))
 f244 := Tryz.func87.trans (congrArg some (by kernel_rfl))
 f245 := Tryz.func88.trans (congrArg some (by kernel_rfl))
 f246 := Tryz.func70.trans (congrArg some (by kernel_rfl))
 f247 := Tryz.func110.trans (congrArg some (by kernel_rfl))
 f279 := Tryz.func111.trans (congrArg some (by kernel_rfl))
 f280 := Tryz.func112.trans (congrArg some (by kernel_rfl))
 f281 := Tryz.func113.trans (congrArg some (by kernel_rfl))
 f282 := Tryz.func114.trans (congrArg some (by kernel_rfl))
 f283 := Tryz.func95.trans (congrArg some (by kernel_rfl))
 f284 := Tryz.func96.trans (congrArg some (by kernel_rfl))
 f285 := Tryz.func97.trans (congrArg some (by kernel_rfl))
 f286 := Tryz.func98.trans (congrArg some (by kernel_rfl))
 f287 := Tryz.func132.trans (congrArg some (by kernel_rfl))
 f316 := Tryz.func133.trans (congrArg some (by kernel_rfl))
 f317 := Tryz.func123.trans (congrArg some (by kernel_rfl))
 f318 := Tryz.func125.trans (congrArg some (by kernel_rfl))
 f319 := Tryz.func126.trans (congrArg some (by kernel_rfl))
 f320 := Tryz.func127.trans (congrArg some (by kernel_rfl))
 f321 := Tryz.func142.trans (congrArg some (by kernel_rfl))
 f322 := Tryz.func143.trans (congrArg some (by kernel_rfl))
 f337 := Tryz.func138.trans (congrArg some (by kernel_rfl))
 f338 := Tryz.func139.trans (congrArg some (by kernel_rfl))
 t0 := Tryz.underlying0
 a0 := Tryz.isAgg0
 z0 := Tryz.sizeOf0
 v0 := Tryz.zeroValue0
 t2 := Tryz.underlying2
 a2 := Tryz.isAgg2
 z2 := Tryz.sizeOf2
 v2 := Tryz.zeroValue2
 t3 := Tryz.underlying3
 a3 := Tryz.isAgg3
 z3 := Tryz.sizeOf3
 v3 := Tryz.zeroValue3
 t4 := Tryz.underlying4
 a4 := Tryz.isAgg4
 z4 := Tryz.sizeOf4
 v4 := Tryz.zeroValue4
 t5 := Tryz.underlying5
 a5 := Tryz.isAgg5
 z5 := Tryz.sizeOf5
 v5 := Tryz.zeroValue5
 t9 := Tryz.underlying9
 a9 := Tryz.isAgg9
 z9 := Tryz.sizeOf9
 v9 := Tryz.zeroValue9
 t20 := Tryz.underlying20
 a20 := Tryz.isAgg20
 z20 := Tryz.sizeOf20
 v20 := Tryz.zeroValue20
 t21 := Tryz.underlying21
 a21 := Tryz.isAgg21
 z21 := Tryz.sizeOf21
 v21 := Tryz.zeroValue21
 t37 := Tryz.underlying82
 a37 := Tryz.isAgg82
 z37 := Tryz.sizeOf82
 v37 := Tryz.zeroValue82
 t46 := Tryz.underlying132
 a46 := Tryz.isAgg132
 z46 := Tryz.sizeOf132
 v46 := Tryz.zeroValue132
 t51 := Tryz.underlying145
 a51 := Tryz.isAgg145
 z51 := Tryz.sizeOf145
 v51 := Tryz.zeroValue145
 t53 := Tryz.underlying121
 a53 := Tryz.isAgg121
 z53 := Tryz.sizeOf121
 v53 := Tryz.zeroValue121
 t75 := Tryz.underlying87
 a75 := Tryz.isAgg87
 z75 := Tryz.sizeOf87
 v75 := Tryz.zeroValue87
 t76 := Tryz.underlying88
 a76 := Tryz.isAgg88
 z76 := Tryz.sizeOf88
 v76 := Tryz.zeroValue88
 t85 := Tryz.underlying135
 a85 := Tryz.isAgg135
 z85 := Tryz.sizeOf135
 v85 := Tryz.zeroValue135
 t127 := Tryz.underlying104
 a127 := Tryz.isAgg104
 z127 := Tryz.sizeOf104
 v127 := Tryz.zeroValue104
 t143 := Tryz.underlying166
 a143 := Tryz.isAgg166
 z143 := Tryz.sizeOf166
 v143 := Tryz.zeroValue166
 t145 := Tryz.underlying168
 a145 := Tryz.isAgg168
 z145 := Tryz.sizeOf168
 v145 := Tryz.zeroValue168
 t167 := Tryz.underlying134
 a167 := Tryz.isAgg134
 z167 := Tryz.sizeOf134
 v167 := Tryz.zeroValue134
 t168 := Tryz.underlying137
 a168 := Tryz.isAgg137
 z168 := Tryz.sizeOf137
 v168 := Tryz.zeroValue137
 t171 := Tryz.underlying120
 a171 := Tryz.isAgg120
 z171 := Tryz.sizeOf120
 v171 := Tryz.zeroValue120
 t173 := Tryz.underlying124
 a173 := Tryz.isAgg124
 z173 := Tryz.sizeOf124
 v173 := Tryz.zeroValue124
 t175 := Tryz.underlying152
 a175 := Tryz.isAgg152
 z175 := Tryz.sizeOf152
 v175 := Tryz.zeroValue152
 t210 := Tryz.underlying156
 a210 := Tryz.isAgg156
 z210 := Tryz.sizeOf156
 v210 := Tryz.zeroValue156
 t212 := Tryz.underlying144
 a212 := Tryz.isAgg144
 z212 := Tryz.sizeOf144
 v212 := Tryz.zeroValue144
 t213 := Tryz.underlying146
 a213 := Tryz.isAgg146
 z213 := Tryz.sizeOf146
 t232 := Tryz.underlying177
 a232 := Tryz.isAgg177
 z232 := Tryz.sizeOf177
 v232 := Tryz.zeroValue177
 t233 := Tryz.underlying178
 a233 := Tryz.isAgg178
 z233 := Tryz.sizeOf178
 v233 := Tryz.zeroValue178
 g15 := by kernel_rfl
 g16 := by kernel_rfl
 g17 := by kernel_rfl
 g18 := by kernel_rfl
 g19 := by kernel_rfl
 t80 := Tryz.underlying90
 a80 := Tryz.isAgg90
 z80 := Tryz.sizeOf90
 v80 := Tryz.zeroValue90
 i0 := by kernel_rfl
 i2 := by kernel_rfl
 i3 := by kernel_rfl
 i4 := by kernel_rfl
 i5 := by kernel_rfl
 i9 := by kernel_rfl
 i20 := by kernel_rfl
 i21 := by kernel_rfl
 i37 := by kernel_rfl
 i46 := by kernel_rfl
 i51 := by kernel_rfl
 i53 := by kernel_rfl
 i75 := by kernel_rfl
 i76 := by kernel_rfl
 i80 := by kernel_rfl
 i85 := by kernel_rfl
 i127 := by kernel_rfl
 i143 := by kernel_rfl
 i145 := by kernel_rfl
 i167 := by kernel_rfl
 i168 := by kernel_rfl
 i171 := by kernel_rfl
 i173 := by kernel_rfl
 i175 := by kernel_rfl
 i210 := by kernel_rfl
 i212 := by kernel_rfl
 i232 := by kernel_rfl
 i233 := by kernel_rfl
 m15 := by kernel_rfl
 m16 := by kernel_rfl
 m17 := by kernel_rfl
 m18 := by kernel_rfl
 m19 := by kernel_rfl
 c0 := by kernel_rfl
 c2 := by kernel_rfl
 c3 := by kernel_rfl
 c4 := by kernel_rfl
 c5 := by kernel_rfl
 c9 := by kernel_rfl
 c20 := by kernel_rfl
 c21 := by kernel_rfl
 c37 := by kernel_rfl
 c46 := by kernel_rfl
 c51 := by kernel_rfl
 c53 := by kernel_rfl
 c75 := by kernel_rfl
 c76 := by kernel_rfl
 c80 := by kernel_rfl
 c85 := by kernel_rfl
 c127 := by kernel_rfl
 c143 := by kernel_rfl
 c145 := by kernel_rfl
 c167 := by kernel_rfl
 c168 := by kernel_rfl
 c171 := by kernel_rfl
 c173 := by kernel_rfl
 c175 := by kernel_rfl
 c210 := by kernel_rfl
 c212 := by kernel_rfl
 c213 := by kernel_rfl
 c232 := by kernel_rfl
 c233 := by kernel_rfl }
open Go.RowKit in
theorem Tryz.strconv_Atoi_ok (s : ByteArray) (hmax : s.size <= 9223372036854775806) (v : Int) (h : Lib.atoiAll s.data.toList = .ok v) (w : World) :
 Calls Tryz.prog 64 #[.string s] w fun e w' => e = .returned (.tuple #[.int .i64 v, .nilIface]) /\ (w' = w \/ ∃ t, w' = Lib.bytesWorld w 5 t) := Any.strconv_Atoi_ok Tryz.laysC172 s hmax v h w
open Go.RowKit in
theorem Tryz.strconv_Atoi_syntax (s : ByteArray) (hlim : s.size <= 281474976710656) (h : Lib.atoiAll s.data.toList = Lib.atoiAll []) (ev : Value) (w : World) (hv : w.cell? ⟨2, 0, none⟩ = some ev) (hev : ev = .nilIface \/ ∃ te pe, ev = .iface te pe) :
 Calls Tryz.prog 64 #[.string s] w fun e w' => ∃ N, e = .returned (.tuple #[.int .i64 (0), .iface 137 (.pointer (some ⟨N, 0, none⟩))]) /\ w.heap.size <= N /\ w'.heap[N]? = some (.cells #[.string ⟨#[65, 116, 111, 105]⟩, .string s, ev] 156 (0, 0)) /\ Below w.heap.size w w' := Any.strconv_Atoi_syntax Tryz.laysC172 s hlim h ev w hv hev
open Go.RowKit in
theorem Tryz.strconv_Atoi_range (s : ByteArray) (hlim : s.size <= 281474976710656) (h : Lib.atoiAll s.data.toList = .range) (ev : Value) (w : World) (hv : w.cell? ⟨3, 0, none⟩ = some ev) (hev : ev = .nilIface \/ ∃ te pe, ev = .iface te pe) :
 Calls Tryz.prog 64 #[.string s] w fun e w' => ∃ N, e = .returned (.tuple #[.int .i64 (Lib.atoiSat s.data.toList), .iface 137 (.pointer (some ⟨N, 0, none⟩))]) /\ w.heap.size <= N /\ w'.heap[N]? = some (.cells #[.string ⟨#[65, 116, 111, 105]⟩, .string s, ev] 156 (0, 0)) /\ Below w.heap.size w w' := Any.strconv_Atoi_range Tryz.laysC172 s hlim h ev w hv hev
def Tryz.lays145_ren : Go.Shelf.Ren := ⟨fun | 145 => 39 | 220 => 61 | 219 => 78 | 217 => 103 | 225 => 104 | 224 => 105 | 267 => 106 | 266 => 128 | 314 => 129 | n => n, fun | 9 => 9 | 4 => 4 | 59 => 69 | 3 => 3 | 5 => 5 | 46 => 132 | 146 => 149 | 51 => 145 | n => n, fun | 1 => 0 | n => n⟩
theorem Tryz.lays145 : Go.Proofs.Lays.n145 Tryz.prog Tryz.lays145_ren := {
 mixed := by kernel_rfl
 f145 := Tryz.func39.trans (congrArg some (by kernel_rfl))
 f217 := Tryz.func103.trans (congrArg some (by kernel_rfl))
 f219 := Tryz.func78.trans (congrArg some (by kernel_rfl))
 f220 := Tryz.func61.trans (congrArg some (by kernel_rfl))
 f224 := Tryz.func105.trans (congrArg some (by kernel_rfl))
 f225 := Tryz.func104.trans (congrArg some (by kernel_rfl))
 f266 := Tryz.func128.trans (congrArg some (by kernel_rfl))
 f267 := Tryz.func106.trans (congrArg some (by kernel_rfl))
 f314 := Tryz.func129.trans (congrArg some (by kernel_rfl))
 t3 := Tryz.underlying3
 a3 := Tryz.isAgg3
 z3 := Tryz.sizeOf3
 v3 := Tryz.zeroValue3
 t4 := Tryz.underlying4
 a4 := Tryz.isAgg4
 z4 := Tryz.sizeOf4
 v4 := Tryz.zeroValue4
 t5 := Tryz.underlying5
 a5 := Tryz.isAgg5
 z5 := Tryz.sizeOf5
 v5 := Tryz.zeroValue5
 t9 := Tryz.underlying9
 a9 := Tryz.isAgg9
 z9 := Tryz.sizeOf9
 v9 := Tryz.zeroValue9
 t46 := Tryz.underlying132
 a46 := Tryz.isAgg132
 z46 := Tryz.sizeOf132
 v46 := Tryz.zeroValue132
 t51 := Tryz.underlying145
 a51 := Tryz.isAgg145
 z51 := Tryz.sizeOf145
 v51 := Tryz.zeroValue145
 t59 := Tryz.underlying69
 a59 := Tryz.isAgg69
 z59 := Tryz.sizeOf69
 v59 := Tryz.zeroValue69
 t146 := Tryz.underlying149
 a146 := Tryz.isAgg149
 z146 := Tryz.sizeOf149
 v146 := Tryz.zeroValue149
 g1 := by kernel_rfl }
open Go.RowKit Go.Lib in
theorem Tryz.strings_Cut (s sep : ByteArray) (m : Int) (w : World) (hs : s.size < 4294967281) (hm : w.cell? ⟨0, 0, none⟩ = some (.int .i64 m)) :
 Calls Tryz.prog 39 #[.string s, .string sep] w fun e w' => e = .returned (.tuple #[.string ⟨(Lib.cut s.data.toList sep.data.toList).1.toArray⟩, .string ⟨(Lib.cut s.data.toList sep.data.toList).2.1.toArray⟩, .bool (Lib.cut s.data.toList sep.data.toList).2.2]) /\ ∃ n, w' = w.drewN n := Any.strings_Cut Tryz.lays145 s sep m w hs hm
def Tryz.lays101_ren : Go.Shelf.Ren := ⟨fun | 101 => 62 | 208 => 79 | 206 => 76 | n => n, fun | 9 => 9 | 4 => 4 | 3 => 3 | n => n, fun | n => n⟩
theorem Tryz.lays101 : Go.Proofs.Lays.n101 Tryz.prog Tryz.lays101_ren := {
 mixed := by kernel_rfl
 f101 := Tryz.func62.trans (congrArg some (by kernel_rfl))
 f206 := Tryz.func76.trans (congrArg some (by kernel_rfl))
 f208 := Tryz.func79.trans (congrArg some (by kernel_rfl))
 t3 := Tryz.underlying3
 a3 := Tryz.isAgg3
 z3 := Tryz.sizeOf3
 v3 := Tryz.zeroValue3
 t4 := Tryz.underlying4
 a4 := Tryz.isAgg4
 z4 := Tryz.sizeOf4
 v4 := Tryz.zeroValue4
 t9 := Tryz.underlying9
 a9 := Tryz.isAgg9
 z9 := Tryz.sizeOf9
 v9 := Tryz.zeroValue9 }
open Go.RowKit Go.Lib in
theorem Tryz.strings_TrimPrefix (s p : ByteArray) (w : World) :
 Calls Tryz.prog 62 #[.string s, .string p] w fun e w' => e = .returned (.string ⟨(Lib.trimPrefix s.data.toList p.data.toList).toArray⟩) /\ w' = w := Any.strings_TrimPrefix Tryz.lays101 s p w
def Tryz.lays146_ren : Go.Shelf.Ren := ⟨fun | 146 => 20 | 221 => 41 | 268 => 65 | 138 => 66 | 143 => 67 | 195 => 89 | 197 => 90 | 218 => 91 | 219 => 78 | 260 => 115 | 217 => 103 | 225 => 104 | 224 => 105 | 267 => 106 | 266 => 128 | 314 => 129 | n => n, fun | 9 => 9 | 31 => 26 | 3 => 3 | 4 => 4 | 0 => 0 | 105 => 115 | 21 => 21 | 5 => 5 | 46 => 132 | 119 => 158 | 139 => 161 | 138 => 160 | 146 => 149 | 51 => 145 | n => n, fun | 1 => 0 | 3 => 4 | 4 => 5 | n => n⟩
theorem Tryz.lays146 : Go.Proofs.Lays.n146 Tryz.prog Tryz.lays146_ren := {
 mixed := by kernel_rfl
 f138 := Tryz.func66.trans (congrArg some (by kernel_rfl))
 f143 := Tryz.func67.trans (congrArg some (by kernel_rfl))
 f146 := Tryz.func20.trans (congrArg some (by kernel_rfl))
 f195 := Tryz.func89.trans (congrArg some (by kernel_rfl))
 f197 := Tryz.func90.trans (congrArg some (by kernel_rfl))
 f217 := Tryz.func103.trans (congrArg some (by kernel_rfl))
 f218 := Tryz.func91.trans (congrArg some (by kernel_rfl))
 f219 := Tryz.func78.trans (congrArg some (by kernel_rfl))
 f221 := Tryz.func41.trans (congrArg some (by kernel_rfl))
 f224 := Tryz.func105.trans (congrArg some (by kernel_rfl))
 f225 := Tryz.func104.trans (congrArg some (by kernel_rfl))
 f260 := Tryz.func115.trans (congrArg some (by kernel_rfl))
 f266 := Tryz.func128.trans (congrArg some (by kernel_rfl))
 f267 := Tryz.func106.trans (congrArg some (by kernel_rfl))
 f268 := Tryz.func65.trans (congrArg some (by kernel_rfl))
 f314 := Tryz.func129.trans (congrArg some (by kernel_rfl))
 t0 := Tryz.underlying0
 a0 := Tryz.isAgg0
 z0 := Tryz.sizeOf0
 v0 := Tryz.zeroValue0
 t3 := Tryz.underlying3
 a3 := Tryz.isAgg3
 z3 := Tryz.sizeOf3
 v3 := Tryz.zeroValue3
 t4 := Tryz.underlying4
 a4 := Tryz.isAgg4
 z4 := Tryz.sizeOf4
 v4 := Tryz.zeroValue4
 t5 := Tryz.underlying5
 a5 := Tryz.isAgg5
 z5 := Tryz.sizeOf5
 v5 := Tryz.zeroValue5
 t9 := Tryz.underlying9
 a9 := Tryz.isAgg9
 z9 := Tryz.sizeOf9
 v9 := Tryz.zeroValue9
 t21 := Tryz.underlying21
 a21 := Tryz.isAgg21
 z21 := Tryz.sizeOf21
 v21 := Tryz.zeroValue21
 t31 := Tryz.underlying26
 a31 := Tryz.isAgg26
 z31 := Tryz.sizeOf26
 v31 := Tryz.zeroValue26
 t46 := Tryz.underlying132
 a46 := Tryz.isAgg132
 z46 := Tryz.sizeOf132
 v46 := Tryz.zeroValue132
 t51 := Tryz.underlying145
 a51 := Tryz.isAgg145
 z51 := Tryz.sizeOf145
 v51 := Tryz.zeroValue145
 t105 := Tryz.underlying115
 a105 := Tryz.isAgg115
 z105 := Tryz.sizeOf115
 v105 := Tryz.zeroValue115
 t119 := Tryz.underlying158
 a119 := Tryz.isAgg158
 z119 := Tryz.sizeOf158
 t138 := Tryz.underlying160
 a138 := Tryz.isAgg160
 z138 := Tryz.sizeOf160
 v138 := Tryz.zeroValue160
 t139 := Tryz.underlying161
 a139 := Tryz.isAgg161
 z139 := Tryz.sizeOf161
 v139 := Tryz.zeroValue161
 t146 := Tryz.underlying149
 a146 := Tryz.isAgg149
 z146 := Tryz.sizeOf149
 v146 := Tryz.zeroValue149
 g1 := by kernel_rfl
 g3 := by kernel_rfl
 g4 := by kernel_rfl }
open Go.RowKit Go.Lib in
theorem Tryz.strings_Split (s sep : ByteArray) (m : Int) (w : World) (hs : s.size < 4294967281) (hm : w.cell? ⟨0, 0, none⟩ = some (.int .i64 m)) (h1 : 1 <= sep.size) :
 Calls Tryz.prog 20 #[.string s, .string sep] w fun e w' =>
  e = .returned (.slice (some ⟨w.heap.size, 0, none⟩) (Lib.countB s sep + 1) (Lib.countB s sep + 1)) /\ w' = w.alloc (.cells ((Lib.splitB sep 0 (Lib.countB s sep) s).map Value.string).toArray 9) := Any.strings_Split Tryz.lays146 (by kernel_rfl) s sep m w hs hm h1
def Tryz.lays194_ren : Go.Shelf.Ren := ⟨fun | 194 => 122 | n => n, fun | 31 => 26 | 9 => 9 | 3 => 3 | 4 => 4 | 0 => 0 | n => n, fun | n => n⟩
theorem Tryz.lays194 : Go.Proofs.Lays.n194 Tryz.prog Tryz.lays194_ren := {
 mixed := by kernel_rfl
 f194 := Tryz.func122.trans (congrArg some (by kernel_rfl))
 t0 := Tryz.underlying0
 a0 := Tryz.isAgg0
 z0 := Tryz.sizeOf0
 v0 := Tryz.zeroValue0
 t3 := Tryz.underlying3
 a3 := Tryz.isAgg3
 z3 := Tryz.sizeOf3
 v3 := Tryz.zeroValue3
 t4 := Tryz.underlying4
 a4 := Tryz.isAgg4
 z4 := Tryz.sizeOf4
 v4 := Tryz.zeroValue4
 t9 := Tryz.underlying9
 a9 := Tryz.isAgg9
 z9 := Tryz.sizeOf9
 v9 := Tryz.zeroValue9
 t31 := Tryz.underlying26
 a31 := Tryz.isAgg26
 z31 := Tryz.sizeOf26
 v31 := Tryz.zeroValue26 }
open Go.RowKit Go.Lib Go.Sort in
theorem Tryz.slices_Compact_string (blk off cap : Nat) (zs : List (List UInt8)) (w : World) (hH : Holds encStr w blk off zs.toArray) (hsz : zs.length <= 9223372036854775807) (hcap : zs.length <= cap) :
 Calls Tryz.prog 122 #[.slice (some ⟨blk, off, none⟩) zs.length cap] w fun e w' => e = .returned (.slice (some ⟨blk, off, none⟩) (Lib.compact zs).length cap) /\ ∃ q, w' = putRow encStr (Sort.ahead w q) blk off (Lib.compact zs ++ List.replicate (zs.length - (Lib.compact zs).length) []).toArray := Any.slices_Compact_string Tryz.lays194 blk off cap zs w hH hsz hcap
open Go.RowKit Go.Lib Go.Sort in
theorem Tryz.slices_Compact_string_empty (a : Option Addr) (cap : Nat) (w : World) :
 Calls Tryz.prog 122 #[.slice a 0 cap] w fun e w' => e = .returned (.slice a 0 cap) /\ w' = w := Any.slices_Compact_string_empty Tryz.lays194 a cap w
def Tryz.laysSlF6_f119_ren : Go.Shelf.Ren := ⟨fun | 6 => 119 | 15 => 136 | 14 => 135 | 28 => 152 | 29 => 124 | 20 => 144 | 21 => 145 | 22 => 146 | 23 => 147 | 24 => 148 | 25 => 149 | 26 => 150 | 27 => 151 | 46 => 154 | 47 => 155 | 48 => 156 | 49 => 157 | 50 => 158 | 57 => 159 | n => n, fun | 22 => 26 | 24 => 9 | 25 => 101 | 3 => 3 | 39 => 132 | 0 => 0 | 53 => 145 | 55 => 121 | 4 => 4 | 46 => 171 | 45 => 170 | 50 => 175 | 5 => 5 | 9 => 9 | 66 => 179 | 70 => 183 | 76 => 185 | 77 => 73 | n => n, fun | n => n⟩
theorem Tryz.laysSlF6_f119 : Go.Proofs.SlLaysF.n6 Tryz.prog Tryz.laysSlF6_f119_ren := {
 mixed := by kernel_rfl
 f6 := ⟨Tryz.f119.name, by decide, Tryz.func119.trans (congrArg some (by kernel_rfl))⟩
 f14 := ⟨Tryz.f135.name, by decide, Tryz.func135.trans (congrArg some (by kernel_rfl))⟩
 f15 := Tryz.func136.trans (congrArg some (by kernel_rfl))
 f20 := ⟨Tryz.f144.name, by decide, Tryz.func144.trans (congrArg some (by kernel_rfl))⟩
 f21 := ⟨Tryz.f145.name, by decide, Tryz.func145.trans (congrArg some (by kernel_rfl))⟩
 f22 := ⟨Tryz.f146.name, by decide, Tryz.func146.trans (congrArg some (by kernel_rfl))⟩
 f23 := ⟨Tryz.f147.name, by decide, Tryz.func147.trans (congrArg some (by kernel_rfl))⟩
 f24 := ⟨Tryz.f148.name, by decide, Tryz.func148.trans (congrArg some (by kernel_rfl))⟩
 f25 := ⟨Tryz.f149.name, by decide, Tryz.func149.trans (congrArg some (by kernel_rfl))⟩
 f26 := ⟨Tryz.f150.name, by decide, Tryz.func150.trans (congrArg some (by kernel_rfl))⟩
 f27 := ⟨Tryz.f151.name, by decide, Tryz.func151.trans (congrArg some (by kernel_rfl))⟩
 f28 := Tryz.func152.trans (congrArg some (by kernel_rfl))
 f29 := Tryz.func124.trans (congrArg some (by kernel_rfl))
 f46 := ⟨Tryz.f154.name, by decide, Tryz.func154.trans (congrArg some (by kernel_rfl))⟩
 f47 := Tryz.func155.trans (congrArg some (by kernel_rfl))
 f48 := Tryz.func156.trans (congrArg some (by kernel_rfl))
 f49 := ⟨Tryz.f157.name, by decide, Tryz.func157.trans (congrArg some (by kernel_rfl))⟩
 f50 := ⟨Tryz.f158.name, by decide, Tryz.func158.trans (congrArg some (by kernel_rfl))⟩
 f57 := ⟨Tryz.f159.name, by decide, Tryz.func159.trans (congrArg some (by kernel_rfl))⟩
 t0 := Tryz.underlying0
 a0 := Tryz.isAgg0
 z0 := Tryz.sizeOf0
 v0 := Tryz.zeroValue0
 t3 := Tryz.underlying3
 a3 := Tryz.isAgg3
 z3 := Tryz.sizeOf3
 v3 := Tryz.zeroValue3
 t4 := Tryz.underlying4
 a4 := Tryz.isAgg4
 z4 := Tryz.sizeOf4
 v4 := Tryz.zeroValue4
 t5 := Tryz.underlying5
 a5 := Tryz.isAgg5
 z5 := Tryz.sizeOf5
 v5 := Tryz.zeroValue5
 t9 := Tryz.underlying9
 a9 := Tryz.isAgg9
 z9 := Tryz.sizeOf9
 v9 := Tryz.zeroValue9
 t22 := Tryz.underlying26
 a22 := Tryz.isAgg26
 z22 := Tryz.sizeOf26
 v22 := Tryz.zeroValue26
 a24 := Tryz.isAgg9
 z24 := Tryz.sizeOf9
 t25 := Tryz.underlying101
 a25 := Tryz.isAgg101
 z25 := Tryz.sizeOf101
 v25 := Tryz.zeroValue101
 t39 := Tryz.underlying132
 a39 := Tryz.isAgg132
 z39 := Tryz.sizeOf132
 v39 := Tryz.zeroValue132
 t45 := Tryz.underlying170
 a45 := Tryz.isAgg170
 z45 := Tryz.sizeOf170
 v45 := Tryz.zeroValue170
 t46 := Tryz.underlying171
 a46 := Tryz.isAgg171
 z46 := Tryz.sizeOf171
 v46 := Tryz.zeroValue171
 t50 := Tryz.underlying175
 a50 := Tryz.isAgg175
 z50 := Tryz.sizeOf175
 v50 := Tryz.zeroValue175
 t53 := Tryz.underlying145
 a53 := Tryz.isAgg145
 z53 := Tryz.sizeOf145
 v53 := Tryz.zeroValue145
 t55 := Tryz.underlying121
 a55 := Tryz.isAgg121
 z55 := Tryz.sizeOf121
 v55 := Tryz.zeroValue121
 t66 := Tryz.underlying179
 a66 := Tryz.isAgg179
 z66 := Tryz.sizeOf179
 v66 := Tryz.zeroValue179
 t70 := Tryz.underlying183
 a70 := Tryz.isAgg183
 z70 := Tryz.sizeOf183
 v70 := Tryz.zeroValue183
 t76 := Tryz.underlying185
 a76 := Tryz.isAgg185
 z76 := Tryz.sizeOf185
 v76 := Tryz.zeroValue185
 t77 := Tryz.underlying73
 a77 := Tryz.isAgg73
 z77 := Tryz.sizeOf73
 v77 := Tryz.zeroValue73 }
def Tryz.laysSlF06_f119_ren : Go.Shelf.Ren := ⟨fun | 6 => 119 | 15 => 136 | 14 => 135 | 28 => 152 | 29 => 124 | 20 => 144 | 21 => 145 | 22 => 146 | 23 => 147 | 24 => 148 | 25 => 149 | 26 => 150 | 27 => 151 | 46 => 154 | 47 => 155 | 48 => 156 | 49 => 157 | 50 => 158 | 57 => 159 | n => n, fun | 22 => 26 | 24 => 9 | 25 => 101 | 3 => 3 | 39 => 132 | 0 => 0 | 53 => 145 | 55 => 121 | 4 => 4 | 46 => 171 | 45 => 170 | 50 => 175 | 5 => 5 | 9 => 9 | 66 => 179 | 70 => 183 | 76 => 185 | 77 => 73 | n => n, fun | n => n⟩
theorem Tryz.laysSlF06_f119 : Go.Proofs.SlLaysF0.n6 Tryz.prog Tryz.laysSlF06_f119_ren := {
 mixed := by kernel_rfl
 f6 := ⟨Tryz.f119.name, by decide, Tryz.func119.trans (congrArg some (by kernel_rfl))⟩
 f14 := ⟨Tryz.f135.name, by decide, Tryz.func135.trans (congrArg some (by kernel_rfl))⟩
 f15 := Tryz.func136.trans (congrArg some (by kernel_rfl))
 f20 := ⟨Tryz.f144.name, by decide, Tryz.func144.trans (congrArg some (by kernel_rfl))⟩
 f21 := ⟨Tryz.f145.name, by decide, Tryz.func145.trans (congrArg some (by kernel_rfl))⟩
 f22 := ⟨Tryz.f146.name, by decide, Tryz.func146.trans (congrArg some (by kernel_rfl))⟩
 f23 := ⟨Tryz.f147.name, by decide, Tryz.func147.trans (congrArg some (by kernel_rfl))⟩
 f24 := ⟨Tryz.f148.name, by decide, Tryz.func148.trans (congrArg some (by kernel_rfl))⟩
 f25 := ⟨Tryz.f149.name, by decide, Tryz.func149.trans (congrArg some (by kernel_rfl))⟩
 f26 := ⟨Tryz.f150.name, by decide, Tryz.func150.trans (congrArg some (by kernel_rfl))⟩
 f27 := ⟨Tryz.f151.name, by decide, Tryz.func151.trans (congrArg some (by kernel_rfl))⟩
 f28 := Tryz.func152.trans (congrArg some (by kernel_rfl))
 f29 := Tryz.func124.trans (congrArg some (by kernel_rfl))
 f46 := ⟨Tryz.f154.name, by decide, Tryz.func154.trans (congrArg some (by kernel_rfl))⟩
 f47 := Tryz.func155.trans (congrArg some (by kernel_rfl))
 f48 := Tryz.func156.trans (congrArg some (by kernel_rfl))
 f49 := ⟨Tryz.f157.name, by decide, Tryz.func157.trans (congrArg some (by kernel_rfl))⟩
 f50 := ⟨Tryz.f158.name, by decide, Tryz.func158.trans (congrArg some (by kernel_rfl))⟩
 f57 := ⟨Tryz.f159.name, by decide, Tryz.func159.trans (congrArg some (by kernel_rfl))⟩
 t0 := Tryz.underlying0
 a0 := Tryz.isAgg0
 z0 := Tryz.sizeOf0
 v0 := Tryz.zeroValue0
 t3 := Tryz.underlying3
 a3 := Tryz.isAgg3
 z3 := Tryz.sizeOf3
 v3 := Tryz.zeroValue3
 t4 := Tryz.underlying4
 a4 := Tryz.isAgg4
 z4 := Tryz.sizeOf4
 v4 := Tryz.zeroValue4
 t5 := Tryz.underlying5
 a5 := Tryz.isAgg5
 z5 := Tryz.sizeOf5
 v5 := Tryz.zeroValue5
 t9 := Tryz.underlying9
 a9 := Tryz.isAgg9
 z9 := Tryz.sizeOf9
 v9 := Tryz.zeroValue9
 t22 := Tryz.underlying26
 a22 := Tryz.isAgg26
 z22 := Tryz.sizeOf26
 v22 := Tryz.zeroValue26
 t25 := Tryz.underlying101
 a25 := Tryz.isAgg101
 z25 := Tryz.sizeOf101
 v25 := Tryz.zeroValue101
 t39 := Tryz.underlying132
 a39 := Tryz.isAgg132
 z39 := Tryz.sizeOf132
 v39 := Tryz.zeroValue132
 t45 := Tryz.underlying170
 a45 := Tryz.isAgg170
 z45 := Tryz.sizeOf170
 v45 := Tryz.zeroValue170
 t46 := Tryz.underlying171
 a46 := Tryz.isAgg171
 z46 := Tryz.sizeOf171
 v46 := Tryz.zeroValue171
 t50 := Tryz.underlying175
 a50 := Tryz.isAgg175
 z50 := Tryz.sizeOf175
 v50 := Tryz.zeroValue175
 t53 := Tryz.underlying145
 a53 := Tryz.isAgg145
 z53 := Tryz.sizeOf145
 v53 := Tryz.zeroValue145
 t55 := Tryz.underlying121
 a55 := Tryz.isAgg121
 z55 := Tryz.sizeOf121
 v55 := Tryz.zeroValue121
 t66 := Tryz.underlying179
 a66 := Tryz.isAgg179
 z66 := Tryz.sizeOf179
 v66 := Tryz.zeroValue179
 t70 := Tryz.underlying183
 a70 := Tryz.isAgg183
 z70 := Tryz.sizeOf183
 v70 := Tryz.zeroValue183
 t76 := Tryz.underlying185
 a76 := Tryz.isAgg185
 z76 := Tryz.sizeOf185
 v76 := Tryz.zeroValue185
 t77 := Tryz.underlying73
 a77 := Tryz.isAgg73
 z77 := Tryz.sizeOf73
 v77 := Tryz.zeroValue73 }
open Go.RowKit Go.Lib Go.Sort in
theorem Tryz.slices_SortFunc_none {α : Type} [Inhabited α] (p : Option Addr) (cap : Nat) (fv : Value) (w : World) :
 Calls Tryz.prog 119 #[.slice p 0 cap, fv] w fun e w' => e = .returned (.tuple #[]) /\ w' = w := AnyF.slices_SortFunc_none Tryz.laysSlF06_f119 p cap fv w
open Go.RowKit Go.Lib Go.Sort in
theorem Tryz.slices_SortFunc_total {α : Type} [Inhabited α] (enc : α -> Value) (h1 : OneCell enc) (cf : α -> α -> Int) (hO : SWO (ltOf cf)) (g : Nat) (cb : Array Value) (blk off cap : Nat) (d : Array α) (w : World) (eg : ∀ args w, (callFunc g args).run Tryz.prog w = .ok (.enter g args) w) (hcmp : CmpLays1 Tryz.prog g cb enc cf blk off d.size w) (hH : Holds enc w blk off d) (hblk : blk < w.heap.size) (hsz : d.size < 4611686018427387904) (hT : ∀ x y, (ltOf cf) x y = false -> (ltOf cf) y x = false -> x = y) :
 Calls Tryz.prog 119 #[.slice (some ⟨blk, off, none⟩) d.size cap, .func (.func g) #[] cb] w fun e w' =>
  e = .returned (.tuple #[]) /\ ∃ n os, w' = sortWorld enc w blk off n (d.toList.mergeSort fun x y => !(ltOf cf) y x).toArray os := Any.slices_SortFunc_total Tryz.laysSlF6_f119 enc h1 cf hO g cb blk off cap d w eg hcmp hH hblk hsz hT
end Go.Proofs
namespace Go.Proofs.YtakcacejpbiogaaGreatDoor
open Go.Sx
open Go.RowKit Go.Lib Go.Sort
section
variable {P : Program} {base : Nat} {ψ : Psi} {S : Nat → Prop} {w : World} {a : Act}
theorem Rel.put {α : Type} [Inhabited α] (enc : α -> Value) (hsc : ∀ x, Scalar (enc x)) {ts : List (Nat × Tm)} {h : List (Nat × Blk)} {n m k b mm ln : Nat} {f : Nat -> List DV} (hr : Rel P base ψ S w ⟨ts, h, n, m⟩ a) (hψ : ψ k = some (.at b mm))
 (hb : lookB h k = .row 1 ln f) (d : Array α) (hd : d.size <= ln) (q : Nat) (os : Array Obj) :
 Rel P base ψ S (Sort.grow (putRow enc (Sort.ahead w q) b 0 d) os) ⟨ts, (k, .row 1 ln (fun i => if i < d.size then [.v (enc d[i]!)] else f i)) :: h, n, m⟩ a /\
  Ext base ψ S w ψ S (Sort.grow (putRow enc (Sort.ahead w q) b 0 d) os) := by
 have hbk := hr.sim.blk k _ hψ
 simp only [hb] at hbk
 obtain ⟨arr, e, g1, g2, g3, g4, g5⟩ := hbk
 have hheap : (putRow enc (Sort.ahead w q) b 0 d).heap = w.heap.modify b (onCells (putCells enc 0 d)) := rfl
 have hnew : (putRow enc (Sort.ahead w q) b 0 d).heap[b]? = some (.cells (putCells enc 0 d arr) e (0, 0)) := by
  rw [hheap, Array.getElem?_modify, if_pos rfl, g1]; rfl
 obtain ⟨r1, r2⟩ := hr.write (w' := putRow enc (Sort.ahead w q) b 0 d) (blk := .row 1 ln (fun i => if i < d.size then [.v (enc d[i]!)] else f i)) hψ (by simp only [hb]; trivial) rfl rfl rfl (by rw [hheap]; simp)
  (fun b' hb' => by rw [hheap, Array.getElem?_modify, if_neg (fun h => hb' h.symm)]) (fun hl => by
    refine ⟨putCells enc 0 d arr, e, hnew, by simp [putCells, g2], by omega, fun i hi => ?_, fun i j hi hj => ?_⟩
    . dsimp only
      split
      . rfl
      . exact g4 i hi
    . have hj0 : j = 0 := by omega
      subst hj0
      have hlt : i < arr.size := by omega
      have hget : (putCells enc 0 d arr).getD (i * 1 + 0) undef = if i < d.size then enc d[i]! else arr.getD (i * 1 + 0) undef := by
       rw [Array.getD_eq_getD_getElem?, Array.getD_eq_getD_getElem?]
       simp only [putCells, Nat.mul_one, Nat.add_zero, Array.getElem?_mapIdx, Array.getElem?_eq_getElem hlt, Option.map_some, Option.getD_some, Nat.zero_le, true_and, Nat.zero_add, Nat.sub_zero]
      rw [hget]
      dsimp only
      split
      . exact .v (hsc _)
      . exact (g5 i 0 hi hj).later hl)
 obtain ⟨r3, r4⟩ := r1.ext0 (S' := S) (w' := Sort.grow (putRow enc (Sort.ahead w q) b 0 d) os) ⟨rfl, rfl, rfl, by simp [Sort.grow], fun b' hb' => by
  show ((putRow enc (Sort.ahead w q) b 0 d).heap ++ os)[b']? = _
  rw [Array.getElem?_append_left hb'], fun _ h => h, fun _ h => .inl h, fun b' hb' => by
  have h1 := r1.sim.sdom b' hb'
  have h2 : (Sort.grow (putRow enc (Sort.ahead w q) b 0 d) os).heap.size = (putRow enc (Sort.ahead w q) b 0 d).heap.size + os.size := by simp [Sort.grow]
  omega⟩
 exact ⟨r3, r2.trans r4⟩
theorem row_holds {ts : List (Nat × Tm)} {h : List (Nat × Blk)} {n m k b mm ln len : Nat} {f : Nat -> List DV} (hr : Rel P base ψ S w ⟨ts, h, n, m⟩ a) (hψ : ψ k = some (.at b mm))
 (hb : lookB h k = .row 1 ln f) (hle : len <= ln) (hf : ∀ i, i < len -> f i = [st (gT (f i))]) : Holds encStr w b 0 ((gN len f).map fun s => s.data.toList).toArray := by
 have hbk := hr.sim.blk k _ hψ
 simp only [hb] at hbk
 obtain ⟨arr, e, g1, g2, g3, g4, g5⟩ := hbk
 intro j hj
 have hj2 : j < len := by simpa [gN] using hj
 have h5 := g5 j 0 (by omega) (by omega)
 rw [hf j hj2] at h5
 have hlt : j < arr.size := by omega
 have hv : arr[j]? = some (.string (gT (f j))) := by
  rw [Array.getElem?_eq_getElem hlt]
  have e1 : arr.getD (j * 1 + 0) undef = arr[j] := by rw [Array.getD_eq_getD_getElem?, Nat.mul_one, Nat.add_zero, Array.getElem?_eq_getElem hlt]; rfl
  rw [e1] at h5
  generalize arr[j] = v at h5
  have h5 : RepD S w (st (gT (f j))) v := h5
  cases h5
  rfl
 refine ⟨?_, ?_⟩
 . rw [Nat.zero_add, cell_at g1, hv]
   congr 1
   rw [getElem!_pos _ j hj]
   simp [gN, encStr]
 . simp [World.frozen?, g1]
theorem row_lt {ts : List (Nat × Tm)} {h : List (Nat × Blk)} {n m k b mm : Nat} (hr : Rel P base ψ S w ⟨ts, h, n, m⟩ a) (hψ : ψ k = some (.at b mm)) : b < w.heap.size := hr.sim.pdom k b mm hψ
theorem Rel.empty {ts : List (Nat × Tm)} {h : List (Nat × Blk)} {n m k ln : Nat} {f : Nat -> List DV} (hr : Rel P base ψ S w ⟨ts, h, n, m⟩ a) (hb : lookB h k = .row 1 ln f) (g : Nat -> List DV) :
 Rel P base ψ S w ⟨ts, (k, .row 1 ln fun i => if i < 0 then g i else f i) :: h, n, m⟩ a := by
 have e : (fun i => if i < 0 then g i else f i) = f := by funext i; simp
 rw [e]
 have hlook : ∀ j, lookB ((k, .row 1 ln f) :: h) j = lookB h j := by
  intro j
  rw [lookB_cons]
  split
  . rename_i e; subst e; exact hb.symm
  . rfl
 refine ⟨hr.bas, ⟨hr.sim.dom, fun j l hj => by rw [hlook]; exact hr.sim.blk j l hj, fun j j' b m1 m2 h1 h2 l1 l2 => hr.sim.inj j j' b m1 m2 h1 h2 (by simpa only [hlook] using l1) (by simpa only [hlook] using l2),
  fun j b m1 h1 l1 => hr.sim.dis j b m1 h1 (by simpa only [hlook] using l1), hr.sim.pdom, hr.sim.sdom⟩, hr.lim, hr.defers, hr.tmps⟩
end
def bS (l : List UInt8) : ByteArray := ⟨l.toArray⟩
def cfL (x y : List UInt8) : Int := Lib.compareBytes x y
theorem cfL_lt : ∀ (x y : List UInt8), (cfL x y < 0) ↔ x < y
 | [], [] => by simp [cfL, Lib.compareBytes]
 | [], _ :: _ => by simp [cfL, Lib.compareBytes]
 | _ :: _, [] => by simp [cfL, Lib.compareBytes]
 | a :: x, b :: y => by
   have ih := cfL_lt x y
   unfold cfL at ih ⊢
   unfold Lib.compareBytes
   rw [List.cons_lt_cons_iff]
   by_cases h1 : a < b
   . simp [h1]
   . by_cases h2 : b < a
     . have hne : a ≠ b := fun e => by subst e; exact h1 h2
       simp [h1, h2, hne]
     . have he : a = b := by
        have h1 := UInt8.not_lt.1 h1
        have h2 := UInt8.not_lt.1 h2
        exact UInt8.le_antisymm h2 h1
       subst he
       simp [h1, ih]
theorem ltOf_cfL (x y : List UInt8) : ltOf cfL x y = decide (x < y) := by
 unfold ltOf
 rw [Bool.eq_iff_iff]
 simp only [decide_eq_true_eq]
 exact cfL_lt x y
theorem swoL : SWO (ltOf cfL) where
 irrefl x := by rw [ltOf_cfL]; simpa using List.lt_irrefl x
 trans x y z h1 h2 := by
  rw [ltOf_cfL] at *
  simp only [decide_eq_true_eq] at *
  exact List.lt_trans h1 h2
 ntrans x y z h1 h2 := by
  rw [ltOf_cfL] at *
  simp only [decide_eq_false_iff_not, List.not_lt] at *
  exact List.le_trans h2 h1
theorem totL (x y : List UInt8) (h1 : ltOf cfL x y = false) (h2 : ltOf cfL y x = false) : x = y := by
 rw [ltOf_cfL] at *
 simp only [decide_eq_false_iff_not, List.not_lt] at *
 exact List.le_antisymm h2 h1
theorem closureOf (x y : List UInt8) (W : World) : Calls Tryz.prog 120 #[encStr x, encStr y] W fun e w' => e = .returned (.int .i64 (cfL x y)) /\ ∃ q, w' = W.drewN q := by
 have hcon := Tryz.strings_Compare (bS x) (bS y) W
 unfold cfL
 have e1 : (bS x).data.toList = x := rfl
 have e2 : (bS y).data.toList = y := rfl
 rw [e1, e2] at hcon
 unfold bS at hcon
 generalize Lib.compareBytes x y = r at hcon ⊢
 go_enter Tryz.func120, Tryz.ntmps120
 go_wp2_with (go_at_call 121; refine hcon.mono ?_; rintro e w' ⟨rfl, rfl⟩)
 go_ret
 exact ⟨rfl, 0, rfl⟩
def sortL (l : List ByteArray) : List (List UInt8) := (l.map fun s => s.data.toList).mergeSort fun x y => !(ltOf cfL) y x
theorem sortL_length (l : List ByteArray) : (sortL l).length = l.length := by simp [sortL]
theorem fn_plain {P : Program} {ψ : Psi} {S : Nat -> Prop} {w : World} {f : Nat} {v : Value} (h : RepVa P ψ S w (.c (.fn f [])) v) : v = .func (.func f) #[] #[] := by
 obtain ⟨vs, rfl, h⟩ := h
 have : vs = #[] := by
  apply Array.ext'
  generalize vs.toList = l at h
  cases l with
  | nil => rfl
  | cons _ _ => exact h.elim
 rw [this]
theorem acall_sort {base : Nat} {k len ln : Nat} {f : Nat -> List DV} {ts : List (Nat × Tm)} {h : List (Nat × Blk)} {n m : Nat} {K : Tm -> St -> Prop} (hb : lookB h k = .row 1 ln f) (hle : len <= ln) (hf : ∀ i, i < len -> f i = [st (gT (f i))]) (hn : len < 4611686018427387904)
 (hk : K (.tup []) ⟨ts, (k, .row 1 ln fun i => if i < len then [.v (encStr (sortL (gN len f)).toArray[i]!)] else f i) :: h, n, m⟩) : ACall Tryz.prog base 119 [.c (.osl k 1 0 len), .c (.fn 120 [])] ⟨ts, h, n, m⟩ K := by
 refine ⟨fun ψ S w a vals hrel hvals => ?_⟩
 match vals, hvals with
 | [v1, v2], ⟨hv1, hv2, _⟩ =>
   have hv2 := fn_plain hv2
   subst hv2
   refine .inl ⟨callable_of Tryz.func119 rfl rfl, ?_⟩
   have none0 : ∀ p c, len = 0 -> v1 = .slice p 0 c -> Calls Tryz.prog 119 [v1, .func (.func 120) #[] #[]].toArray w fun e w' => ∃ r st' v ψ' S', e = .returned v /\ K r st' /\ Rel Tryz.prog base ψ' S' w' st' a /\ RepT Tryz.prog ψ' S' w' r v /\ Ext base ψ S w ψ' S' w' := by
    intro p c h0 hv
    subst h0; subst hv
    refine (Tryz.slices_SortFunc_none (α := List UInt8) p c _ w).mono ?_
    rintro e w' ⟨rfl, rfl⟩
    exact ⟨_, _, _, ψ, S, rfl, hk, Rel.empty hrel hb _, ⟨#[], rfl, trivial⟩, Ext.refl _ _ _ _⟩
   rcases hv1 with ⟨_, h0, a0, hv⟩ | ⟨b, mm, c, off, h1, hv, h2, h3⟩
   . exact none0 a0 0 h0 hv
   . by_cases h0 : len = 0
     . exact none0 (some ⟨b, off, none⟩) c h0 (by rw [hv, h0])
     . obtain ⟨hoff, _⟩ := h3 (by omega)
       have hoff : off = 0 := by omega
       subst hoff
       have hsz : ((gN len f).map fun s => s.data.toList).toArray.size = len := by simp [gN]
       have hH := row_holds hrel h1 hb hle hf
       have hS := Tryz.slices_SortFunc_total encStr (fun _ => rfl) cfL swoL 120 #[] b 0 c ((gN len f).map fun s => s.data.toList).toArray w (enters_of Tryz.func120 (by kernel_rfl) rfl)
        (CmpReads.lays (fun _ _ _ _ x y => closureOf x y _)) hH (row_lt hrel h1) (by rw [hsz]; exact hn) totL
       rw [hsz] at hS
       subst hv
       refine hS.mono ?_
       rintro e w' ⟨rfl, q, os, rfl⟩
       have hd : (((gN len f).map fun s => s.data.toList).toArray.toList.mergeSort fun x y => !(ltOf cfL) y x).toArray.size = len := by simp [gN]
       obtain ⟨r1, r2⟩ := Rel.put encStr (fun _ => trivial) hrel h1 hb (((gN len f).map fun s => s.data.toList).toArray.toList.mergeSort fun x y => !(ltOf cfL) y x).toArray (by rw [hd]; exact hle) q os
       rw [hd] at r1
       exact ⟨_, _, _, ψ, S, rfl, hk, r1, ⟨#[], rfl, trivial⟩, r2⟩
theorem compact_le (zs : List (List UInt8)) : (Lib.compact zs).length <= zs.length := by
 unfold Lib.compact Lib.compactUpTo
 rw [List.length_map]
 exact Nat.le_trans (List.length_filter_le _ _) (by simp)
def compL (l : List ByteArray) : List (List UInt8) := Lib.compact (l.map fun s => s.data.toList)
def compRow (l : List ByteArray) : List (List UInt8) := compL l ++ List.replicate (l.length - (compL l).length) []
theorem acall_compact {base : Nat} {k len ln : Nat} {f : Nat -> List DV} {ts : List (Nat × Tm)} {h : List (Nat × Blk)} {n m : Nat} {K : Tm -> St -> Prop} (hb : lookB h k = .row 1 ln f) (hle : len <= ln) (hf : ∀ i, i < len -> f i = [st (gT (f i))]) (hn : len < 4611686018427387904)
 (hk : K (.va (.c (.osl k 1 0 (compL (gN len f)).length))) ⟨ts, (k, .row 1 ln fun i => if i < len then [.v (encStr (compRow (gN len f)).toArray[i]!)] else f i) :: h, n, m⟩) : ACall Tryz.prog base 122 [.c (.osl k 1 0 len)] ⟨ts, h, n, m⟩ K := by
 refine ⟨fun ψ S w a vals hrel hvals => ?_⟩
 match vals, hvals with
 | [v1], ⟨hv1, _⟩ =>
   refine .inl ⟨callable_of Tryz.func122 rfl rfl, ?_⟩
   have hcl : (compL (gN len f)).length <= len := by
    have := compact_le ((gN len f).map fun s => s.data.toList)
    simpa [compL, gN] using this
   have none0 : ∀ p c, len = 0 -> v1 = .slice p 0 c -> RepVa Tryz.prog ψ S w (.c (.osl k 1 0 0)) v1 -> Calls Tryz.prog 122 [v1].toArray w fun e w' => ∃ r st' v ψ' S', e = .returned v /\ K r st' /\ Rel Tryz.prog base ψ' S' w' st' a /\ RepT Tryz.prog ψ' S' w' r v /\ Ext base ψ S w ψ' S' w' := by
    intro p c h0 hv hrep
    subst h0; subst hv
    refine (Tryz.slices_Compact_string_empty p c w).mono ?_
    rintro e w' ⟨rfl, rfl⟩
    have e0 : (compL (gN 0 f)).length = 0 := by omega
    rw [e0] at hk
    exact ⟨_, _, _, ψ, S, rfl, hk, Rel.empty hrel hb _, hrep, Ext.refl _ _ _ _⟩
   rcases hv1 with ⟨hvirt, h0, a0, hv⟩ | ⟨b, mm, c, off, h1, hv, h2, h3⟩
   . exact none0 a0 0 h0 hv (.inl ⟨hvirt, rfl, a0, hv⟩)
   . by_cases h0 : len = 0
     . exact none0 (some ⟨b, off, none⟩) c h0 (by rw [hv, h0]) (.inr ⟨b, mm, c, off, h1, by rw [hv, h0], Nat.zero_le _, h3⟩)
     . obtain ⟨hoff, hcm⟩ := h3 (by omega)
       have hoff : off = 0 := by omega
       subst hoff
       have hsz : ((gN len f).map fun s => s.data.toList).length = len := by simp [gN]
       have hH := row_holds hrel h1 hb hle hf
       have hS := Tryz.slices_Compact_string b 0 c ((gN len f).map fun s => s.data.toList) w hH (by rw [hsz]; omega) (by rw [hsz]; exact h2)
       rw [hsz] at hS
       subst hv
       refine hS.mono ?_
       rintro e w' ⟨rfl, q, rfl⟩
       have hd : (compRow (gN len f)).toArray.size = len := by
        unfold compRow
        simp [gN] at hcl ⊢
        omega
       have hg : (gN len f).length = len := by simp [gN]
       obtain ⟨r1, r2⟩ := Rel.put encStr (fun _ => trivial) hrel h1 hb (compRow (gN len f)).toArray (by rw [hd]; exact hle) q #[]
       rw [hd] at r1
       have hw : Sort.grow (putRow encStr (Sort.ahead w q) b 0 (compRow (gN len f)).toArray) #[] = putRow encStr (Sort.ahead w q) b 0 (Lib.compact ((gN len f).map fun (s : ByteArray) => s.data.toList) ++ List.replicate (len - (Lib.compact ((gN len f).map fun (s : ByteArray) => s.data.toList)).length) []).toArray := by
        rw [grow_empty]
        unfold compRow compL
        rw [hg]
       rw [hw] at r1 r2
       exact ⟨_, _, _, ψ, S, rfl, hk, r1, .inr ⟨b, mm, c, 0, h1, rfl, Nat.le_trans hcl h2, fun hc => ⟨rfl, hcm⟩⟩, r2⟩
end Go.Proofs.YtakcacejpbiogaaGreatDoor
namespace Go.Proofs.YtakcacejpbiogaaGreatDoor
open Go.Sx
open Go.RowKit Go.Lib Go.Sort
def ofS (l : List ByteArray) : List ByteArray := (compL ((sortL l).map bS)).map bS
theorem gT_st (x : ByteArray) : gT [st x] = x := rfl
theorem ofS_len (l : List ByteArray) : (ofS l).length <= l.length := by
 have := compact_le (((sortL l).map bS).map fun s => s.data.toList)
 simpa [ofS, compL, sortL_length] using this
theorem ofS_len2 (l : List ByteArray) : (compL ((sortL l).map bS)).length = (ofS l).length := by simp [ofS]
theorem gN_put {len : Nat} {L : List (List UInt8)} (hL : L.length = len) (f : Nat -> List DV) : gN len (fun i => if i < len then [.v (encStr L.toArray[i]!)] else f i) = L.map bS := by
 subst hL
 unfold gN
 apply List.ext_getElem
 . simp
 . intro i h1 h2
   have h3 : i < L.length := by simpa using h2
   simp [h3, gT, encStr, bS]
theorem ofS_at {l : List ByteArray} {i : Nat} {M : List ByteArray} (hM : M = (sortL l).map bS) (hi : i < (compL M).length) : [DV.v (encStr (compRow M).toArray[i]!)] = [st (atS (ofS l) i)] := by
 subst hM
 have h2 : i < (compRow ((sortL l).map bS)).length := by unfold compRow; simp; omega
 unfold ofS atS
 simp only [List.getD_eq_getElem?_getD, List.getElem?_map, List.getElem?_eq_getElem hi, Option.map_some, Option.getD_some]
 simp only [List.getElem!_toArray]
 rw [getElem!_pos _ i h2]
 simp only [compRow, List.getElem_append_left hi]
 rfl
def FNClone : List Ar -> Option Rs
 | [.c (.d (.lst 1 n0 f0))] => some ⟨(n0 * 16 <= 140737488351232 /\ ∀ i, i < n0 -> f0 i = [st (gT (f0 i))]), .va (.c (.ow 1 n0 fun i => [st (gT (f0 i))])), []⟩
 | _ => none
theorem fcNClone : FC Tryz.prog 118 FNClone := by
 intro xs pre r us h hp
 unfold FNClone at h
 split at h
 . rename_i n0 f0
   cases h
   have hp0 := hp
   refine FCat.of_eq (as' := [.c (.d (.lst 1 n0 fun i => [st (gT (f0 i))]))]) ?_ rfl rfl ?_
   . repeat' (first | exact trivial | exact rfl | refine ⟨?_, ?_⟩ | fail)
     all_goals first | exact hp0.2 | exact hp1.2 | exact hp2.2 | (intro i hi; exact (hp0.2 i hi).1) | (intro i hi; exact (hp1.2 i hi).1) | (intro i hi; exact (hp2.2 i hi).1) | grind
   refine fcat tys_ok (l := []) trivial Tryz.func118 rfl (by kernel_rfl) false ?_
   repeat' (first | exact trivial | refine ⟨?_, ?_⟩ | intro _)
   all_goals first | (with_reducible first | apply qa | apply qb | apply qc | apply qd) | (conv => whnf)
   all_goals first | omega | (simp_all; done) | (simp [appRow]; done) | exact ‹_ = true -> _› ‹_›
 . cases h
def FNOf : List Ar -> Option Rs
 | [.c (.d (.v (.bool b0))), .c (.d (.lst 1 n1 f1))] => some ⟨(n1 * 16 <= 140737488351232 /\ ∀ i, i < n1 -> f1 i = [st (gT (f1 i))]), .va (Ns.ar (⟨b0, ofS (gN n1 f1)⟩)), []⟩
 | _ => none
theorem fcNOf : FC Tryz.prog 94 FNOf := by
 intro xs pre r us h hp
 unfold FNOf at h
 split at h
 . rename_i b0 n1 f1
   cases h
   have hp0 := hp
   refine FCat.of_eq (as' := [.c (.d (.v (.bool b0))), .c (.d (.lst 1 n1 fun i => [st (gT (f1 i))]))]) ?_ rfl rfl ?_
   . repeat' (first | exact trivial | exact rfl | refine ⟨?_, ?_⟩ | fail)
     all_goals first | exact hp0.2 | exact hp1.2 | exact hp2.2 | (intro i hi; exact (hp0.2 i hi).1) | (intro i hi; exact (hp1.2 i hi).1) | (intro i hi; exact (hp2.2 i hi).1) | grind
   refine fcat tys_ok (l := [(118, ⟨[], FNClone⟩)]) ⟨fcNClone, trivial⟩ Tryz.func94 rfl (by kernel_rfl) true ?_
   repeat' (first | exact trivial | refine ⟨?_, ?_⟩ | intro _)
   all_goals first | (with_reducible first | apply qa | apply qb | apply qc | apply qd) | (conv => whnf)
   all_goals first | exact hp0.1 | rfl | refine acall_sort rfl (Nat.le_refl _) (fun _ _ => rfl) (by omega) ?_
   refine acall_compact rfl (Nat.le_refl _) (fun i hi => by simp [hi, gT, encStr]) (by omega) ?_
   repeat' (first | exact trivial | refine ⟨?_, ?_⟩ | intro _)
   all_goals first | (with_reducible first | apply qa | apply qb | apply qc | apply qd) | (conv => whnf)
   all_goals (have hE := gN_put (len := n1) (L := sortL (gN n1 f1)) (by rw [sortL_length, gN_length]) (fun i => [st (gT (f1 i))]))
   all_goals (try simp only [gN_canon, gT_st, hE, ofS_len2])
   all_goals (have hL := ofS_len (gN n1 f1); rw [gN_length] at hL)
   all_goals first | omega | skip
   rename_i i hi
   simp only [gN_canon, gT_st, hE, ofS_len2] at hi
   have e0 : 0 + Int.toNat 0 + i = i := by simp
   rw [e0, if_pos (by omega)]
   exact ofS_at rfl (by rw [ofS_len2]; omega)
 . cases h
def FNClean : List Ar -> Option Rs
 | [.agg [.d (.v (.bool b0)), .d (.lst 1 n0 f0)]] => some ⟨(n0 * 16 <= 140737488351232 /\ ∀ i, i < n0 -> f0 i = [st (gT (f0 i))]), .va (Ns.ar (⟨b0, ofS (gN n0 f0)⟩)), []⟩
 | _ => none
theorem fcNClean : FC Tryz.prog 69 FNClean := by
 intro xs pre r us h hp
 unfold FNClean at h
 split at h
 . rename_i b0 n0 f0
   cases h
   have hp0 := hp
   refine FCat.of_eq (as' := [.agg [.d (.v (.bool b0)), .d (.lst 1 n0 fun i => [st (gT (f0 i))])]]) ?_ rfl rfl ?_
   . repeat' (first | exact trivial | exact rfl | refine ⟨?_, ?_⟩ | fail)
     all_goals first | exact hp0.2 | exact hp1.2 | exact hp2.2 | (intro i hi; exact (hp0.2 i hi).1) | (intro i hi; exact (hp1.2 i hi).1) | (intro i hi; exact (hp2.2 i hi).1) | grind
   refine fcat tys_ok (l := [(94, ⟨[], FNOf⟩)]) ⟨fcNOf, trivial⟩ Tryz.func69 rfl (by kernel_rfl) true ?_
   repeat' (first | exact trivial | refine ⟨?_, ?_⟩ | intro _)
   all_goals first | (with_reducible first | apply qa | apply qb | apply qc | apply qd) | (conv => whnf)
   all_goals first | exact hp0.1 | rfl
 . cases h
end Go.Proofs.YtakcacejpbiogaaGreatDoor
namespace Go.Proofs.YtakcacejpbiogaaGreatDoor
open Go.Sx
structure Cg where
 some : Bool
 m : Int
 r : Int
abbrev Cg.ar (c : Cg) : Ar := .agg [.d (bo c.some), .d (it c.m), .d (it c.r)]
def Cg.inR (c : Cg) : Prop := (-9223372036854775808 <= c.m /\ c.m < 9223372036854775808) /\ -9223372036854775808 <= c.r /\ c.r < 9223372036854775808
def md (n m : Int) : Int := if m <= 0 then n else n % m
namespace Cg
def none : Cg := ⟨false, 0, 0⟩
def of (m r : Int) : Cg := if m < 0 then ⟨true, 1, md r 1⟩ else ⟨true, m, md r m⟩
def clean (c : Cg) : Cg := if c.some then of c.m c.r else none
def has (c : Cg) (n : Int) : Bool := c.clean.some && decide (md n c.clean.m = c.clean.r)
def factor (a b : Int) : Bool := if a = 0 then decide (b = 0) else decide (b % a = 0)
def leq (a b : Cg) : Bool := if a.clean.some && b.clean.some then factor b.clean.m a.clean.m && has b.clean a.clean.r else !a.clean.some
def eq (a b : Cg) : Bool := a.some == b.some && (a.m == b.m && a.r == b.r)
end Cg
theorem tmod_fix (n m : Int) (h : 0 < m) : (n.tmod m < 0 -> n.tmod m + m = n % m) /\ (¬ n.tmod m < 0 -> n.tmod m = n % m) := by
 have h1 := Int.emod_nonneg n (show m ≠ 0 by omega)
 have h2 := Int.emod_lt_of_pos n h
 have h3 : n.tmod m = n % m - if 0 <= n \/ m ∣ n then 0 else m := by rw [Int.tmod_eq_emod]; split <;> simp <;> omega
 rw [h3]
 split <;> omega
theorem md_bound (n m : Int) (h : 0 < m) : 0 <= md n m /\ md n m < m := by
 unfold md; rw [if_neg (by omega)]; exact ⟨Int.emod_nonneg _ (by omega), Int.emod_lt_of_pos _ h⟩
theorem Cg.of_inR (m r : Int) (h0 : -9223372036854775808 <= m) (h1 : m < 9223372036854775808) (h2 : -9223372036854775808 <= r) (h3 : r < 9223372036854775808) : (Cg.of m r).inR := by
 unfold Cg.of
 by_cases hm : m < 0
 . rw [if_pos hm]
   have := md_bound r 1 (by omega)
   unfold Cg.inR; dsimp only; omega
 . rw [if_neg hm]
   by_cases h0 : m = 0
   . subst h0; unfold Cg.inR md; dsimp only; rw [if_pos (by omega)]; omega
   . have := md_bound r m (by omega)
     unfold Cg.inR; dsimp only; omega
theorem Cg.clean_inR {c : Cg} (h : c.inR) : c.clean.inR := by
 unfold Cg.clean
 split
 . exact Cg.of_inR _ _ h.1.1 h.1.2 h.2.1 h.2.2
 . unfold Cg.none Cg.inR; decide
def FCMod : List Ar -> Option Rs
 | [.c (.d (.v (.int .i64 i0))), .c (.d (.v (.int .i64 i1)))] => some ⟨(-9223372036854775808 <= i0 /\ i0 < 9223372036854775808) /\ (-9223372036854775808 <= i1 /\ i1 < 9223372036854775808), .va (.c (.d (it (md i0 i1)))), []⟩
 | _ => none
theorem fcCMod : FC Tryz.prog 74 FCMod := by
 intro xs pre r us h hp
 unfold FCMod at h
 split at h
 . rename_i i0 i1
   cases h
   obtain ⟨hp0, hp1⟩ := hp
   refine fcat tys_ok (l := []) trivial Tryz.func74 rfl (by kernel_rfl) false ?_
   repeat' (first | exact trivial | refine ⟨?_, ?_⟩ | intro _)
   all_goals first | (with_reducible first | apply qa | apply qb | apply qc | apply qd) | (conv => whnf)
   all_goals (try simp only [decide_eq_true_eq, decide_eq_false_iff_not] at *)
   all_goals first | omega | (have q := tmod_fix i0 i1 (by omega); have q2 := md_bound i0 i1 (by omega); unfold md at *; rw [if_neg (by omega)] at *; first | (rw [q.2 (by assumption)]) | (rw [wI_id _ (by omega) (by omega), q.1 (by assumption)])) | (unfold md; rw [if_pos (by assumption)])
 . cases h
def FRRest : List Ar -> Option Rs
 | [.c (.d (.v (.int .i64 i0))), .c (.d (.v (.int .i64 i1)))] => some ⟨(-9223372036854775808 <= i0 /\ i0 < 9223372036854775808) /\ (-9223372036854775808 <= i1 /\ i1 < 9223372036854775808) /\ (0 < i1), .va (.c (.d (it (md i0 i1)))), []⟩
 | _ => none
theorem fcRRest : FC Tryz.prog 55 FRRest := by
 intro xs pre r us h hp
 unfold FRRest at h
 split at h
 . rename_i i0 i1
   cases h
   obtain ⟨hp0, hp1, hp2⟩ := hp
   refine fcat tys_ok (l := []) trivial Tryz.func55 rfl (by kernel_rfl) false ?_
   repeat' (first | exact trivial | refine ⟨?_, ?_⟩ | intro _)
   all_goals first | (with_reducible first | apply qa | apply qb | apply qc | apply qd) | (conv => whnf)
   all_goals (try simp only [decide_eq_true_eq, decide_eq_false_iff_not] at *)
   all_goals first | omega | (have q := tmod_fix i0 i1 (by omega); have q2 := md_bound i0 i1 (by omega); unfold md at *; rw [if_neg (by omega)] at *; first | (rw [q.2 (by assumption)]) | (rw [wI_id _ (by omega) (by omega), q.1 (by assumption)]))
 . cases h
def FCOf : List Ar -> Option Rs
 | [.c (.d (.v (.int .i64 i0))), .c (.d (.v (.int .i64 i1)))] => some ⟨(-9223372036854775808 <= i0 /\ i0 < 9223372036854775808) /\ (-9223372036854775808 <= i1 /\ i1 < 9223372036854775808), .va (Cg.ar (Cg.of i0 i1)), []⟩
 | _ => none
theorem fcCOf : FC Tryz.prog 101 FCOf := by
 intro xs pre r us h hp
 unfold FCOf at h
 split at h
 . rename_i i0 i1
   cases h
   obtain ⟨hp0, hp1⟩ := hp
   refine fcat tys_ok (l := [(74, ⟨[], FCMod⟩)]) ⟨fcCMod, trivial⟩ Tryz.func101 rfl (by kernel_rfl) false ?_
   repeat' (first | exact trivial | refine ⟨?_, ?_⟩ | intro _)
   all_goals first | (with_reducible first | apply qa | apply qb | apply qc | apply qd) | (conv => whnf)
   all_goals grind [Cg.of]
 . cases h
def FCNone : List Ar -> Option Rs
 | [.agg [.d (.v (.bool b0)), .d (.v (.int .i64 m0)), .d (.v (.int .i64 r0))]] => some ⟨(Cg.inR ⟨b0, m0, r0⟩), .va (.c (.d (bo (!b0)))), []⟩
 | _ => none
theorem fcCNone : FC Tryz.prog 117 FCNone := by
 intro xs pre r us h hp
 unfold FCNone at h
 split at h
 . rename_i b0 m0 r0
   cases h
   have hp0 := hp
   refine fcat tys_ok (l := []) trivial Tryz.func117 rfl (by kernel_rfl) false ?_
   repeat' (first | exact trivial | refine ⟨?_, ?_⟩ | intro _)
   all_goals first | (with_reducible first | apply qa | apply qb | apply qc | apply qd) | (conv => whnf)
   all_goals rfl
 . cases h
def FCClean : List Ar -> Option Rs
 | [.agg [.d (.v (.bool b0)), .d (.v (.int .i64 m0)), .d (.v (.int .i64 r0))]] => some ⟨(Cg.inR ⟨b0, m0, r0⟩), .va (Cg.ar (Cg.clean (⟨b0, m0, r0⟩ : Cg))), []⟩
 | _ => none
theorem fcCClean : FC Tryz.prog 73 FCClean := by
 intro xs pre r us h hp
 unfold FCClean at h
 split at h
 . rename_i b0 m0 r0
   cases h
   have hp0 := hp
   refine fcat tys_ok (l := [(101, ⟨[], FCOf⟩)]) ⟨fcCOf, trivial⟩ Tryz.func73 rfl (by kernel_rfl) false ?_
   repeat' (first | exact trivial | refine ⟨?_, ?_⟩ | intro _)
   all_goals first | (with_reducible first | apply qa | apply qb | apply qc | apply qd) | (conv => whnf)
   all_goals first | grind [Cg.clean, Cg.none, Cg.inR]
 . cases h
def FCHas : List Ar -> Option Rs
 | [.agg [.d (.v (.bool b0)), .d (.v (.int .i64 m0)), .d (.v (.int .i64 r0))], .c (.d (.v (.int .i64 i1)))] => some ⟨(Cg.inR ⟨b0, m0, r0⟩) /\ (-9223372036854775808 <= i1 /\ i1 < 9223372036854775808), .va (.c (.d (bo (Cg.has (⟨b0, m0, r0⟩ : Cg) i1)))), []⟩
 | _ => none
theorem fcCHas : FC Tryz.prog 51 FCHas := by
 intro xs pre r us h hp
 unfold FCHas at h
 split at h
 . rename_i b0 m0 r0 i1
   cases h
   obtain ⟨hp0, hp1⟩ := hp
   refine fcat tys_ok (l := [(73, ⟨[], FCClean⟩), (74, ⟨[], FCMod⟩)]) ⟨fcCClean, fcCMod, trivial⟩ Tryz.func51 rfl (by kernel_rfl) false ?_
   repeat' (first | exact trivial | refine ⟨?_, ?_⟩ | intro _)
   all_goals first | (with_reducible first | apply qa | apply qb | apply qc | apply qd) | (conv => whnf)
   all_goals first | grind [Cg.has, Cg.inR, Cg.clean_inR]
 . cases h
def FRCClean : List Ar -> Option Rs
 | [.agg [.d (.v (.bool b0)), .d (.v (.int .i64 m0)), .d (.v (.int .i64 r0))]] => some ⟨(Cg.inR ⟨b0, m0, r0⟩), .va (Cg.ar (Cg.clean (⟨b0, m0, r0⟩ : Cg))), []⟩
 | _ => none
theorem fcRCClean : FC Tryz.prog 31 FRCClean := by
 intro xs pre r us h hp
 unfold FRCClean at h
 split at h
 . rename_i b0 m0 r0
   cases h
   have hp0 := hp
   refine fcat tys_ok (l := [(55, ⟨[], FRRest⟩)]) ⟨fcRRest, trivial⟩ Tryz.func31 rfl (by kernel_rfl) false ?_
   repeat' (first | exact trivial | refine ⟨?_, ?_⟩ | intro _)
   all_goals first | (with_reducible first | apply qa | apply qb | apply qc | apply qd) | (conv => whnf)
   all_goals first | grind [Cg.clean, Cg.none, Cg.inR, Cg.of, md]
 . cases h
structure Sp where
 some : Bool
 lo : Int
 hi : Int
abbrev Sp.ar (s : Sp) : Ar := .agg [.d (bo s.some), .d (it s.lo), .d (it s.hi)]
namespace Sp
def none (s : Sp) : Bool := !s.some || decide (s.lo > s.hi)
def has (s : Sp) (n : Int) : Bool := s.some && decide (s.lo <= n) && decide (n <= s.hi)
def clean (s : Sp) : Sp := if s.none then ⟨false, 0, 0⟩ else s
def leq (a b : Sp) : Bool := a.none || (b.has a.lo && b.has a.hi)
def of (lo hi : Int) : Sp := if lo > hi then ⟨false, 0, 0⟩ else ⟨true, lo, hi⟩
def eq (a b : Sp) : Bool := a.some == b.some && (a.lo == b.lo && a.hi == b.hi)
def join (a b : Sp) : Sp := if a.none then b.clean else if b.none then a else of (min a.lo b.lo) (max a.hi b.hi)
def inR (s : Sp) : Prop := (-9223372036854775808 <= s.lo /\ s.lo < 9223372036854775808) /\ -9223372036854775808 <= s.hi /\ s.hi < 9223372036854775808
theorem clean_inR {s : Sp} (h : s.inR) : s.clean.inR := by
 unfold clean; split
 . unfold inR; decide
 . exact h
end Sp
def FSNone : List Ar -> Option Rs
 | [.agg [.d (.v (.bool s0)), .d (.v (.int .i64 l0)), .d (.v (.int .i64 h0))]] => some ⟨(Sp.inR ⟨s0, l0, h0⟩), .va (.c (.d (bo (Sp.none (⟨s0, l0, h0⟩ : Sp))))), []⟩
 | _ => none
theorem fcSNone : FC Tryz.prog 116 FSNone := by
 intro xs pre r us h hp
 unfold FSNone at h
 split at h
 . rename_i s0 l0 h0
   cases h
   have hp0 := hp
   refine fcat tys_ok (l := []) trivial Tryz.func116 rfl (by kernel_rfl) false ?_
   repeat' (first | exact trivial | refine ⟨?_, ?_⟩ | intro _)
   all_goals first | (with_reducible first | apply qa | apply qb | apply qc | apply qd) | (conv => whnf)
   all_goals grind [Sp.none, Sp.inR]
 . cases h
def FRSNone0 : List Ar -> Option Rs
 | [.agg [.d (.v (.bool s0)), .d (.v (.int .i64 l0)), .d (.v (.int .i64 h0))]] => some ⟨(Sp.inR ⟨s0, l0, h0⟩), .va (.c (.d (bo (Sp.none (⟨s0, l0, h0⟩ : Sp))))), []⟩
 | _ => none
theorem fcRSNone0 : FC Tryz.prog 53 FRSNone0 := by
 intro xs pre r us h hp
 unfold FRSNone0 at h
 split at h
 . rename_i s0 l0 h0
   cases h
   have hp0 := hp
   refine fcat tys_ok (l := []) trivial Tryz.func53 rfl (by kernel_rfl) false ?_
   repeat' (first | exact trivial | refine ⟨?_, ?_⟩ | intro _)
   all_goals first | (with_reducible first | apply qa | apply qb | apply qc | apply qd) | (conv => whnf)
   all_goals grind [Sp.none, Sp.inR]
 . cases h
def FSHas : List Ar -> Option Rs
 | [.agg [.d (.v (.bool s0)), .d (.v (.int .i64 l0)), .d (.v (.int .i64 h0))], .c (.d (.v (.int .i64 i1)))] => some ⟨(Sp.inR ⟨s0, l0, h0⟩) /\ (-9223372036854775808 <= i1 /\ i1 < 9223372036854775808), .va (.c (.d (bo (Sp.has (⟨s0, l0, h0⟩ : Sp) i1)))), []⟩
 | _ => none
theorem fcSHas : FC Tryz.prog 50 FSHas := by
 intro xs pre r us h hp
 unfold FSHas at h
 split at h
 . rename_i s0 l0 h0 i1
   cases h
   obtain ⟨hp0, hp1⟩ := hp
   refine fcat tys_ok (l := []) trivial Tryz.func50 rfl (by kernel_rfl) false ?_
   repeat' (first | exact trivial | refine ⟨?_, ?_⟩ | intro _)
   all_goals first | (with_reducible first | apply qa | apply qb | apply qc | apply qd) | (conv => whnf)
   all_goals grind [Sp.has, Sp.inR]
 . cases h
def FSMake : List Ar -> Option Rs
 | [.c (.d (.v (.int .i64 i0))), .c (.d (.v (.int .i64 i1)))] => some ⟨(-9223372036854775808 <= i0 /\ i0 < 9223372036854775808) /\ (-9223372036854775808 <= i1 /\ i1 < 9223372036854775808), .va (Sp.ar (Sp.of i0 i1)), []⟩
 | _ => none
theorem fcSMake : FC Tryz.prog 54 FSMake := by
 intro xs pre r us h hp
 unfold FSMake at h
 split at h
 . rename_i i0 i1
   cases h
   obtain ⟨hp0, hp1⟩ := hp
   refine fcat tys_ok (l := [(53, ⟨[], FRSNone0⟩)]) ⟨fcRSNone0, trivial⟩ Tryz.func54 rfl (by kernel_rfl) false ?_
   repeat' (first | exact trivial | refine ⟨?_, ?_⟩ | intro _)
   all_goals first | (with_reducible first | apply qa | apply qb | apply qc | apply qd) | (conv => whnf)
   all_goals grind [Sp.of, Sp.none, Sp.inR]
 . cases h
def FSClean : List Ar -> Option Rs
 | [.agg [.d (.v (.bool s0)), .d (.v (.int .i64 l0)), .d (.v (.int .i64 h0))]] => some ⟨(Sp.inR ⟨s0, l0, h0⟩), .va (Sp.ar (Sp.clean (⟨s0, l0, h0⟩ : Sp))), []⟩
 | _ => none
theorem fcSClean : FC Tryz.prog 93 FSClean := by
 intro xs pre r us h hp
 unfold FSClean at h
 split at h
 . rename_i s0 l0 h0
   cases h
   have hp0 := hp
   refine fcat tys_ok (l := [(116, ⟨[], FSNone⟩)]) ⟨fcSNone, trivial⟩ Tryz.func93 rfl (by kernel_rfl) false ?_
   repeat' (first | exact trivial | refine ⟨?_, ?_⟩ | intro _)
   all_goals first | (with_reducible first | apply qa | apply qb | apply qc | apply qd) | (conv => whnf)
   all_goals grind [Sp.clean, Sp.inR]
 . cases h
def FRSJoin : List Ar -> Option Rs
 | [.agg [.d (.v (.bool s0)), .d (.v (.int .i64 l0)), .d (.v (.int .i64 h0))], .agg [.d (.v (.bool s1)), .d (.v (.int .i64 l1)), .d (.v (.int .i64 h1))]] => some ⟨(Sp.inR ⟨s0, l0, h0⟩) /\ (Sp.inR ⟨s1, l1, h1⟩), .va (Sp.ar (Sp.join (⟨s0, l0, h0⟩ : Sp) (⟨s1, l1, h1⟩ : Sp))), []⟩
 | _ => none
theorem fcRSJoin : FC Tryz.prog 30 FRSJoin := by
 intro xs pre r us h hp
 unfold FRSJoin at h
 split at h
 . rename_i s0 l0 h0 s1 l1 h1
   cases h
   obtain ⟨hp0, hp1⟩ := hp
   refine fcat tys_ok (l := [(53, ⟨[], FRSNone0⟩), (54, ⟨[], FSMake⟩)]) ⟨fcRSNone0, fcSMake, trivial⟩ Tryz.func30 rfl (by kernel_rfl) false ?_
   repeat' (first | exact trivial | refine ⟨?_, ?_⟩ | intro _)
   all_goals first | (with_reducible first | apply qa | apply qb | apply qc | apply qd) | (conv => whnf)
   all_goals grind [Sp.join, Sp.clean, Sp.none, Sp.of, Sp.inR]
 . cases h
def rI (n : Int) : Prop := -9223372036854775808 <= n /\ n < 9223372036854775808
namespace Sp
end Sp
structure Ig where
 s : Sp
 c : Cg
abbrev Ig.ar (i : Ig) : Ar := .agg [.d (bo i.s.some), .d (it i.s.lo), .d (it i.s.hi), .d (bo i.c.some), .d (it i.c.m), .d (it i.c.r)]
structure Vl where
 i : Ig
 t : Ns
abbrev Vl.ar (v : Vl) : Ar := .agg [.d (bo v.i.s.some), .d (it v.i.s.lo), .d (it v.i.s.hi), .d (bo v.i.c.some), .d (it v.i.c.m), .d (it v.i.c.r), .d (bo v.t.null), .d (lst v.t.names)]
def Cg.red (c : Cg) : Prop := 0 <= c.m /\ (0 < c.m -> 0 <= c.r /\ c.r < c.m)
theorem Cg.clean_red (c : Cg) : c.clean.red := by
 unfold Cg.clean Cg.of Cg.none Cg.red
 split
 . split
   . have := md_bound c.r 1 (by omega)
     dsimp only; omega
   . refine ⟨by dsimp only; omega, fun h => ?_⟩
     exact md_bound c.r c.m h
 . dsimp only; omega
def upW (n : Int) (c : Cg) : Int := n + (c.r - n) % c.m
def dnW (n : Int) (c : Cg) : Int := n - (n - c.r) % c.m
def upV (n : Int) (c : Cg) : Int := if c.m = 0 then c.r else wIntV (upW n c)
def upB (n : Int) (c : Cg) : Bool := if c.m = 0 then decide (c.r ≥ n) else wIntB (upW n c)
def dnV (n : Int) (c : Cg) : Int := if c.m = 0 then c.r else wIntV (dnW n c)
def dnB (n : Int) (c : Cg) : Bool := if c.m = 0 then decide (c.r <= n) else wIntB (dnW n c)
namespace Ig
def zero : Ig := ⟨⟨false, 0, 0⟩, ⟨false, 0, 0⟩⟩
def none (i : Ig) : Bool := i.s.none || !i.c.some
def clean (i : Ig) : Ig := if i.none then zero else ⟨i.s.clean, i.c.clean⟩
def leq (i j : Ig) : Bool := i.s.leq j.s && i.c.leq j.c
def red (i : Ig) : Ig := if i.none then zero else if (!upB i.s.lo i.c || !dnB i.s.hi i.c) || decide (upV i.s.lo i.c > dnV i.s.hi i.c) then zero else
 if upV i.s.lo i.c = dnV i.s.hi i.c then ⟨Sp.of (upV i.s.lo i.c) (upV i.s.lo i.c), Cg.of 0 (upV i.s.lo i.c)⟩ else ⟨Sp.of (upV i.s.lo i.c) (dnV i.s.hi i.c), i.c⟩
theorem clean_inR {i : Ig} (h1 : i.s.inR) (h2 : i.c.inR) : i.clean.s.inR /\ i.clean.c.inR := by
 unfold clean
 split
 . unfold zero Sp.inR Cg.inR; decide
 . exact ⟨Sp.clean_inR h1, Cg.clean_inR h2⟩
end Ig
def FVNone : List Ar -> Option Rs
 | [.agg [.d (.v (.bool s0)), .d (.v (.int .i64 l0)), .d (.v (.int .i64 h0)), .d (.v (.bool b0)), .d (.v (.int .i64 m0)), .d (.v (.int .i64 r0))]] => some ⟨(Sp.inR ⟨s0, l0, h0⟩ /\ Cg.inR ⟨b0, m0, r0⟩), .va (.c (.d (bo (Ig.none (⟨⟨s0, l0, h0⟩, ⟨b0, m0, r0⟩⟩ : Ig))))), []⟩
 | _ => none
theorem fcVNone : FC Tryz.prog 92 FVNone := by
 intro xs pre r us h hp
 unfold FVNone at h
 split at h
 . rename_i s0 l0 h0 b0 m0 r0
   cases h
   have hp0 := hp
   refine fcat tys_ok (l := [(116, ⟨[], FSNone⟩), (117, ⟨[], FCNone⟩)]) ⟨fcSNone, fcCNone, trivial⟩ Tryz.func92 rfl (by kernel_rfl) false ?_
   repeat' (first | exact trivial | refine ⟨?_, ?_⟩ | intro _)
   all_goals first | (with_reducible first | apply qa | apply qb | apply qc | apply qd) | (conv => whnf)
   all_goals first | grind [Ig.none, Sp.inR, Cg.inR]
 . cases h
def FVClean : List Ar -> Option Rs
 | [.agg [.d (.v (.bool s0)), .d (.v (.int .i64 l0)), .d (.v (.int .i64 h0)), .d (.v (.bool b0)), .d (.v (.int .i64 m0)), .d (.v (.int .i64 r0))]] => some ⟨(Sp.inR ⟨s0, l0, h0⟩ /\ Cg.inR ⟨b0, m0, r0⟩), .va (Ig.ar (Ig.clean (⟨⟨s0, l0, h0⟩, ⟨b0, m0, r0⟩⟩ : Ig))), []⟩
 | _ => none
theorem fcVClean : FC Tryz.prog 68 FVClean := by
 intro xs pre r us h hp
 unfold FVClean at h
 split at h
 . rename_i s0 l0 h0 b0 m0 r0
   cases h
   have hp0 := hp
   refine fcat tys_ok (l := [(92, ⟨[], FVNone⟩), (93, ⟨[], FSClean⟩), (73, ⟨[], FCClean⟩)]) ⟨fcVNone, fcSClean, fcCClean, trivial⟩ Tryz.func68 rfl (by kernel_rfl) false ?_
   repeat' (first | exact trivial | refine ⟨?_, ?_⟩ | intro _)
   all_goals first | (with_reducible first | apply qa | apply qb | apply qc | apply qd) | (conv => whnf)
   all_goals first | grind [Ig.clean, Ig.zero, Sp.inR, Cg.inR]
 . cases h
theorem upV_0 {n m r : Int} {b : Bool} (hm : m = 0) : upV n ⟨b, m, r⟩ = r /\ upB n ⟨b, m, r⟩ = decide (r ≥ n) /\ dnV n ⟨b, m, r⟩ = r /\ dnB n ⟨b, m, r⟩ = decide (r <= n) := by unfold upV upB dnV dnB; simp [hm]
theorem upV_1 {n m r : Int} {b : Bool} (hm : ¬ m = 0) : upV n ⟨b, m, r⟩ = wIntV (upW n ⟨b, m, r⟩) /\ upB n ⟨b, m, r⟩ = wIntB (upW n ⟨b, m, r⟩) /\ dnV n ⟨b, m, r⟩ = wIntV (dnW n ⟨b, m, r⟩) /\ dnB n ⟨b, m, r⟩ = wIntB (dnW n ⟨b, m, r⟩) := by unfold upV upB dnV dnB; simp [hm]
end Go.Proofs.YtakcacejpbiogaaGreatDoor
