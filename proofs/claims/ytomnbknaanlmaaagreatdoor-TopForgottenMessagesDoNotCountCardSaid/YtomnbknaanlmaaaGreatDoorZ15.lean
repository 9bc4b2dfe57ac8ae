/- Contracts of the kit, laid at this program (written by the tool lay-plain and a program of ours): texts, numbers, the builder. -/
import Derived.Shelf.Strings.Builder1
import Derived.Shelf.Strings.Builder2
import Derived.Shelf.Strings.OnBuilder
import Derived.Shelf.Small.Utf8
import Derived.Shelf.Small.Bits
import Derived.Shelf.Small.Strs
import Derived.Shelf.Strings.BuilderF
import Derived.Shelf.Strings.BuilderK
import Derived.Shelf.Strings.BuilderRune
import Derived.Shelf.Utf8.RuneCount
import Derived.Shelf.Strings.Builder2Cap
import Derived.Shelf.Strconv.Atoi
import Derived.Shelf.Strconv.Itoa0
import Derived.Shelf.Strconv.Itoa1
import Derived.Shelf.LaysM
import Derived.Shelf.Strconv.Itoa2
import Derived.Shelf.Strconv.Itoa3
import Derived.Shelf.Strconv.AtoiErrFast
import Derived.Shelf.Strconv.ParseIntEmpty
import Derived.Shelf.Strconv.AtoiFail
import Derived.Shelf.Strconv.Clone
import Derived.Shelf.Strconv.SyntaxError
import Derived.Shelf.LaysC
import Derived.Shelf.Strconv.ToError
import Derived.Shelf.Strconv.Lower
import Derived.Shelf.Strconv.ParseUint10
import Derived.Shelf.Strconv.ParseUint10Empty
import Derived.Shelf.Strconv.ParseUint10Any
import Derived.Shelf.Strconv.ParseInt10
import Derived.Shelf.Strconv.AtoiLong
import Derived.Shelf.Strconv.AtoiInnerAll
import Derived.Shelf.Strconv.RangeError
import Derived.Shelf.Strconv.ToErrorRange
import Derived.Shelf.Strconv.AtoiAll
import Derived.Shelf.Strings.Search1
import Derived.Shelf.Strings.Search2
import Derived.Shelf.Strings.Search3
import Derived.Shelf.Strings.Cut
import Derived.Shelf.Strings.Shaped
import Derived.Shelf.Sort.Plain
import Derived.Shelf.Strings.Prefix
import Derived.Shelf.Unicode.Latin
import Derived.Shelf.Unicode.Props
import Derived.Shelf.Unicode.Decode
import Derived.Shelf.Strings.Runes
import Derived.Shelf.Strings.RuneCount
import Derived.Shelf.Strings.IndexAny
import Derived.Shelf.Strings.AsciiSet
import Derived.Shelf.Strings.IndexAnyAll
import Derived.Shelf.Bits.Mul64
import Derived.Shelf.Strings.Repeat
import Derived.Shelf.Unicode.DecodeSlow
import Derived.Shelf.Unicode.DecodeAny
import Derived.Shelf.Unicode.Is16White
import Derived.Shelf.Unicode.IsSpaceAny
import Derived.Shelf.Strings.FieldsFuncAny
import Derived.Shelf.Unicode.CaseLookup
import Derived.Shelf.Unicode.CaseConvert
import Derived.Shelf.Unicode.CaseTo
import Derived.Shelf.Unicode.CaseLaid
import Derived.Shelf.Strings.MapAny
import Derived.Shelf.Unicode.Is16Any
import Derived.Shelf.Unicode.Is32Any
import Derived.Shelf.Unicode.ExclAny
import Derived.Shelf.Unicode.PredsAny
import Derived.Shelf.Strings.FieldsFuncGrows
import Derived.Shelf.Unicode.PredsPay
import Derived.Shelf.Strings.BuilderCap
import Derived.Shelf.Strings.MapGrows
import Derived.Ground.Names2Prog
import Derived.Shelf.Slices.Clone
import Derived.Shelf.Slices.CompactS
import Derived.Shelf.Slices.Cells
import Derived.Shelf.Slices.In.SortNone
import Derived.Shelf.Bytes.SlIndexSmall
import Derived.Shelf.Bytes.SlIndexAt
import Derived.Shelf.Bytes.SlSearch0
import Derived.Shelf.Bytes.SlSearch1
import Derived.Shelf.Bytes.SlSearch2
import Derived.Shelf.Bytes.SlIndexWhole
import Derived.Ground.SlgnProg
import Derived.Shelf.SlicesE.Clone
import Derived.Shelf.Bytes.Small
import Derived.Shelf.Bytes.IndexByte
import Derived.Test.YtomnbknaanlmaaaGreatDoorZ00
import Derived.Test.YtomnbknaanlmaaaGreatDoorChecked
import Derived.Lib.MapLaws
import Derived.Lib.TrimUEq
import Derived.Lib.RuneCount
import Derived.Test.YtomnbknaanlmaaaGreatDoorZ09
import Derived.LoopTactic
import Derived.Deep.QuietTactic
import Derived.BigQuiet
import Derived.RangeFuncRecord
import Derived.RangeFuncSeq
import Derived.RangeFuncLeaves
import Derived.WalkKit
import Derived.TacticsIn
import Derived.BigFrameIn
import Derived.LoopNIn
import Derived.Sort.LoopGhostIn
import Derived.BigRegionIn
import Derived.Shelf.RegionOpen
import Derived.RangeFuncCalls
namespace Go.Proofs.YtomnbknaanlmaaaGreatDoor
open Go.Shelf
set_option maxRecDepth 100000
def lays144_ren : Go.Shelf.Ren := ⟨fun | 144 => 216 | 143 => 232 | 219 => 221 | 217 => 130 | 225 => 236 | 224 => 227 | 267 => 237 | 266 => 164 | 314 => 253 | n => n, fun | 9 => 9 | 4 => 4 | 3 => 3 | 5 => 5 | 46 => 119 | 146 => 280 | 51 => 120 | n => n, fun | 1 => 4 | n => n⟩
theorem lays144 : Go.Proofs.Lays.n144 Tryz.prog lays144_ren := {
  mixed := by kernel_rfl
  f143 := Tryz.func232.trans (congrArg some (by kernel_rfl))
  f144 := Tryz.func216.trans (congrArg some (by kernel_rfl))
  f217 := Tryz.func130.trans (congrArg some (by kernel_rfl))
  f219 := Tryz.func221.trans (congrArg some (by kernel_rfl))
  f224 := Tryz.func227.trans (congrArg some (by kernel_rfl))
  f225 := Tryz.func236.trans (congrArg some (by kernel_rfl))
  f266 := Tryz.func164.trans (congrArg some (by kernel_rfl))
  f267 := Tryz.func237.trans (congrArg some (by kernel_rfl))
  f314 := Tryz.func253.trans (congrArg some (by kernel_rfl))
  t3 := Tryz.underlying3
  a3 := Tryz.isAgg3
  z3 := Tryz.sizeOf3
  v3 := Tryz.zeroValue3
  t4 := Tryz.underlying4
  a4 := Tryz.isAgg4
  z4 := Tryz.sizeOf4
  v4 := Tryz.zeroValue4
  t5 := Tryz.underlying5
  a5 := Tryz.isAgg5
  z5 := Tryz.sizeOf5
  v5 := Tryz.zeroValue5
  t9 := Tryz.underlying9
  a9 := Tryz.isAgg9
  z9 := Tryz.sizeOf9
  v9 := Tryz.zeroValue9
  t46 := Tryz.underlying119
  a46 := Tryz.isAgg119
  z46 := Tryz.sizeOf119
  v46 := Tryz.zeroValue119
  t51 := Tryz.underlying120
  a51 := Tryz.isAgg120
  z51 := Tryz.sizeOf120
  v51 := Tryz.zeroValue120
  t146 := Tryz.underlying280
  a146 := Tryz.isAgg280
  z146 := Tryz.sizeOf280
  v146 := Tryz.zeroValue280
  g1 := by kernel_rfl }
def lays145_ren : Go.Shelf.Ren := ⟨fun | 145 => 182 | 220 => 204 | 219 => 221 | 217 => 130 | 225 => 236 | 224 => 227 | 267 => 237 | 266 => 164 | 314 => 253 | n => n, fun | 9 => 9 | 4 => 4 | 59 => 251 | 3 => 3 | 5 => 5 | 46 => 119 | 146 => 280 | 51 => 120 | n => n, fun | 1 => 4 | n => n⟩
theorem lays145 : Go.Proofs.Lays.n145 Tryz.prog lays145_ren := {
  mixed := by kernel_rfl
  f145 := Tryz.func182.trans (congrArg some (by kernel_rfl))
  f217 := Tryz.func130.trans (congrArg some (by kernel_rfl))
  f219 := Tryz.func221.trans (congrArg some (by kernel_rfl))
  f220 := Tryz.func204.trans (congrArg some (by kernel_rfl))
  f224 := Tryz.func227.trans (congrArg some (by kernel_rfl))
  f225 := Tryz.func236.trans (congrArg some (by kernel_rfl))
  f266 := Tryz.func164.trans (congrArg some (by kernel_rfl))
  f267 := Tryz.func237.trans (congrArg some (by kernel_rfl))
  f314 := Tryz.func253.trans (congrArg some (by kernel_rfl))
  t3 := Tryz.underlying3
  a3 := Tryz.isAgg3
  z3 := Tryz.sizeOf3
  v3 := Tryz.zeroValue3
  t4 := Tryz.underlying4
  a4 := Tryz.isAgg4
  z4 := Tryz.sizeOf4
  v4 := Tryz.zeroValue4
  t5 := Tryz.underlying5
  a5 := Tryz.isAgg5
  z5 := Tryz.sizeOf5
  v5 := Tryz.zeroValue5
  t9 := Tryz.underlying9
  a9 := Tryz.isAgg9
  z9 := Tryz.sizeOf9
  v9 := Tryz.zeroValue9
  t46 := Tryz.underlying119
  a46 := Tryz.isAgg119
  z46 := Tryz.sizeOf119
  v46 := Tryz.zeroValue119
  t51 := Tryz.underlying120
  a51 := Tryz.isAgg120
  z51 := Tryz.sizeOf120
  v51 := Tryz.zeroValue120
  t59 := Tryz.underlying251
  a59 := Tryz.isAgg251
  z59 := Tryz.sizeOf251
  v59 := Tryz.zeroValue251
  t146 := Tryz.underlying280
  a146 := Tryz.isAgg280
  z146 := Tryz.sizeOf280
  v146 := Tryz.zeroValue280
  g1 := by kernel_rfl }
def lays137_ren : Go.Shelf.Ren := ⟨fun | 137 => 88 | 217 => 130 | 266 => 164 | n => n, fun | 9 => 9 | 5 => 5 | 3 => 3 | n => n, fun | n => n⟩
theorem lays137 : Go.Proofs.Lays.n137 Tryz.prog lays137_ren := {
  mixed := by kernel_rfl
  f137 := Tryz.func88.trans (congrArg some (by kernel_rfl))
  f217 := Tryz.func130.trans (congrArg some (by kernel_rfl))
  f266 := Tryz.func164.trans (congrArg some (by kernel_rfl))
  t3 := Tryz.underlying3
  a3 := Tryz.isAgg3
  z3 := Tryz.sizeOf3
  v3 := Tryz.zeroValue3
  t5 := Tryz.underlying5
  a5 := Tryz.isAgg5
  z5 := Tryz.sizeOf5
  v5 := Tryz.zeroValue5
  t9 := Tryz.underlying9
  a9 := Tryz.isAgg9
  z9 := Tryz.sizeOf9
  v9 := Tryz.zeroValue9 }
def lays119_ren : Go.Shelf.Ren := ⟨fun | 119 => 254 | n => n, fun | 21 => 21 | 4 => 4 | n => n, fun | n => n⟩
theorem lays119 : Go.Proofs.Lays.n119 Tryz.prog lays119_ren := {
  mixed := by kernel_rfl
  f119 := Tryz.func254.trans (congrArg some (by kernel_rfl))
  t4 := Tryz.underlying4
  a4 := Tryz.isAgg4
  z4 := Tryz.sizeOf4
  v4 := Tryz.zeroValue4
  t21 := Tryz.underlying21
  a21 := Tryz.isAgg21
  z21 := Tryz.sizeOf21
  v21 := Tryz.zeroValue21 }
def lays152_ren : Go.Shelf.Ren := ⟨fun | 152 => 238 | 137 => 88 | 119 => 254 | 224 => 227 | 225 => 236 | 217 => 130 | 266 => 164 | n => n, fun | 9 => 9 | 21 => 21 | 3 => 3 | 4 => 4 | 5 => 5 | 0 => 0 | 46 => 119 | n => n, fun | n => n⟩
theorem lays152 : Go.Proofs.Lays.n152 Tryz.prog lays152_ren := {
  mixed := by kernel_rfl
  f119 := Tryz.func254.trans (congrArg some (by kernel_rfl))
  f137 := Tryz.func88.trans (congrArg some (by kernel_rfl))
  f152 := Tryz.func238.trans (congrArg some (by kernel_rfl))
  f217 := Tryz.func130.trans (congrArg some (by kernel_rfl))
  f224 := Tryz.func227.trans (congrArg some (by kernel_rfl))
  f225 := Tryz.func236.trans (congrArg some (by kernel_rfl))
  f266 := Tryz.func164.trans (congrArg some (by kernel_rfl))
  t0 := Tryz.underlying0
  a0 := Tryz.isAgg0
  z0 := Tryz.sizeOf0
  v0 := Tryz.zeroValue0
  t3 := Tryz.underlying3
  a3 := Tryz.isAgg3
  z3 := Tryz.sizeOf3
  v3 := Tryz.zeroValue3
  t4 := Tryz.underlying4
  a4 := Tryz.isAgg4
  z4 := Tryz.sizeOf4
  v4 := Tryz.zeroValue4
  t5 := Tryz.underlying5
  a5 := Tryz.isAgg5
  z5 := Tryz.sizeOf5
  v5 := Tryz.zeroValue5
  t9 := Tryz.underlying9
  a9 := Tryz.isAgg9
  z9 := Tryz.sizeOf9
  v9 := Tryz.zeroValue9
  t21 := Tryz.underlying21
  a21 := Tryz.isAgg21
  z21 := Tryz.sizeOf21
  v21 := Tryz.zeroValue21
  t46 := Tryz.underlying119
  a46 := Tryz.isAgg119
  z46 := Tryz.sizeOf119
  v46 := Tryz.zeroValue119 }
def lays153_ren : Go.Shelf.Ren := ⟨fun | 153 => 222 | 152 => 238 | 226 => 239 | 227 => 240 | 228 => 241 | 137 => 88 | 119 => 254 | 224 => 227 | 225 => 236 | 217 => 130 | 266 => 164 | n => n, fun | 9 => 9 | 3 => 3 | 4 => 4 | 5 => 5 | 21 => 21 | 117 => 301 | 116 => 300 | 0 => 0 | 46 => 119 | 124 => 315 | n => n, fun | n => n⟩
theorem lays153 : Go.Proofs.Lays.n153 Tryz.prog lays153_ren := {
  mixed := by kernel_rfl
  f119 := Tryz.func254.trans (congrArg some (by kernel_rfl))
  f137 := Tryz.func88.trans (congrArg some (by kernel_rfl))
  f152 := Tryz.func238.trans (congrArg some (by kernel_rfl))
  f153 := Tryz.func222.trans (congrArg some (by kernel_rfl))
  f217 := Tryz.func130.trans (congrArg some (by kernel_rfl))
  f224 := Tryz.func227.trans (congrArg some (by kernel_rfl))
  f225 := Tryz.func236.trans (congrArg some (by kernel_rfl))
  f226 := Tryz.func239.trans (congrArg some (by kernel_rfl))
  f227 := Tryz.func240.trans (congrArg some (by kernel_rfl))
  f228 := Tryz.func241.trans (congrArg some (by kernel_rfl))
  f266 := Tryz.func164.trans (congrArg some (by kernel_rfl))
  t0 := Tryz.underlying0
  a0 := Tryz.isAgg0
  z0 := Tryz.sizeOf0
  v0 := Tryz.zeroValue0
  t3 := Tryz.underlying3
  a3 := Tryz.isAgg3
  z3 := Tryz.sizeOf3
  v3 := Tryz.zeroValue3
  t4 := Tryz.underlying4
  a4 := Tryz.isAgg4
  z4 := Tryz.sizeOf4
  v4 := Tryz.zeroValue4
  t5 := Tryz.underlying5
  a5 := Tryz.isAgg5
  z5 := Tryz.sizeOf5
  v5 := Tryz.zeroValue5
  t9 := Tryz.underlying9
  a9 := Tryz.isAgg9
  z9 := Tryz.sizeOf9
  v9 := Tryz.zeroValue9
  t21 := Tryz.underlying21
  a21 := Tryz.isAgg21
  z21 := Tryz.sizeOf21
  v21 := Tryz.zeroValue21
  t46 := Tryz.underlying119
  a46 := Tryz.isAgg119
  z46 := Tryz.sizeOf119
  v46 := Tryz.zeroValue119
  t116 := Tryz.underlying300
  a116 := Tryz.isAgg300
  z116 := Tryz.sizeOf300
  t117 := Tryz.underlying301
  a117 := Tryz.isAgg301
  z117 := Tryz.sizeOf301
  v117 := Tryz.zeroValue301
  t124 := Tryz.underlying315
  a124 := Tryz.isAgg315
  z124 := Tryz.sizeOf315
  v124 := Tryz.zeroValue315 }
def lays106_ren : Go.Shelf.Ren := ⟨fun | 106 => 55 | 213 => 99 | 265 => 144 | n => n, fun | 9 => 9 | 3 => 3 | n => n, fun | n => n⟩
theorem lays106 : Go.Proofs.Lays.n106 Tryz.prog lays106_ren := {
  mixed := by kernel_rfl
  f106 := Tryz.func55.trans (congrArg some (by kernel_rfl))
  f213 := Tryz.func99.trans (congrArg some (by kernel_rfl))
  f265 := Tryz.func144.trans (congrArg some (by kernel_rfl))
  t3 := Tryz.underlying3
  a3 := Tryz.isAgg3
  z3 := Tryz.sizeOf3
  v3 := Tryz.zeroValue3
  t9 := Tryz.underlying9
  a9 := Tryz.isAgg9
  z9 := Tryz.sizeOf9
  v9 := Tryz.zeroValue9 }
def laysM171_ren : Go.Shelf.Ren := ⟨fun | 171 => 202 | 243 => 219 | 246 => 234 | 283 => 249 | 284 => 250 | 285 => 251 | 286 => 252 | 129 => 113 | 317 => 258 | 318 => 259 | 319 => 260 | 320 => 261 | 337 => 264 | 338 => 265 | n => n, fun | 3 => 3 | 9 => 9 | 2 => 2 | 4 => 4 | 171 => 310 | 0 => 0 | 53 => 52 | 37 => 47 | 5 => 5 | 173 => 312 | 212 => 322 | 51 => 120 | 20 => 20 | 213 => 323 | 46 => 119 | 232 => 328 | 233 => 329 | n => n, fun | 17 => 9 | 18 => 10 | 19 => 11 | n => n⟩
theorem laysM171 : Go.Proofs.LaysM.n171 Tryz.prog laysM171_ren := {
  mixed := by kernel_rfl
  f129 := Tryz.func113.trans (congrArg some (by kernel_rfl))
  f171 := Tryz.func202.trans (congrArg some (by kernel_rfl))
  f243 := Tryz.func219.trans (congrArg some (by kernel_rfl))
  f246 := Tryz.func234.trans (congrArg some (by kernel_rfl))
  f283 := Tryz.func249.trans (congrArg some (by kernel_rfl))
  f284 := Tryz.func250.trans (congrArg some (by kernel_rfl))
  f285 := Tryz.func251.trans (congrArg some (by kernel_rfl))
  f286 := Tryz.func252.trans (congrArg some (by kernel_rfl))
  f317 := Tryz.func258.trans (congrArg some (by kernel_rfl))
  f318 := Tryz.func259.trans (congrArg some (by kernel_rfl))
  f319 := Tryz.func260.trans (congrArg some (by kernel_rfl))
  f320 := Tryz.func261.trans (congrArg some (by kernel_rfl))
  f337 := Tryz.func264.trans (congrArg some (by kernel_rfl))
  f338 := Tryz.func265.trans (congrArg some (by kernel_rfl))
  t0 := Tryz.underlying0
  a0 := Tryz.isAgg0
  z0 := Tryz.sizeOf0
  v0 := Tryz.zeroValue0
  t2 := Tryz.underlying2
  a2 := Tryz.isAgg2
  z2 := Tryz.sizeOf2
  v2 := Tryz.zeroValue2
  t3 := Tryz.underlying3
  a3 := Tryz.isAgg3
  z3 := Tryz.sizeOf3
  v3 := Tryz.zeroValue3
  t4 := Tryz.underlying4
  a4 := Tryz.isAgg4
  z4 := Tryz.sizeOf4
  v4 := Tryz.zeroValue4
  t5 := Tryz.underlying5
  a5 := Tryz.isAgg5
  z5 := Tryz.sizeOf5
  v5 := Tryz.zeroValue5
  t9 := Tryz.underlying9
  a9 := Tryz.isAgg9
  z9 := Tryz.sizeOf9
  v9 := Tryz.zeroValue9
  t20 := Tryz.underlying20
  a20 := Tryz.isAgg20
  z20 := Tryz.sizeOf20
  v20 := Tryz.zeroValue20
  t37 := Tryz.underlying47
  a37 := Tryz.isAgg47
  z37 := Tryz.sizeOf47
  v37 := Tryz.zeroValue47
  t46 := Tryz.underlying119
  a46 := Tryz.isAgg119
  z46 := Tryz.sizeOf119
  v46 := Tryz.zeroValue119
  t51 := Tryz.underlying120
  a51 := Tryz.isAgg120
  z51 := Tryz.sizeOf120
  v51 := Tryz.zeroValue120
  t53 := Tryz.underlying52
  a53 := Tryz.isAgg52
  z53 := Tryz.sizeOf52
  v53 := Tryz.zeroValue52
  t171 := Tryz.underlying310
  a171 := Tryz.isAgg310
  z171 := Tryz.sizeOf310
  v171 := Tryz.zeroValue310
  t173 := Tryz.underlying312
  a173 := Tryz.isAgg312
  z173 := Tryz.sizeOf312
  v173 := Tryz.zeroValue312
  t212 := Tryz.underlying322
  a212 := Tryz.isAgg322
  z212 := Tryz.sizeOf322
  v212 := Tryz.zeroValue322
  t213 := Tryz.underlying323
  a213 := Tryz.isAgg323
  z213 := Tryz.sizeOf323
  t232 := Tryz.underlying328
  a232 := Tryz.isAgg328
  z232 := Tryz.sizeOf328
  v232 := Tryz.zeroValue328
  t233 := Tryz.underlying329
  a233 := Tryz.isAgg329
  z233 := Tryz.sizeOf329
  v233 := Tryz.zeroValue329
  g17 := by kernel_rfl
  g18 := by kernel_rfl
  g19 := by kernel_rfl
  i0 := by kernel_rfl
  i2 := by kernel_rfl
  i3 := by kernel_rfl
  i4 := by kernel_rfl
  i5 := by kernel_rfl
  i9 := by kernel_rfl
  i20 := by kernel_rfl
  i37 := by kernel_rfl
  i46 := by kernel_rfl
  i51 := by kernel_rfl
  i53 := by kernel_rfl
  i171 := by kernel_rfl
  i173 := by kernel_rfl
  i212 := by kernel_rfl
  i232 := by kernel_rfl
  i233 := by kernel_rfl
  m17 := by kernel_rfl
  m18 := by kernel_rfl
  m19 := by kernel_rfl }
def laysC172_ren : Go.Shelf.Ren := ⟨fun | 172 => 213 | 244 => 230 | 245 => 231 | 247 => 244 | 279 => 245 | 280 => 246 | 281 => 247 | 282 => 248 | 287 => 255 | 316 => 256 | 171 => 202 | 205 => 257 | 321 => 262 | 322 => 263 | 243 => 219 | 246 => 234 | 283 => 249 | 284 => 250 | 285 => 251 | 286 => 252 | 129 => 113 | 317 => 258 | 318 => 259 | 319 => 260 | 320 => 261 | 337 => 264 | 338 => 265 | n => n, fun | 9 => 9 | 3 => 3 | 75 => 135 | 76 => 136 | 4 => 4 | 5 => 5 | 167 => 304 | 37 => 47 | 0 => 0 | 85 => 305 | 2 => 2 | 168 => 307 | 53 => 52 | 175 => 316 | 46 => 119 | 210 => 319 | 127 => 200 | 145 => 327 | 143 => 325 | 21 => 21 | 171 => 310 | 173 => 312 | 212 => 322 | 51 => 120 | 20 => 20 | 213 => 323 | 232 => 328 | 233 => 329 | 80 => 141 | n => n, fun | 15 => 7 | 16 => 8 | 17 => 9 | 18 => 10 | 19 => 11 | n => n⟩
theorem laysC172 : Go.Proofs.LaysC.n172 Tryz.prog laysC172_ren := {
  mixed := by kernel_rfl
  f129 := Tryz.func113.trans (congrArg some (by kernel_rfl))
  f171 := Tryz.func202.trans (congrArg some (by kernel_rfl))
  f172 := Tryz.func213.trans (congrArg some (by kernel_rfl))
  f205 := Tryz.func257.trans (congrArg some (by kernel_rfl))
  f243 := Tryz.func219.trans (congrArg some (by kernel_rfl))
  f244 := Tryz.func230.trans (congrArg some (by kernel_rfl))
  f245 := Tryz.func231.trans (congrArg some (by kernel_rfl))
  f246 := Tryz.func234.trans (congrArg some (by kernel_rfl))
  f247 := Tryz.func244.trans (congrArg some (by kernel_rfl))
  f279 := Tryz.func245.trans (congrArg some (by kernel_rfl))
  f280 := Tryz.func246.trans (congrArg some (by kernel_rfl))
  f281 := Tryz.func247.trans (congrArg some (by kernel_rfl))
  f282 := Tryz.func248.trans (congrArg some (by kernel_rfl))
  f283 := Tryz.func249.trans (congrArg some (by kernel_rfl))
  f284 := Tryz.func250.trans (congrArg some (by kernel_rfl))
  f285 := Tryz.func251.trans (congrArg some (by kernel_rfl))
  f286 := Tryz.func252.trans (congrArg some (by kernel_rfl))
  f287 := Tryz.func255.trans (congrArg some (by kernel_rfl))
  f316 := Tryz.func256.trans (congrArg some (by kernel_rfl))
  f317 := Tryz.func258.trans (congrArg some (by kernel_rfl))
  f318 := Tryz.func259.trans (congrArg some (by kernel_rfl))
  f319 := Tryz.func260.trans (congrArg some (by kernel_rfl))
  f320 := Tryz.func261.trans (congrArg some (by kernel_rfl))
  f321 := Tryz.func262.trans (congrArg some (by kernel_rfl))
  f322 := Tryz.func263.trans (congrArg some (by kernel_rfl))
  f337 := Tryz.func264.trans (congrArg some (by kernel_rfl))
  f338 := Tryz.func265.trans (congrArg some (by kernel_rfl))
  t0 := Tryz.underlying0
  a0 := Tryz.isAgg0
  z0 := Tryz.sizeOf0
  v0 := Tryz.zeroValue0
  t2 := Tryz.underlying2
  a2 := Tryz.isAgg2
  z2 := Tryz.sizeOf2
  v2 := Tryz.zeroValue2
  t3 := Tryz.underlying3
  a3 := Tryz.isAgg3
  z3 := Tryz.sizeOf3
  v3 := Tryz.zeroValue3
  t4 := Tryz.underlying4
  a4 := Tryz.isAgg4
  z4 := Tryz.sizeOf4
  v4 := Tryz.zeroValue4
  t5 := Tryz.underlying5
  a5 := Tryz.isAgg5
  z5 := Tryz.sizeOf5
  v5 := Tryz.zeroValue5
  t9 := Tryz.underlying9
  a9 := Tryz.isAgg9
  z9 := Tryz.sizeOf9
  v9 := Tryz.zeroValue9
  t20 := Tryz.underlying20
  a20 := Tryz.isAgg20
  z20 := Tryz.sizeOf20
  v20 := Tryz.zeroValue20
  t21 := Tryz.underlying21
  a21 := Tryz.isAgg21
  z21 := Tryz.sizeOf21
  v21 := Tryz.zeroValue21
  t37 := Tryz.underlying47
  a37 := Tryz.isAgg47
  z37 := Tryz.sizeOf47
  v37 := Tryz.zeroValue47
  t46 := Tryz.underlying119
  a46 := Tryz.isAgg119
  z46 := Tryz.sizeOf119
  v46 := Tryz.zeroValue119
  t51 := Tryz.underlying120
  a51 := Tryz.isAgg120
  z51 := Tryz.sizeOf120
  v51 := Tryz.zeroValue120
  t53 := Tryz.underlying52
  a53 := Tryz.isAgg52
  z53 := Tryz.sizeOf52
  v53 := Tryz.zeroValue52
  t75 := Tryz.underlying135
  a75 := Tryz.isAgg135
  z75 := Tryz.sizeOf135
  v75 := Tryz.zeroValue135
  t76 := Tryz.underlying136
  a76 := Tryz.isAgg136
  z76 := Tryz.sizeOf136
  v76 := Tryz.zeroValue136
  t85 := Tryz.underlying305
  a85 := Tryz.isAgg305
  z85 := Tryz.sizeOf305
  v85 := Tryz.zeroValue305
  t127 := Tryz.underlying200
  a127 := Tryz.isAgg200
  z127 := Tryz.sizeOf200
  v127 := Tryz.zeroValue200
  t143 := Tryz.underlying325
  a143 := Tryz.isAgg325
  z143 := Tryz.sizeOf325
  v143 := Tryz.zeroValue325
  t145 := Tryz.underlying327
  a145 := Tryz.isAgg327
  z145 := Tryz.sizeOf327
  v145 := Tryz.zeroValue327
  t167 := Tryz.underlying304
  a167 := Tryz.isAgg304
  z167 := Tryz.sizeOf304
  v167 := Tryz.zeroValue304
  t168 := Tryz.underlying307
  a168 := Tryz.isAgg307
  z168 := Tryz.sizeOf307
  v168 := Tryz.zeroValue307
  t171 := Tryz.underlying310
  a171 := Tryz.isAgg310
  z171 := Tryz.sizeOf310
  v171 := Tryz.zeroValue310
  t173 := Tryz.underlying312
  a173 := Tryz.isAgg312
  z173 := Tryz.sizeOf312
  v173 := Tryz.zeroValue312
  t175 := Tryz.underlying316
  a175 := Tryz.isAgg316
  z175 := Tryz.sizeOf316
  v175 := Tryz.zeroValue316
  t210 := Tryz.underlying319
  a210 := Tryz.isAgg319
  z210 := Tryz.sizeOf319
  v210 := Tryz.zeroValue319
  t212 := Tryz.underlying322
  a212 := Tryz.isAgg322
  z212 := Tryz.sizeOf322
  v212 := Tryz.zeroValue322
  t213 := Tryz.underlying323
  a213 := Tryz.isAgg323
  z213 := Tryz.sizeOf323
  t232 := Tryz.underlying328
  a232 := Tryz.isAgg328
  z232 := Tryz.sizeOf328
  v232 := Tryz.zeroValue328
  t233 := Tryz.underlying329
  a233 := Tryz.isAgg329
  z233 := Tryz.sizeOf329
  v233 := Tryz.zeroValue329
  g15 := by kernel_rfl
  g16 := by kernel_rfl
  g17 := by kernel_rfl
  g18 := by kernel_rfl
  g19 := by kernel_rfl
  t80 := Tryz.underlying141
  a80 := Tryz.isAgg141
  z80 := Tryz.sizeOf141
  v80 := Tryz.zeroValue141
  i0 := by kernel_rfl
  i2 := by kernel_rfl
  i3 := by kernel_rfl
  i4 := by kernel_rfl
  i5 := by kernel_rfl
  i9 := by kernel_rfl
  i20 := by kernel_rfl
  i21 := by kernel_rfl
  i37 := by kernel_rfl
  i46 := by kernel_rfl
  i51 := by kernel_rfl
  i53 := by kernel_rfl
  i75 := by kernel_rfl
  i76 := by kernel_rfl
  i80 := by kernel_rfl
  i85 := by kernel_rfl
  i127 := by kernel_rfl
  i143 := by kernel_rfl
  i145 := by kernel_rfl
  i167 := by kernel_rfl
  i168 := by kernel_rfl
  i171 := by kernel_rfl
  i173 := by kernel_rfl
  i175 := by kernel_rfl
  i210 := by kernel_rfl
  i212 := by kernel_rfl
  i232 := by kernel_rfl
  i233 := by kernel_rfl
  m15 := by kernel_rfl
  m16 := by kernel_rfl
  m17 := by kernel_rfl
  m18 := by kernel_rfl
  m19 := by kernel_rfl
  c0 := by kernel_rfl
  c2 := by kernel_rfl
  c3 := by kernel_rfl
  c4 := by kernel_rfl
  c5 := by kernel_rfl
  c9 := by kernel_rfl
  c20 := by kernel_rfl
  c21 := by kernel_rfl
  c37 := by kernel_rfl
  c46 := by kernel_rfl
  c51 := by kernel_rfl
  c53 := by kernel_rfl
  c75 := by kernel_rfl
  c76 := by kernel_rfl
  c80 := by kernel_rfl
  c85 := by kernel_rfl
  c127 := by kernel_rfl
  c143 := by kernel_rfl
  c145 := by kernel_rfl
  c167 := by kernel_rfl
  c168 := by kernel_rfl
  c171 := by kernel_rfl
  c173 := by kernel_rfl
  c175 := by kernel_rfl
  c210 := by kernel_rfl
  c212 := by kernel_rfl
  c213 := by kernel_rfl
  c232 := by kernel_rfl
  c233 := by kernel_rfl }
def lays156_ren : Go.Shelf.Ren := ⟨fun | 156 => 83 | 165 => 66 | 166 => 67 | 169 => 71 | 240 => 117 | 241 => 118 | 276 => 153 | 277 => 154 | n => n, fun | 31 => 25 | 9 => 9 | 3 => 3 | 4 => 4 | 0 => 0 | 20 => 20 | 72 => 129 | 76 => 136 | 70 => 127 | 37 => 47 | 75 => 135 | 127 => 200 | 164 => 232 | 5 => 5 | 80 => 141 | n => n, fun | n => n⟩
theorem lays156 : Go.Proofs.Lays.n156 Tryz.prog lays156_ren := {
  mixed := by kernel_rfl
  f156 := Tryz.func83.trans (congrArg some (by kernel_rfl))
  f165 := Tryz.func66.trans (congrArg some (by kernel_rfl))
  f166 := Tryz.func67.trans (congrArg some (by kernel_rfl))
  f169 := Tryz.func71.trans (congrArg some (by kernel_rfl))
  f240 := Tryz.func117.trans (congrArg some (by kernel_rfl))
  f241 := Tryz.func118.trans (congrArg some (by kernel_rfl))
  f276 := Tryz.func153.trans (congrArg some (by kernel_rfl))
  f277 := Tryz.func154.trans (congrArg some (by kernel_rfl))
  t0 := Tryz.underlying0
  a0 := Tryz.isAgg0
  z0 := Tryz.sizeOf0
  v0 := Tryz.zeroValue0
  t3 := Tryz.underlying3
  a3 := Tryz.isAgg3
  z3 := Tryz.sizeOf3
  v3 := Tryz.zeroValue3
  t4 := Tryz.underlying4
  a4 := Tryz.isAgg4
  z4 := Tryz.sizeOf4
  v4 := Tryz.zeroValue4
  t9 := Tryz.underlying9
  a9 := Tryz.isAgg9
  z9 := Tryz.sizeOf9
  v9 := Tryz.zeroValue9
  t20 := Tryz.underlying20
  a20 := Tryz.isAgg20
  z20 := Tryz.sizeOf20
  v20 := Tryz.zeroValue20
  t31 := Tryz.underlying25
  a31 := Tryz.isAgg25
  z31 := Tryz.sizeOf25
  v31 := Tryz.zeroValue25
  t37 := Tryz.underlying47
  a37 := Tryz.isAgg47
  z37 := Tryz.sizeOf47
  v37 := Tryz.zeroValue47
  t70 := Tryz.underlying127
  a70 := Tryz.isAgg127
  z70 := Tryz.sizeOf127
  v70 := Tryz.zeroValue127
  t72 := Tryz.underlying129
  a72 := Tryz.isAgg129
  z72 := Tryz.sizeOf129
  v72 := Tryz.zeroValue129
  t75 := Tryz.underlying135
  a75 := Tryz.isAgg135
  z75 := Tryz.sizeOf135
  v75 := Tryz.zeroValue135
  t76 := Tryz.underlying136
  a76 := Tryz.isAgg136
  z76 := Tryz.sizeOf136
  v76 := Tryz.zeroValue136
  t127 := Tryz.underlying200
  a127 := Tryz.isAgg200
  z127 := Tryz.sizeOf200
  v127 := Tryz.zeroValue200
  t164 := Tryz.underlying232
  a164 := Tryz.isAgg232
  z164 := Tryz.sizeOf232
  v164 := Tryz.zeroValue232 }
def lays105_ren : Go.Shelf.Ren := ⟨fun | 105 => 163 | 212 => 190 | 99 => 191 | 165 => 66 | 166 => 67 | 170 => 192 | 169 => 71 | 263 => 210 | 264 => 211 | 206 => 212 | 240 => 117 | 241 => 118 | 276 => 153 | 277 => 154 | n => n, fun | 9 => 9 | 3 => 3 | 4 => 4 | 20 => 20 | 0 => 0 | 46 => 119 | 109 => 267 | 5 => 5 | 72 => 129 | 76 => 136 | 51 => 120 | 146 => 280 | 53 => 52 | 148 => 282 | 70 => 127 | 37 => 47 | 75 => 135 | 127 => 200 | 164 => 232 | 80 => 141 | n => n, fun | n => n⟩
theorem lays105 : Go.Proofs.Lays.n105 Tryz.prog lays105_ren := {
  mixed := by kernel_rfl
  f99 := Tryz.func191.trans (congrArg some (by kernel_rfl))
  f105 := Tryz.func163.trans (congrArg some (by kernel_rfl))
  f165 := Tryz.func66.trans (congrArg some (by kernel_rfl))
  f166 := Tryz.func67.trans (congrArg some (by kernel_rfl))
  f169 := Tryz.func71.trans (congrArg some (by kernel_rfl))
  f170 := Tryz.func192.trans (congrArg some (by kernel_rfl))
  f206 := Tryz.func212.trans (congrArg some (by kernel_rfl))
  f212 := Tryz.func190.trans (congrArg some (by kernel_rfl))
  f240 := Tryz.func117.trans (congrArg some (by kernel_rfl))
  f241 := Tryz.func118.trans (congrArg some (by kernel_rfl))
  f263 := Tryz.func210.trans (congrArg some (by kernel_rfl))
  f264 := Tryz.func211.trans (congrArg some (by kernel_rfl))
  f276 := Tryz.func153.trans (congrArg some (by kernel_rfl))
  f277 := Tryz.func154.trans (congrArg some (by kernel_rfl))
  t0 := Tryz.underlying0
  a0 := Tryz.isAgg0
  z0 := Tryz.sizeOf0
  v0 := Tryz.zeroValue0
  t3 := Tryz.underlying3
  a3 := Tryz.isAgg3
  z3 := Tryz.sizeOf3
  v3 := Tryz.zeroValue3
  t4 := Tryz.underlying4
  a4 := Tryz.isAgg4
  z4 := Tryz.sizeOf4
  v4 := Tryz.zeroValue4
  t5 := Tryz.underlying5
  a5 := Tryz.isAgg5
  z5 := Tryz.sizeOf5
  v5 := Tryz.zeroValue5
  t9 := Tryz.underlying9
  a9 := Tryz.isAgg9
  z9 := Tryz.sizeOf9
  v9 := Tryz.zeroValue9
  t20 := Tryz.underlying20
  a20 := Tryz.isAgg20
  z20 := Tryz.sizeOf20
  v20 := Tryz.zeroValue20
  t37 := Tryz.underlying47
  a37 := Tryz.isAgg47
  z37 := Tryz.sizeOf47
  v37 := Tryz.zeroValue47
  t46 := Tryz.underlying119
  a46 := Tryz.isAgg119
  z46 := Tryz.sizeOf119
  v46 := Tryz.zeroValue119
  t51 := Tryz.underlying120
  a51 := Tryz.isAgg120
  z51 := Tryz.sizeOf120
  v51 := Tryz.zeroValue120
  t53 := Tryz.underlying52
  a53 := Tryz.isAgg52
  z53 := Tryz.sizeOf52
  v53 := Tryz.zeroValue52
  t70 := Tryz.underlying127
  a70 := Tryz.isAgg127
  z70 := Tryz.sizeOf127
  v70 := Tryz.zeroValue127
  t72 := Tryz.underlying129
  a72 := Tryz.isAgg129
  z72 := Tryz.sizeOf129
  v72 := Tryz.zeroValue129
  t75 := Tryz.underlying135
  a75 := Tryz.isAgg135
  z75 := Tryz.sizeOf135
  v75 := Tryz.zeroValue135
  t76 := Tryz.underlying136
  a76 := Tryz.isAgg136
  z76 := Tryz.sizeOf136
  v76 := Tryz.zeroValue136
  t109 := Tryz.underlying267
  a109 := Tryz.isAgg267
  z109 := Tryz.sizeOf267
  v109 := Tryz.zeroValue267
  t127 := Tryz.underlying200
  a127 := Tryz.isAgg200
  z127 := Tryz.sizeOf200
  v127 := Tryz.zeroValue200
  t146 := Tryz.underlying280
  a146 := Tryz.isAgg280
  z146 := Tryz.sizeOf280
  v146 := Tryz.zeroValue280
  t148 := Tryz.underlying282
  a148 := Tryz.isAgg282
  z148 := Tryz.sizeOf282
  v148 := Tryz.zeroValue282
  t164 := Tryz.underlying232
  a164 := Tryz.isAgg232
  z164 := Tryz.sizeOf232
  v164 := Tryz.zeroValue232 }
def lays169_ren : Go.Shelf.Ren := ⟨fun | 169 => 71 | n => n, fun | 70 => 127 | 9 => 9 | 0 => 0 | 72 => 129 | 37 => 47 | 127 => 200 | 3 => 3 | 5 => 5 | n => n, fun | n => n⟩
theorem lays169 : Go.Proofs.Lays.n169 Tryz.prog lays169_ren := {
  mixed := by kernel_rfl
  f169 := Tryz.func71.trans (congrArg some (by kernel_rfl))
  t0 := Tryz.underlying0
  a0 := Tryz.isAgg0
  z0 := Tryz.sizeOf0
  v0 := Tryz.zeroValue0
  t3 := Tryz.underlying3
  a3 := Tryz.isAgg3
  z3 := Tryz.sizeOf3
  v3 := Tryz.zeroValue3
  t9 := Tryz.underlying9
  a9 := Tryz.isAgg9
  z9 := Tryz.sizeOf9
  v9 := Tryz.zeroValue9
  t37 := Tryz.underlying47
  a37 := Tryz.isAgg47
  z37 := Tryz.sizeOf47
  v37 := Tryz.zeroValue47
  t70 := Tryz.underlying127
  a70 := Tryz.isAgg127
  z70 := Tryz.sizeOf127
  v70 := Tryz.zeroValue127
  t72 := Tryz.underlying129
  a72 := Tryz.isAgg129
  z72 := Tryz.sizeOf129
  v72 := Tryz.zeroValue129
  t127 := Tryz.underlying200
  a127 := Tryz.isAgg200
  z127 := Tryz.sizeOf200
  v127 := Tryz.zeroValue200 }
def lays185_ren : Go.Shelf.Ren := ⟨fun | 185 => 208 | 187 => 224 | 115 => 225 | 253 => 226 | 224 => 227 | 254 => 228 | 255 => 242 | 291 => 243 | n => n, fun | 37 => 47 | 3 => 3 | 4 => 4 | 0 => 0 | 5 => 5 | 46 => 119 | 9 => 9 | 146 => 280 | 51 => 120 | n => n, fun | 1 => 4 | n => n⟩
theorem lays185 : Go.Proofs.Lays.n185 Tryz.prog lays185_ren := {
  mixed := by kernel_rfl
  f115 := Tryz.func225.trans (congrArg some (by kernel_rfl))
  f185 := Tryz.func208.trans (congrArg some (by kernel_rfl))
  f187 := Tryz.func224.trans (congrArg some (by kernel_rfl))
  f224 := Tryz.func227.trans (congrArg some (by kernel_rfl))
  f253 := Tryz.func226.trans (congrArg some (by kernel_rfl))
  f254 := Tryz.func228.trans (congrArg some (by kernel_rfl))
  f255 := Tryz.func242.trans (congrArg some (by kernel_rfl))
  f291 := Tryz.func243.trans (congrArg some (by kernel_rfl))
  t0 := Tryz.underlying0
  a0 := Tryz.isAgg0
  z0 := Tryz.sizeOf0
  v0 := Tryz.zeroValue0
  t3 := Tryz.underlying3
  a3 := Tryz.isAgg3
  z3 := Tryz.sizeOf3
  v3 := Tryz.zeroValue3
  t4 := Tryz.underlying4
  a4 := Tryz.isAgg4
  z4 := Tryz.sizeOf4
  v4 := Tryz.zeroValue4
  t5 := Tryz.underlying5
  a5 := Tryz.isAgg5
  z5 := Tryz.sizeOf5
  v5 := Tryz.zeroValue5
  t9 := Tryz.underlying9
  a9 := Tryz.isAgg9
  z9 := Tryz.sizeOf9
  v9 := Tryz.zeroValue9
  t37 := Tryz.underlying47
  a37 := Tryz.isAgg47
  z37 := Tryz.sizeOf47
  v37 := Tryz.zeroValue47
  t46 := Tryz.underlying119
  a46 := Tryz.isAgg119
  z46 := Tryz.sizeOf119
  v46 := Tryz.zeroValue119
  t51 := Tryz.underlying120
  a51 := Tryz.isAgg120
  z51 := Tryz.sizeOf120
  v51 := Tryz.zeroValue120
  t146 := Tryz.underlying280
  a146 := Tryz.isAgg280
  z146 := Tryz.sizeOf280
  v146 := Tryz.zeroValue280
  g1 := by kernel_rfl }
def lays229_ren : Go.Shelf.Ren := ⟨fun | 229 => 38 | n => n, fun | 9 => 9 | 40 => 87 | 31 => 25 | 152 => 124 | 3 => 3 | 0 => 0 | 4 => 4 | 21 => 21 | 154 => 126 | n => n, fun | n => n⟩
theorem lays229 : Go.Proofs.Lays.n229 Tryz.prog lays229_ren := {
  mixed := by kernel_rfl
  f229 := Tryz.func38.trans (congrArg some (by kernel_rfl))
  t0 := Tryz.underlying0
  a0 := Tryz.isAgg0
  z0 := Tryz.sizeOf0
  v0 := Tryz.zeroValue0
  t3 := Tryz.underlying3
  a3 := Tryz.isAgg3
  z3 := Tryz.sizeOf3
  v3 := Tryz.zeroValue3
  t4 := Tryz.underlying4
  a4 := Tryz.isAgg4
  z4 := Tryz.sizeOf4
  v4 := Tryz.zeroValue4
  t9 := Tryz.underlying9
  a9 := Tryz.isAgg9
  z9 := Tryz.sizeOf9
  v9 := Tryz.zeroValue9
  t21 := Tryz.underlying21
  a21 := Tryz.isAgg21
  z21 := Tryz.sizeOf21
  v21 := Tryz.zeroValue21
  t31 := Tryz.underlying25
  a31 := Tryz.isAgg25
  z31 := Tryz.sizeOf25
  v31 := Tryz.zeroValue25
  t40 := Tryz.underlying87
  a40 := Tryz.isAgg87
  z40 := Tryz.sizeOf87
  v40 := Tryz.zeroValue87
  t152 := Tryz.underlying124
  a152 := Tryz.isAgg124
  z152 := Tryz.sizeOf124
  v152 := Tryz.zeroValue124
  t154 := Tryz.underlying126
  a154 := Tryz.isAgg126
  z154 := Tryz.sizeOf126
  v154 := Tryz.zeroValue126 }
def lays230_ren : Go.Shelf.Ren := ⟨fun | 230 => 40 | 197 => 64 | 118 => 65 | 165 => 66 | 166 => 67 | 168 => 68 | 270 => 69 | 167 => 70 | 169 => 71 | 260 => 116 | 240 => 117 | 241 => 118 | 242 => 119 | 276 => 153 | 277 => 154 | 278 => 155 | n => n, fun | 107 => 92 | 9 => 9 | 72 => 129 | 0 => 0 | 4 => 4 | 3 => 3 | 21 => 21 | 105 => 130 | 76 => 136 | 5 => 5 | 75 => 135 | 70 => 127 | 20 => 20 | 37 => 47 | 127 => 200 | 119 => 121 | 46 => 119 | 139 => 231 | 138 => 230 | 164 => 232 | 51 => 120 | 80 => 141 | n => n, fun | 3 => 5 | 4 => 6 | n => n⟩
theorem lays230 : Go.Proofs.Lays.n230 Tryz.prog lays230_ren := {
  mixed := by kernel_rfl
  f118 := Tryz.func65.trans (congrArg some (by kernel_rfl))
  f165 := Tryz.func66.trans (congrArg some (by kernel_rfl))
  f166 := Tryz.func67.trans (congrArg some (by kernel_rfl))
  f167 := Tryz.func70.trans (congrArg some (by kernel_rfl))
  f168 := Tryz.func68.trans (congrArg some (by kernel_rfl))
  f169 := Tryz.func71.trans (congrArg some (by kernel_rfl))
  f197 := Tryz.func64.trans (congrArg some (by kernel_rfl))
  f230 := Tryz.func40.trans (congrArg some (by kernel_rfl))
  f240 := Tryz.func117.trans (congrArg some (by kernel_rfl))
  f241 := Tryz.func118.trans (congrArg some (by kernel_rfl))
  f242 := Tryz.func119.trans (congrArg some (by kernel_rfl))
  f260 := Tryz.func116.trans (congrArg some (by kernel_rfl))
  f270 := Tryz.func69.trans (congrArg some (by kernel_rfl))
  f276 := Tryz.func153.trans (congrArg some (by kernel_rfl))
  f277 := Tryz.func154.trans (congrArg some (by kernel_rfl))
  f278 := Tryz.func155.trans (congrArg some (by kernel_rfl))
  t0 := Tryz.underlying0
  a0 := Tryz.isAgg0
  z0 := Tryz.sizeOf0
  v0 := Tryz.zeroValue0
  t3 := Tryz.underlying3
  a3 := Tryz.isAgg3
  z3 := Tryz.sizeOf3
  v3 := Tryz.zeroValue3
  t4 := Tryz.underlying4
  a4 := Tryz.isAgg4
  z4 := Tryz.sizeOf4
  v4 := Tryz.zeroValue4
  t5 := Tryz.underlying5
  a5 := Tryz.isAgg5
  z5 := Tryz.sizeOf5
  v5 := Tryz.zeroValue5
  t9 := Tryz.underlying9
  a9 := Tryz.isAgg9
  z9 := Tryz.sizeOf9
  v9 := Tryz.zeroValue9
  t20 := Tryz.underlying20
  a20 := Tryz.isAgg20
  z20 := Tryz.sizeOf20
  v20 := Tryz.zeroValue20
  t21 := Tryz.underlying21
  a21 := Tryz.isAgg21
  z21 := Tryz.sizeOf21
  v21 := Tryz.zeroValue21
  t37 := Tryz.underlying47
  a37 := Tryz.isAgg47
  z37 := Tryz.sizeOf47
  v37 := Tryz.zeroValue47
  t46 := Tryz.underlying119
  a46 := Tryz.isAgg119
  z46 := Tryz.sizeOf119
  v46 := Tryz.zeroValue119
  t51 := Tryz.underlying120
  a51 := Tryz.isAgg120
  z51 := Tryz.sizeOf120
  v51 := Tryz.zeroValue120
  t70 := Tryz.underlying127
  a70 := Tryz.isAgg127
  z70 := Tryz.sizeOf127
  v70 := Tryz.zeroValue127
  t72 := Tryz.underlying129
  a72 := Tryz.isAgg129
  z72 := Tryz.sizeOf129
  v72 := Tryz.zeroValue129
  t75 := Tryz.underlying135
  a75 := Tryz.isAgg135
  z75 := Tryz.sizeOf135
  v75 := Tryz.zeroValue135
  t76 := Tryz.underlying136
  a76 := Tryz.isAgg136
  z76 := Tryz.sizeOf136
  v76 := Tryz.zeroValue136
  t105 := Tryz.underlying130
  a105 := Tryz.isAgg130
  z105 := Tryz.sizeOf130
  v105 := Tryz.zeroValue130
  t107 := Tryz.underlying92
  a107 := Tryz.isAgg92
  z107 := Tryz.sizeOf92
  v107 := Tryz.zeroValue92
  t119 := Tryz.underlying121
  a119 := Tryz.isAgg121
  z119 := Tryz.sizeOf121
  t127 := Tryz.underlying200
  a127 := Tryz.isAgg200
  z127 := Tryz.sizeOf200
  v127 := Tryz.zeroValue200
  t138 := Tryz.underlying230
  a138 := Tryz.isAgg230
  z138 := Tryz.sizeOf230
  v138 := Tryz.zeroValue230
  t139 := Tryz.underlying231
  a139 := Tryz.isAgg231
  z139 := Tryz.sizeOf231
  v139 := Tryz.zeroValue231
  t164 := Tryz.underlying232
  a164 := Tryz.isAgg232
  z164 := Tryz.sizeOf232
  v164 := Tryz.zeroValue232
  g3 := by kernel_rfl
  g4 := by kernel_rfl }
def lays195_ren : Go.Shelf.Ren := ⟨fun | 195 => 39 | n => n, fun | 9 => 9 | 3 => 3 | 0 => 0 | 4 => 4 | n => n, fun | n => n⟩
theorem lays195 : Go.Proofs.Lays.n195 Tryz.prog lays195_ren := {
  mixed := by kernel_rfl
  f195 := Tryz.func39.trans (congrArg some (by kernel_rfl))
  t0 := Tryz.underlying0
  a0 := Tryz.isAgg0
  z0 := Tryz.sizeOf0
  v0 := Tryz.zeroValue0
  t3 := Tryz.underlying3
  a3 := Tryz.isAgg3
  z3 := Tryz.sizeOf3
  v3 := Tryz.zeroValue3
  t4 := Tryz.underlying4
  a4 := Tryz.isAgg4
  z4 := Tryz.sizeOf4
  v4 := Tryz.zeroValue4
  t9 := Tryz.underlying9
  a9 := Tryz.isAgg9
  z9 := Tryz.sizeOf9
  v9 := Tryz.zeroValue9 }
def lays198_ren : Go.Shelf.Ren := ⟨fun | 198 => 36 | 261 => 63 | 311 => 114 | 312 => 115 | n => n, fun | 21 => 21 | 4 => 4 | 141 => 123 | 0 => 0 | 196 => 191 | 193 => 188 | 3 => 3 | 51 => 120 | 198 => 194 | 49 => 192 | 194 => 189 | 201 => 197 | 226 => 227 | 46 => 119 | 227 => 228 | n => n, fun | 5 => 2 | n => n⟩
theorem lays198 : Go.Proofs.Lays.n198 Tryz.prog lays198_ren := {
  mixed := by kernel_rfl
  f198 := Tryz.func36.trans (congrArg some (by kernel_rfl))
  f261 := Tryz.func63.trans (congrArg some (by kernel_rfl))
  f311 := Tryz.func114.trans (congrArg some (by kernel_rfl))
  f312 := Tryz.func115.trans (congrArg some (by kernel_rfl))
  t0 := Tryz.underlying0
  a0 := Tryz.isAgg0
  z0 := Tryz.sizeOf0
  v0 := Tryz.zeroValue0
  t3 := Tryz.underlying3
  a3 := Tryz.isAgg3
  z3 := Tryz.sizeOf3
  v3 := Tryz.zeroValue3
  t4 := Tryz.underlying4
  a4 := Tryz.isAgg4
  z4 := Tryz.sizeOf4
  v4 := Tryz.zeroValue4
  t21 := Tryz.underlying21
  a21 := Tryz.isAgg21
  z21 := Tryz.sizeOf21
  v21 := Tryz.zeroValue21
  t46 := Tryz.underlying119
  a46 := Tryz.isAgg119
  z46 := Tryz.sizeOf119
  v46 := Tryz.zeroValue119
  t49 := Tryz.underlying192
  a49 := Tryz.isAgg192
  z49 := Tryz.sizeOf192
  v49 := Tryz.zeroValue192
  t51 := Tryz.underlying120
  a51 := Tryz.isAgg120
  z51 := Tryz.sizeOf120
  v51 := Tryz.zeroValue120
  t141 := Tryz.underlying123
  a141 := Tryz.isAgg123
  z141 := Tryz.sizeOf123
  v141 := Tryz.zeroValue123
  t193 := Tryz.underlying188
  a193 := Tryz.isAgg188
  z193 := Tryz.sizeOf188
  v193 := Tryz.zeroValue188
  t194 := Tryz.underlying189
  a194 := Tryz.isAgg189
  z194 := Tryz.sizeOf189
  v194 := Tryz.zeroValue189
  t196 := Tryz.underlying191
  a196 := Tryz.isAgg191
  z196 := Tryz.sizeOf191
  v196 := Tryz.zeroValue191
  t198 := Tryz.underlying194
  a198 := Tryz.isAgg194
  z198 := Tryz.sizeOf194
  v198 := Tryz.zeroValue194
  t201 := Tryz.underlying197
  a201 := Tryz.isAgg197
  z201 := Tryz.sizeOf197
  v201 := Tryz.zeroValue197
  t226 := Tryz.underlying227
  a226 := Tryz.isAgg227
  z226 := Tryz.sizeOf227
  v226 := Tryz.zeroValue227
  t227 := Tryz.underlying228
  a227 := Tryz.isAgg228
  z227 := Tryz.sizeOf228
  v227 := Tryz.zeroValue228
  g5 := by kernel_rfl }
def lays200_ren : Go.Shelf.Ren := ⟨fun | 200 => 35 | 261 => 63 | 311 => 114 | 312 => 115 | n => n, fun | 21 => 21 | 4 => 4 | 51 => 120 | 5 => 5 | 119 => 121 | 0 => 0 | 141 => 123 | 196 => 191 | 193 => 188 | 3 => 3 | 198 => 194 | 49 => 192 | 194 => 189 | 201 => 197 | 226 => 227 | 46 => 119 | 227 => 228 | n => n, fun | 7 => 0 | 8 => 1 | n => n⟩
theorem lays200 : Go.Proofs.Lays.n200 Tryz.prog lays200_ren := {
  mixed := by kernel_rfl
  f200 := Tryz.func35.trans (congrArg some (by kernel_rfl))
  f261 := Tryz.func63.trans (congrArg some (by kernel_rfl))
  f311 := Tryz.func114.trans (congrArg some (by kernel_rfl))
  f312 := Tryz.func115.trans (congrArg some (by kernel_rfl))
  t0 := Tryz.underlying0
  a0 := Tryz.isAgg0
  z0 := Tryz.sizeOf0
  v0 := Tryz.zeroValue0
  t3 := Tryz.underlying3
  a3 := Tryz.isAgg3
  z3 := Tryz.sizeOf3
  v3 := Tryz.zeroValue3
  t4 := Tryz.underlying4
  a4 := Tryz.isAgg4
  z4 := Tryz.sizeOf4
  v4 := Tryz.zeroValue4
  t5 := Tryz.underlying5
  a5 := Tryz.isAgg5
  z5 := Tryz.sizeOf5
  v5 := Tryz.zeroValue5
  t21 := Tryz.underlying21
  a21 := Tryz.isAgg21
  z21 := Tryz.sizeOf21
  v21 := Tryz.zeroValue21
  t46 := Tryz.underlying119
  a46 := Tryz.isAgg119
  z46 := Tryz.sizeOf119
  v46 := Tryz.zeroValue119
  t49 := Tryz.underlying192
  a49 := Tryz.isAgg192
  z49 := Tryz.sizeOf192
  v49 := Tryz.zeroValue192
  t51 := Tryz.underlying120
  a51 := Tryz.isAgg120
  z51 := Tryz.sizeOf120
  v51 := Tryz.zeroValue120
  t119 := Tryz.underlying121
  a119 := Tryz.isAgg121
  z119 := Tryz.sizeOf121
  t141 := Tryz.underlying123
  a141 := Tryz.isAgg123
  z141 := Tryz.sizeOf123
  v141 := Tryz.zeroValue123
  t193 := Tryz.underlying188
  a193 := Tryz.isAgg188
  z193 := Tryz.sizeOf188
  v193 := Tryz.zeroValue188
  t194 := Tryz.underlying189
  a194 := Tryz.isAgg189
  z194 := Tryz.sizeOf189
  v194 := Tryz.zeroValue189
  t196 := Tryz.underlying191
  a196 := Tryz.isAgg191
  z196 := Tryz.sizeOf191
  v196 := Tryz.zeroValue191
  t198 := Tryz.underlying194
  a198 := Tryz.isAgg194
  z198 := Tryz.sizeOf194
  v198 := Tryz.zeroValue194
  t201 := Tryz.underlying197
  a201 := Tryz.isAgg197
  z201 := Tryz.sizeOf197
  v201 := Tryz.zeroValue197
  t226 := Tryz.underlying227
  a226 := Tryz.isAgg227
  z226 := Tryz.sizeOf227
  v226 := Tryz.zeroValue227
  t227 := Tryz.underlying228
  a227 := Tryz.isAgg228
  z227 := Tryz.sizeOf228
  v227 := Tryz.zeroValue228
  g7 := by kernel_rfl
  g8 := by kernel_rfl }
def lays204_ren : Go.Shelf.Ren := ⟨fun | 204 => 41 | 262 => 72 | 313 => 120 | 274 => 156 | 275 => 157 | n => n, fun | 21 => 21 | 4 => 4 | 3 => 3 | 162 => 203 | 203 => 201 | 160 => 235 | 46 => 119 | 0 => 0 | 208 => 264 | 51 => 120 | 206 => 262 | n => n, fun | 13 => 3 | n => n⟩
theorem lays204 : Go.Proofs.Lays.n204 Tryz.prog lays204_ren := {
  mixed := by kernel_rfl
  f204 := Tryz.func41.trans (congrArg some (by kernel_rfl))
  f262 := Tryz.func72.trans (congrArg some (by kernel_rfl))
  f274 := Tryz.func156.trans (congrArg some (by kernel_rfl))
  f275 := Tryz.func157.trans (congrArg some (by kernel_rfl))
  f313 := Tryz.func120.trans (congrArg some (by kernel_rfl))
  t0 := Tryz.underlying0
  a0 := Tryz.isAgg0
  z0 := Tryz.sizeOf0
  v0 := Tryz.zeroValue0
  t3 := Tryz.underlying3
  a3 := Tryz.isAgg3
  z3 := Tryz.sizeOf3
  v3 := Tryz.zeroValue3
  t4 := Tryz.underlying4
  a4 := Tryz.isAgg4
  z4 := Tryz.sizeOf4
  v4 := Tryz.zeroValue4
  t21 := Tryz.underlying21
  a21 := Tryz.isAgg21
  z21 := Tryz.sizeOf21
  v21 := Tryz.zeroValue21
  t46 := Tryz.underlying119
  a46 := Tryz.isAgg119
  z46 := Tryz.sizeOf119
  v46 := Tryz.zeroValue119
  t51 := Tryz.underlying120
  a51 := Tryz.isAgg120
  z51 := Tryz.sizeOf120
  v51 := Tryz.zeroValue120
  t160 := Tryz.underlying235
  a160 := Tryz.isAgg235
  z160 := Tryz.sizeOf235
  v160 := Tryz.zeroValue235
  t162 := Tryz.underlying203
  a162 := Tryz.isAgg203
  z162 := Tryz.sizeOf203
  v162 := Tryz.zeroValue203
  t203 := Tryz.underlying201
  a203 := Tryz.isAgg201
  z203 := Tryz.sizeOf201
  v203 := Tryz.zeroValue201
  t206 := Tryz.underlying262
  a206 := Tryz.isAgg262
  z206 := Tryz.sizeOf262
  v206 := Tryz.zeroValue262
  t208 := Tryz.underlying264
  a208 := Tryz.isAgg264
  z208 := Tryz.sizeOf264
  v208 := Tryz.zeroValue264
  g13 := by kernel_rfl }
def lays190_ren : Go.Shelf.Ren := ⟨fun | 190 => 30 | 125 => 62 | 258 => 61 | 128 => 112 | 129 => 113 | 302 => 103 | 303 => 104 | 304 => 105 | 305 => 106 | 306 => 107 | 307 => 108 | 308 => 109 | 309 => 110 | 310 => 111 | 333 => 147 | 329 => 148 | 330 => 149 | 334 => 150 | 335 => 151 | 336 => 152 | 344 => 184 | n => n, fun | 31 => 25 | 9 => 9 | 3 => 3 | 46 => 119 | 0 => 0 | 51 => 120 | 53 => 52 | 4 => 4 | 183 => 181 | 182 => 180 | 131 => 75 | 5 => 5 | 218 => 222 | 222 => 70 | 228 => 258 | 229 => 259 | n => n, fun | n => n⟩
theorem lays190 : Go.Proofs.Lays.n190 Tryz.prog lays190_ren := {
  mixed := by kernel_rfl
  f125 := Tryz.func62.trans (congrArg some (by kernel_rfl))
  f128 := Tryz.func112.trans (congrArg some (by kernel_rfl))
  f129 := Tryz.func113.trans (congrArg some (by kernel_rfl))
  f190 := Tryz.func30.trans (congrArg some (by kernel_rfl))
  f258 := Tryz.func61.trans (congrArg some (by kernel_rfl))
  f302 := Tryz.func103.trans (congrArg some (by kernel_rfl))
  f303 := Tryz.func104.trans (congrArg some (by kernel_rfl))
  f304 := Tryz.func105.trans (congrArg some (by kernel_rfl))
  f305 := Tryz.func106.trans (congrArg some (by kernel_rfl))
  f306 := Tryz.func107.trans (congrArg some (by kernel_rfl))
  f307 := Tryz.func108.trans (congrArg some (by kernel_rfl))
  f308 := Tryz.func109.trans (congrArg some (by kernel_rfl))
  f309 := Tryz.func110.trans (congrArg some (by kernel_rfl))
  f310 := Tryz.func111.trans (congrArg some (by kernel_rfl))
  f329 := Tryz.func148.trans (congrArg some (by kernel_rfl))
  f330 := Tryz.func149.trans (congrArg some (by kernel_rfl))
  f333 := Tryz.func147.trans (congrArg some (by kernel_rfl))
  f334 := Tryz.func150.trans (congrArg some (by kernel_rfl))
  f335 := Tryz.func151.trans (congrArg some (by kernel_rfl))
  f336 := Tryz.func152.trans (congrArg some (by kernel_rfl))
  f344 := Tryz.func184.trans (congrArg some (by kernel_rfl))
  t0 := Tryz.underlying0
  a0 := Tryz.isAgg0
  z0 := Tryz.sizeOf0
  v0 := Tryz.zeroValue0
  t3 := Tryz.underlying3
  a3 := Tryz.isAgg3
  z3 := Tryz.sizeOf3
  v3 := Tryz.zeroValue3
  t4 := Tryz.underlying4
  a4 := Tryz.isAgg4
  z4 := Tryz.sizeOf4
  v4 := Tryz.zeroValue4
  t5 := Tryz.underlying5
  a5 := Tryz.isAgg5
  z5 := Tryz.sizeOf5
  v5 := Tryz.zeroValue5
  t9 := Tryz.underlying9
  a9 := Tryz.isAgg9
  z9 := Tryz.sizeOf9
  v9 := Tryz.zeroValue9
  t31 := Tryz.underlying25
  a31 := Tryz.isAgg25
  z31 := Tryz.sizeOf25
  v31 := Tryz.zeroValue25
  t46 := Tryz.underlying119
  a46 := Tryz.isAgg119
  z46 := Tryz.sizeOf119
  v46 := Tryz.zeroValue119
  t51 := Tryz.underlying120
  a51 := Tryz.isAgg120
  z51 := Tryz.sizeOf120
  v51 := Tryz.zeroValue120
  t53 := Tryz.underlying52
  a53 := Tryz.isAgg52
  z53 := Tryz.sizeOf52
  v53 := Tryz.zeroValue52
  t131 := Tryz.underlying75
  a131 := Tryz.isAgg75
  z131 := Tryz.sizeOf75
  v131 := Tryz.zeroValue75
  t182 := Tryz.underlying180
  a182 := Tryz.isAgg180
  z182 := Tryz.sizeOf180
  v182 := Tryz.zeroValue180
  t183 := Tryz.underlying181
  a183 := Tryz.isAgg181
  z183 := Tryz.sizeOf181
  v183 := Tryz.zeroValue181
  t218 := Tryz.underlying222
  a218 := Tryz.isAgg222
  z218 := Tryz.sizeOf222
  v218 := Tryz.zeroValue222
  t222 := Tryz.underlying70
  a222 := Tryz.isAgg70
  z222 := Tryz.sizeOf70
  v222 := Tryz.zeroValue70
  t228 := Tryz.underlying258
  a228 := Tryz.isAgg258
  z228 := Tryz.sizeOf258
  v228 := Tryz.zeroValue258
  t229 := Tryz.underlying259
  a229 := Tryz.isAgg259
  z229 := Tryz.sizeOf259
  v229 := Tryz.zeroValue259 }
def lays194_ren : Go.Shelf.Ren := ⟨fun | 194 => 31 | n => n, fun | 31 => 25 | 9 => 9 | 3 => 3 | 4 => 4 | 0 => 0 | n => n, fun | n => n⟩
theorem lays194 : Go.Proofs.Lays.n194 Tryz.prog lays194_ren := {
  mixed := by kernel_rfl
  f194 := Tryz.func31.trans (congrArg some (by kernel_rfl))
  t0 := Tryz.underlying0
  a0 := Tryz.isAgg0
  z0 := Tryz.sizeOf0
  v0 := Tryz.zeroValue0
  t3 := Tryz.underlying3
  a3 := Tryz.isAgg3
  z3 := Tryz.sizeOf3
  v3 := Tryz.zeroValue3
  t4 := Tryz.underlying4
  a4 := Tryz.isAgg4
  z4 := Tryz.sizeOf4
  v4 := Tryz.zeroValue4
  t9 := Tryz.underlying9
  a9 := Tryz.isAgg9
  z9 := Tryz.sizeOf9
  v9 := Tryz.zeroValue9
  t31 := Tryz.underlying25
  a31 := Tryz.isAgg25
  z31 := Tryz.sizeOf25
  v31 := Tryz.zeroValue25 }
def laysNm216_ren : Go.Shelf.Ren := ⟨fun | 16 => 32 | n => n, fun | 24 => 25 | 9 => 9 | 4 => 4 | n => n, fun | n => n⟩
theorem laysNm216 : Go.Proofs.Lays2.n16 Tryz.prog laysNm216_ren := {
  mixed := by kernel_rfl
  f16 := Tryz.func32.trans (congrArg some (by kernel_rfl))
  t4 := Tryz.underlying4
  a4 := Tryz.isAgg4
  z4 := Tryz.sizeOf4
  v4 := Tryz.zeroValue4
  t9 := Tryz.underlying9
  a9 := Tryz.isAgg9
  z9 := Tryz.sizeOf9
  v9 := Tryz.zeroValue9
  t24 := Tryz.underlying25
  a24 := Tryz.isAgg25
  z24 := Tryz.sizeOf25
  v24 := Tryz.zeroValue25
  i9 := by kernel_rfl }
theorem Builder_Extra_230 : Builder.Extra Tryz.prog lays230_ren := {
  sizeBuilder := by kernel_rfl
  liesBuilder := by kernel_rfl
  t5 := Tryz.underlying5
  a5 := Tryz.isAgg5
  z5 := Tryz.sizeOf5
  v5 := Tryz.zeroValue5
  infoByte := by kernel_rfl
  cellsByte := by kernel_rfl
  sizeByte := by kernel_rfl
  neB5 := by decide }
theorem Builder_Extra_156 : Builder.Extra Tryz.prog lays156_ren := {
  sizeBuilder := by kernel_rfl
  liesBuilder := by kernel_rfl
  t5 := Tryz.underlying5
  a5 := Tryz.isAgg5
  z5 := Tryz.sizeOf5
  v5 := Tryz.zeroValue5
  infoByte := by kernel_rfl
  cellsByte := by kernel_rfl
  sizeByte := by kernel_rfl
  neB5 := by decide }
theorem Builder_Extra_105 : Builder.Extra Tryz.prog lays105_ren := {
  sizeBuilder := by kernel_rfl
  liesBuilder := by kernel_rfl
  t5 := Tryz.underlying5
  a5 := Tryz.isAgg5
  z5 := Tryz.sizeOf5
  v5 := Tryz.zeroValue5
  infoByte := by kernel_rfl
  cellsByte := by kernel_rfl
  sizeByte := by kernel_rfl
  neB5 := by decide }
theorem Builder_Extra_169 : Builder.Extra Tryz.prog lays169_ren := {
  sizeBuilder := by kernel_rfl
  liesBuilder := by kernel_rfl
  t5 := Tryz.underlying5
  a5 := Tryz.isAgg5
  z5 := Tryz.sizeOf5
  v5 := Tryz.zeroValue5
  infoByte := by kernel_rfl
  cellsByte := by kernel_rfl
  sizeByte := by kernel_rfl
  neB5 := by decide }
def lays166_ren : Go.Shelf.Ren := ⟨fun | 166 => 67 | 240 => 117 | 276 => 153 | n => n, fun | 0 => 0 | 3 => 3 | 4 => 4 | 9 => 9 | 20 => 20 | 37 => 47 | 5 => 5 | 70 => 127 | 72 => 129 | 75 => 135 | 80 => 141 | 164 => 232 | n => n, fun | n => n⟩
theorem lays166 : Go.Proofs.Lays.n166 Tryz.prog lays166_ren := {
  mixed := by kernel_rfl
  f166 := Tryz.func67.trans (congrArg some (by kernel_rfl))
  f240 := Tryz.func117.trans (congrArg some (by kernel_rfl))
  f276 := Tryz.func153.trans (congrArg some (by kernel_rfl))
  t0 := Tryz.underlying0
  a0 := Tryz.isAgg0
  z0 := Tryz.sizeOf0
  v0 := Tryz.zeroValue0
  t3 := Tryz.underlying3
  a3 := Tryz.isAgg3
  z3 := Tryz.sizeOf3
  v3 := Tryz.zeroValue3
  t4 := Tryz.underlying4
  a4 := Tryz.isAgg4
  z4 := Tryz.sizeOf4
  v4 := Tryz.zeroValue4
  t9 := Tryz.underlying9
  a9 := Tryz.isAgg9
  z9 := Tryz.sizeOf9
  v9 := Tryz.zeroValue9
  t20 := Tryz.underlying20
  a20 := Tryz.isAgg20
  z20 := Tryz.sizeOf20
  v20 := Tryz.zeroValue20
  t37 := Tryz.underlying47
  a37 := Tryz.isAgg47
  z37 := Tryz.sizeOf47
  v37 := Tryz.zeroValue47
  t70 := Tryz.underlying127
  a70 := Tryz.isAgg127
  z70 := Tryz.sizeOf127
  v70 := Tryz.zeroValue127
  t72 := Tryz.underlying129
  a72 := Tryz.isAgg129
  z72 := Tryz.sizeOf129
  v72 := Tryz.zeroValue129
  t75 := Tryz.underlying135
  a75 := Tryz.isAgg135
  z75 := Tryz.sizeOf135
  v75 := Tryz.zeroValue135
  t164 := Tryz.underlying232
  a164 := Tryz.isAgg232
  z164 := Tryz.sizeOf232
  v164 := Tryz.zeroValue232 }
theorem Builder_Extra_166 : Builder.Extra Tryz.prog lays166_ren := {
  sizeBuilder := by kernel_rfl
  liesBuilder := by kernel_rfl
  t5 := Tryz.underlying5
  a5 := Tryz.isAgg5
  z5 := Tryz.sizeOf5
  v5 := Tryz.zeroValue5
  infoByte := by kernel_rfl
  cellsByte := by kernel_rfl
  sizeByte := by kernel_rfl
  neB5 := by decide }
end Go.Proofs.YtomnbknaanlmaaaGreatDoor
namespace Go.Proofs.YtomnbknaanlmaaaGreatDoor
open Go.RowKit
theorem enc_len (z : Int) : 1 ≤ (Lib.encodeRune z).length ∧ (Lib.encodeRune z).length ≤ 4 := by
  unfold Lib.encodeRune Lib.encodeRuneZ
  rw [List.length_map]
  repeat' split
  all_goals simp
theorem mapGo_len (f : Int → Int) (hf : ∀ r : Nat, 0 ≤ f r) (s : ByteArray) : ∀ (n pos : Nat), Lib.runeCountFrom s n pos ≤ (Lib.mapGoD f n (s.data.toList.drop pos)).length ∧ (Lib.mapGoD f n (s.data.toList.drop pos)).length ≤ 4 * Lib.runeCountFrom s n pos
  | 0, pos => by simp [Lib.runeCountFrom, Lib.mapGoD]
  | n + 1, pos => by
    by_cases h : pos < s.size
    · have hl : s.data.toList.length = s.size := Array.length_toList
      have hne : s.data.toList.drop pos ≠ [] := by
        intro e
        have := congrArg List.length e
        rw [List.length_drop, hl] at this
        simp at this
        omega
      have hd := Lib.decodeL_drop s pos
      obtain ⟨a, b⟩ := mapGo_len f hf s n (pos + (Utf8.decode s pos).2)
      obtain ⟨c, d⟩ := enc_len (f (Utf8.decode s pos).1)
      rw [Lib.runeCountFrom, if_pos h, Lib.mapGoD, if_neg hne, hd, if_pos (hf _), List.length_append, List.drop_drop]
      omega
    · have e : s.data.toList.drop pos = [] := by
        apply List.drop_eq_nil_of_le
        have hl : s.data.toList.length = s.size := Array.length_toList
        omega
      rw [e, Lib.mapGoD_nil, Lib.runeCountFrom_end _ _ _ h]
      simp
theorem mapD_len (f : Int → Int) (hf : ∀ r : Nat, 0 ≤ f r) (s : ByteArray) : Lib.runeCount s ≤ (Lib.mapD f s.data.toList).length ∧ (Lib.mapD f s.data.toList).length ≤ 4 * Lib.runeCount s := by
  have h := mapGo_len f hf s s.size 0
  have hl : s.data.toList.length = s.size := Array.length_toList
  unfold Lib.mapD Lib.runeCount
  rw [hl]
  simpa using h
theorem convert_nn (x : Lib.CaseRow) (hx : Lib.rowFits x = true) (r : Int) (h0 : 0 ≤ r) (hlo : (x.1 : Int) ≤ r) : 0 ≤ Lib.convertR 1 r x := by
  simp only [Lib.rowFits, Bool.and_eq_true, decide_eq_true_eq, List.all_cons, List.all_nil, Bool.or_eq_true, Bool.and_true] at hx
  obtain ⟨⟨h1, h2⟩, d0, d1, d2⟩ := hx
  unfold Lib.convertR
  split <;> omega
theorem lower_nn (r : Nat) : 0 ≤ Lib.toLowerU (r : Int) := by
  unfold Lib.toLowerU
  split
  · split <;> omega
  · unfold Lib.toR Lib.lookupGo
    cases hi : Lib.lookupIdx Lib.caseA (r : Int) (Lib.caseA.size + 1) 0 Lib.caseA.size with
    | none => exact Int.natCast_nonneg r
    | some i =>
      obtain ⟨hil, hlo, hhi⟩ := Lib.lookupIdx_some Lib.caseA (r : Int) _ _ _ i hi
      exact convert_nn _ (Lib.caseA_row i hil) (r : Int) (by omega) hlo
theorem convert_le (x : Lib.CaseRow) (hx : Lib.rowFits x = true) (r : Int) (h0 : r ≤ 1114111) (_hhi : r ≤ (x.2.1 : Int)) : Lib.convertR 1 r x ≤ 2147483647 := by
  simp only [Lib.rowFits, Bool.and_eq_true, decide_eq_true_eq, List.all_cons, List.all_nil, Bool.or_eq_true, Bool.and_true] at hx
  obtain ⟨⟨h1, h2⟩, d0, d1, d2⟩ := hx
  unfold Lib.convertR
  split <;> omega
theorem lower_le (r : Nat) (h : r ≤ 1114111) : Lib.toLowerU (r : Int) ≤ 2147483647 := by
  unfold Lib.toLowerU
  split
  · split <;> omega
  · unfold Lib.toR Lib.lookupGo
    cases hi : Lib.lookupIdx Lib.caseA (r : Int) (Lib.caseA.size + 1) 0 Lib.caseA.size with
    | none => show (r : Int) ≤ _; omega
    | some i =>
      obtain ⟨hil, hlo, hhi⟩ := Lib.lookupIdx_some Lib.caseA (r : Int) _ _ _ i hi
      exact convert_le _ (Lib.caseA_row i hil) (r : Int) (by omega) hhi
/-- what tokens.each hands on of a field -/
def lowS (s : ByteArray) : ByteArray := ⟨(Lib.mapD Lib.toLowerU s.data.toList).toArray⟩
theorem lowS_len (s : ByteArray) (h0 : 3 ≤ Lib.runeCount s) (h1 : Lib.runeCount s ≤ 20) : 3 ≤ (lowS s).size ∧ (lowS s).size ≤ 80 := by
  obtain ⟨a, b⟩ := mapD_len Lib.toLowerU lower_nn s
  have : (lowS s).size = (Lib.mapD Lib.toLowerU s.data.toList).length := List.size_toArray
  omega
end Go.Proofs.YtomnbknaanlmaaaGreatDoor
namespace Go.Proofs.YtomnbknaanlmaaaGreatDoor
open Go.RowKit
set_option maxRecDepth 100000
theorem gw_tw {w : World} (h : GW w) : TW w := by
  unfold GW at h
  obtain ⟨_, _, _, _, ⟨K, hk⟩, _⟩ := h
  exact hk.tw
/-- what is neither letter nor digit -/
def sepP (x : Nat) : Bool := !Lib.isLetterU (x : Int) && !Lib.isDigitU (x : Int)
theorem e1_calls (x : Nat) (hx : x ≤ 1114111) (w : World) (hT : TW w) : Calls Tryz.prog 34 #[.int .i32 x] w fun e w' => e = .returned (.bool (sepP x)) ∧ Below w.heap.size w w' := by
  obtain ⟨h1, h2, h3, h4, h5⟩ := hT
  have c1 := Any.unicode_IsLetter_all lays200 (by kernel_rfl) (x : Int) w (by omega) (by omega) h4 h1
  unfold sepP
  cases hl : Lib.isLetterU (x : Int) with
  | true =>
    rw [hl] at c1
    go_enter Tryz.func34, Tryz.ntmps34
    go_wp2_with (go_at_call 35; refine c1.mono ?_; rintro e w1 ⟨rfl, hb1⟩)
    all_goals go_ret
    all_goals exact ⟨rfl, hb1⟩
  | false =>
    rw [hl] at c1
    go_enter Tryz.func34, Tryz.ntmps34
    go_wp2_with (first
      | (go_at_call 35; refine c1.mono ?_; rintro e w1 ⟨rfl, hb1⟩; have c2 := Any.unicode_IsDigit_all lays198 (x : Int) w1 (by omega) (by omega) (RVar_below h2 hb1))
      | (go_at_call 36; refine c2.mono ?_; rintro e w2 ⟨rfl, hb2⟩))
    all_goals go_ret
    all_goals exact ⟨rfl, hb1.trans (hb2.mono hb1.size)⟩
theorem tw_below {w w' : World} (h : GW w) (hb : Below w.heap.size w w') : GW w' := BelA.gw (wb_bel.2 ⟨hb.os, hb.tape, hb.output, hb.size, hb.block⟩) ⟨h, GB.no h⟩
theorem c_fields (s : ByteArray) (w : World) (hG : GW w) (hs : s.size ≤ 4000) :
    Calls Tryz.prog 38 #[.string s, .func (.func 34) #[] #[]] w fun e w' => ∃ A, e = .returned (.slice (some ⟨A, 0, none⟩) (Lib.goFieldsP sepP s).length (Lib.goFieldsP sepP s).length) ∧ w.heap.size ≤ A ∧
      w'.ownsRow w.heap.size 9 1 (.slice (some ⟨A, 0, none⟩) (Lib.goFieldsP sepP s).length (Lib.goFieldsP sepP s).length) (Lib.goFieldsP sepP s).length ((Lib.goFieldsP sepP s).map Value.string) ∧ Below w.heap.size w w' :=
  Any.strings_FieldsFunc_grows lays229 34 #[] (enters_of Tryz.func34 (by kernel_rfl) rfl) sepP s w (by omega) (fun W x hx hb => e1_calls x hx W (gw_tw (tw_below hG hb))) (by kernel_rfl) (by kernel_rfl)
theorem c_lower (s : ByteArray) (w : World) (hG : GW w) (hs : s.size ≤ 4000) :
    Calls Tryz.prog 40 #[.func (.func 41) #[] #[], .string s] w fun e w' => e = .returned (.string (lowS s)) ∧ Below w.heap.size w w' :=
  Any.strings_Map_grows lays230 Builder_Extra_230 41 #[] (enters_of Tryz.func41 (by kernel_rfl) rfl) Lib.toLowerU s w (by omega)
    (fun W x hx hb => (Any.unicode_ToLower_laid lays204 (x : Int) W (gw_tw (tw_below hG hb)).2.2.1).mono fun _ _ ⟨he, q, hq⟩ => ⟨he, hq ▸ below_drewNm W q⟩)
    (fun x hx => ⟨by have := lower_nn x; omega, lower_le x hx⟩) (gw_tw hG).2.2.2.2
theorem c_runes (s : ByteArray) (w : World) (hs : s.size ≤ 4000) : Calls Tryz.prog 39 #[.string s] w fun e w' => e = .returned (.int .i64 (Lib.runeCount s)) ∧ Below w.heap.size w w' :=
  (Any.utf8_RuneCountInString lays195 s w (by omega)).mono fun _ w' ⟨he, pos, hw⟩ => ⟨he, by
    rw [hw]
    exact (Below.refl _ w).alloc (Nat.le_refl _) _⟩
end Go.Proofs.YtomnbknaanlmaaaGreatDoor
namespace Go.Proofs.YtomnbknaanlmaaaGreatDoor
open Go.RowKit
variable {F : Fence} {n : Nat} {P : Program}
/-- the record of a loop -/
def recL (fn : FuncId) (tmps : Array Value) (ps : Array Tmp) (assign body : Code) (D : Nat) (st : LoopState) (pe : Option Code) : Loop :=
  { state := st, pending := pe, fn, tmps, params := ps, assign, body, defers := D }
theorem range_enter {g : Operand} {ps : Array Tmp} {assign body : Code} {Q : Exit → Act → World → Prop} {a : Act} {w : World} (hro : F.round = none) (h1 : 1 ≤ n) {gf : Nat} {lb : Array Value}
    (hg : a.eval g = .func (.func gf) #[] lb) (hFg : F.fn gf) (eg : ∀ args w, (callFunc gf args).run P w = .ok (.enter gf args) w)
    (h : ∀ fn, F.fn fn → CallsIn F (n - 1) P gf ((#[Value.func (Fn.yield (w.heap.size + 1)) #[] #[]] : Array Value) ++ lb) ((w.alloc (.deferred (some []))).alloc (.loop (recL fn a.tmps ps assign body w.heap.size .ready none)))
      (rangePost F n P (w.heap.size + 1) Q { a with defers := [{ target := .collected w.heap.size, args := #[] }] ++ a.defers })) :
    (Code.rangeFunc g ps assign body).wpIn F n P Q a w := by
  refine wpIn_rangeFunc ?_
  intro fn hfn
  rw [hro]
  have h2 := h fn hfn
  obtain ⟨W1, hW1⟩ : ∃ W1, W1 = (w.alloc (.deferred (some []))).alloc (.loop (recL fn a.tmps ps assign body w.heap.size .ready none)) := ⟨_, rfl⟩
  rw [← hW1] at h2
  refine ⟨w.heap.size + 1, [{ target := .collected w.heap.size, args := #[] }], W1, { target := .fn (.func gf) lb, args := #[.func (.yield (w.heap.size + 1)) #[] #[]] }, W1, gf,
    #[.func (.yield (w.heap.size + 1)) #[] #[]] ++ lb, W1, ?_, ?_, ?_, ?_, fun _ => h1, ?_⟩
  · rw [hW1]; exact run_enterLoop_outer _ _ _ _ _
  · simp only [resolve, hg]
    simp [go_sem]
  · intro f' hf'; simp [Target.leads] at hf'; subst hf'; exact hFg
  · simp [invoke, go_sem, eg]
  · exact h2
/-- the ways in which a round's body may be left -/
def rndPost (l : Nat) (rec : LoopState → Option Code → Loop) (R : Ending → World → Prop) : Exit → Act → World → Prop
  | .normal, _, w => w.heap[l]? = some (.loop (rec .busy none)) ∧ R (.returned (.bool true)) (w.putObj l (.loop (rec .ready none)))
  | .exit id, _, w => w.heap[l]? = some (.loop (rec .busy none)) ∧ R (.returned (.bool false)) (w.putObj l (.loop (rec .done (some (.exit id)))))
  | .ret, _, w => w.heap[l]? = some (.loop (rec .busy none)) ∧ R (.returned (.bool false)) (w.putObj l (.loop (rec .done (some .ret))))
  | _, _, _ => False
/-- at a world that has a name from now on -/
def AtW (W : World) (p : World → Prop) : Prop := ∀ W2, W2 = W → p W2
theorem yield_round {m l : Nat} {fn : FuncId} {tmps : Array Value} {ps : Array Tmp} {assign body : Code} {D : Nat} {args : Array Value} {W : World} {R : Ending → World → Prop} (hfn : F.fn fn)
    (hl : W.heap[l]? = some (.loop (recL fn tmps ps assign body D .ready none))) (hps : args.size = ps.size)
    (h : assign.wpIn (F.inRound l) m P (Exit.then (fun a₁ w₁ => w₁ = W ∧ AtW (W.putObj l (.loop (recL fn tmps ps assign body D .busy none))) fun W2 =>
        body.wpIn (F.inRound l) m P (rndPost l (recL fn tmps ps assign body D) R) a₁ W2) (fun _ _ _ => False))
      { tmps := (ps.zip args).foldl (fun t (p, v) => t.setIfInBounds p v) tmps, defers := [] } W) : YieldAt F m P l args W R := by
  have hy := run_yield (P := P) (args := args) hl hps
  refine ⟨fn, _, assign, body, hy, roundIn_of_wpIn hfn (wpIn_mono h ?_)⟩
  intro e a w hq
  cases e with
  | normal =>
    obtain ⟨h1, h2⟩ := hq
    subst h1
    refine ⟨_, run_beginRound hl rfl, wpIn_mono (h2 _ rfl) ?_⟩
    intro e2 a2 w2 hq2
    cases e2 with
    | normal => exact ⟨_, _, run_endRound none hq2.1, hq2.2⟩
    | exit id => exact ⟨_, _, run_endRound (some (.exit id)) hq2.1, hq2.2⟩
    | ret => exact ⟨_, _, run_endRound (some .ret) hq2.1, hq2.2⟩
    | goto t => exact hq2.elim
    | panic c => exact hq2.elim
    | outgrown => exact hq2.elim
  | exit id => exact hq.elim
  | goto t => exact hq.elim
  | ret => exact hq.elim
  | panic c => exact hq.elim
  | outgrown => exact hq.elim
end Go.Proofs.YtomnbknaanlmaaaGreatDoor
namespace Go.Proofs.YtomnbknaanlmaaaGreatDoor
open Go.RowKit
set_option maxRecDepth 100000
/-- fields that are long enough and not too long -/
def okT (x : ByteArray) : Bool := decide (3 ≤ Lib.runeCount x) && decide (Lib.runeCount x ≤ 20)
def tokF (l : List ByteArray) : List ByteArray := (l.filter okT).map lowS
def flds (s : ByteArray) : List ByteArray := Lib.goFieldsP sepP s
theorem flds_size {s x : ByteArray} (h : x ∈ flds s) : x.size ≤ s.size := by
  unfold flds Lib.goFieldsP at h
  obtain ⟨q, _, rfl⟩ := List.mem_map.1 h
  rw [ByteArray.size_extract]
  omega
theorem spans_len (p : Nat → Bool) (s : ByteArray) : ∀ (f pos : Nat) (st : Option Nat) (acc : List (Nat × Nat)), (Lib.spansFromP p s f pos st acc).1.length ≤ acc.length + f
  | 0, _, _, _ => by simp [Lib.spansFromP]
  | f + 1, pos, st, acc => by
    unfold Lib.spansFromP
    split
    · split
      · cases st with
        | some a => have := spans_len p s f (pos + (Utf8.decode s pos).2) none (acc ++ [(a, pos)]); simp only [List.length_append, List.length_singleton] at this; exact Nat.le_trans this (by omega)
        | none => have := spans_len p s f (pos + (Utf8.decode s pos).2) none acc; exact Nat.le_trans this (by omega)
      · cases st with
        | some a => have := spans_len p s f (pos + (Utf8.decode s pos).2) (some a) acc; exact Nat.le_trans this (by omega)
        | none => have := spans_len p s f (pos + (Utf8.decode s pos).2) (some pos) acc; exact Nat.le_trans this (by omega)
    · show acc.length ≤ _; omega
theorem flds_len' (p : Nat → Bool) (s : ByteArray) : (Lib.goFieldsP p s).length ≤ s.size + 1 := by
  unfold Lib.goFieldsP Lib.spansOfP
  rw [List.length_map]
  have h := spans_len p s s.size 0 none []
  unfold Lib.closeSpans
  split
  · rw [List.length_append]; simp at h ⊢; omega
  · simp at h; omega
theorem flds_len (s : ByteArray) (hs : s.size ≤ 4000) : (flds s).length ≤ 4001 := Nat.le_trans (flds_len' sepP s) (by omega)
theorem scell_at {W : World} {k o : Nat} {cs : Array Value} {t : TypeId} {fz : Nat × Nat} (h : W.heap[k]? = some (.cells cs t fz)) : W.cell? ⟨k, o, none⟩ = cs[o]? := by simp [World.cell?, h]
theorem bel_w {w w' : World} (h : Below w.heap.size w w') : Bel w w' := ⟨h.os, h.tape, h.output, h.size, h.block⟩
/-- what the iterator sees -/
structure EI (W : World) (p1 p2 : Nat) (s : ByteArray) : Prop where
  gw : GW W
  c1 : W.cell? ⟨p1, 0, none⟩ = some (.string s)
  c2 : W.cell? ⟨p2, 0, none⟩ = some (.func (.func 34) #[] #[])
set_option maxHeartbeats 4000000 in
theorem e2_in (l p1 p2 : Nat) (s : ByteArray) (hs : s.size ≤ 4000) (W0 : World)
    (J : Nat → List ByteArray → World → Prop) (hJ : ∀ o acc W, J o acc W → GW W) (hst : ∀ o acc W W', J o acc W → Bel W W' → J o acc W') (hI : EI W0 p1 p2 s) (h0 : ∀ W, Bel W0 W → J W.heap.size [] W)
    (hy : ∀ o acc t W m, (∃ r2, acc ++ t :: r2 = tokF (flds s)) → J o acc W → YieldAt Fence.wide m Tryz.prog l #[.string t] W fun e W' => e = .returned (.bool true) ∧ J o (acc ++ [t]) W' ∧ ∀ k, W0.heap.size ≤ k → k < o → W'.heap[k]? = W.heap[k]?) :
    CallsIn Fence.wide 5 Tryz.prog 37 #[.func (.yield l) #[] #[], .pointer (some ⟨p1, 0, none⟩), .pointer (some ⟨p2, 0, none⟩)] W0 fun e W' => (∃ v, e = .returned v) ∧ ∃ o, J o (tokF (flds s)) W' := by
  have hfl := fun x (h : x ∈ flds s) => Nat.le_trans (flds_size h) hs
  have hfn := flds_len s hs
  have hcf := c_fields s W0 hI.gw hs
  change Calls _ _ _ _ fun e w' => ∃ A, e = .returned (.slice (some ⟨A, 0, none⟩) (flds s).length (flds s).length) ∧ W0.heap.size ≤ A ∧ w'.ownsRow W0.heap.size 9 1 (.slice (some ⟨A, 0, none⟩) (flds s).length (flds s).length) (flds s).length ((flds s).map Value.string) ∧ Below W0.heap.size W0 w' at hcf
  generalize flds s = F at *
  refine callsIn_of_wp Tryz.func37 rfl trivial ?_ rfl
  simp only [Tryz.ntmps37, List.size_toArray, List.length_cons, List.length_nil, Nat.reduceAdd, Nat.reduceSub, Array.replicate_succ, Array.replicate_zero, List.push_toArray, List.append_toArray, List.nil_append, List.cons_append]
  have i1 := hI.c1
  have i2 := hI.c2
  gi_wp2_with (refine ⟨trivial, (callsIn_wide.2 hcf).mono ?_⟩; rintro e w1 ⟨A, rfl, hA, hown, hb1⟩)
  obtain ⟨cur, hblk, hcur⟩ : ∃ cur, w1.heap[A]? = some (.cells cur 9 (0, 0)) ∧ ∀ (i : Nat) x, F[i]? = some x → cur[i]? = some (.string x) := by
    rcases hown.2 with ⟨h, _⟩ | ⟨g, cap, cur, e, hbase, hgb, q1, q2, q3, q4⟩
    · cases h
    · injection e with e1 e2 e3
      injection e1 with e1
      injection e1 with e1
      subst e1
      refine ⟨cur, hgb, fun i x hx => ?_⟩
      have hi := (List.getElem?_eq_some_iff.1 hx).1
      have h2 : (F.map Value.string)[i]? = some (.string x) := by rw [List.getElem?_map, hx]; rfl
      rw [← q4, List.getElem?_take] at h2
      split at h2
      · rw [← Array.getElem?_toList]; exact h2
      · cases h2
  have hAlt : A < w1.heap.size := (Array.getElem?_eq_some_iff.1 hblk).1
  have HJ0 : Aside (∀ W, Bel w1 W → J w1.heap.size [] W) := fun W hW => hst _ _ _ _ (h0 w1 (bel_w hb1)) hW
  clear hown hcf i1 i2 hI h0 hb1
  gi_loopg [11] F.length (fun g u11 wr => ∃ (k : Nat) (acc : List ByteArray), u11 = .int .i64 k ∧ k + g = F.length ∧ acc ++ tokF (F.drop k) = tokF F ∧ J w1.heap.size acc wr ∧ wr.heap[A]? = some (.cells cur 9 (0, 0)))
  case atStart =>
    exact ⟨0, [], rfl, by omega, by simp, HJ0.out _ (Bel.refl _), hblk⟩
  case round =>
    clear HJ0
    obtain ⟨k, acc, rfl, hk, ha, hj, hb⟩ := hrel
    cases gk with
    | zero =>
      obtain rfl : k = F.length := by omega
      have hja : J w1.heap.size (tokF F) wr := by
        rw [List.drop_eq_nil_of_le (Nat.le_refl _)] at ha
        have e : tokF ([] : List ByteArray) = [] := rfl
        rw [e, List.append_nil] at ha
        rw [← ha]
        exact hj
      have HA : Aside (J w1.heap.size (tokF F) wr) := hja
      clear hja ha hj hk hcur hfl hy hst hJ hb hblk
      gi_wp2
      first | go_end0 | go_ret | skip
      exact ⟨⟨_, rfl⟩, _, HA.out⟩
    | succ n =>
      have hlt : k < F.length := by omega
      have hix : (0 : Int) ≤ (k : Int) ∧ (k : Int) < (F.length : Int) := by omega
      have hc : wr.cell? ⟨A, k, none⟩ = some (.string F[k]) := (scell_at hb).trans (hcur k _ (List.getElem?_eq_getElem hlt))
      have hsz := hfl _ (List.getElem_mem hlt)
      have hdr : F.drop k = F[k] :: F.drop (k + 1) := List.drop_eq_getElem_cons hlt
      rw [hdr] at ha
      generalize F[k] = x at *
      have hG := hJ _ _ _ hj
      have HST : Aside (∀ W, Bel wr W → J w1.heap.size acc W) := fun W hW => hst _ _ _ _ hj hW
      have HB : Aside (∀ W, Bel wr W → W.heap[A]? = some (.cells cur 9 (0, 0))) := fun W hW => (hW.block _ (Array.getElem?_eq_some_iff.1 hb).1).trans hb
      cases hok : okT x with
      | false =>
        have HA : Aside (acc ++ tokF (F.drop (k + 1)) = tokF F ∧ k + (n + 1) = F.length) := ⟨by rw [← ha]; simp [tokF, hok], hk⟩
        have hno : ¬ (3 : Int) ≤ (Lib.runeCount x : Int) ∨ ¬ (Lib.runeCount x : Int) ≤ 20 := by
          simp only [okT, Bool.and_eq_false_iff, decide_eq_false_iff_not] at hok
          omega
        clear ha hk hj hb hy hst hJ hfl hcur hdr hblk hok
        generalize hrc : Lib.runeCount x = rc at *
        have c2 := fun W => c_runes x W hsz
        rw [hrc] at c2
        by_cases h3 : (3 : Int) ≤ (rc : Int)
        · have h20 : ¬ (rc : Int) ≤ 20 := by
            rcases hno with h | h
            · exact absurd h3 h
            · exact h
          clear hno
          gi_wp2_with (refine ⟨trivial, (callsIn_wide.2 (c2 _)).mono ?_⟩; rintro e w2 ⟨rfl, hb2⟩)
          rename_i K hK _
          refine ⟨trivial, hK _ _ ?_⟩
          clear hK K
          gi_wp2
          rename_i K hK _ _ _ _
          refine ⟨fun _ h => (by cases h), hK _ _ ?_⟩
          clear hK K
          gi_wp2
          gi_roundg n
          case measure => omega
          case rel => exact ⟨k + 1, acc, by simp, by have := HA.out.2; omega, HA.out.1, HST.out _ (bel_w hb2), HB.out _ (bel_w hb2)⟩
        · clear hno
          gi_wp2_with (refine ⟨trivial, (callsIn_wide.2 (c2 _)).mono ?_⟩; rintro e w2 ⟨rfl, hb2⟩)
          rename_i K hK _
          refine ⟨trivial, hK _ _ ?_⟩
          clear hK K
          gi_wp2
          rename_i K hK _ _ _ _
          refine ⟨fun _ h => (by cases h), hK _ _ ?_⟩
          clear hK K
          gi_wp2
          gi_roundg n
          case measure => omega
          case rel => exact ⟨k + 1, acc, by simp, by have := HA.out.2; omega, HA.out.1, HST.out _ (bel_w hb2), HB.out _ (bel_w hb2)⟩
      | true =>
        have htk : tokF (x :: F.drop (k + 1)) = lowS x :: tokF (F.drop (k + 1)) := by simp [tokF, hok]
        rw [htk] at ha
        have HA : Aside ((acc ++ [lowS x]) ++ tokF (F.drop (k + 1)) = tokF F ∧ k + (n + 1) = F.length) := ⟨by rw [← ha]; simp, hk⟩
        have hex : ∃ r2, acc ++ lowS x :: r2 = tokF F := ⟨_, ha⟩
        have hyes : (3 : Int) ≤ (Lib.runeCount x : Int) ∧ (Lib.runeCount x : Int) ≤ 20 := by
          simp only [okT, Bool.and_eq_true, decide_eq_true_eq] at hok
          omega
        obtain ⟨h3, h20⟩ := hyes
        have HY : Aside (∀ W, J w1.heap.size acc W → YieldAt Fence.wide 4 Tryz.prog l #[.string (lowS x)] W fun e W' => e = .returned (.bool true) ∧ J w1.heap.size (acc ++ [lowS x]) W' ∧ ∀ k, W0.heap.size ≤ k → k < w1.heap.size → W'.heap[k]? = W.heap[k]?) := fun W hW => hy _ _ _ W 4 hex hW
        have c2 := fun W => c_runes x W hsz
        have c3 := fun W hG => c_lower x W hG hsz
        clear ha hk hy hst hfl hcur hdr hblk hok htk hex
        generalize Lib.runeCount x = rc at *
        generalize lowS x = y at *
        have HG : Aside (∀ o acc W, J o acc W → GW W) := hJ
        clear hJ hj hb
        gi_wp2_with (first
          | (refine ⟨trivial, (callsIn_wide.2 (c2 _)).mono ?_⟩; rintro e w2 ⟨rfl, hb2⟩; have hG2 := HG.out _ _ _ (HST.out _ (bel_w hb2)); have c4 := c3 w2 hG2)
          | (refine ⟨trivial, (callsIn_wide.2 c4).mono ?_⟩; rintro e w3 ⟨rfl, hb3⟩; obtain ⟨fn1, tm1, as1, bo1, hyr1, hR1⟩ := HY.out _ (HST.out _ ((bel_w hb2).trans (bel_w hb3)))))
        refine hR1.mono ?_
        rintro e w4 ⟨rfl, hj4, hk4⟩
        have HJ4 : Aside (J w1.heap.size (acc ++ [y]) w4 ∧ w4.heap[A]? = some (.cells cur 9 (0, 0))) := ⟨hj4, (hk4 A hA hAlt).trans (HB.out _ ((bel_w hb2).trans (bel_w hb3)))⟩
        clear hj4 hk4 hyr1 hR1
        gi_wp2
        gi_roundg n
        case measure => omega
        case rel => exact ⟨k + 1, acc ++ [y], by simp, by have := HA.out.2; omega, HA.out.1, HJ4.out.1, HJ4.out.2⟩
end Go.Proofs.YtomnbknaanlmaaaGreatDoor
