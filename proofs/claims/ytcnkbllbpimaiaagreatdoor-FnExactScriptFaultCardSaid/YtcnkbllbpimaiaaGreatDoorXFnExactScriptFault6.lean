/- What the law FnExactScriptFault needs, part 7 of 11: the Lean functions of the Go functions that it reaches, with the proofs that the calls come to what they say, and plain facts about them. Conditions: those that each theorem states. Written by a session and by its programs (after the kit's printer). -/
import Derived.Shelf.Strings.Builder1
import Derived.Shelf.Strings.Builder2
import Derived.Shelf.Strings.OnBuilder
import Derived.Shelf.Small.Wraps
import Derived.Shelf.Strings.BuilderF
import Derived.Shelf.Strconv.Itoa0
import Derived.Shelf.Strconv.Itoa1
import Derived.Shelf.LaysM
import Derived.Shelf.Strconv.Itoa2
import Derived.Shelf.Strconv.Itoa3
import Derived.Shelf.Strconv.ParseIntEmpty
import Derived.Shelf.Strconv.Clone
import Derived.Shelf.Strconv.SyntaxError
import Derived.Shelf.LaysC
import Derived.Shelf.Strconv.ToError
import Derived.Shelf.Strconv.Lower
import Derived.Shelf.Strconv.ParseUint10
import Derived.Shelf.Strconv.ParseUint10Empty
import Derived.Shelf.Strconv.ParseUint10Any
import Derived.Shelf.Strconv.ParseInt10
import Derived.Shelf.Strconv.RangeError
import Derived.Shelf.Strconv.ToErrorRange
import Derived.Shelf.Strconv.ParseUintEmpty
import Derived.Shelf.Strconv.ParseUint10b64
import Derived.Shelf.Strconv.ParseUint10b32
import Derived.Shelf.Strconv.ParseUint10b16
import Derived.Shelf.Strconv.ParseUint10b8
import Derived.Shelf.Strconv.ParseUint10At
import Derived.Shelf.Strconv.ParseInt10At64
import Derived.Shelf.Strconv.ParseInt10At32
import Derived.Shelf.Strconv.ParseInt10At16
import Derived.Shelf.Strconv.ParseInt10At8
import Derived.Shelf.Strconv.ParseInt10All
import Derived.Shelf.Strconv.ParseIntPublic10
import Derived.Shelf.Strconv.ErrVarParseInt
import Derived.Shelf.Strings.Search1
import Derived.Shelf.Strings.Search2
import Derived.Shelf.Strings.Search3
import Derived.Shelf.Strings.Cut
import Derived.Shelf.Strings.Count
import Derived.Shelf.Strings.Shaped
import Derived.Shelf.Strings.Prefix
import Derived.Shelf.Strings.Split
import Derived.Shelf.Bits.Mul64
import Derived.Shelf.Strings.Repeat
import Derived.Shelf.Unicode.DecodeSlow
import Derived.Shelf.Slices.Turned
import Derived.Ground.Names2Prog
import Derived.Shelf.Slices.Delete
import Derived.Shelf.Slices.Cells
import Derived.Ground.SlgnProg
import Derived.Shelf.SlicesE.Index
import Derived.Ground.SlgfProg
import Derived.Shelf.SlicesE.IndexFunc
import Derived.Test.YtcnkbllbpimaiaaGreatDoorProg
import Derived.Lib.SmallJoins
import Derived.BigCall
import Derived.BigGuard
import Derived.Lib.Hide
import Derived.Lib.Walk
import Derived.Lib.ConvBytes
import Derived.Laws.Strings3
import Derived.Laws.Closers25
import Derived.Laws.Closers25b
import Derived.Test.YtcnkbllbpimaiaaGreatDoorXFnExactScriptFault5
section
namespace Go.Proofs
open Go.Shelf
def Tryz.lays156_ren : Go.Shelf.Ren := ⟨fun | 156 => 211 | 165 => 221 | 166 => 222 | 169 => 224 | 240 => 274 | 241 => 275 | 276 => 314 | 277 => 315 | n => n, fun | 31 => 35 | 9 => 9 | 3 => 3 | 4 => 4 | 0 => 0 | 20 => 20 | 72 => 255 | 76 => 257 | 70 => 253 | 37 => 138 | 75 => 202 | 127 => 306 | 164 => 345 | 5 => 5 | 80 => 260 | n => n, fun | n => n⟩
theorem Tryz.lays156 : Go.Proofs.Lays.n156 Tryz.prog Tryz.lays156_ren := {
  mixed := by kernel_rfl
  f156 := Tryz.func211.trans (congrArg some (by kernel_rfl))
  f165 := Tryz.func221.trans (congrArg some (by kernel_rfl))
  f166 := Tryz.func222.trans (congrArg some (by kernel_rfl))
  f169 := Tryz.func224.trans (congrArg some (by kernel_rfl))
  f240 := Tryz.func274.trans (congrArg some (by kernel_rfl))
  f241 := Tryz.func275.trans (congrArg some (by kernel_rfl))
  f276 := Tryz.func314.trans (congrArg some (by kernel_rfl))
  f277 := Tryz.func315.trans (congrArg some (by kernel_rfl))
  t0 := Tryz.underlying0
  a0 := Tryz.isAgg0
  z0 := Tryz.sizeOf0
  v0 := Tryz.zeroValue0
  t3 := Tryz.underlying3
  a3 := Tryz.isAgg3
  z3 := Tryz.sizeOf3
  v3 := Tryz.zeroValue3
  t4 := Tryz.underlying4
  a4 := Tryz.isAgg4
  z4 := Tryz.sizeOf4
  v4 := Tryz.zeroValue4
  t9 := Tryz.underlying9
  a9 := Tryz.isAgg9
  z9 := Tryz.sizeOf9
  v9 := Tryz.zeroValue9
  t20 := Tryz.underlying20
  a20 := Tryz.isAgg20
  z20 := Tryz.sizeOf20
  v20 := Tryz.zeroValue20
  t31 := Tryz.underlying35
  a31 := Tryz.isAgg35
  z31 := Tryz.sizeOf35
  v31 := Tryz.zeroValue35
  t37 := Tryz.underlying138
  a37 := Tryz.isAgg138
  z37 := Tryz.sizeOf138
  v37 := Tryz.zeroValue138
  t70 := Tryz.underlying253
  a70 := Tryz.isAgg253
  z70 := Tryz.sizeOf253
  v70 := Tryz.zeroValue253
  t72 := Tryz.underlying255
  a72 := Tryz.isAgg255
  z72 := Tryz.sizeOf255
  v72 := Tryz.zeroValue255
  t75 := Tryz.underlying202
  a75 := Tryz.isAgg202
  z75 := Tryz.sizeOf202
  v75 := Tryz.zeroValue202
  t76 := Tryz.underlying257
  a76 := Tryz.isAgg257
  z76 := Tryz.sizeOf257
  v76 := Tryz.zeroValue257
  t127 := Tryz.underlying306
  a127 := Tryz.isAgg306
  z127 := Tryz.sizeOf306
  v127 := Tryz.zeroValue306
  t164 := Tryz.underlying345
  a164 := Tryz.isAgg345
  z164 := Tryz.sizeOf345
  v164 := Tryz.zeroValue345 }
theorem Tryz.Builder_Extra_156 : Builder.Extra Tryz.prog Tryz.lays156_ren := {
  sizeBuilder := by kernel_rfl
  liesBuilder := by kernel_rfl
  t5 := Tryz.underlying5
  a5 := Tryz.isAgg5
  z5 := Tryz.sizeOf5
  v5 := Tryz.zeroValue5
  infoByte := by kernel_rfl
  cellsByte := by kernel_rfl
  sizeByte := by kernel_rfl
  neB5 := by decide }
open Go.RowKit in
theorem Tryz.strings_Join_none (a : Option Addr) (c : Nat) (sep : ByteArray) (w : World) :
    Calls Tryz.prog 211 #[.slice a 0 c, .string sep] w fun e w' => e = .returned (.string ⟨#[]⟩) ∧ w' = w := Any.strings_Join_none Tryz.lays156 Tryz.Builder_Extra_156 a c sep w
open Go.RowKit in
theorem Tryz.strings_Join (bk o c : Nat) (xs : List ByteArray) (sep : ByteArray) (w : World) (hcells : ∀ (j : Nat) x, xs[j]? = some x → w.cell? ⟨bk, o + j, none⟩ = some (.string x)) (hbk : bk < w.heap.size) (hN : xs.length ≤ 140737488355328) (hcap : xs.length ≤ c) (hlen : (Lib.join (xs.map (·.data.toList)) sep.data.toList).length ≤ 140737488355328) :
    Calls Tryz.prog 211 #[.slice (some ⟨bk, o, none⟩) xs.length c, .string sep] w fun e w' => e = .returned (.string ⟨(Lib.join (xs.map (·.data.toList)) sep.data.toList).toArray⟩) ∧ Below w.heap.size w w' := Any.strings_Join Tryz.lays156 Tryz.Builder_Extra_156 bk o c xs sep w hcells hbk hN hcap hlen
def Tryz.lays103_ren : Go.Shelf.Ren := ⟨fun | 103 => 136 | 210 => 192 | 206 => 238 | n => n, fun | 9 => 9 | 4 => 4 | 24 => 177 | 3 => 3 | n => n, fun | n => n⟩
theorem Tryz.lays103 : Go.Proofs.Lays.n103 Tryz.prog Tryz.lays103_ren := {
  mixed := by kernel_rfl
  f103 := Tryz.func136.trans (congrArg some (by kernel_rfl))
  f206 := Tryz.func238.trans (congrArg some (by kernel_rfl))
  f210 := Tryz.func192.trans (congrArg some (by kernel_rfl))
  t3 := Tryz.underlying3
  a3 := Tryz.isAgg3
  z3 := Tryz.sizeOf3
  v3 := Tryz.zeroValue3
  t4 := Tryz.underlying4
  a4 := Tryz.isAgg4
  z4 := Tryz.sizeOf4
  v4 := Tryz.zeroValue4
  t9 := Tryz.underlying9
  a9 := Tryz.isAgg9
  z9 := Tryz.sizeOf9
  v9 := Tryz.zeroValue9
  t24 := Tryz.underlying177
  a24 := Tryz.isAgg177
  z24 := Tryz.sizeOf177
  v24 := Tryz.zeroValue177 }
open Go.RowKit in
theorem Tryz.strings_CutPrefix (s p : ByteArray) (w : World) :
    Calls Tryz.prog 136 #[.string s, .string p] w fun e w' => e = .returned (.tuple #[.string ⟨(Lib.trimPrefix s.data.toList p.data.toList).toArray⟩, .bool (Lib.hasPrefix s.data.toList p.data.toList)]) ∧ w' = w := Any.strings_CutPrefix Tryz.lays103 s p w
def Tryz.laysM246_ren : Go.Shelf.Ren := ⟨fun | 246 => 218 | 283 => 268 | 284 => 269 | 285 => 270 | 286 => 271 | 129 => 310 | 317 => 309 | 318 => 311 | 319 => 312 | 320 => 313 | 337 => 334 | 338 => 335 | n => n, fun | 2 => 2 | 3 => 3 | 9 => 9 | 4 => 4 | 171 => 297 | 0 => 0 | 53 => 261 | 37 => 138 | 5 => 5 | 173 => 300 | 212 => 342 | 51 => 284 | 20 => 20 | 213 => 343 | 46 => 246 | 232 => 367 | 233 => 368 | n => n, fun | 17 => 7 | 18 => 10 | 19 => 11 | n => n⟩
theorem Tryz.laysM246 : Go.Proofs.LaysM.n246 Tryz.prog Tryz.laysM246_ren := {
  mixed := by kernel_rfl
  f129 := Tryz.func310.trans (congrArg some (by kernel_rfl))
  f246 := Tryz.func218.trans (congrArg some (by kernel_rfl))
  f283 := Tryz.func268.trans (congrArg some (by kernel_rfl))
  f284 := Tryz.func269.trans (congrArg some (by kernel_rfl))
  f285 := Tryz.func270.trans (congrArg some (by kernel_rfl))
  f286 := Tryz.func271.trans (congrArg some (by kernel_rfl))
  f317 := Tryz.func309.trans (congrArg some (by kernel_rfl))
  f318 := Tryz.func311.trans (congrArg some (by kernel_rfl))
  f319 := Tryz.func312.trans (congrArg some (by kernel_rfl))
  f320 := Tryz.func313.trans (congrArg some (by kernel_rfl))
  f337 := Tryz.func334.trans (congrArg some (by kernel_rfl))
  f338 := Tryz.func335.trans (congrArg some (by kernel_rfl))
  t0 := Tryz.underlying0
  a0 := Tryz.isAgg0
  z0 := Tryz.sizeOf0
  v0 := Tryz.zeroValue0
  t2 := Tryz.underlying2
  a2 := Tryz.isAgg2
  z2 := Tryz.sizeOf2
  v2 := Tryz.zeroValue2
  t3 := Tryz.underlying3
  a3 := Tryz.isAgg3
  z3 := Tryz.sizeOf3
  v3 := Tryz.zeroValue3
  t4 := Tryz.underlying4
  a4 := Tryz.isAgg4
  z4 := Tryz.sizeOf4
  v4 := Tryz.zeroValue4
  t5 := Tryz.underlying5
  a5 := Tryz.isAgg5
  z5 := Tryz.sizeOf5
  v5 := Tryz.zeroValue5
  t9 := Tryz.underlying9
  a9 := Tryz.isAgg9
  z9 := Tryz.sizeOf9
  v9 := Tryz.zeroValue9
  t20 := Tryz.underlying20
  a20 := Tryz.isAgg20
  z20 := Tryz.sizeOf20
  v20 := Tryz.zeroValue20
  t37 := Tryz.underlying138
  a37 := Tryz.isAgg138
  z37 := Tryz.sizeOf138
  v37 := Tryz.zeroValue138
  t46 := Tryz.underlying246
  a46 := Tryz.isAgg246
  z46 := Tryz.sizeOf246
  v46 := Tryz.zeroValue246
  t51 := Tryz.underlying284
  a51 := Tryz.isAgg284
  z51 := Tryz.sizeOf284
  v51 := Tryz.zeroValue284
  t53 := Tryz.underlying261
  a53 := Tryz.isAgg261
  z53 := Tryz.sizeOf261
  v53 := Tryz.zeroValue261
  t171 := Tryz.underlying297
  a171 := Tryz.isAgg297
  z171 := Tryz.sizeOf297
  v171 := Tryz.zeroValue297
  t173 := Tryz.underlying300
  a173 := Tryz.isAgg300
  z173 := Tryz.sizeOf300
  v173 := Tryz.zeroValue300
  t212 := Tryz.underlying342
  a212 := Tryz.isAgg342
  z212 := Tryz.sizeOf342
  v212 := Tryz.zeroValue342
  t213 := Tryz.underlying343
  a213 := Tryz.isAgg343
  z213 := Tryz.sizeOf343
  t232 := Tryz.underlying367
  a232 := Tryz.isAgg367
  z232 := Tryz.sizeOf367
  v232 := Tryz.zeroValue367
  t233 := Tryz.underlying368
  a233 := Tryz.isAgg368
  z233 := Tryz.sizeOf368
  v233 := Tryz.zeroValue368
  g17 := by kernel_rfl
  g18 := by kernel_rfl
  g19 := by kernel_rfl
  i0 := by kernel_rfl
  i2 := by kernel_rfl
  i3 := by kernel_rfl
  i4 := by kernel_rfl
  i5 := by kernel_rfl
  i9 := by kernel_rfl
  i20 := by kernel_rfl
  i37 := by kernel_rfl
  i46 := by kernel_rfl
  i51 := by kernel_rfl
  i53 := by kernel_rfl
  i171 := by kernel_rfl
  i173 := by kernel_rfl
  i212 := by kernel_rfl
  i232 := by kernel_rfl
  i233 := by kernel_rfl
  m17 := by kernel_rfl
  m18 := by kernel_rfl
  m19 := by kernel_rfl }
open Go.RowKit Go.Sort Go.Lib in
theorem Tryz.internal_strconv_FormatInt_10 (n : Int) (h0 : -9223372036854775808 ≤ n) (h1 : n ≤ 9223372036854775807) (w : World) (htab : Lib.TabIs Tryz.prog w "internal/strconv.uint64pow10" .u64 Lib.pow10Tab) :
    Calls Tryz.prog 218 #[.int .i64 n, .int .i64 10] w fun e w' => e = .returned (.string ⟨(Lib.itoa n).toArray⟩) ∧ ∃ k os, w' = grow (w.drewN k) os := Any.internal_strconv_FormatInt_10 Tryz.laysM246 n h0 h1 w htab
def Tryz.laysC245_ren : Go.Shelf.Ren := ⟨fun | 245 => 217 | 279 => 264 | 280 => 265 | 281 => 266 | 282 => 267 | 316 => 306 | 171 => 308 | 205 => 307 | 243 => 333 | 246 => 218 | 283 => 268 | 284 => 269 | 285 => 270 | 286 => 271 | 129 => 310 | 317 => 309 | 318 => 311 | 319 => 312 | 320 => 313 | 337 => 334 | 338 => 335 | n => n, fun | 9 => 9 | 3 => 3 | 75 => 202 | 167 => 293 | 4 => 4 | 168 => 294 | 210 => 339 | 37 => 138 | 0 => 0 | 127 => 306 | 145 => 363 | 143 => 361 | 2 => 2 | 171 => 297 | 53 => 261 | 5 => 5 | 173 => 300 | 212 => 342 | 51 => 284 | 20 => 20 | 213 => 343 | 46 => 246 | 232 => 367 | 233 => 368 | 80 => 260 | n => n, fun | 15 => 5 | 16 => 6 | 17 => 7 | 18 => 10 | 19 => 11 | n => n⟩
theorem Tryz.laysC245 : Go.Proofs.LaysC.n245 Tryz.prog Tryz.laysC245_ren := {
  mixed := by kernel_rfl
  f129 := Tryz.func310.trans (congrArg some (by kernel_rfl))
  f171 := Tryz.func308.trans (congrArg some (by kernel_rfl))
  f205 := Tryz.func307.trans (congrArg some (by kernel_rfl))
  f243 := Tryz.func333.trans (congrArg some (by kernel_rfl))
  f245 := Tryz.func217.trans (congrArg some (by kernel_rfl))
  f246 := Tryz.func218.trans (congrArg some (by kernel_rfl))
  f279 := Tryz.func264.trans (congrArg some (by kernel_rfl))
  f280 := Tryz.func265.trans (congrArg some (by kernel_rfl))
  f281 := Tryz.func266.trans (congrArg some (by kernel_rfl))
  f282 := Tryz.func267.trans (congrArg some (by kernel_rfl))
  f283 := Tryz.func268.trans (congrArg some (by kernel_rfl))
  f284 := Tryz.func269.trans (congrArg some (by kernel_rfl))
  f285 := Tryz.func270.trans (congrArg some (by kernel_rfl))
  f286 := Tryz.func271.trans (congrArg some (by kernel_rfl))
  f316 := Tryz.func306.trans (congrArg some (by kernel_rfl))
  f317 := Tryz.func309.trans (congrArg some (by kernel_rfl))
  f318 := Tryz.func311.trans (congrArg some (by kernel_rfl))
  f319 := Tryz.func312.trans (congrArg some (by kernel_rfl))
  f320 := Tryz.func313.trans (congrArg some (by kernel_rfl))
  f337 := Tryz.func334.trans (congrArg some (by kernel_rfl))
  f338 := Tryz.func335.trans (congrArg some (by kernel_rfl))
  t0 := Tryz.underlying0
  a0 := Tryz.isAgg0
  z0 := Tryz.sizeOf0
  v0 := Tryz.zeroValue0
  t2 := Tryz.underlying2
  a2 := Tryz.isAgg2
  z2 := Tryz.sizeOf2
  v2 := Tryz.zeroValue2
  t3 := Tryz.underlying3
  a3 := Tryz.isAgg3
  z3 := Tryz.sizeOf3
  v3 := Tryz.zeroValue3
  t4 := Tryz.underlying4
  a4 := Tryz.isAgg4
  z4 := Tryz.sizeOf4
  v4 := Tryz.zeroValue4
  t5 := Tryz.underlying5
  a5 := Tryz.isAgg5
  z5 := Tryz.sizeOf5
  v5 := Tryz.zeroValue5
  t9 := Tryz.underlying9
  a9 := Tryz.isAgg9
  z9 := Tryz.sizeOf9
  v9 := Tryz.zeroValue9
  t20 := Tryz.underlying20
  a20 := Tryz.isAgg20
  z20 := Tryz.sizeOf20
  v20 := Tryz.zeroValue20
  t37 := Tryz.underlying138
  a37 := Tryz.isAgg138
  z37 := Tryz.sizeOf138
  v37 := Tryz.zeroValue138
  t46 := Tryz.underlying246
  a46 := Tryz.isAgg246
  z46 := Tryz.sizeOf246
  v46 := Tryz.zeroValue246
  t51 := Tryz.underlying284
  a51 := Tryz.isAgg284
  z51 := Tryz.sizeOf284
  v51 := Tryz.zeroValue284
  t53 := Tryz.underlying261
  a53 := Tryz.isAgg261
  z53 := Tryz.sizeOf261
  v53 := Tryz.zeroValue261
  t75 := Tryz.underlying202
  a75 := Tryz.isAgg202
  z75 := Tryz.sizeOf202
  v75 := Tryz.zeroValue202
  t127 := Tryz.underlying306
  a127 := Tryz.isAgg306
  z127 := Tryz.sizeOf306
  v127 := Tryz.zeroValue306
  t143 := Tryz.underlying361
  a143 := Tryz.isAgg361
  z143 := Tryz.sizeOf361
  v143 := Tryz.zeroValue361
  t145 := Tryz.underlying363
  a145 := Tryz.isAgg363
  z145 := Tryz.sizeOf363
  v145 := Tryz.zeroValue363
  t167 := Tryz.underlying293
  a167 := Tryz.isAgg293
  z167 := Tryz.sizeOf293
  v167 := Tryz.zeroValue293
  t168 := Tryz.underlying294
  a168 := Tryz.isAgg294
  z168 := Tryz.sizeOf294
  v168 := Tryz.zeroValue294
  t171 := Tryz.underlying297
  a171 := Tryz.isAgg297
  z171 := Tryz.sizeOf297
  v171 := Tryz.zeroValue297
  t173 := Tryz.underlying300
  a173 := Tryz.isAgg300
  z173 := Tryz.sizeOf300
  v173 := Tryz.zeroValue300
  t210 := Tryz.underlying339
  a210 := Tryz.isAgg339
  z210 := Tryz.sizeOf339
  v210 := Tryz.zeroValue339
  t212 := Tryz.underlying342
  a212 := Tryz.isAgg342
  z212 := Tryz.sizeOf342
  v212 := Tryz.zeroValue342
  t213 := Tryz.underlying343
  a213 := Tryz.isAgg343
  z213 := Tryz.sizeOf343
  t232 := Tryz.underlying367
  a232 := Tryz.isAgg367
  z232 := Tryz.sizeOf367
  v232 := Tryz.zeroValue367
  t233 := Tryz.underlying368
  a233 := Tryz.isAgg368
  z233 := Tryz.sizeOf368
  v233 := Tryz.zeroValue368
  g15 := by kernel_rfl
  g16 := by kernel_rfl
  g17 := by kernel_rfl
  g18 := by kernel_rfl
  g19 := by kernel_rfl
  t80 := Tryz.underlying260
  a80 := Tryz.isAgg260
  z80 := Tryz.sizeOf260
  v80 := Tryz.zeroValue260
  i0 := by kernel_rfl
  i2 := by kernel_rfl
  i3 := by kernel_rfl
  i4 := by kernel_rfl
  i5 := by kernel_rfl
  i9 := by kernel_rfl
  i20 := by kernel_rfl
  i37 := by kernel_rfl
  i46 := by kernel_rfl
  i51 := by kernel_rfl
  i53 := by kernel_rfl
  i75 := by kernel_rfl
  i80 := by kernel_rfl
  i127 := by kernel_rfl
  i143 := by kernel_rfl
  i145 := by kernel_rfl
  i167 := by kernel_rfl
  i168 := by kernel_rfl
  i171 := by kernel_rfl
  i173 := by kernel_rfl
  i210 := by kernel_rfl
  i212 := by kernel_rfl
  i232 := by kernel_rfl
  i233 := by kernel_rfl
  m15 := by kernel_rfl
  m16 := by kernel_rfl
  m17 := by kernel_rfl
  m18 := by kernel_rfl
  m19 := by kernel_rfl
  c0 := by kernel_rfl
  c2 := by kernel_rfl
  c3 := by kernel_rfl
  c4 := by kernel_rfl
  c5 := by kernel_rfl
  c9 := by kernel_rfl
  c20 := by kernel_rfl
  c37 := by kernel_rfl
  c46 := by kernel_rfl
  c51 := by kernel_rfl
  c53 := by kernel_rfl
  c75 := by kernel_rfl
  c80 := by kernel_rfl
  c127 := by kernel_rfl
  c143 := by kernel_rfl
  c145 := by kernel_rfl
  c167 := by kernel_rfl
  c168 := by kernel_rfl
  c171 := by kernel_rfl
  c173 := by kernel_rfl
  c210 := by kernel_rfl
  c212 := by kernel_rfl
  c213 := by kernel_rfl
  c232 := by kernel_rfl
  c233 := by kernel_rfl }
def Tryz.lays321_ren : Go.Shelf.Ren := ⟨fun | 321 => 304 | n => n, fun | 5 => 5 | n => n, fun | n => n⟩
theorem Tryz.lays321 : Go.Proofs.Lays.n321 Tryz.prog Tryz.lays321_ren := {
  mixed := by kernel_rfl
  f321 := Tryz.func304.trans (congrArg some (by kernel_rfl))
  t5 := Tryz.underlying5
  a5 := Tryz.isAgg5
  z5 := Tryz.sizeOf5
  v5 := Tryz.zeroValue5 }
def Tryz.laysC174_ren : Go.Shelf.Ren := ⟨fun | 174 => 159 | 247 => 216 | 245 => 217 | 287 => 263 | 279 => 264 | 280 => 265 | 281 => 266 | 282 => 267 | 321 => 304 | 322 => 305 | 316 => 306 | 171 => 308 | 205 => 307 | 243 => 333 | 246 => 218 | 283 => 268 | 284 => 269 | 285 => 270 | 286 => 271 | 129 => 310 | 317 => 309 | 318 => 311 | 319 => 312 | 320 => 313 | 337 => 334 | 338 => 335 | n => n, fun | 9 => 9 | 3 => 3 | 2 => 2 | 75 => 202 | 85 => 203 | 4 => 4 | 167 => 293 | 5 => 5 | 53 => 261 | 175 => 262 | 46 => 246 | 168 => 294 | 37 => 138 | 0 => 0 | 210 => 339 | 21 => 21 | 127 => 306 | 145 => 363 | 143 => 361 | 171 => 297 | 173 => 300 | 212 => 342 | 51 => 284 | 20 => 20 | 213 => 343 | 232 => 367 | 233 => 368 | 80 => 260 | n => n, fun | 15 => 5 | 16 => 6 | 17 => 7 | 18 => 10 | 19 => 11 | n => n⟩
theorem Tryz.laysC174 : Go.Proofs.LaysC.n174 Tryz.prog Tryz.laysC174_ren := {
  mixed := by kernel_rfl
  f129 := Tryz.func310.trans (congrArg some (by kernel_rfl))
  f171 := Tryz.func308.trans (congrArg some (by kernel_rfl))
  f174 := Tryz.func159.trans (congrArg some (by kernel_rfl))
  f205 := Tryz.func307.trans (congrArg some (by kernel_rfl))
  f243 := Tryz.func333.trans (congrArg some (by kernel_rfl))
  f245 := Tryz.func217.trans (congrArg some (by kernel_rfl))
  f246 := Tryz.func218.trans (congrArg some (by kernel_rfl))
  f247 := Tryz.func216.trans (congrArg some (by kernel_rfl))
  f279 := Tryz.func264.trans (congrArg some (by kernel_rfl))
  f280 := Tryz.func265.trans (congrArg some (by kernel_rfl))
  f281 := Tryz.func266.trans (congrArg some (by kernel_rfl))
  f282 := Tryz.func267.trans (congrArg some (by kernel_rfl))
  f283 := Tryz.func268.trans (congrArg some (by kernel_rfl))
  f284 := Tryz.func269.trans (congrArg some (by kernel_rfl))
  f285 := Tryz.func270.trans (congrArg some (by kernel_rfl))
  f286 := Tryz.func271.trans (congrArg some (by kernel_rfl))
  f287 := Tryz.func263.trans (congrArg some (by kernel_rfl))
  f316 := Tryz.func306.trans (congrArg some (by kernel_rfl))
  f317 := Tryz.func309.trans (congrArg some (by kernel_rfl))
  f318 := Tryz.func311.trans (congrArg some (by kernel_rfl))
  f319 := Tryz.func312.trans (congrArg some (by kernel_rfl))
  f320 := Tryz.func313.trans (congrArg some (by kernel_rfl))
  f321 := Tryz.func304.trans (congrArg some (by kernel_rfl))
  f322 := Tryz.func305.trans (congrArg some (by kernel_rfl))
  f337 := Tryz.func334.trans (congrArg some (by kernel_rfl))
  f338 := Tryz.func335.trans (congrArg some (by kernel_rfl))
  t0 := Tryz.underlying0
  a0 := Tryz.isAgg0
  z0 := Tryz.sizeOf0
  v0 := Tryz.zeroValue0
  t2 := Tryz.underlying2
  a2 := Tryz.isAgg2
  z2 := Tryz.sizeOf2
  v2 := Tryz.zeroValue2
  t3 := Tryz.underlying3
  a3 := Tryz.isAgg3
  z3 := Tryz.sizeOf3
  v3 := Tryz.zeroValue3
  t4 := Tryz.underlying4
  a4 := Tryz.isAgg4
  z4 := Tryz.sizeOf4
  v4 := Tryz.zeroValue4
  t5 := Tryz.underlying5
  a5 := Tryz.isAgg5
  z5 := Tryz.sizeOf5
  v5 := Tryz.zeroValue5
  t9 := Tryz.underlying9
  a9 := Tryz.isAgg9
  z9 := Tryz.sizeOf9
  v9 := Tryz.zeroValue9
  t20 := Tryz.underlying20
  a20 := Tryz.isAgg20
  z20 := Tryz.sizeOf20
  v20 := Tryz.zeroValue20
  t21 := Tryz.underlying21
  a21 := Tryz.isAgg21
  z21 := Tryz.sizeOf21
  v21 := Tryz.zeroValue21
  t37 := Tryz.underlying138
  a37 := Tryz.isAgg138
  z37 := Tryz.sizeOf138
  v37 := Tryz.zeroValue138
  t46 := Tryz.underlying246
  a46 := Tryz.isAgg246
  z46 := Tryz.sizeOf246
  v46 := Tryz.zeroValue246
  t51 := Tryz.underlying284
  a51 := Tryz.isAgg284
  z51 := Tryz.sizeOf284
  v51 := Tryz.zeroValue284
  t53 := Tryz.underlying261
  a53 := Tryz.isAgg261
  z53 := Tryz.sizeOf261
  v53 := Tryz.zeroValue261
  t75 := Tryz.underlying202
  a75 := Tryz.isAgg202
  z75 := Tryz.sizeOf202
  v75 := Tryz.zeroValue202
  t85 := Tryz.underlying203
  a85 := Tryz.isAgg203
  z85 := Tryz.sizeOf203
  v85 := Tryz.zeroValue203
  t127 := Tryz.underlying306
  a127 := Tryz.isAgg306
  z127 := Tryz.sizeOf306
  v127 := Tryz.zeroValue306
  t143 := Tryz.underlying361
  a143 := Tryz.isAgg361
  z143 := Tryz.sizeOf361
  v143 := Tryz.zeroValue361
  t145 := Tryz.underlying363
  a145 := Tryz.isAgg363
  z145 := Tryz.sizeOf363
  v145 := Tryz.zeroValue363
  t167 := Tryz.underlying293
  a167 := Tryz.isAgg293
  z167 := Tryz.sizeOf293
  v167 := Tryz.zeroValue293
  t168 := Tryz.underlying294
  a168 := Tryz.isAgg294
  z168 := Tryz.sizeOf294
  v168 := Tryz.zeroValue294
  t171 := Tryz.underlying297
  a171 := Tryz.isAgg297
  z171 := Tryz.sizeOf297
  v171 := Tryz.zeroValue297
  t173 := Tryz.underlying300
  a173 := Tryz.isAgg300
  z173 := Tryz.sizeOf300
  v173 := Tryz.zeroValue300
  t175 := Tryz.underlying262
  a175 := Tryz.isAgg262
  z175 := Tryz.sizeOf262
  v175 := Tryz.zeroValue262
  t210 := Tryz.underlying339
  a210 := Tryz.isAgg339
  z210 := Tryz.sizeOf339
  v210 := Tryz.zeroValue339
  t212 := Tryz.underlying342
  a212 := Tryz.isAgg342
  z212 := Tryz.sizeOf342
  v212 := Tryz.zeroValue342
  t213 := Tryz.underlying343
  a213 := Tryz.isAgg343
  z213 := Tryz.sizeOf343
  t232 := Tryz.underlying367
  a232 := Tryz.isAgg367
  z232 := Tryz.sizeOf367
  v232 := Tryz.zeroValue367
  t233 := Tryz.underlying368
  a233 := Tryz.isAgg368
  z233 := Tryz.sizeOf368
  v233 := Tryz.zeroValue368
  g15 := by kernel_rfl
  g16 := by kernel_rfl
  g17 := by kernel_rfl
  g18 := by kernel_rfl
  g19 := by kernel_rfl
  t80 := Tryz.underlying260
  a80 := Tryz.isAgg260
  z80 := Tryz.sizeOf260
  v80 := Tryz.zeroValue260
  i0 := by kernel_rfl
  i2 := by kernel_rfl
  i3 := by kernel_rfl
  i4 := by kernel_rfl
  i5 := by kernel_rfl
  i9 := by kernel_rfl
  i20 := by kernel_rfl
  i21 := by kernel_rfl
  i37 := by kernel_rfl
  i46 := by kernel_rfl
  i51 := by kernel_rfl
  i53 := by kernel_rfl
  i75 := by kernel_rfl
  i80 := by kernel_rfl
  i85 := by kernel_rfl
  i127 := by kernel_rfl
  i143 := by kernel_rfl
  i145 := by kernel_rfl
  i167 := by kernel_rfl
  i168 := by kernel_rfl
  i171 := by kernel_rfl
  i173 := by kernel_rfl
  i175 := by kernel_rfl
  i210 := by kernel_rfl
  i212 := by kernel_rfl
  i232 := by kernel_rfl
  i233 := by kernel_rfl
  m15 := by kernel_rfl
  m16 := by kernel_rfl
  m17 := by kernel_rfl
  m18 := by kernel_rfl
  m19 := by kernel_rfl
  c0 := by kernel_rfl
  c2 := by kernel_rfl
  c3 := by kernel_rfl
  c4 := by kernel_rfl
  c5 := by kernel_rfl
  c9 := by kernel_rfl
  c20 := by kernel_rfl
  c21 := by kernel_rfl
  c37 := by kernel_rfl
  c46 := by kernel_rfl
  c51 := by kernel_rfl
  c53 := by kernel_rfl
  c75 := by kernel_rfl
  c80 := by kernel_rfl
  c85 := by kernel_rfl
  c127 := by kernel_rfl
  c143 := by kernel_rfl
  c145 := by kernel_rfl
  c167 := by kernel_rfl
  c168 := by kernel_rfl
  c171 := by kernel_rfl
  c173 := by kernel_rfl
  c175 := by kernel_rfl
  c210 := by kernel_rfl
  c212 := by kernel_rfl
  c213 := by kernel_rfl
  c232 := by kernel_rfl
  c233 := by kernel_rfl }
def Tryz.lays145_ren : Go.Shelf.Ren := ⟨fun | 145 => 135 | 220 => 191 | 219 => 237 | 217 => 279 | 225 => 280 | 224 => 281 | 267 => 282 | 266 => 317 | 314 => 318 | n => n, fun | 9 => 9 | 4 => 4 | 59 => 175 | 3 => 3 | 5 => 5 | 46 => 246 | 146 => 302 | 51 => 284 | n => n, fun | 1 => 3 | n => n⟩
theorem Tryz.lays145 : Go.Proofs.Lays.n145 Tryz.prog Tryz.lays145_ren := {
  mixed := by kernel_rfl
  f145 := Tryz.func135.trans (congrArg some (by kernel_rfl))
  f217 := Tryz.func279.trans (congrArg some (by kernel_rfl))
  f219 := Tryz.func237.trans (congrArg some (by kernel_rfl))
  f220 := Tryz.func191.trans (congrArg some (by kernel_rfl))
  f224 := Tryz.func281.trans (congrArg some (by kernel_rfl))
  f225 := Tryz.func280.trans (congrArg some (by kernel_rfl))
  f266 := Tryz.func317.trans (congrArg some (by kernel_rfl))
  f267 := Tryz.func282.trans (congrArg some (by kernel_rfl))
  f314 := Tryz.func318.trans (congrArg some (by kernel_rfl))
  t3 := Tryz.underlying3
  a3 := Tryz.isAgg3
  z3 := Tryz.sizeOf3
  v3 := Tryz.zeroValue3
  t4 := Tryz.underlying4
  a4 := Tryz.isAgg4
  z4 := Tryz.sizeOf4
  v4 := Tryz.zeroValue4
  t5 := Tryz.underlying5
  a5 := Tryz.isAgg5
  z5 := Tryz.sizeOf5
  v5 := Tryz.zeroValue5
  t9 := Tryz.underlying9
  a9 := Tryz.isAgg9
  z9 := Tryz.sizeOf9
  v9 := Tryz.zeroValue9
  t46 := Tryz.underlying246
  a46 := Tryz.isAgg246
  z46 := Tryz.sizeOf246
  v46 := Tryz.zeroValue246
  t51 := Tryz.underlying284
  a51 := Tryz.isAgg284
  z51 := Tryz.sizeOf284
  v51 := Tryz.zeroValue284
  t59 := Tryz.underlying175
  a59 := Tryz.isAgg175
  z59 := Tryz.sizeOf175
  v59 := Tryz.zeroValue175
  t146 := Tryz.underlying302
  a146 := Tryz.isAgg302
  z146 := Tryz.sizeOf302
  v146 := Tryz.zeroValue302
  g1 := by kernel_rfl }
open Go.RowKit Go.Lib in
theorem Tryz.strings_Cut (s sep : ByteArray) (m : Int) (w : World) (hs : s.size < 4294967281) (hm : w.cell? ⟨3, 0, none⟩ = some (.int .i64 m)) :
    Calls Tryz.prog 135 #[.string s, .string sep] w fun e w' => e = .returned (.tuple #[.string ⟨(Lib.cut s.data.toList sep.data.toList).1.toArray⟩, .string ⟨(Lib.cut s.data.toList sep.data.toList).2.1.toArray⟩, .bool (Lib.cut s.data.toList sep.data.toList).2.2]) ∧ ∃ n, w' = w.drewN n := Any.strings_Cut Tryz.lays145 s sep m w hs hm
def Tryz.lays138_ren : Go.Shelf.Ren := ⟨fun | 138 => 214 | 195 => 260 | 218 => 262 | 143 => 215 | 219 => 237 | 217 => 279 | 225 => 280 | 224 => 281 | 267 => 282 | 266 => 317 | 314 => 318 | n => n, fun | 9 => 9 | 3 => 3 | 4 => 4 | 5 => 5 | 0 => 0 | 46 => 246 | 146 => 302 | 51 => 284 | n => n, fun | 1 => 3 | n => n⟩
theorem Tryz.lays138 : Go.Proofs.Lays.n138 Tryz.prog Tryz.lays138_ren := {
  mixed := by kernel_rfl
  f138 := Tryz.func214.trans (congrArg some (by kernel_rfl))
  f143 := Tryz.func215.trans (congrArg some (by kernel_rfl))
  f195 := Tryz.func260.trans (congrArg some (by kernel_rfl))
  f217 := Tryz.func279.trans (congrArg some (by kernel_rfl))
  f218 := Tryz.func262.trans (congrArg some (by kernel_rfl))
  f219 := Tryz.func237.trans (congrArg some (by kernel_rfl))
  f224 := Tryz.func281.trans (congrArg some (by kernel_rfl))
  f225 := Tryz.func280.trans (congrArg some (by kernel_rfl))
  f266 := Tryz.func317.trans (congrArg some (by kernel_rfl))
  f267 := Tryz.func282.trans (congrArg some (by kernel_rfl))
  f314 := Tryz.func318.trans (congrArg some (by kernel_rfl))
  t0 := Tryz.underlying0
  a0 := Tryz.isAgg0
  z0 := Tryz.sizeOf0
  v0 := Tryz.zeroValue0
  t3 := Tryz.underlying3
  a3 := Tryz.isAgg3
  z3 := Tryz.sizeOf3
  v3 := Tryz.zeroValue3
  t4 := Tryz.underlying4
  a4 := Tryz.isAgg4
  z4 := Tryz.sizeOf4
  v4 := Tryz.zeroValue4
  t5 := Tryz.underlying5
  a5 := Tryz.isAgg5
  z5 := Tryz.sizeOf5
  v5 := Tryz.zeroValue5
  t9 := Tryz.underlying9
  a9 := Tryz.isAgg9
  z9 := Tryz.sizeOf9
  v9 := Tryz.zeroValue9
  t46 := Tryz.underlying246
  a46 := Tryz.isAgg246
  z46 := Tryz.sizeOf246
  v46 := Tryz.zeroValue246
  t51 := Tryz.underlying284
  a51 := Tryz.isAgg284
  z51 := Tryz.sizeOf284
  v51 := Tryz.zeroValue284
  t146 := Tryz.underlying302
  a146 := Tryz.isAgg302
  z146 := Tryz.sizeOf302
  v146 := Tryz.zeroValue302
  g1 := by kernel_rfl }
open Go.RowKit Go.Lib in
theorem Tryz.strings_Count_one (s : ByteArray) (c : UInt8) (w : World) :
    Calls Tryz.prog 214 #[.string s, .string ⟨#[c]⟩] w fun e w' => e = .returned (.int .i64 (Lib.countByte s.data.toList c)) ∧ w' = w := Any.strings_Count_one Tryz.lays138 s c w
open Go.RowKit Go.Lib in
theorem Tryz.strings_Count (s sub : ByteArray) (m : Int) (w : World) (hs : s.size < 4294967281) (hm : w.cell? ⟨3, 0, none⟩ = some (.int .i64 m)) (h2 : 2 ≤ sub.size) :
    Calls Tryz.prog 214 #[.string s, .string sub] w fun e w' => e = .returned (.int .i64 (Lib.countB s sub)) ∧ w' = w := Any.strings_Count Tryz.lays138 s sub m w hs hm h2
def Tryz.lays146_ren : Go.Shelf.Ren := ⟨fun | 146 => 93 | 221 => 158 | 268 => 213 | 138 => 214 | 143 => 215 | 195 => 260 | 197 => 261 | 218 => 262 | 219 => 237 | 260 => 303 | 217 => 279 | 225 => 280 | 224 => 281 | 267 => 282 | 266 => 317 | 314 => 318 | n => n, fun | 9 => 9 | 31 => 35 | 3 => 3 | 4 => 4 | 0 => 0 | 105 => 290 | 21 => 21 | 5 => 5 | 46 => 246 | 119 => 357 | 139 => 360 | 138 => 359 | 146 => 302 | 51 => 284 | n => n, fun | 1 => 3 | 3 => 8 | 4 => 9 | n => n⟩
theorem Tryz.lays146 : Go.Proofs.Lays.n146 Tryz.prog Tryz.lays146_ren := {
  mixed := by kernel_rfl
  f138 := Tryz.func214.trans (congrArg some (by kernel_rfl))
  f143 := Tryz.func215.trans (congrArg some (by kernel_rfl))
  f146 := Tryz.func93.trans (congrArg some (by kernel_rfl))
  f195 := Tryz.func260.trans (congrArg some (by kernel_rfl))
  f197 := Tryz.func261.trans (congrArg some (by kernel_rfl))
  f217 := Tryz.func279.trans (congrArg some (by kernel_rfl))
  f218 := Tryz.func262.trans (congrArg some (by kernel_rfl))
  f219 := Tryz.func237.trans (congrArg some (by kernel_rfl))
  f221 := Tryz.func158.trans (congrArg some (by kernel_rfl))
  f224 := Tryz.func281.trans (congrArg some (by kernel_rfl))
  f225 := Tryz.func280.trans (congrArg some (by kernel_rfl))
  f260 := Tryz.func303.trans (congrArg some (by kernel_rfl))
  f266 := Tryz.func317.trans (congrArg some (by kernel_rfl))
  f267 := Tryz.func282.trans (congrArg some (by kernel_rfl))
  f268 := Tryz.func213.trans (congrArg some (by kernel_rfl))
  f314 := Tryz.func318.trans (congrArg some (by kernel_rfl))
  t0 := Tryz.underlying0
  a0 := Tryz.isAgg0
  z0 := Tryz.sizeOf0
  v0 := Tryz.zeroValue0
  t3 := Tryz.underlying3
  a3 := Tryz.isAgg3
  z3 := Tryz.sizeOf3
  v3 := Tryz.zeroValue3
  t4 := Tryz.underlying4
  a4 := Tryz.isAgg4
  z4 := Tryz.sizeOf4
  v4 := Tryz.zeroValue4
  t5 := Tryz.underlying5
  a5 := Tryz.isAgg5
  z5 := Tryz.sizeOf5
  v5 := Tryz.zeroValue5
  t9 := Tryz.underlying9
  a9 := Tryz.isAgg9
  z9 := Tryz.sizeOf9
  v9 := Tryz.zeroValue9
  t21 := Tryz.underlying21
  a21 := Tryz.isAgg21
  z21 := Tryz.sizeOf21
  v21 := Tryz.zeroValue21
  t31 := Tryz.underlying35
  a31 := Tryz.isAgg35
  z31 := Tryz.sizeOf35
  v31 := Tryz.zeroValue35
  t46 := Tryz.underlying246
  a46 := Tryz.isAgg246
  z46 := Tryz.sizeOf246
  v46 := Tryz.zeroValue246
  t51 := Tryz.underlying284
  a51 := Tryz.isAgg284
  z51 := Tryz.sizeOf284
  v51 := Tryz.zeroValue284
  t105 := Tryz.underlying290
  a105 := Tryz.isAgg290
  z105 := Tryz.sizeOf290
  v105 := Tryz.zeroValue290
  t119 := Tryz.underlying357
  a119 := Tryz.isAgg357
  z119 := Tryz.sizeOf357
  t138 := Tryz.underlying359
  a138 := Tryz.isAgg359
  z138 := Tryz.sizeOf359
  v138 := Tryz.zeroValue359
  t139 := Tryz.underlying360
  a139 := Tryz.isAgg360
  z139 := Tryz.sizeOf360
  v139 := Tryz.zeroValue360
  t146 := Tryz.underlying302
  a146 := Tryz.isAgg302
  z146 := Tryz.sizeOf302
  v146 := Tryz.zeroValue302
  g1 := by kernel_rfl
  g3 := by kernel_rfl
  g4 := by kernel_rfl }
open Go.RowKit Go.Lib in
theorem Tryz.strings_Split (s sep : ByteArray) (m : Int) (w : World) (hs : s.size < 4294967281) (hm : w.cell? ⟨3, 0, none⟩ = some (.int .i64 m)) (h1 : 1 ≤ sep.size) :
    Calls Tryz.prog 93 #[.string s, .string sep] w fun e w' =>
      e = .returned (.slice (some ⟨w.heap.size, 0, none⟩) (Lib.countB s sep + 1) (Lib.countB s sep + 1)) ∧ w' = w.alloc (.cells ((Lib.splitB sep 0 (Lib.countB s sep) s).map Value.string).toArray 9) := Any.strings_Split Tryz.lays146 (by kernel_rfl) s sep m w hs hm h1
def Tryz.lays105_ren : Go.Shelf.Ren := ⟨fun | 105 => 162 | 212 => 219 | 99 => 220 | 165 => 221 | 166 => 222 | 170 => 223 | 169 => 224 | 263 => 272 | 264 => 273 | 206 => 238 | 240 => 274 | 241 => 275 | 276 => 314 | 277 => 315 | n => n, fun | 9 => 9 | 3 => 3 | 4 => 4 | 20 => 20 | 0 => 0 | 46 => 246 | 109 => 250 | 5 => 5 | 72 => 255 | 76 => 257 | 51 => 284 | 146 => 302 | 53 => 261 | 148 => 304 | 70 => 253 | 37 => 138 | 75 => 202 | 127 => 306 | 164 => 345 | 80 => 260 | n => n, fun | n => n⟩
theorem Tryz.lays105 : Go.Proofs.Lays.n105 Tryz.prog Tryz.lays105_ren := {
  mixed := by kernel_rfl
  f99 := Tryz.func220.trans (congrArg some (by kernel_rfl))
  f105 := Tryz.func162.trans (congrArg some (by kernel_rfl))
  f165 := Tryz.func221.trans (congrArg some (by kernel_rfl))
  f166 := Tryz.func222.trans (congrArg some (by kernel_rfl))
  f169 := Tryz.func224.trans (congrArg some (by kernel_rfl))
  f170 := Tryz.func223.trans (congrArg some (by kernel_rfl))
  f206 := Tryz.func238.trans (congrArg some (by kernel_rfl))
  f212 := Tryz.func219.trans (congrArg some (by kernel_rfl))
  f240 := Tryz.func274.trans (congrArg some (by kernel_rfl))
  f241 := Tryz.func275.trans (congrArg some (by kernel_rfl))
  f263 := Tryz.func272.trans (congrArg some (by kernel_rfl))
  f264 := Tryz.func273.trans (congrArg some (by kernel_rfl))
  f276 := Tryz.func314.trans (congrArg some (by kernel_rfl))
  f277 := Tryz.func315.trans (congrArg some (by kernel_rfl))
  t0 := Tryz.underlying0
  a0 := Tryz.isAgg0
  z0 := Tryz.sizeOf0
  v0 := Tryz.zeroValue0
  t3 := Tryz.underlying3
  a3 := Tryz.isAgg3
  z3 := Tryz.sizeOf3
  v3 := Tryz.zeroValue3
  t4 := Tryz.underlying4
  a4 := Tryz.isAgg4
  z4 := Tryz.sizeOf4
  v4 := Tryz.zeroValue4
  t5 := Tryz.underlying5
  a5 := Tryz.isAgg5
  z5 := Tryz.sizeOf5
  v5 := Tryz.zeroValue5
  t9 := Tryz.underlying9
  a9 := Tryz.isAgg9
  z9 := Tryz.sizeOf9
  v9 := Tryz.zeroValue9
  t20 := Tryz.underlying20
  a20 := Tryz.isAgg20
  z20 := Tryz.sizeOf20
  v20 := Tryz.zeroValue20
  t37 := Tryz.underlying138
  a37 := Tryz.isAgg138
  z37 := Tryz.sizeOf138
  v37 := Tryz.zeroValue138
  t46 := Tryz.underlying246
  a46 := Tryz.isAgg246
  z46 := Tryz.sizeOf246
  v46 := Tryz.zeroValue246
  t51 := Tryz.underlying284
  a51 := Tryz.isAgg284
  z51 := Tryz.sizeOf284
  v51 := Tryz.zeroValue284
  t53 := Tryz.underlying261
  a53 := Tryz.isAgg261
  z53 := Tryz.sizeOf261
  v53 := Tryz.zeroValue261
  t70 := Tryz.underlying253
  a70 := Tryz.isAgg253
  z70 := Tryz.sizeOf253
  v70 := Tryz.zeroValue253
  t72 := Tryz.underlying255
  a72 := Tryz.isAgg255
  z72 := Tryz.sizeOf255
  v72 := Tryz.zeroValue255
  t75 := Tryz.underlying202
  a75 := Tryz.isAgg202
  z75 := Tryz.sizeOf202
  v75 := Tryz.zeroValue202
  t76 := Tryz.underlying257
  a76 := Tryz.isAgg257
  z76 := Tryz.sizeOf257
  v76 := Tryz.zeroValue257
  t109 := Tryz.underlying250
  a109 := Tryz.isAgg250
  z109 := Tryz.sizeOf250
  v109 := Tryz.zeroValue250
  t127 := Tryz.underlying306
  a127 := Tryz.isAgg306
  z127 := Tryz.sizeOf306
  v127 := Tryz.zeroValue306
  t146 := Tryz.underlying302
  a146 := Tryz.isAgg302
  z146 := Tryz.sizeOf302
  v146 := Tryz.zeroValue302
  t148 := Tryz.underlying304
  a148 := Tryz.isAgg304
  z148 := Tryz.sizeOf304
  v148 := Tryz.zeroValue304
  t164 := Tryz.underlying345
  a164 := Tryz.isAgg345
  z164 := Tryz.sizeOf345
  v164 := Tryz.zeroValue345 }
theorem Tryz.Builder_Extra_105 : Builder.Extra Tryz.prog Tryz.lays105_ren := {
  sizeBuilder := by kernel_rfl
  liesBuilder := by kernel_rfl
  t5 := Tryz.underlying5
  a5 := Tryz.isAgg5
  z5 := Tryz.sizeOf5
  v5 := Tryz.zeroValue5
  infoByte := by kernel_rfl
  cellsByte := by kernel_rfl
  sizeByte := by kernel_rfl
  neB5 := by decide }
open Go.RowKit Go.Lib in
theorem Tryz.strings_Repeat (s : ByteArray) (c : Nat) (w : World) (hc : c ≤ 9223372036854775807) (hlen : s.size * c ≤ 140737488355328) :
    Calls Tryz.prog 162 #[.string s, .int .i64 c] w fun e w' => e = .returned (.string ⟨(Lib.repeatL s.data.toList c).toArray⟩) ∧ Below w.heap.size w w' := Any.strings_Repeat Tryz.lays105 Tryz.Builder_Extra_105 s c w hc hlen
def Tryz.lays109_ren : Go.Shelf.Ren := ⟨fun | 109 => 161 | n => n, fun | 31 => 35 | 9 => 9 | 3 => 3 | 0 => 0 | 4 => 4 | n => n, fun | n => n⟩
theorem Tryz.lays109 : Go.Proofs.Lays.n109 Tryz.prog Tryz.lays109_ren := {
  mixed := by kernel_rfl
  f109 := Tryz.func161.trans (congrArg some (by kernel_rfl))
  t0 := Tryz.underlying0
  a0 := Tryz.isAgg0
  z0 := Tryz.sizeOf0
  v0 := Tryz.zeroValue0
  t3 := Tryz.underlying3
  a3 := Tryz.isAgg3
  z3 := Tryz.sizeOf3
  v3 := Tryz.zeroValue3
  t4 := Tryz.underlying4
  a4 := Tryz.isAgg4
  z4 := Tryz.sizeOf4
  v4 := Tryz.zeroValue4
  t9 := Tryz.underlying9
  a9 := Tryz.isAgg9
  z9 := Tryz.sizeOf9
  v9 := Tryz.zeroValue9
  t31 := Tryz.underlying35
  a31 := Tryz.isAgg35
  z31 := Tryz.sizeOf35
  v31 := Tryz.zeroValue35 }
open Go.Lib in
theorem Tryz.slices_Index_string (b off n c : Nat) (zs : List ByteArray) (x : ByteArray) (w : World) (hz : n ≤ zs.length) (hbig : n ≤ 9223372036854775807) (hc : ∀ j, j < zs.length → w.cell? ⟨b, off + j, none⟩ = some (.string (zs.getD j ByteArray.empty))) :
    Calls Tryz.prog 161 #[.slice (some ⟨b, off, none⟩) n c, .string x] w fun e w' => e = .returned (.int .i64 (Lib.idxOfS (zs.take n) x)) ∧ w' = w := Any.slices_Index_string Tryz.lays109 b off n c zs x w hz hbig hc
end Go.Proofs
end

namespace Go.Proofs.YtcnkbllbpimaiaaGreatDoorE
open Go Go.RowKit
set_option linter.unusedVariables false
abbrev T229 : Ty := (.pair (.int .i64) .str)
abbrev G229 := Int × Str
abbrev T173 : Ty := (.pair (.sl .str) (.int .i64))
abbrev G173 := List Str × Int
abbrev T272 : Ty := (.pair .str (.pair (.int .i64) .bool))
abbrev G272 := Str × Int × Bool
abbrev T61 : Ty := (.pair .str (.pair (.int .i64) (.int .i64)))
abbrev G61 := Str × Int × Int
abbrev T232 : Ty := (.pair (.int .i64) (.pair .str (.int .i64)))
abbrev G232 := Int × Str × Int
abbrev T315 : Ty := (.pair (.int .i64) (.pair (.int .i64) (.int .i64)))
abbrev G315 := Int × Int × Int
abbrev T70 : Ty := (.pair (.sl .str) (.sl T229))
abbrev G70 := List Str × List G229
abbrev T23 : Ty := (.pair (.int .i64) (.pair (.int .i64) T229))
abbrev G23 := Int × Int × G229
abbrev T164 : Ty := (.pair (.int .i64) T315)
abbrev G164 := Int × G315
abbrev T72 : Ty := (.pair (.int .i64) T70)
abbrev G72 := Int × G70
abbrev T320 : Ty := (.pair T23 (.int .i64))
abbrev G320 := G23 × Int
abbrev T211 : Ty := (.pair (.sl T164) (.int .i64))
abbrev G211 := List G164 × Int
abbrev T65 : Ty := (.pair (.int .i64) (.pair .str (.sl T23)))
abbrev G65 := Int × Str × List G23
abbrev T67 : Ty := (.pair T65 .bool)
abbrev G67 := G65 × Bool
abbrev T25 : Ty := (.pair (.int .i64) (.pair (.int .i64) (.pair (.int .i64) (.pair .str T23))))
abbrev G25 := Int × Int × Int × Str × G23
abbrev T189 : Ty := (.pair (.int .i64) (.pair (.int .i64) (.pair (.int .i64) (.pair (.int .i64) (.pair (.int .i64) (.pair .str (.pair (.sl (.int .i64)) (.sl (.int .i64)))))))))
abbrev G189 := Int × Int × Int × Int × Int × Str × List Int × List Int
abbrev T236 : Ty := (.pair T189 (.int .i64))
abbrev G236 := G189 × Int
abbrev T28 : Ty := (.pair T25 (.pair (.int .i64) (.pair (.sl (.int .i64)) (.sl (.int .i64)))))
abbrev G28 := G25 × Int × List Int × List Int
abbrev T38 : Ty := (.pair (.int .i64) (.pair (.int .i64) (.pair (.int .i64) (.pair (.int .i64) (.pair (.int .i64) (.pair (.int .i64) (.pair .str (.pair (.sl .str) (.sl T23)))))))))
abbrev G38 := Int × Int × Int × Int × Int × Int × Str × List Str × List G23
abbrev T30 : Ty := (.pair T28 (.int .i64))
abbrev G30 := G28 × Int
abbrev T109 : Ty := (.pair T38 (.pair .str (.pair (.sl (.int .i64)) (.int .i64))))
abbrev G109 := G38 × Str × List Int × Int
def TAB : Tab TI := (.node (.node (.node (.node (.node .nil none (.node (.node .nil (some { sz := 4, agg := true, offs := [(0, 77), (3, 4)], elem := 0, kind := 4, ik := .i64, bytes := 56, zero := [.int .i64 0, .str [], .nil, .kb false], ty := T67, eqs := false }) (.node .nil (some { sz := 6, agg := true, offs := [(6, 0)], elem := 9, kind := 7, ik := .i64, bytes := 96, zero := [.str [], .str [], .str [], .str [], .str [], .str []], ty := .unit, eqs := false }) .nil)) none (.node .nil none (.node (.node .nil (some { sz := 32, agg := true, offs := [(32, 0)], elem := 5, kind := 7, ik := .i64, bytes := 32, zero := [.int .u8 0, .int .u8 0, .int .u8 0, .int .u8 0, .int .u8 0, .int .u8 0, .int .u8 0, .int .u8 0, .int .u8 0, .int .u8 0, .int .u8 0, .int .u8 0, .int .u8 0, .int .u8 0, .int .u8 0, .int .u8 0, .int .u8 0, .int .u8 0, .int .u8 0, .int .u8 0, .int .u8 0, .int .u8 0, .int .u8 0, .int .u8 0, .int .u8 0, .int .u8 0, .int .u8 0, .int .u8 0, .int .u8 0, .int .u8 0, .int .u8 0, .int .u8 0], ty := .unit, eqs := false }) .nil) none .nil)))) none (.node (.node .nil (some { sz := 4, agg := true, offs := [(0, 2), (1, 2), (2, 2), (3, 9)], elem := 0, kind := 4, ik := .i64, bytes := 40, zero := [.int .i64 0, .int .i64 0, .int .i64 0, .str []], ty := T23, eqs := true }) .nil) (some { sz := 4, agg := true, offs := [(0, 2), (1, 2), (2, 2), (3, 9)], elem := 0, kind := 4, ik := .i64, bytes := 40, zero := [.int .i64 0, .int .i64 0, .int .i64 0, .str []], ty := T23, eqs := true }) (.node (.node (.node (.node .nil (some { sz := 3, agg := true, offs := [(0, 9), (1, 2), (2, 4)], elem := 0, kind := 4, ik := .i64, bytes := 32, zero := [.str [], .int .i64 0, .kb false], ty := T272, eqs := true }) .nil) none .nil) none .nil) none .nil))) (some { sz := 1, agg := false, offs := [], elem := 0, kind := 1, ik := .i64, bytes := 8, zero := [.int .i64 0], ty := (.int .i64), eqs := false }) (.node (.node (.node (.node .nil (some { sz := 4, agg := true, offs := [(0, 65), (3, 4)], elem := 0, kind := 4, ik := .i64, bytes := 56, zero := [.int .i64 0, .str [], .nil, .kb false], ty := T67, eqs := false }) .nil) (some { sz := 1, agg := false, offs := [], elem := 9, kind := 3, ik := .i64, bytes := 24, zero := [.nil], ty := (.sl .str), eqs := false }) .nil) none (.node (.node .nil (some { sz := 2, agg := true, offs := [(0, 35), (1, 81)], elem := 0, kind := 4, ik := .i64, bytes := 48, zero := [.nil, .nil], ty := T70, eqs := false }) (.node .nil (some { sz := 2, agg := true, offs := [(0, 160), (1, 2)], elem := 0, kind := 4, ik := .i64, bytes := 32, zero := [.nil, .int .i64 0], ty := T211, eqs := false }) .nil)) none (.node (.node (.node .nil (some { sz := 1, agg := false, offs := [], elem := 4, kind := 3, ik := .i64, bytes := 24, zero := [.nil], ty := (.sl .bool), eqs := false }) .nil) none .nil) none .nil))) none (.node (.node .nil (some { sz := 11, agg := true, offs := [(0, 41), (8, 2), (9, 26), (10, 26)], elem := 0, kind := 4, ik := .i64, bytes := 136, zero := [.int .i64 0, .int .i64 0, .int .i64 0, .str [], .int .i64 0, .int .i64 0, .int .i64 0, .str [], .int .i64 0, .nil, .nil], ty := T28, eqs := false }) (.node .nil none (.node (.node .nil (some { sz := 1, agg := true, offs := [(0, 9)], elem := 0, kind := 4, ik := .i64, bytes := 16, zero := [.str []], ty := .str, eqs := true }) .nil) none .nil))) none (.node (.node .nil none (.node .nil (some { sz := 1, agg := false, offs := [], elem := 3, kind := 3, ik := .i64, bytes := 24, zero := [.nil], ty := (.sl (.int .i64)), eqs := false }) .nil)) none (.node (.node (.node .nil (some { sz := 3, agg := true, offs := [(0, 2), (1, 2), (2, 2)], elem := 0, kind := 4, ik := .i64, bytes := 24, zero := [.int .i64 0, .int .i64 0, .int .i64 0], ty := T315, eqs := true }) .nil) none .nil) (some { sz := 1, agg := false, offs := [], elem := 28, kind := 3, ik := .i64, bytes := 24, zero := [.nil], ty := (.sl T28), eqs := false }) .nil))))) none (.node (.node (.node (.node (.node .nil (some { sz := 3, agg := true, offs := [(0, 2), (1, 9), (2, 36)], elem := 0, kind := 4, ik := .i64, bytes := 48, zero := [.int .i64 0, .str [], .nil], ty := T65, eqs := false }) .nil) none .nil) none (.node (.node .nil (some { sz := 1, agg := false, offs := [], elem := 240, kind := 3, ik := .i64, bytes := 24, zero := [.nil], ty := (.sl T229), eqs := false }) (.node .nil (some { sz := 12, agg := true, offs := [(12, 0)], elem := 9, kind := 7, ik := .i64, bytes := 192, zero := [.str [], .str [], .str [], .str [], .str [], .str [], .str [], .str [], .str [], .str [], .str [], .str []], ty := .unit, eqs := false }) .nil)) none .nil)) (some { sz := 1, agg := false, offs := [], elem := 0, kind := 2, ik := .i64, bytes := 16, zero := [.str []], ty := .str, eqs := false }) (.node (.node .nil (some { sz := 8, agg := true, offs := [(0, 2), (1, 2), (2, 2), (3, 9), (4, 39)], elem := 0, kind := 4, ik := .i64, bytes := 80, zero := [.int .i64 0, .int .i64 0, .int .i64 0, .str [], .int .i64 0, .int .i64 0, .int .i64 0, .str []], ty := T25, eqs := true }) .nil) (some { sz := 8, agg := true, offs := [(0, 2), (1, 2), (2, 2), (3, 9), (4, 23)], elem := 0, kind := 4, ik := .i64, bytes := 80, zero := [.int .i64 0, .int .i64 0, .int .i64 0, .str [], .int .i64 0, .int .i64 0, .int .i64 0, .str []], ty := T25, eqs := true }) .nil)) (some { sz := 1, agg := false, offs := [], elem := 0, kind := 1, ik := .u8, bytes := 1, zero := [.int .u8 0], ty := (.int .u8), eqs := false }) (.node (.node (.node (.node (.node (.node .nil (some { sz := 1, agg := false, offs := [], elem := 0, kind := 1, ik := .u64, bytes := 8, zero := [.int .u64 0], ty := (.int .u64), eqs := false }) .nil) none .nil) none .nil) none (.node .nil none (.node .nil (some { sz := 2, agg := true, offs := [(0, 2), (1, 9)], elem := 0, kind := 4, ik := .i64, bytes := 24, zero := [.int .i64 0, .str []], ty := T229, eqs := true }) .nil))) (some { sz := 1, agg := false, offs := [], elem := 0, kind := 1, ik := .i32, bytes := 4, zero := [.int .i32 0], ty := (.int .i32), eqs := false }) (.node (.node .nil (some { sz := 3, agg := true, offs := [(0, 2), (1, 83)], elem := 0, kind := 4, ik := .i64, bytes := 56, zero := [.int .i64 0, .nil, .nil], ty := T72, eqs := false }) .nil) none .nil)) none (.node (.node (.node .nil (some { sz := 3, agg := true, offs := [(0, 2), (1, 9), (2, 48)], elem := 0, kind := 4, ik := .i64, bytes := 48, zero := [.int .i64 0, .str [], .nil], ty := T65, eqs := false }) .nil) none (.node (.node .nil (some { sz := 2, agg := true, offs := [(0, 35), (1, 2)], elem := 0, kind := 4, ik := .i64, bytes := 32, zero := [.nil, .int .i64 0], ty := T173, eqs := false }) .nil) (some { sz := 12, agg := true, offs := [(0, 50), (9, 9), (10, 26), (11, 2)], elem := 0, kind := 4, ik := .i64, bytes := 160, zero := [.int .i64 0, .int .i64 0, .int .i64 0, .int .i64 0, .int .i64 0, .int .i64 0, .str [], .nil, .nil, .str [], .nil, .int .i64 0], ty := T109, eqs := false }) .nil)) none (.node .nil (some { sz := 3, agg := true, offs := [(0, 9), (1, 2), (2, 2)], elem := 0, kind := 4, ik := .i64, bytes := 32, zero := [.str [], .int .i64 0, .int .i64 0], ty := T61, eqs := true }) (.node (.node .nil (some { sz := 8, agg := true, offs := [(0, 2), (1, 2), (2, 2), (3, 2), (4, 2), (5, 9), (6, 26), (7, 26)], elem := 0, kind := 4, ik := .i64, bytes := 104, zero := [.int .i64 0, .int .i64 0, .int .i64 0, .int .i64 0, .int .i64 0, .str [], .nil, .nil], ty := T189, eqs := false }) .nil) none .nil)))))) none (.node (.node (.node (.node (.node (.node .nil none (.node (.node .nil (some { sz := 5, agg := true, offs := [(0, 23), (4, 2)], elem := 0, kind := 4, ik := .i64, bytes := 48, zero := [.int .i64 0, .int .i64 0, .int .i64 0, .str [], .int .i64 0], ty := T320, eqs := true }) .nil) none .nil)) none (.node (.node .nil (some { sz := 1, agg := false, offs := [], elem := 164, kind := 3, ik := .i64, bytes := 24, zero := [.nil], ty := (.sl T164), eqs := false }) .nil) none .nil)) none (.node (.node (.node (.node .nil (some { sz := 3, agg := true, offs := [(0, 9), (1, 2), (2, 4)], elem := 0, kind := 4, ik := .i64, bytes := 32, zero := [.str [], .int .i64 0, .kb false], ty := T272, eqs := true }) .nil) none .nil) none .nil) (some { sz := 1, agg := false, offs := [], elem := 23, kind := 3, ik := .i64, bytes := 24, zero := [.nil], ty := (.sl T23), eqs := false }) (.node .nil none (.node (.node .nil (some { sz := 64, agg := true, offs := [(64, 0)], elem := 5, kind := 7, ik := .i64, bytes := 64, zero := [.int .u8 0, .int .u8 0, .int .u8 0, .int .u8 0, .int .u8 0, .int .u8 0, .int .u8 0, .int .u8 0, .int .u8 0, .int .u8 0, .int .u8 0, .int .u8 0, .int .u8 0, .int .u8 0, .int .u8 0, .int .u8 0, .int .u8 0, .int .u8 0, .int .u8 0, .int .u8 0, .int .u8 0, .int .u8 0, .int .u8 0, .int .u8 0, .int .u8 0, .int .u8 0, .int .u8 0, .int .u8 0, .int .u8 0, .int .u8 0, .int .u8 0, .int .u8 0, .int .u8 0, .int .u8 0, .int .u8 0, .int .u8 0, .int .u8 0, .int .u8 0, .int .u8 0, .int .u8 0, .int .u8 0, .int .u8 0, .int .u8 0, .int .u8 0, .int .u8 0, .int .u8 0, .int .u8 0, .int .u8 0, .int .u8 0, .int .u8 0, .int .u8 0, .int .u8 0, .int .u8 0, .int .u8 0, .int .u8 0, .int .u8 0, .int .u8 0, .int .u8 0, .int .u8 0, .int .u8 0, .int .u8 0, .int .u8 0, .int .u8 0, .int .u8 0], ty := .unit, eqs := false }) .nil) (some { sz := 2, agg := true, offs := [(0, 2), (1, 9)], elem := 0, kind := 4, ik := .i64, bytes := 24, zero := [.int .i64 0, .str []], ty := T229, eqs := true }) .nil)))) none (.node (.node (.node .nil (some { sz := 3, agg := true, offs := [(0, 2), (1, 70)], elem := 0, kind := 4, ik := .i64, bytes := 56, zero := [.int .i64 0, .nil, .nil], ty := T72, eqs := false }) .nil) none (.node .nil none (.node .nil (some { sz := 3, agg := true, offs := [(0, 2), (1, 9), (2, 2)], elem := 0, kind := 4, ik := .i64, bytes := 32, zero := [.int .i64 0, .str [], .int .i64 0], ty := T232, eqs := true }) .nil))) none (.node .nil none (.node (.node (.node .nil (some { sz := 3, agg := true, offs := [(0, 9), (1, 2), (2, 2)], elem := 0, kind := 4, ik := .i64, bytes := 32, zero := [.str [], .int .i64 0, .int .i64 0], ty := T61, eqs := true }) .nil) none .nil) none .nil)))) (some { sz := 1, agg := false, offs := [], elem := 0, kind := 5, ik := .i64, bytes := 1, zero := [.kb false], ty := .bool, eqs := false }) (.node (.node (.node (.node .nil (some { sz := 1, agg := false, offs := [], elem := 229, kind := 3, ik := .i64, bytes := 24, zero := [.nil], ty := (.sl T229), eqs := false }) .nil) (some { sz := 1, agg := false, offs := [], elem := 39, kind := 3, ik := .i64, bytes := 24, zero := [.nil], ty := (.sl T23), eqs := false }) (.node (.node .nil (some { sz := 4, agg := true, offs := [(0, 2), (1, 2), (2, 2), (3, 2)], elem := 0, kind := 4, ik := .i64, bytes := 32, zero := [.int .i64 0, .int .i64 0, .int .i64 0, .int .i64 0], ty := T164, eqs := true }) .nil) none .nil)) none .nil) none (.node (.node .nil none (.node .nil none (.node .nil (some { sz := 9, agg := true, offs := [(0, 189), (8, 2)], elem := 0, kind := 4, ik := .i64, bytes := 112, zero := [.int .i64 0, .int .i64 0, .int .i64 0, .int .i64 0, .int .i64 0, .str [], .nil, .nil, .int .i64 0], ty := T236, eqs := false }) .nil))) (some { sz := 11, agg := true, offs := [(0, 25), (8, 2), (9, 26), (10, 26)], elem := 0, kind := 4, ik := .i64, bytes := 136, zero := [.int .i64 0, .int .i64 0, .int .i64 0, .str [], .int .i64 0, .int .i64 0, .int .i64 0, .str [], .int .i64 0, .nil, .nil], ty := T28, eqs := false }) (.node (.node (.node (.node .nil (some { sz := 1, agg := false, offs := [], elem := 0, kind := 1, ik := .u32, bytes := 4, zero := [.int .u32 0], ty := (.int .u32), eqs := false }) .nil) none .nil) none (.node .nil (some { sz := 1, agg := false, offs := [], elem := 1000220, kind := 6, ik := .i64, bytes := 8, zero := [.unk], ty := (.sl (.int .i64)), eqs := false }) .nil)) none .nil)))) (some { sz := 1, agg := false, offs := [], elem := 0, kind := 1, ik := .i64, bytes := 8, zero := [.int .i64 0], ty := (.int .i64), eqs := false }) (.node (.node (.node (.node .nil none (.node .nil none (.node (.node .nil (some { sz := 1, agg := false, offs := [], elem := 284, kind := 3, ik := .i64, bytes := 24, zero := [.nil], ty := (.sl (.int .u32)), eqs := false }) .nil) none .nil))) none (.node .nil (some { sz := 9, agg := true, offs := [(0, 2), (1, 2), (2, 2), (3, 2), (4, 2), (5, 2), (6, 9), (7, 35), (8, 48)], elem := 0, kind := 4, ik := .i64, bytes := 112, zero := [.int .i64 0, .int .i64 0, .int .i64 0, .int .i64 0, .int .i64 0, .int .i64 0, .str [], .nil, .nil], ty := T38, eqs := false }) .nil)) none (.node (.node (.node (.node .nil (some { sz := 1, agg := false, offs := [], elem := 5, kind := 3, ik := .i64, bytes := 24, zero := [.nil], ty := (.sl (.int .u8)), eqs := false }) .nil) none .nil) none .nil) (some { sz := 1, agg := false, offs := [], elem := 2, kind := 3, ik := .i64, bytes := 24, zero := [.nil], ty := (.sl (.int .i64)), eqs := false }) (.node .nil none (.node (.node .nil (some { sz := 4, agg := true, offs := [(0, 2), (1, 2), (2, 2), (3, 9)], elem := 0, kind := 4, ik := .i64, bytes := 40, zero := [.int .i64 0, .int .i64 0, .int .i64 0, .str []], ty := T23, eqs := true }) .nil) none .nil)))) none (.node (.node (.node (.node .nil (some { sz := 2, agg := true, offs := [(0, 35), (1, 68)], elem := 0, kind := 4, ik := .i64, bytes := 48, zero := [.nil, .nil], ty := T70, eqs := false }) .nil) (some { sz := 9, agg := true, offs := [(0, 2), (1, 2), (2, 2), (3, 2), (4, 2), (5, 2), (6, 9), (7, 35), (8, 36)], elem := 0, kind := 4, ik := .i64, bytes := 112, zero := [.int .i64 0, .int .i64 0, .int .i64 0, .int .i64 0, .int .i64 0, .int .i64 0, .str [], .nil, .nil], ty := T38, eqs := false }) .nil) none (.node (.node .nil none (.node (.node .nil (some { sz := 20, agg := true, offs := [(20, 0)], elem := 261, kind := 7, ik := .i64, bytes := 160, zero := [.int .u64 0, .int .u64 0, .int .u64 0, .int .u64 0, .int .u64 0, .int .u64 0, .int .u64 0, .int .u64 0, .int .u64 0, .int .u64 0, .int .u64 0, .int .u64 0, .int .u64 0, .int .u64 0, .int .u64 0, .int .u64 0, .int .u64 0, .int .u64 0, .int .u64 0, .int .u64 0], ty := .unit, eqs := false }) .nil) none .nil)) none (.node .nil none (.node .nil (some { sz := 1, agg := false, offs := [], elem := 0, kind := 1, ik := .u64, bytes := 8, zero := [.int .u64 0], ty := (.int .u64), eqs := false }) .nil)))) none (.node (.node .nil (some { sz := 1, agg := false, offs := [], elem := 50, kind := 3, ik := .i64, bytes := 24, zero := [.nil], ty := (.sl T38), eqs := false }) .nil) (some { sz := 12, agg := true, offs := [(0, 28), (11, 2)], elem := 0, kind := 4, ik := .i64, bytes := 144, zero := [.int .i64 0, .int .i64 0, .int .i64 0, .str [], .int .i64 0, .int .i64 0, .int .i64 0, .str [], .int .i64 0, .nil, .nil, .int .i64 0], ty := T30, eqs := false }) .nil)))))
theorem TABok : TiOk Tryz.prog TAB ∧ Tryz.prog.follows .mixedOrders = true := ⟨ti_ok (by kernel_rfl), by kernel_rfl⟩
end Go.Proofs.YtcnkbllbpimaiaaGreatDoorE

namespace Go.Proofs.YtcnkbllbpimaiaaGreatDoorE
open Go Go.RowKit
set_option linter.unusedVariables false
def spec_l01Split.l0 : Nat → Str → Int → Int → Int → List Str → Option ((Int × List Str))
  | 0, _, _, _, _, _ => none
  | j + 1, a1, a2, a3, a4, a5 =>
    bif decide (a4 < ((a1.length) : Int)) then
      Option.bind (at? a1 a4) fun v6 =>
      let e7 := IntKind.wrap .i64 (a4 + 1)
      bif (v6.toNat : Int) == a2 then
        Option.bind (cut? a1 a3 a4) fun v8 =>
        Option.bind (app? 16 a5 [v8]) fun v9 =>
        spec_l01Split.l0 j a1 a2 e7 e7 v9
      else
      spec_l01Split.l0 j a1 a2 a3 e7 a5
    else
    some (a3, a5)
def spec_l01Split (k : Nat) (a1 : Str) (a2 : Int) : Option (List Str) :=
  Option.bind (spec_l01Split.l0 k a1 a2 0 0 []) fun y3 =>
  Option.bind (cut? a1 y3.1 ((a1.length) : Int)) fun v4 =>
  Option.bind (app? 16 y3.2 [v4]) fun v5 =>
  some v5
def spec_l01Split.sig : Sig := { ps := [.val false .str (ros .str), .val false (.int .u8) (ros (.int .u8))], rs := [.val false [.own 9 .str]], ntmps := 35 }
def spec_l01Split.con (k : Nat) : Con := spec_l01Split.sig.con (fun x => spec_l01Split k x.1 x.2)
def spec_l01Split.C (k : Nat) : Ctx := { ti := TAB, con := conL [] }
theorem spec_l01Split.cok (k : Nat) : CtxOk Tryz.prog (spec_l01Split.C k) := ctx_ok TABok trivial
def spec_l01Split.l0.ish : Shape := { tmps := [(0, .one (.v .str)), (1, .one (.v (.int .u8))), (5, .one (.own 1)), (6, .one (.v (.int .i64))), (7, .one (.v (.int .i64)))], slots := [(1, .arr false 9 .str)], nb := 2 }
def spec_l01Split.l0.outs : List (Ex × Shape) := [(.exit 0, { tmps := [(5, .one (.own 2)), (6, .one (.v (.int .i64)))], slots := [(2, .arr false 9 .str)], nb := 3 })]
def spec_l01Split.l0.F (k j : Nat) (x : Prod' spec_l01Split.l0.ish.tys) : Option (Outs spec_l01Split.l0.outs) := spec_l01Split.l0 j x.1 x.2.1 x.2.2.1 x.2.2.2.1 x.2.2.2.2
def spec_l01Split.l0.s (k : Nat) : Summ := { n := 35, ish := spec_l01Split.l0.ish, outs := spec_l01Split.l0.outs, f := spec_l01Split.l0.F k k }
theorem spec_l01Split.l0.ev (k j : Nat) (x : Prod' spec_l01Split.l0.ish.tys) : V (spec_l01Split.C k) .auto (cO (cO (cR (cL (cR (cR (cR (cB Tryz.f37)))))))) (mk spec_l01Split.l0.ish 35 x) (fun e st' => match e with | .nrm => (rd spec_l01Split.l0.ish st').bind (spec_l01Split.l0.F k j) | e => rdOut e st' spec_l01Split.l0.outs) = spec_l01Split.l0.F k (j + 1) x := by kernel_rfl
theorem spec_l01Split.l0.ok (k : Nat) : SumOk Tryz.prog (spec_l01Split.C k) (.loop (cO (cO (cR (cL (cR (cR (cR (cB Tryz.f37))))))))) (spec_l01Split.l0.s k) := sum_ok (by kernel_rfl) (sum_loop (p := .auto) (F := spec_l01Split.l0.F k) (spec_l01Split.cok k) (by kernel_rfl) (plan_of (L := []) (by kernel_rfl) trivial) (fun _ => rfl) (fun j x y h => (spec_l01Split.l0.ev k j x).trans h) k rfl)
theorem spec_l01Split.ev (k : Nat) (x : Prod' spec_l01Split.sig.ins) : spec_l01Split.sig.ev (spec_l01Split.C k) (.two .auto (.two .auto (.two .auto (.two (.two .auto (.one (.sum (spec_l01Split.l0.s k)))) .auto)))) Tryz.f37.results.toList (cB Tryz.f37) x = spec_l01Split k x.1 x.2 := by kernel_rfl
theorem spec_l01Split.ok (k : Nat) : ConOk Tryz.prog 37 (spec_l01Split.con k) := sig_ok (p := (.two .auto (.two .auto (.two .auto (.two (.two .auto (.one (.sum (spec_l01Split.l0.s k)))) .auto))))) (spec_l01Split.cok k) Tryz.func37 (by kernel_rfl) (show Tryz.f37.body = some (cB Tryz.f37) by kernel_rfl) (by kernel_rfl) (by kernel_rfl) (plan_of (L := [(spec_l01Split.l0.s k, cO (cR (cL (cR (cR (cR (cB Tryz.f37)))))))]) (by kernel_rfl) ⟨spec_l01Split.l0.ok k, trivial⟩) (fun x y h => (spec_l01Split.ev k x).trans h)
def spec_l17Num.l0 : Nat → Str → Int → Int → Option (Int ⊕ Int)
  | 0, _, _, _ => none
  | j + 1, a1, a2, a3 =>
    bif decide (a3 < ((a1.length) : Int)) then
      Option.bind (at? a1 a3) fun v4 =>
      bif decide ((v4.toNat : Int) < 48) then
        some (.inr (-1))
      else
      Option.bind (at? a1 a3) fun v5 =>
      bif decide (57 < (v5.toNat : Int)) then
        some (.inr (-1))
      else
      Option.bind (at? a1 a3) fun v6 =>
      spec_l17Num.l0 j a1 (IntKind.wrap .i64 ((IntKind.wrap .i64 (10 * a2)) + (IntKind.wrap .i64 (IntKind.wrap .u8 ((v6.toNat : Int) - 48))))) (IntKind.wrap .i64 (a3 + 1))
    else
    some (.inl a2)
def spec_l17Num (k : Nat) (a1 : Str) : Option (Int) :=
  bif (decide (((a1.length) : Int) < 1)) || (decide (9 < ((a1.length) : Int))) then
    some (-1)
  else
  bif decide (1 < ((a1.length) : Int)) then
    Option.bind (at? a1 0) fun v2 =>
    bif (v2.toNat : Int) == 48 then
      some (-1)
    else
    Option.bind (spec_l17Num.l0 k a1 0 0) fun
      | .inl y3 =>
        some y3
      | .inr y4 =>
        some y4
  else
  Option.bind (spec_l17Num.l0 k a1 0 0) fun
    | .inl y5 =>
      some y5
    | .inr y6 =>
      some y6
def spec_l17Num.sig : Sig := { ps := [.val false .str (ros .str)], rs := [.val false [.v (.int .i64)]], ntmps := 48 }
def spec_l17Num.con (k : Nat) : Con := spec_l17Num.sig.con (fun x => spec_l17Num k x)
def spec_l17Num.C (k : Nat) : Ctx := { ti := TAB, con := conL [] }
theorem spec_l17Num.cok (k : Nat) : CtxOk Tryz.prog (spec_l17Num.C k) := ctx_ok TABok trivial
def spec_l17Num.l0.ish : Shape := { tmps := [(0, .one (.v .str)), (3, .one (.v (.int .i64))), (4, .one (.v (.int .i64)))], slots := [], nb := 0 }
def spec_l17Num.l0.outs : List (Ex × Shape) := [(.exit 0, { tmps := [(3, .one (.v (.int .i64)))], slots := [], nb := 0 }), (.ret, { tmps := [(2, .one (.v (.int .i64)))], slots := [], nb := 0 })]
def spec_l17Num.l0.F (k j : Nat) (x : Prod' spec_l17Num.l0.ish.tys) : Option (Outs spec_l17Num.l0.outs) := spec_l17Num.l0 j x.1 x.2.1 x.2.2
def spec_l17Num.l0.s (k : Nat) : Summ := { n := 48, ish := spec_l17Num.l0.ish, outs := spec_l17Num.l0.outs, f := spec_l17Num.l0.F k k }
theorem spec_l17Num.l0.ev (k j : Nat) (x : Prod' spec_l17Num.l0.ish.tys) : V (spec_l17Num.C k) .auto (cO (cO (cR (cL (cR (cR (cR (cB Tryz.f38)))))))) (mk spec_l17Num.l0.ish 48 x) (fun e st' => match e with | .nrm => (rd spec_l17Num.l0.ish st').bind (spec_l17Num.l0.F k j) | e => rdOut e st' spec_l17Num.l0.outs) = spec_l17Num.l0.F k (j + 1) x := by kernel_rfl
theorem spec_l17Num.l0.ok (k : Nat) : SumOk Tryz.prog (spec_l17Num.C k) (.loop (cO (cO (cR (cL (cR (cR (cR (cB Tryz.f38))))))))) (spec_l17Num.l0.s k) := sum_ok (by kernel_rfl) (sum_loop (p := .auto) (F := spec_l17Num.l0.F k) (spec_l17Num.cok k) (by kernel_rfl) (plan_of (L := []) (by kernel_rfl) trivial) (fun _ => rfl) (fun j x y h => (spec_l17Num.l0.ev k j x).trans h) k rfl)
theorem spec_l17Num.ev (k : Nat) (x : Prod' spec_l17Num.sig.ins) : spec_l17Num.sig.ev (spec_l17Num.C k) (.two .auto (.two .auto (.two .auto (.two (.two .auto (.one (.sum (spec_l17Num.l0.s k)))) .auto)))) Tryz.f38.results.toList (cB Tryz.f38) x = spec_l17Num k x := by kernel_rfl
theorem spec_l17Num.ok (k : Nat) : ConOk Tryz.prog 38 (spec_l17Num.con k) := sig_ok (p := (.two .auto (.two .auto (.two .auto (.two (.two .auto (.one (.sum (spec_l17Num.l0.s k)))) .auto))))) (spec_l17Num.cok k) Tryz.func38 (by kernel_rfl) (show Tryz.f38.body = some (cB Tryz.f38) by kernel_rfl) (by kernel_rfl) (by kernel_rfl) (plan_of (L := [(spec_l17Num.l0.s k, cO (cR (cL (cR (cR (cR (cB Tryz.f38)))))))]) (by kernel_rfl) ⟨spec_l17Num.l0.ok k, trivial⟩) (fun x y h => (spec_l17Num.ev k x).trans h)
def spec_l17List.l0 (k : Nat) : Nat → Int → List Int → List Str → Option ((List Int))
  | 0, _, _, _ => none
  | j + 1, a1, a2, a3 =>
    bif (decide (a1 < ((a3.length) : Int))) && (decide (a1 ≤ 40)) then
      Option.bind (at? a3 a1) fun v4 =>
      Option.bind (at? a3 a1) fun v5 =>
      Option.bind (spec_l17Num k v5) fun v6 =>
      Option.bind (app? 8 a2 [v6]) fun v7 =>
      spec_l17List.l0 k j (IntKind.wrap .i64 (a1 + 1)) v7 a3
    else
    some a2
def spec_l17List (k : Nat) (a1 : Str) : Option (List Int) :=
  bif a1 == ([45] : Str) then
    some ([])
  else
  Option.bind (spec_l01Split k a1 44) fun v2 =>
  Option.bind (spec_l17List.l0 k k 0 [] v2) fun y3 =>
  some y3
def spec_l17List.sig : Sig := { ps := [.val false .str (ros .str)], rs := [.val false [.own 2 (.int .i64)]], ntmps := 31 }
def spec_l17List.con (k : Nat) : Con := spec_l17List.sig.con (fun x => spec_l17List k x)
def spec_l17List.C (k : Nat) : Ctx := { ti := TAB, con := conL [(37, spec_l01Split.con k), (38, spec_l17Num.con k)] }
theorem spec_l17List.cok (k : Nat) : CtxOk Tryz.prog (spec_l17List.C k) := ctx_ok TABok ⟨spec_l01Split.ok k, spec_l17Num.ok k, trivial⟩
def spec_l17List.l0.ish : Shape := { tmps := [(3, .one (.own 2)), (4, .one (.own 3)), (5, .one (.v (.int .i64)))], slots := [(2, .arr false 2 (.int .i64)), (3, .arr false 9 .str)], nb := 4 }
def spec_l17List.l0.outs : List (Ex × Shape) := [(.exit 0, { tmps := [(3, .one (.own 4))], slots := [(4, .arr false 2 (.int .i64))], nb := 5 })]
def spec_l17List.l0.F (k j : Nat) (x : Prod' spec_l17List.l0.ish.tys) : Option (Outs spec_l17List.l0.outs) := spec_l17List.l0 k j x.1 x.2.1 x.2.2
def spec_l17List.l0.s (k : Nat) : Summ := { n := 31, ish := spec_l17List.l0.ish, outs := spec_l17List.l0.outs, f := spec_l17List.l0.F k k }
theorem spec_l17List.l0.ev (k j : Nat) (x : Prod' spec_l17List.l0.ish.tys) : V (spec_l17List.C k) .auto (cO (cO (cR (cL (cR (cR (cR (cR (cB Tryz.f39))))))))) (mk spec_l17List.l0.ish 31 x) (fun e st' => match e with | .nrm => (rd spec_l17List.l0.ish st').bind (spec_l17List.l0.F k j) | e => rdOut e st' spec_l17List.l0.outs) = spec_l17List.l0.F k (j + 1) x := by kernel_rfl
theorem spec_l17List.l0.ok (k : Nat) : SumOk Tryz.prog (spec_l17List.C k) (.loop (cO (cO (cR (cL (cR (cR (cR (cR (cB Tryz.f39)))))))))) (spec_l17List.l0.s k) := sum_ok (by kernel_rfl) (sum_loop (p := .auto) (F := spec_l17List.l0.F k) (spec_l17List.cok k) (by kernel_rfl) (plan_of (L := []) (by kernel_rfl) trivial) (fun _ => rfl) (fun j x y h => (spec_l17List.l0.ev k j x).trans h) k rfl)
theorem spec_l17List.ev (k : Nat) (x : Prod' spec_l17List.sig.ins) : spec_l17List.sig.ev (spec_l17List.C k) (.two .auto (.two .auto (.two .auto (.two .auto (.two (.two .auto (.one (.sum (spec_l17List.l0.s k)))) .auto))))) Tryz.f39.results.toList (cB Tryz.f39) x = spec_l17List k x := by kernel_rfl
theorem spec_l17List.ok (k : Nat) : ConOk Tryz.prog 39 (spec_l17List.con k) := sig_ok (p := (.two .auto (.two .auto (.two .auto (.two .auto (.two (.two .auto (.one (.sum (spec_l17List.l0.s k)))) .auto)))))) (spec_l17List.cok k) Tryz.func39 (by kernel_rfl) (show Tryz.f39.body = some (cB Tryz.f39) by kernel_rfl) (by kernel_rfl) (by kernel_rfl) (plan_of (L := [(spec_l17List.l0.s k, cO (cR (cL (cR (cR (cR (cR (cB Tryz.f39))))))))]) (by kernel_rfl) ⟨spec_l17List.l0.ok k, trivial⟩) (fun x y h => (spec_l17List.ev k x).trans h)
def spec_l17Words (a1 : Int) (a2 : Int) : Option (Str) :=
  bif a1 == 2 then
    let e3 := at? ([[], ([122, 101, 114, 111] : Str), ([112, 117, 116] : Str), ([99, 111, 112, 121] : Str), ([120, 111, 114] : Str), ([108, 97, 98, 101, 108] : Str)]) a2
    Option.bind (e3) fun v4 =>
    Option.bind (e3) fun v5 =>
    some v5
  else
  let e6 := at? ([[], ([98, 101, 103, 105, 110] : Str), [], ([102, 105, 110, 105, 115, 104] : Str), ([100, 114, 111, 112] : Str), ([103, 111, 111, 100] : Str), ([102, 111, 108, 100] : Str), ([114, 101, 97, 100] : Str), ([115, 116, 97, 116, 117, 115] : Str), ([104, 111, 108, 100] : Str), ([108, 101, 116] : Str), ([98, 111, 111, 116] : Str)]) a1
  Option.bind (e6) fun v7 =>
  Option.bind (e6) fun v8 =>
  some v8
def spec_l17Words.sig : Sig := { ps := [.val false (.int .i64) (ros (.int .i64)), .val false (.int .i64) (ros (.int .i64))], rs := [.val false [.v .str]], ntmps := 15 }
def spec_l17Words.con (k : Nat) : Con := spec_l17Words.sig.con (fun x => spec_l17Words x.1 x.2)
def spec_l17Words.C (k : Nat) : Ctx := { ti := TAB, con := conL [] }
theorem spec_l17Words.cok (k : Nat) : CtxOk Tryz.prog (spec_l17Words.C k) := ctx_ok TABok trivial
theorem spec_l17Words.ev (k : Nat) (x : Prod' spec_l17Words.sig.ins) : spec_l17Words.sig.ev (spec_l17Words.C k) .auto Tryz.f88.results.toList (cB Tryz.f88) x = spec_l17Words x.1 x.2 := by kernel_rfl
theorem spec_l17Words.ok (k : Nat) : ConOk Tryz.prog 88 (spec_l17Words.con k) := sig_ok (p := .auto) (spec_l17Words.cok k) Tryz.func88 (by kernel_rfl) (show Tryz.f88.body = some (cB Tryz.f88) by kernel_rfl) (by kernel_rfl) (by kernel_rfl) (plan_of (L := []) (by kernel_rfl) trivial) (fun x y h => (spec_l17Words.ev k x).trans h)
def spec_l17Kinds.l0 : Nat → Str → Int → Option (Unit ⊕ (Int × Int))
  | 0, _, _ => none
  | j + 1, a1, a2 =>
    bif decide (a2 ≤ 5) then
      Option.bind (spec_l17Words 2 a2) fun v3 =>
      bif a1 == v3 then
        some (.inr (2, a2))
      else
      spec_l17Kinds.l0 j a1 (IntKind.wrap .i64 (a2 + 1))
    else
    some (.inl ())
def spec_l17Kinds.l1 : Nat → Str → Int → Option (Unit ⊕ (Int × Int))
  | 0, _, _ => none
  | j + 1, a1, a2 =>
    bif decide (a2 ≤ 11) then
      let e3 := IntKind.wrap .i64 (a2 + 1)
      bif a2 != 2 then
        Option.bind (spec_l17Words a2 0) fun v4 =>
        bif a1 == v4 then
          some (.inr (a2, 0))
        else
        spec_l17Kinds.l1 j a1 e3
      else
      spec_l17Kinds.l1 j a1 e3
    else
    some (.inl ())
def spec_l17Kinds (k : Nat) (a1 : Str) : Option (Int × Int) :=
  Option.bind (spec_l17Kinds.l0 k a1 1) fun
    | .inl y2 =>
      Option.bind (spec_l17Kinds.l1 k a1 1) fun
        | .inl y3 =>
          some (0, 0)
        | .inr y4 =>
          some (y4.1, y4.2)
    | .inr y5 =>
      some (y5.1, y5.2)
def spec_l17Kinds.sig : Sig := { ps := [.val false .str (ros .str)], rs := [.val false [.v (.int .i64)], .val false [.v (.int .i64)]], ntmps := 28 }
def spec_l17Kinds.con (k : Nat) : Con := spec_l17Kinds.sig.con (fun x => spec_l17Kinds k x)
def spec_l17Kinds.C (k : Nat) : Ctx := { ti := TAB, con := conL [(88, spec_l17Words.con k)] }
theorem spec_l17Kinds.cok (k : Nat) : CtxOk Tryz.prog (spec_l17Kinds.C k) := ctx_ok TABok ⟨spec_l17Words.ok k, trivial⟩
def spec_l17Kinds.l0.ish : Shape := { tmps := [(0, .one (.v .str)), (4, .one (.v (.int .i64)))], slots := [], nb := 0 }
def spec_l17Kinds.l0.outs : List (Ex × Shape) := [(.exit 0, { tmps := [], slots := [], nb := 0 }), (.ret, { tmps := [(2, .one (.v (.int .i64))), (3, .one (.v (.int .i64)))], slots := [], nb := 0 })]
def spec_l17Kinds.l0.F (k j : Nat) (x : Prod' spec_l17Kinds.l0.ish.tys) : Option (Outs spec_l17Kinds.l0.outs) := spec_l17Kinds.l0 j x.1 x.2
def spec_l17Kinds.l0.s (k : Nat) : Summ := { n := 28, ish := spec_l17Kinds.l0.ish, outs := spec_l17Kinds.l0.outs, f := spec_l17Kinds.l0.F k k }
theorem spec_l17Kinds.l0.ev (k j : Nat) (x : Prod' spec_l17Kinds.l0.ish.tys) : V (spec_l17Kinds.C k) .auto (cO (cO (cR (cL (cR (cB Tryz.f40)))))) (mk spec_l17Kinds.l0.ish 28 x) (fun e st' => match e with | .nrm => (rd spec_l17Kinds.l0.ish st').bind (spec_l17Kinds.l0.F k j) | e => rdOut e st' spec_l17Kinds.l0.outs) = spec_l17Kinds.l0.F k (j + 1) x := by kernel_rfl
theorem spec_l17Kinds.l0.ok (k : Nat) : SumOk Tryz.prog (spec_l17Kinds.C k) (.loop (cO (cO (cR (cL (cR (cB Tryz.f40))))))) (spec_l17Kinds.l0.s k) := sum_ok (by kernel_rfl) (sum_loop (p := .auto) (F := spec_l17Kinds.l0.F k) (spec_l17Kinds.cok k) (by kernel_rfl) (plan_of (L := []) (by kernel_rfl) trivial) (fun _ => rfl) (fun j x y h => (spec_l17Kinds.l0.ev k j x).trans h) k rfl)
def spec_l17Kinds.l1.ish : Shape := { tmps := [(0, .one (.v .str)), (5, .one (.v (.int .i64)))], slots := [], nb := 0 }
def spec_l17Kinds.l1.outs : List (Ex × Shape) := [(.exit 2, { tmps := [], slots := [], nb := 0 }), (.ret, { tmps := [(2, .one (.v (.int .i64))), (3, .one (.v (.int .i64)))], slots := [], nb := 0 })]
def spec_l17Kinds.l1.F (k j : Nat) (x : Prod' spec_l17Kinds.l1.ish.tys) : Option (Outs spec_l17Kinds.l1.outs) := spec_l17Kinds.l1 j x.1 x.2
def spec_l17Kinds.l1.s (k : Nat) : Summ := { n := 28, ish := spec_l17Kinds.l1.ish, outs := spec_l17Kinds.l1.outs, f := spec_l17Kinds.l1.F k k }
theorem spec_l17Kinds.l1.ev (k j : Nat) (x : Prod' spec_l17Kinds.l1.ish.tys) : V (spec_l17Kinds.C k) .auto (cO (cO (cR (cL (cR (cR (cB Tryz.f40))))))) (mk spec_l17Kinds.l1.ish 28 x) (fun e st' => match e with | .nrm => (rd spec_l17Kinds.l1.ish st').bind (spec_l17Kinds.l1.F k j) | e => rdOut e st' spec_l17Kinds.l1.outs) = spec_l17Kinds.l1.F k (j + 1) x := by kernel_rfl
theorem spec_l17Kinds.l1.ok (k : Nat) : SumOk Tryz.prog (spec_l17Kinds.C k) (.loop (cO (cO (cR (cL (cR (cR (cB Tryz.f40)))))))) (spec_l17Kinds.l1.s k) := sum_ok (by kernel_rfl) (sum_loop (p := .auto) (F := spec_l17Kinds.l1.F k) (spec_l17Kinds.cok k) (by kernel_rfl) (plan_of (L := []) (by kernel_rfl) trivial) (fun _ => rfl) (fun j x y h => (spec_l17Kinds.l1.ev k j x).trans h) k rfl)
theorem spec_l17Kinds.ev (k : Nat) (x : Prod' spec_l17Kinds.sig.ins) : spec_l17Kinds.sig.ev (spec_l17Kinds.C k) (.two .auto (.two (.two .auto (.one (.sum (spec_l17Kinds.l0.s k)))) (.two (.two .auto (.one (.sum (spec_l17Kinds.l1.s k)))) .auto))) Tryz.f40.results.toList (cB Tryz.f40) x = spec_l17Kinds k x := by kernel_rfl
theorem spec_l17Kinds.ok (k : Nat) : ConOk Tryz.prog 40 (spec_l17Kinds.con k) := sig_ok (p := (.two .auto (.two (.two .auto (.one (.sum (spec_l17Kinds.l0.s k)))) (.two (.two .auto (.one (.sum (spec_l17Kinds.l1.s k)))) .auto)))) (spec_l17Kinds.cok k) Tryz.func40 (by kernel_rfl) (show Tryz.f40.body = some (cB Tryz.f40) by kernel_rfl) (by kernel_rfl) (by kernel_rfl) (plan_of (L := [(spec_l17Kinds.l0.s k, cO (cR (cL (cR (cB Tryz.f40))))), (spec_l17Kinds.l1.s k, cO (cR (cL (cR (cR (cB Tryz.f40))))))]) (by kernel_rfl) ⟨spec_l17Kinds.l0.ok k, spec_l17Kinds.l1.ok k, trivial⟩) (fun x y h => (spec_l17Kinds.ev k x).trans h)
def spec_l17At (a1 : List Str) (a2 : Int) : Option (Str) :=
  bif decide (a2 < ((a1.length) : Int)) then
    Option.bind (at? a1 a2) fun v3 =>
    some v3
  else
  some ([])
def spec_l17At.sig : Sig := { ps := [.val false (.sl .str) (ros (.sl .str)), .val false (.int .i64) (ros (.int .i64))], rs := [.val false [.v .str]], ntmps := 13 }
def spec_l17At.con (k : Nat) : Con := spec_l17At.sig.con (fun x => spec_l17At x.1 x.2)
def spec_l17At.C (k : Nat) : Ctx := { ti := TAB, con := conL [] }
theorem spec_l17At.cok (k : Nat) : CtxOk Tryz.prog (spec_l17At.C k) := ctx_ok TABok trivial
theorem spec_l17At.ev (k : Nat) (x : Prod' spec_l17At.sig.ins) : spec_l17At.sig.ev (spec_l17At.C k) .auto Tryz.f41.results.toList (cB Tryz.f41) x = spec_l17At x.1 x.2 := by kernel_rfl
theorem spec_l17At.ok (k : Nat) : ConOk Tryz.prog 41 (spec_l17At.con k) := sig_ok (p := .auto) (spec_l17At.cok k) Tryz.func41 (by kernel_rfl) (show Tryz.f41.body = some (cB Tryz.f41) by kernel_rfl) (by kernel_rfl) (by kernel_rfl) (plan_of (L := []) (by kernel_rfl) trivial) (fun x y h => (spec_l17At.ev k x).trans h)
def spec_l17Unhex.l0 : Nat → Str → Int → Int → Int → Option (Int)
  | 0, _, _, _, _ => none
  | j + 1, a1, a2, a3, a4 =>
    bif decide (a4 < (IntKind.wrap .i64 (a2 + 2))) then
      Option.bind (at? a1 a4) fun v5 =>
      let e6 := IntKind.wrap .i64 (16 * a3)
      let e7 := IntKind.wrap .i64 (a4 + 1)
      bif decide (48 ≤ (v5.toNat : Int)) then
        Option.bind (at? a1 a4) fun v8 =>
        bif decide ((v8.toNat : Int) ≤ 57) then
          Option.bind (at? a1 a4) fun v9 =>
          spec_l17Unhex.l0 j a1 a2 (IntKind.wrap .i64 (e6 + (IntKind.wrap .i64 (IntKind.wrap .u8 ((v9.toNat : Int) - 48))))) e7
        else
        Option.bind (at? a1 a4) fun v10 =>
        bif decide (97 ≤ (v10.toNat : Int)) then
          Option.bind (at? a1 a4) fun v11 =>
          bif decide ((v11.toNat : Int) ≤ 102) then
            Option.bind (at? a1 a4) fun v12 =>
            spec_l17Unhex.l0 j a1 a2 (IntKind.wrap .i64 ((IntKind.wrap .i64 (e6 + (IntKind.wrap .i64 (IntKind.wrap .u8 ((v12.toNat : Int) - 97))))) + 10)) e7
          else
          spec_l17Unhex.l0 j a1 a2 a3 e7
        else
        spec_l17Unhex.l0 j a1 a2 a3 e7
      else
      Option.bind (at? a1 a4) fun v13 =>
      bif decide (97 ≤ (v13.toNat : Int)) then
        Option.bind (at? a1 a4) fun v14 =>
        bif decide ((v14.toNat : Int) ≤ 102) then
          Option.bind (at? a1 a4) fun v15 =>
          spec_l17Unhex.l0 j a1 a2 (IntKind.wrap .i64 ((IntKind.wrap .i64 (e6 + (IntKind.wrap .i64 (IntKind.wrap .u8 ((v15.toNat : Int) - 97))))) + 10)) e7
        else
        spec_l17Unhex.l0 j a1 a2 a3 e7
      else
      spec_l17Unhex.l0 j a1 a2 a3 e7
    else
    some a3
def spec_l17Unhex.l1 (k : Nat) : Nat → Str → Int → List Int → Option ((List Int))
  | 0, _, _, _ => none
  | j + 1, a1, a2, a3 =>
    bif decide ((IntKind.wrap .i64 (a2 + 1)) < ((a1.length) : Int)) then
      Option.bind (spec_l17Unhex.l0 k a1 a2 0 a2) fun y4 =>
      Option.bind (app? 1 a3 [(IntKind.wrap .u8 y4)]) fun v5 =>
      spec_l17Unhex.l1 k j a1 (IntKind.wrap .i64 (a2 + 2)) v5
    else
    some a3
def spec_l17Unhex (k : Nat) (a1 : Str) : Option (Str) :=
  Option.bind (spec_l17Unhex.l1 k k a1 0 []) fun y2 =>
  some (listByte y2)
def spec_l17Unhex.sig : Sig := { ps := [.val false .str (ros .str)], rs := [.val false [.v .str]], ntmps := 68 }
def spec_l17Unhex.con (k : Nat) : Con := spec_l17Unhex.sig.con (fun x => spec_l17Unhex k x)
def spec_l17Unhex.C (k : Nat) : Ctx := { ti := TAB, con := conL [] }
theorem spec_l17Unhex.cok (k : Nat) : CtxOk Tryz.prog (spec_l17Unhex.C k) := ctx_ok TABok trivial
def spec_l17Unhex.l0.ish : Shape := { tmps := [(0, .one (.v .str)), (4, .one (.v (.int .i64))), (5, .one (.v (.int .i64))), (6, .one (.v (.int .i64)))], slots := [], nb := 2 }
def spec_l17Unhex.l0.outs : List (Ex × Shape) := [(.exit 2, { tmps := [(5, .one (.v (.int .i64)))], slots := [], nb := 2 })]
def spec_l17Unhex.l0.F (k j : Nat) (x : Prod' spec_l17Unhex.l0.ish.tys) : Option (Outs spec_l17Unhex.l0.outs) := spec_l17Unhex.l0 j x.1 x.2.1 x.2.2.1 x.2.2.2
def spec_l17Unhex.l0.s (k : Nat) : Summ := { n := 68, ish := spec_l17Unhex.l0.ish, outs := spec_l17Unhex.l0.outs, f := spec_l17Unhex.l0.F k k }
theorem spec_l17Unhex.l0.ev (k j : Nat) (x : Prod' spec_l17Unhex.l0.ish.tys) : V (spec_l17Unhex.C k) .auto (cO (cO (cR (cL (cR (cO (cL (cR (cO (cO (cR (cL (cR (cR (cB Tryz.f42))))))))))))))) (mk spec_l17Unhex.l0.ish 68 x) (fun e st' => match e with | .nrm => (rd spec_l17Unhex.l0.ish st').bind (spec_l17Unhex.l0.F k j) | e => rdOut e st' spec_l17Unhex.l0.outs) = spec_l17Unhex.l0.F k (j + 1) x := by kernel_rfl
theorem spec_l17Unhex.l0.ok (k : Nat) : SumOk Tryz.prog (spec_l17Unhex.C k) (.loop (cO (cO (cR (cL (cR (cO (cL (cR (cO (cO (cR (cL (cR (cR (cB Tryz.f42)))))))))))))))) (spec_l17Unhex.l0.s k) := sum_ok (by kernel_rfl) (sum_loop (p := .auto) (F := spec_l17Unhex.l0.F k) (spec_l17Unhex.cok k) (by kernel_rfl) (plan_of (L := []) (by kernel_rfl) trivial) (fun _ => rfl) (fun j x y h => (spec_l17Unhex.l0.ev k j x).trans h) k rfl)
def spec_l17Unhex.l1.ish : Shape := { tmps := [(0, .one (.v .str)), (3, .one (.own 1)), (4, .one (.v (.int .i64)))], slots := [(1, .arr false 5 (.int .u8))], nb := 2 }
def spec_l17Unhex.l1.outs : List (Ex × Shape) := [(.exit 0, { tmps := [(3, .one (.own 2))], slots := [(2, .arr false 5 (.int .u8))], nb := 3 })]
def spec_l17Unhex.l1.F (k j : Nat) (x : Prod' spec_l17Unhex.l1.ish.tys) : Option (Outs spec_l17Unhex.l1.outs) := spec_l17Unhex.l1 k j x.1 x.2.1 x.2.2
def spec_l17Unhex.l1.s (k : Nat) : Summ := { n := 68, ish := spec_l17Unhex.l1.ish, outs := spec_l17Unhex.l1.outs, f := spec_l17Unhex.l1.F k k }
theorem spec_l17Unhex.l1.ev (k j : Nat) (x : Prod' spec_l17Unhex.l1.ish.tys) : V (spec_l17Unhex.C k) (.two .auto (.two (.one (.two .auto (.two (.two .auto (.one (.sum (spec_l17Unhex.l0.s k)))) .auto))) .auto)) (cO (cO (cR (cL (cR (cR (cB Tryz.f42))))))) (mk spec_l17Unhex.l1.ish 68 x) (fun e st' => match e with | .nrm => (rd spec_l17Unhex.l1.ish st').bind (spec_l17Unhex.l1.F k j) | e => rdOut e st' spec_l17Unhex.l1.outs) = spec_l17Unhex.l1.F k (j + 1) x := by kernel_rfl
theorem spec_l17Unhex.l1.ok (k : Nat) : SumOk Tryz.prog (spec_l17Unhex.C k) (.loop (cO (cO (cR (cL (cR (cR (cB Tryz.f42)))))))) (spec_l17Unhex.l1.s k) := sum_ok (by kernel_rfl) (sum_loop (p := (.two .auto (.two (.one (.two .auto (.two (.two .auto (.one (.sum (spec_l17Unhex.l0.s k)))) .auto))) .auto))) (F := spec_l17Unhex.l1.F k) (spec_l17Unhex.cok k) (by kernel_rfl) (plan_of (L := [(spec_l17Unhex.l0.s k, cO (cR (cL (cR (cO (cL (cR (cO (cO (cR (cL (cR (cR (cB Tryz.f42))))))))))))))]) (by kernel_rfl) ⟨spec_l17Unhex.l0.ok k, trivial⟩) (fun _ => rfl) (fun j x y h => (spec_l17Unhex.l1.ev k j x).trans h) k rfl)
theorem spec_l17Unhex.ev (k : Nat) (x : Prod' spec_l17Unhex.sig.ins) : spec_l17Unhex.sig.ev (spec_l17Unhex.C k) (.two .auto (.two .auto (.two (.two .auto (.one (.sum (spec_l17Unhex.l1.s k)))) .auto))) Tryz.f42.results.toList (cB Tryz.f42) x = spec_l17Unhex k x := by kernel_rfl
theorem spec_l17Unhex.ok (k : Nat) : ConOk Tryz.prog 42 (spec_l17Unhex.con k) := sig_ok (p := (.two .auto (.two .auto (.two (.two .auto (.one (.sum (spec_l17Unhex.l1.s k)))) .auto)))) (spec_l17Unhex.cok k) Tryz.func42 (by kernel_rfl) (show Tryz.f42.body = some (cB Tryz.f42) by kernel_rfl) (by kernel_rfl) (by kernel_rfl) (plan_of (L := [(spec_l17Unhex.l1.s k, cO (cR (cL (cR (cR (cB Tryz.f42))))))]) (by kernel_rfl) ⟨spec_l17Unhex.l1.ok k, trivial⟩) (fun x y h => (spec_l17Unhex.ev k x).trans h)
def spec_l17Block.l0 : Nat → Int → Int → List Int → Option ((List Int))
  | 0, _, _, _ => none
  | j + 1, a1, a2, a3 =>
    bif decide (a2 < 8) then
      Option.bind (app? 1 a3 [a1]) fun v4 =>
      spec_l17Block.l0 j a1 (IntKind.wrap .i64 (a2 + 1)) v4
    else
    some a3
def spec_l17Block (k : Nat) (a1 : Int) : Option (Str) :=
  Option.bind (spec_l17Block.l0 k a1 0 []) fun y2 =>
  some (listByte y2)
def spec_l17Block.sig : Sig := { ps := [.val false (.int .u8) (ros (.int .u8))], rs := [.val false [.v .str]], ntmps := 16 }
def spec_l17Block.con (k : Nat) : Con := spec_l17Block.sig.con (fun x => spec_l17Block k x)
def spec_l17Block.C (k : Nat) : Ctx := { ti := TAB, con := conL [] }
theorem spec_l17Block.cok (k : Nat) : CtxOk Tryz.prog (spec_l17Block.C k) := ctx_ok TABok trivial
def spec_l17Block.l0.ish : Shape := { tmps := [(0, .one (.v (.int .u8))), (3, .one (.own 1)), (4, .one (.v (.int .i64)))], slots := [(1, .arr false 5 (.int .u8))], nb := 2 }
def spec_l17Block.l0.outs : List (Ex × Shape) := [(.exit 0, { tmps := [(3, .one (.own 2))], slots := [(2, .arr false 5 (.int .u8))], nb := 3 })]
def spec_l17Block.l0.F (k j : Nat) (x : Prod' spec_l17Block.l0.ish.tys) : Option (Outs spec_l17Block.l0.outs) := spec_l17Block.l0 j x.1 x.2.1 x.2.2
def spec_l17Block.l0.s (k : Nat) : Summ := { n := 16, ish := spec_l17Block.l0.ish, outs := spec_l17Block.l0.outs, f := spec_l17Block.l0.F k k }
theorem spec_l17Block.l0.ev (k j : Nat) (x : Prod' spec_l17Block.l0.ish.tys) : V (spec_l17Block.C k) .auto (cO (cO (cR (cL (cR (cR (cB Tryz.f89))))))) (mk spec_l17Block.l0.ish 16 x) (fun e st' => match e with | .nrm => (rd spec_l17Block.l0.ish st').bind (spec_l17Block.l0.F k j) | e => rdOut e st' spec_l17Block.l0.outs) = spec_l17Block.l0.F k (j + 1) x := by kernel_rfl
theorem spec_l17Block.l0.ok (k : Nat) : SumOk Tryz.prog (spec_l17Block.C k) (.loop (cO (cO (cR (cL (cR (cR (cB Tryz.f89)))))))) (spec_l17Block.l0.s k) := sum_ok (by kernel_rfl) (sum_loop (p := .auto) (F := spec_l17Block.l0.F k) (spec_l17Block.cok k) (by kernel_rfl) (plan_of (L := []) (by kernel_rfl) trivial) (fun _ => rfl) (fun j x y h => (spec_l17Block.l0.ev k j x).trans h) k rfl)
theorem spec_l17Block.ev (k : Nat) (x : Prod' spec_l17Block.sig.ins) : spec_l17Block.sig.ev (spec_l17Block.C k) (.two .auto (.two .auto (.two (.two .auto (.one (.sum (spec_l17Block.l0.s k)))) .auto))) Tryz.f89.results.toList (cB Tryz.f89) x = spec_l17Block k x := by kernel_rfl
theorem spec_l17Block.ok (k : Nat) : ConOk Tryz.prog 89 (spec_l17Block.con k) := sig_ok (p := (.two .auto (.two .auto (.two (.two .auto (.one (.sum (spec_l17Block.l0.s k)))) .auto)))) (spec_l17Block.cok k) Tryz.func89 (by kernel_rfl) (show Tryz.f89.body = some (cB Tryz.f89) by kernel_rfl) (by kernel_rfl) (by kernel_rfl) (plan_of (L := [(spec_l17Block.l0.s k, cO (cR (cL (cR (cR (cB Tryz.f89))))))]) (by kernel_rfl) ⟨spec_l17Block.l0.ok k, trivial⟩) (fun x y h => (spec_l17Block.ev k x).trans h)
def spec_l17Put.j0 (k : Nat) (a1 : Int) (a2 : List Str) (a3 : Int) (a4 : Int) (a5 : Int) (a6 : Int) (a7 : Str) : Option ((Int × Int × Int × Int × Str)) :=
  bif a1 != 5 then
    Option.bind (spec_l17At a2 a3) fun v8 =>
    Option.bind (spec_l17Num k v8) fun v9 =>
    some (IntKind.wrap .i64 (a3 + 1), a4, v9, a6, a7)
  else
  some (a3, a4, a5, a6, a7)
def spec_l17Put.j1 (k : Nat) (a1 : Int) (a2 : List Str) (a3 : Int) (a4 : Int) (a5 : Int) (a6 : Int) (a7 : Str) : Option ((Int × Int × Int × Int × Str)) :=
  bif decide (3 ≤ a1) then
    Option.bind (spec_l17At a2 a3) fun v8 =>
    Option.bind (spec_l17Num k v8) fun v9 =>
    some (IntKind.wrap .i64 (a3 + 1), a4, a5, v9, a7)
  else
  some (a3, a4, a5, a6, a7)
def spec_l17Put (k : Nat) (a1 : Int) (a2 : List Str) : Option (Int × Int × Int × Str) :=
  Option.bind (spec_l17Put.j0 k a1 a2 1 a1 0 0 []) fun y3 =>
  Option.bind (spec_l17Put.j1 k a1 a2 y3.1 y3.2.1 y3.2.2.1 y3.2.2.2.1 y3.2.2.2.2) fun y4 =>
  Option.bind (spec_l17At a2 y4.1) fun v5 =>
  bif (((v5.length) : Int) == 1) && ((a1 == 2) || (a1 == 4)) then
    Option.bind (at? v5 0) fun v6 =>
    Option.bind (spec_l17Block k (v6.toNat : Int)) fun v7 =>
    some (y4.2.1, y4.2.2.1, y4.2.2.2.1, v7)
  else
  some (y4.2.1, y4.2.2.1, y4.2.2.2.1, y4.2.2.2.2)
def spec_l17Put.sig : Sig := { ps := [.val false (.int .i64) (ros (.int .i64)), .val false (.sl .str) (ros (.sl .str))], rs := [.val true [.v (.int .i64), .v (.int .i64), .v (.int .i64), .v .str]], ntmps := 47 }
def spec_l17Put.con (k : Nat) : Con := spec_l17Put.sig.con (fun x => spec_l17Put k x.1 x.2)
def spec_l17Put.C (k : Nat) : Ctx := { ti := TAB, con := conL [(38, spec_l17Num.con k), (41, spec_l17At.con k), (89, spec_l17Block.con k)] }
theorem spec_l17Put.cok (k : Nat) : CtxOk Tryz.prog (spec_l17Put.C k) := ctx_ok TABok ⟨spec_l17Num.ok k, spec_l17At.ok k, spec_l17Block.ok k, trivial⟩
def spec_l17Put.j0.ish : Shape := { tmps := [(0, .one (.v (.int .i64))), (1, .one (.bor .str)), (5, .one (.ptr 1 0)), (6, .one (.v (.int .i64)))], slots := [(1, .box 23 [.v (.int .i64), .v (.int .i64), .v (.int .i64), .v .str])], nb := 2 }
def spec_l17Put.j0.outs : List (Ex × Shape) := [(.nrm, { tmps := [(6, .one (.v (.int .i64)))], slots := [(1, .box 23 [.v (.int .i64), .v (.int .i64), .v (.int .i64), .v .str])], nb := 2 })]
def spec_l17Put.j0.F (k : Nat) (x : Prod' spec_l17Put.j0.ish.tys) : Option (Outs spec_l17Put.j0.outs) := spec_l17Put.j0 k x.1 x.2.1 x.2.2.1 x.2.2.2.1 x.2.2.2.2.1 x.2.2.2.2.2.1 x.2.2.2.2.2.2
def spec_l17Put.j0.s (k : Nat) : Summ := { n := 47, ish := spec_l17Put.j0.ish, outs := spec_l17Put.j0.outs, f := spec_l17Put.j0.F k }
theorem spec_l17Put.j0.ev (k : Nat) (x : Prod' spec_l17Put.j0.ish.tys) : V (spec_l17Put.C k) .auto (cL (cR (cR (cR (cB Tryz.f43))))) (mk spec_l17Put.j0.ish 47 x) (fun e st' => rdOut e st' spec_l17Put.j0.outs) = spec_l17Put.j0.F k x := by kernel_rfl
theorem spec_l17Put.j0.ok (k : Nat) : SumOk Tryz.prog (spec_l17Put.C k) (cL (cR (cR (cR (cB Tryz.f43))))) (spec_l17Put.j0.s k) := sum_ok (by kernel_rfl) (sum_code (p := .auto) (spec_l17Put.cok k) (by kernel_rfl) (plan_of (L := []) (by kernel_rfl) trivial) (fun x y h => (spec_l17Put.j0.ev k x).trans h))
def spec_l17Put.j1.ish : Shape := { tmps := [(0, .one (.v (.int .i64))), (1, .one (.bor .str)), (5, .one (.ptr 1 0)), (6, .one (.v (.int .i64)))], slots := [(1, .box 23 [.v (.int .i64), .v (.int .i64), .v (.int .i64), .v .str])], nb := 2 }
def spec_l17Put.j1.outs : List (Ex × Shape) := [(.nrm, { tmps := [(6, .one (.v (.int .i64)))], slots := [(1, .box 23 [.v (.int .i64), .v (.int .i64), .v (.int .i64), .v .str])], nb := 2 })]
def spec_l17Put.j1.F (k : Nat) (x : Prod' spec_l17Put.j1.ish.tys) : Option (Outs spec_l17Put.j1.outs) := spec_l17Put.j1 k x.1 x.2.1 x.2.2.1 x.2.2.2.1 x.2.2.2.2.1 x.2.2.2.2.2.1 x.2.2.2.2.2.2
def spec_l17Put.j1.s (k : Nat) : Summ := { n := 47, ish := spec_l17Put.j1.ish, outs := spec_l17Put.j1.outs, f := spec_l17Put.j1.F k }
theorem spec_l17Put.j1.ev (k : Nat) (x : Prod' spec_l17Put.j1.ish.tys) : V (spec_l17Put.C k) .auto (cL (cR (cR (cR (cR (cB Tryz.f43)))))) (mk spec_l17Put.j1.ish 47 x) (fun e st' => rdOut e st' spec_l17Put.j1.outs) = spec_l17Put.j1.F k x := by kernel_rfl
theorem spec_l17Put.j1.ok (k : Nat) : SumOk Tryz.prog (spec_l17Put.C k) (cL (cR (cR (cR (cR (cB Tryz.f43)))))) (spec_l17Put.j1.s k) := sum_ok (by kernel_rfl) (sum_code (p := .auto) (spec_l17Put.cok k) (by kernel_rfl) (plan_of (L := []) (by kernel_rfl) trivial) (fun x y h => (spec_l17Put.j1.ev k x).trans h))
theorem spec_l17Put.ev (k : Nat) (x : Prod' spec_l17Put.sig.ins) : spec_l17Put.sig.ev (spec_l17Put.C k) (.two .auto (.two .auto (.two .auto (.two (.sum (spec_l17Put.j0.s k)) (.two (.sum (spec_l17Put.j1.s k)) .auto))))) Tryz.f43.results.toList (cB Tryz.f43) x = spec_l17Put k x.1 x.2 := by kernel_rfl
theorem spec_l17Put.ok (k : Nat) : ConOk Tryz.prog 43 (spec_l17Put.con k) := sig_ok (p := (.two .auto (.two .auto (.two .auto (.two (.sum (spec_l17Put.j0.s k)) (.two (.sum (spec_l17Put.j1.s k)) .auto)))))) (spec_l17Put.cok k) Tryz.func43 (by kernel_rfl) (show Tryz.f43.body = some (cB Tryz.f43) by kernel_rfl) (by kernel_rfl) (by kernel_rfl) (plan_of (L := [(spec_l17Put.j0.s k, cL (cR (cR (cR (cB Tryz.f43))))), (spec_l17Put.j1.s k, cL (cR (cR (cR (cR (cB Tryz.f43))))))]) (by kernel_rfl) ⟨spec_l17Put.j0.ok k, spec_l17Put.j1.ok k, trivial⟩) (fun x y h => (spec_l17Put.ev k x).trans h)
def spec_l03Is (a1 : Int) (a2 : Int) (a3 : Int) : Option (Bool) :=
  some ((decide (a2 ≤ a1)) && (decide (a1 ≤ a3)))
def spec_l03Is.sig : Sig := { ps := [.val false (.int .i64) (ros (.int .i64)), .val false (.int .i64) (ros (.int .i64)), .val false (.int .i64) (ros (.int .i64))], rs := [.val false [.v .bool]], ntmps := 15 }
def spec_l03Is.con (k : Nat) : Con := spec_l03Is.sig.con (fun x => spec_l03Is x.1 x.2.1 x.2.2)
def spec_l03Is.C (k : Nat) : Ctx := { ti := TAB, con := conL [] }
theorem spec_l03Is.cok (k : Nat) : CtxOk Tryz.prog (spec_l03Is.C k) := ctx_ok TABok trivial
theorem spec_l03Is.ev (k : Nat) (x : Prod' spec_l03Is.sig.ins) : spec_l03Is.sig.ev (spec_l03Is.C k) .auto Tryz.f100.results.toList (cB Tryz.f100) x = spec_l03Is x.1 x.2.1 x.2.2 := by kernel_rfl
theorem spec_l03Is.ok (k : Nat) : ConOk Tryz.prog 100 (spec_l03Is.con k) := sig_ok (p := .auto) (spec_l03Is.cok k) Tryz.func100 (by kernel_rfl) (show Tryz.f100.body = some (cB Tryz.f100) by kernel_rfl) (by kernel_rfl) (by kernel_rfl) (plan_of (L := []) (by kernel_rfl) trivial) (fun x y h => (spec_l03Is.ev k x).trans h)
def spec_StepRight (a1 : G23) (a2 : Int) : Option (Bool) :=
  Option.bind (spec_l03Is a2 1 8) fun v3 =>
  bif !v3 then
    some false
  else
  let e4 := IntKind.wrap .i64 (a2 - 1)
  Option.bind (spec_l03Is a1.2.1 0 e4) fun v5 =>
  Option.bind (spec_l03Is a1.2.2.1 0 e4) fun v6 =>
  let e7 := a1.2.2.2 == []
  let e8 := v5 && (a1.2.2.1 == 0)
  bif a1.1 == 1 then
    some (e8 && e7)
  else
  let e9 := ((a1.2.2.2.length) : Int) == 8
  bif a1.1 == 2 then
    some (e8 && e9)
  else
  bif a1.1 == 3 then
    some ((v5 && v6) && e7)
  else
  bif a1.1 == 4 then
    some ((v5 && v6) && e9)
  else
  bif a1.1 == 5 then
    bif a1.2.1 == 0 then
      Option.bind (spec_l03Is a1.2.2.1 0 1000000) fun v10 =>
      some (v10 && e7)
    else
    some false
  else
  some false
def spec_StepRight.sig : Sig := { ps := [.val true T23 (ros T23), .val false (.int .i64) (ros (.int .i64))], rs := [.val false [.v .bool]], ntmps := 87 }
def spec_StepRight.con (k : Nat) : Con := spec_StepRight.sig.con (fun x => spec_StepRight x.1 x.2)
def spec_StepRight.C (k : Nat) : Ctx := { ti := TAB, con := conL [(100, spec_l03Is.con k)] }
theorem spec_StepRight.cok (k : Nat) : CtxOk Tryz.prog (spec_StepRight.C k) := ctx_ok TABok ⟨spec_l03Is.ok k, trivial⟩
theorem spec_StepRight.ev (k : Nat) (x : Prod' spec_StepRight.sig.ins) : spec_StepRight.sig.ev (spec_StepRight.C k) .auto Tryz.f169.results.toList (cB Tryz.f169) x = spec_StepRight x.1 x.2 := by kernel_rfl
theorem spec_StepRight.ok (k : Nat) : ConOk Tryz.prog 169 (spec_StepRight.con k) := sig_ok (p := .auto) (spec_StepRight.cok k) Tryz.func169 (by kernel_rfl) (show Tryz.f169.body = some (cB Tryz.f169) by kernel_rfl) (by kernel_rfl) (by kernel_rfl) (plan_of (L := []) (by kernel_rfl) trivial) (fun x y h => (spec_StepRight.ev k x).trans h)
def spec_CmdRight (a1 : G25) : Option (Bool) :=
  Option.bind (spec_l03Is a1.1 1 11) fun v2 =>
  bif !v2 then
    some false
  else
  let e3 := a1.1 == 1
  let e4 := a1.1 == 2
  let e5 := (!e3) && ((a1.2.2.1 != 0) || (!(a1.2.2.2.1 == [])))
  let e6 := (!e4) && (!((a1.2.2.2.2.1 == 0) && ((a1.2.2.2.2.2.1 == 0) && ((a1.2.2.2.2.2.2.1 == 0) && (a1.2.2.2.2.2.2.2 == [])))))
  let e7 := a1.1 == 9
  let e8 := a1.1 == 7
  let e9 := a1.2.1 == 0
  bif e3 then
    Option.bind (spec_l03Is a1.2.1 1 20) fun v10 =>
    bif !v10 then
      some false
    else
    Option.bind (spec_l03Is a1.2.2.1 0 4) fun v11 =>
    bif (!v11) || (((a1.2.2.2.1.length) : Int) != 32) then
      some false
    else
    bif e5 then
      some false
    else
    bif e4 then
      Option.bind (spec_StepRight a1.2.2.2.2 8) fun v12 =>
      bif (!v12) || e6 then
        some false
      else
      bif e3 then
        some true
      else
      bif e7 then
        Option.bind (spec_l03Is a1.2.1 1 24) fun v13 =>
        some v13
      else
      bif e8 then
        Option.bind (spec_l03Is a1.2.1 0 1000000) fun v14 =>
        some v14
      else
      some e9
    else
    bif e6 then
      some false
    else
    bif e3 then
      some true
    else
    bif e7 then
      Option.bind (spec_l03Is a1.2.1 1 24) fun v15 =>
      some v15
    else
    bif e8 then
      Option.bind (spec_l03Is a1.2.1 0 1000000) fun v16 =>
      some v16
    else
    some e9
  else
  bif e5 then
    some false
  else
  bif e4 then
    Option.bind (spec_StepRight a1.2.2.2.2 8) fun v17 =>
    bif (!v17) || e6 then
      some false
    else
    bif e3 then
      some true
    else
    bif e7 then
      Option.bind (spec_l03Is a1.2.1 1 24) fun v18 =>
      some v18
    else
    bif e8 then
      Option.bind (spec_l03Is a1.2.1 0 1000000) fun v19 =>
      some v19
    else
    some e9
  else
  bif e6 then
    some false
  else
  bif e3 then
    some true
  else
  bif e7 then
    Option.bind (spec_l03Is a1.2.1 1 24) fun v20 =>
    some v20
  else
  bif e8 then
    Option.bind (spec_l03Is a1.2.1 0 1000000) fun v21 =>
    some v21
  else
  some e9
def spec_CmdRight.sig : Sig := { ps := [.val true T25 (ros T25)], rs := [.val false [.v .bool]], ntmps := 83 }
def spec_CmdRight.con (k : Nat) : Con := spec_CmdRight.sig.con (fun x => spec_CmdRight x)
def spec_CmdRight.C (k : Nat) : Ctx := { ti := TAB, con := conL [(100, spec_l03Is.con k), (169, spec_StepRight.con k)] }
theorem spec_CmdRight.cok (k : Nat) : CtxOk Tryz.prog (spec_CmdRight.C k) := ctx_ok TABok ⟨spec_l03Is.ok k, spec_StepRight.ok k, trivial⟩
theorem spec_CmdRight.ev (k : Nat) (x : Prod' spec_CmdRight.sig.ins) : spec_CmdRight.sig.ev (spec_CmdRight.C k) .auto Tryz.f103.results.toList (cB Tryz.f103) x = spec_CmdRight x := by kernel_rfl
theorem spec_CmdRight.ok (k : Nat) : ConOk Tryz.prog 103 (spec_CmdRight.con k) := sig_ok (p := .auto) (spec_CmdRight.cok k) Tryz.func103 (by kernel_rfl) (show Tryz.f103.body = some (cB Tryz.f103) by kernel_rfl) (by kernel_rfl) (by kernel_rfl) (plan_of (L := []) (by kernel_rfl) trivial) (fun x y h => (spec_CmdRight.ev k x).trans h)
def spec_l16Nums.l0 : Nat → List Int → Int → Int → Option (Unit ⊕ Bool)
  | 0, _, _, _ => none
  | j + 1, a1, a2, a3 =>
    bif decide (a3 < ((a1.length) : Int)) then
      Option.bind (at? a1 a3) fun v4 =>
      Option.bind (spec_l03Is v4 0 a2) fun v5 =>
      bif !v5 then
        some (.inr false)
      else
      spec_l16Nums.l0 j a1 a2 (IntKind.wrap .i64 (a3 + 1))
    else
    some (.inl ())
def spec_l16Nums (k : Nat) (a1 : List Int) (a2 : Int) (a3 : Int) : Option (Bool) :=
  bif decide (a2 < ((a1.length) : Int)) then
    some false
  else
  Option.bind (spec_l16Nums.l0 k a1 a3 0) fun
    | .inl y4 =>
      some true
    | .inr y5 =>
      some y5
def spec_l16Nums.sig : Sig := { ps := [.val false (.sl (.int .i64)) (ros (.sl (.int .i64))), .val false (.int .i64) (ros (.int .i64)), .val false (.int .i64) (ros (.int .i64))], rs := [.val false [.v .bool]], ntmps := 25 }
def spec_l16Nums.con (k : Nat) : Con := spec_l16Nums.sig.con (fun x => spec_l16Nums k x.1 x.2.1 x.2.2)
def spec_l16Nums.C (k : Nat) : Ctx := { ti := TAB, con := conL [(100, spec_l03Is.con k)] }
theorem spec_l16Nums.cok (k : Nat) : CtxOk Tryz.prog (spec_l16Nums.C k) := ctx_ok TABok ⟨spec_l03Is.ok k, trivial⟩
def spec_l16Nums.l0.ish : Shape := { tmps := [(0, .one (.bor (.int .i64))), (2, .one (.v (.int .i64))), (7, .one (.v (.int .i64)))], slots := [], nb := 0 }
def spec_l16Nums.l0.outs : List (Ex × Shape) := [(.exit 0, { tmps := [], slots := [], nb := 0 }), (.ret, { tmps := [(6, .one (.v .bool))], slots := [], nb := 0 })]
def spec_l16Nums.l0.F (k j : Nat) (x : Prod' spec_l16Nums.l0.ish.tys) : Option (Outs spec_l16Nums.l0.outs) := spec_l16Nums.l0 j x.1 x.2.1 x.2.2
def spec_l16Nums.l0.s (k : Nat) : Summ := { n := 25, ish := spec_l16Nums.l0.ish, outs := spec_l16Nums.l0.outs, f := spec_l16Nums.l0.F k k }
theorem spec_l16Nums.l0.ev (k j : Nat) (x : Prod' spec_l16Nums.l0.ish.tys) : V (spec_l16Nums.C k) .auto (cO (cO (cR (cL (cR (cR (cB Tryz.f104))))))) (mk spec_l16Nums.l0.ish 25 x) (fun e st' => match e with | .nrm => (rd spec_l16Nums.l0.ish st').bind (spec_l16Nums.l0.F k j) | e => rdOut e st' spec_l16Nums.l0.outs) = spec_l16Nums.l0.F k (j + 1) x := by kernel_rfl
theorem spec_l16Nums.l0.ok (k : Nat) : SumOk Tryz.prog (spec_l16Nums.C k) (.loop (cO (cO (cR (cL (cR (cR (cB Tryz.f104)))))))) (spec_l16Nums.l0.s k) := sum_ok (by kernel_rfl) (sum_loop (p := .auto) (F := spec_l16Nums.l0.F k) (spec_l16Nums.cok k) (by kernel_rfl) (plan_of (L := []) (by kernel_rfl) trivial) (fun _ => rfl) (fun j x y h => (spec_l16Nums.l0.ev k j x).trans h) k rfl)
theorem spec_l16Nums.ev (k : Nat) (x : Prod' spec_l16Nums.sig.ins) : spec_l16Nums.sig.ev (spec_l16Nums.C k) (.two .auto (.two .auto (.two (.two .auto (.one (.sum (spec_l16Nums.l0.s k)))) .auto))) Tryz.f104.results.toList (cB Tryz.f104) x = spec_l16Nums k x.1 x.2.1 x.2.2 := by kernel_rfl
theorem spec_l16Nums.ok (k : Nat) : ConOk Tryz.prog 104 (spec_l16Nums.con k) := sig_ok (p := (.two .auto (.two .auto (.two (.two .auto (.one (.sum (spec_l16Nums.l0.s k)))) .auto)))) (spec_l16Nums.cok k) Tryz.func104 (by kernel_rfl) (show Tryz.f104.body = some (cB Tryz.f104) by kernel_rfl) (by kernel_rfl) (by kernel_rfl) (plan_of (L := [(spec_l16Nums.l0.s k, cO (cR (cL (cR (cR (cB Tryz.f104))))))]) (by kernel_rfl) ⟨spec_l16Nums.l0.ok k, trivial⟩) (fun x y h => (spec_l16Nums.ev k x).trans h)
def spec_DeedRight (k : Nat) (a1 : G28) : Option (Bool) :=
  Option.bind (spec_CmdRight a1.1) fun v2 =>
  bif !v2 then
    some false
  else
  Option.bind (spec_l03Is a1.2.1 (-1) 50) fun v3 =>
  bif !v3 then
    some false
  else
  Option.bind (spec_l16Nums k a1.2.2.1 40 200) fun v4 =>
  bif !v4 then
    some false
  else
  Option.bind (spec_l16Nums k a1.2.2.2 5 50) fun v5 =>
  bif !v5 then
    some false
  else
  some ((decide (0 ≤ a1.2.1)) || ((((a1.2.2.1.length) : Int) == 0) && (((a1.2.2.2.length) : Int) == 0)))
def spec_DeedRight.sig : Sig := { ps := [.val true T28 (ros T28)], rs := [.val false [.v .bool]], ntmps := 40 }
def spec_DeedRight.con (k : Nat) : Con := spec_DeedRight.sig.con (fun x => spec_DeedRight k x)
def spec_DeedRight.C (k : Nat) : Ctx := { ti := TAB, con := conL [(100, spec_l03Is.con k), (103, spec_CmdRight.con k), (104, spec_l16Nums.con k)], rob := true }
theorem spec_DeedRight.cok (k : Nat) : CtxOk Tryz.prog (spec_DeedRight.C k) := ctx_ok TABok ⟨spec_l03Is.ok k, spec_CmdRight.ok k, spec_l16Nums.ok k, trivial⟩
theorem spec_DeedRight.ev (k : Nat) (x : Prod' spec_DeedRight.sig.ins) : spec_DeedRight.sig.ev (spec_DeedRight.C k) .auto Tryz.f52.results.toList (cB Tryz.f52) x = spec_DeedRight k x := by kernel_rfl
theorem spec_DeedRight.ok (k : Nat) : ConOk Tryz.prog 52 (spec_DeedRight.con k) := sig_ok (p := .auto) (spec_DeedRight.cok k) Tryz.func52 (by kernel_rfl) (show Tryz.f52.body = some (cB Tryz.f52) by kernel_rfl) (by kernel_rfl) (by kernel_rfl) (plan_of (L := []) (by kernel_rfl) trivial) (fun x y h => (spec_DeedRight.ev k x).trans h)
def spec_l01Dec.l0 : Nat → Int → Str → Option (Str)
  | 0, _, _ => none
  | j + 1, a1, a2 =>
    bif a1 != 0 then
      Option.bind (nz? 10) fun v3 =>
      let e4 := IntKind.wrap .i64 (Int.tdiv a1 10)
      bif decide ((Int.tmod a1 10) < 0) then
        Option.bind (cat? (listByte [(IntKind.wrap .u8 (IntKind.wrap .i64 (48 + (IntKind.wrap .i64 (0 - (Int.tmod a1 10))))))]) a2) fun v5 =>
        Option.bind (nz? 10) fun v6 =>
        spec_l01Dec.l0 j e4 v5
      else
      Option.bind (cat? (listByte [(IntKind.wrap .u8 (IntKind.wrap .i64 (48 + (Int.tmod a1 10))))]) a2) fun v7 =>
      Option.bind (nz? 10) fun v8 =>
      spec_l01Dec.l0 j e4 v7
    else
    some a2
def spec_l01Dec (k : Nat) (a1 : Int) : Option (Str) :=
  bif a1 == 0 then
    some ([48] : Str)
  else
  Option.bind (spec_l01Dec.l0 k a1 []) fun y2 =>
  bif decide (a1 < 0) then
    Option.bind (cat? ([45] : Str) y2) fun v3 =>
    some v3
  else
  some y2
def spec_l01Dec.sig : Sig := { ps := [.val false (.int .i64) (ros (.int .i64))], rs := [.val false [.v .str]], ntmps := 31 }
def spec_l01Dec.con (k : Nat) : Con := spec_l01Dec.sig.con (fun x => spec_l01Dec k x)
def spec_l01Dec.C (k : Nat) : Ctx := { ti := TAB, con := conL [] }
theorem spec_l01Dec.cok (k : Nat) : CtxOk Tryz.prog (spec_l01Dec.C k) := ctx_ok TABok trivial
def spec_l01Dec.l0.ish : Shape := { tmps := [(0, .one (.v (.int .i64))), (4, .one (.v .str))], slots := [], nb := 0 }
def spec_l01Dec.l0.outs : List (Ex × Shape) := [(.exit 0, { tmps := [(4, .one (.v .str))], slots := [], nb := 0 })]
def spec_l01Dec.l0.F (k j : Nat) (x : Prod' spec_l01Dec.l0.ish.tys) : Option (Outs spec_l01Dec.l0.outs) := spec_l01Dec.l0 j x.1 x.2
def spec_l01Dec.l0.s (k : Nat) : Summ := { n := 31, ish := spec_l01Dec.l0.ish, outs := spec_l01Dec.l0.outs, f := spec_l01Dec.l0.F k k }
theorem spec_l01Dec.l0.ev (k j : Nat) (x : Prod' spec_l01Dec.l0.ish.tys) : V (spec_l01Dec.C k) .auto (cO (cO (cL (cR (cR (cR (cR (cB Tryz.f91)))))))) (mk spec_l01Dec.l0.ish 31 x) (fun e st' => match e with | .nrm => (rd spec_l01Dec.l0.ish st').bind (spec_l01Dec.l0.F k j) | e => rdOut e st' spec_l01Dec.l0.outs) = spec_l01Dec.l0.F k (j + 1) x := by kernel_rfl
theorem spec_l01Dec.l0.ok (k : Nat) : SumOk Tryz.prog (spec_l01Dec.C k) (.loop (cO (cO (cL (cR (cR (cR (cR (cB Tryz.f91))))))))) (spec_l01Dec.l0.s k) := sum_ok (by kernel_rfl) (sum_loop (p := .auto) (F := spec_l01Dec.l0.F k) (spec_l01Dec.cok k) (by kernel_rfl) (plan_of (L := []) (by kernel_rfl) trivial) (fun _ => rfl) (fun j x y h => (spec_l01Dec.l0.ev k j x).trans h) k rfl)
theorem spec_l01Dec.ev (k : Nat) (x : Prod' spec_l01Dec.sig.ins) : spec_l01Dec.sig.ev (spec_l01Dec.C k) (.two .auto (.two .auto (.two .auto (.two .auto (.two (.one (.sum (spec_l01Dec.l0.s k))) .auto))))) Tryz.f91.results.toList (cB Tryz.f91) x = spec_l01Dec k x := by kernel_rfl
theorem spec_l01Dec.ok (k : Nat) : ConOk Tryz.prog 91 (spec_l01Dec.con k) := sig_ok (p := (.two .auto (.two .auto (.two .auto (.two .auto (.two (.one (.sum (spec_l01Dec.l0.s k))) .auto)))))) (spec_l01Dec.cok k) Tryz.func91 (by kernel_rfl) (show Tryz.f91.body = some (cB Tryz.f91) by kernel_rfl) (by kernel_rfl) (by kernel_rfl) (plan_of (L := [(spec_l01Dec.l0.s k, cO (cL (cR (cR (cR (cR (cB Tryz.f91)))))))]) (by kernel_rfl) ⟨spec_l01Dec.l0.ok k, trivial⟩) (fun x y h => (spec_l01Dec.ev k x).trans h)
def spec_l16Hex.l0 : Nat → Str → Str → Int → List Int → Option ((List Int))
  | 0, _, _, _, _ => none
  | j + 1, a1, a2, a3, a4 =>
    bif decide (a3 < ((a1.length) : Int)) then
      Option.bind (at? a1 a3) fun v5 =>
      Option.bind (nneg? 4) fun v6 =>
      Option.bind (at? a2 (shr .u8 (v5.toNat : Int) 4)) fun v7 =>
      Option.bind (at? a1 a3) fun v8 =>
      Option.bind (at? a2 (intBits .and .u8 (v8.toNat : Int) 15)) fun v9 =>
      Option.bind (app? 1 a4 [(v7.toNat : Int), (v9.toNat : Int)]) fun v10 =>
      spec_l16Hex.l0 j a1 a2 (IntKind.wrap .i64 (a3 + 1)) v10
    else
    some a4
def spec_l16Hex (k : Nat) (a1 : Str) : Option (Str) :=
  Option.bind (spec_l16Hex.l0 k a1 ([48, 49, 50, 51, 52, 53, 54, 55, 56, 57, 97, 98, 99, 100, 101, 102] : Str) 0 []) fun y2 =>
  some (listByte y2)
def spec_l16Hex.sig : Sig := { ps := [.val false .str (ros .str)], rs := [.val false [.v .str]], ntmps := 30 }
def spec_l16Hex.con (k : Nat) : Con := spec_l16Hex.sig.con (fun x => spec_l16Hex k x)
def spec_l16Hex.C (k : Nat) : Ctx := { ti := TAB, con := conL [] }
theorem spec_l16Hex.cok (k : Nat) : CtxOk Tryz.prog (spec_l16Hex.C k) := ctx_ok TABok trivial
def spec_l16Hex.l0.ish : Shape := { tmps := [(0, .one (.v .str)), (3, .one (.v .str)), (4, .one (.own 1)), (5, .one (.v (.int .i64)))], slots := [(1, .arr false 5 (.int .u8))], nb := 2 }
def spec_l16Hex.l0.outs : List (Ex × Shape) := [(.exit 0, { tmps := [(4, .one (.own 2))], slots := [(2, .arr false 5 (.int .u8))], nb := 3 })]
def spec_l16Hex.l0.F (k j : Nat) (x : Prod' spec_l16Hex.l0.ish.tys) : Option (Outs spec_l16Hex.l0.outs) := spec_l16Hex.l0 j x.1 x.2.1 x.2.2.1 x.2.2.2
def spec_l16Hex.l0.s (k : Nat) : Summ := { n := 30, ish := spec_l16Hex.l0.ish, outs := spec_l16Hex.l0.outs, f := spec_l16Hex.l0.F k k }
theorem spec_l16Hex.l0.ev (k j : Nat) (x : Prod' spec_l16Hex.l0.ish.tys) : V (spec_l16Hex.C k) .auto (cO (cO (cR (cL (cR (cR (cR (cB Tryz.f156)))))))) (mk spec_l16Hex.l0.ish 30 x) (fun e st' => match e with | .nrm => (rd spec_l16Hex.l0.ish st').bind (spec_l16Hex.l0.F k j) | e => rdOut e st' spec_l16Hex.l0.outs) = spec_l16Hex.l0.F k (j + 1) x := by kernel_rfl
theorem spec_l16Hex.l0.ok (k : Nat) : SumOk Tryz.prog (spec_l16Hex.C k) (.loop (cO (cO (cR (cL (cR (cR (cR (cB Tryz.f156))))))))) (spec_l16Hex.l0.s k) := sum_ok (by kernel_rfl) (sum_loop (p := .auto) (F := spec_l16Hex.l0.F k) (spec_l16Hex.cok k) (by kernel_rfl) (plan_of (L := []) (by kernel_rfl) trivial) (fun _ => rfl) (fun j x y h => (spec_l16Hex.l0.ev k j x).trans h) k rfl)
theorem spec_l16Hex.ev (k : Nat) (x : Prod' spec_l16Hex.sig.ins) : spec_l16Hex.sig.ev (spec_l16Hex.C k) (.two .auto (.two .auto (.two .auto (.two (.two .auto (.one (.sum (spec_l16Hex.l0.s k)))) .auto)))) Tryz.f156.results.toList (cB Tryz.f156) x = spec_l16Hex k x := by kernel_rfl
theorem spec_l16Hex.ok (k : Nat) : ConOk Tryz.prog 156 (spec_l16Hex.con k) := sig_ok (p := (.two .auto (.two .auto (.two .auto (.two (.two .auto (.one (.sum (spec_l16Hex.l0.s k)))) .auto))))) (spec_l16Hex.cok k) Tryz.func156 (by kernel_rfl) (show Tryz.f156.body = some (cB Tryz.f156) by kernel_rfl) (by kernel_rfl) (by kernel_rfl) (plan_of (L := [(spec_l16Hex.l0.s k, cO (cR (cL (cR (cR (cR (cB Tryz.f156)))))))]) (by kernel_rfl) ⟨spec_l16Hex.l0.ok k, trivial⟩) (fun x y h => (spec_l16Hex.ev k x).trans h)
def spec_l17Letter.l0 : Nat → Str → Int → Option (Unit ⊕ Int)
  | 0, _, _ => none
  | j + 1, a1, a2 =>
    bif decide (a2 < 8) then
      Option.bind (at? a1 a2) fun v3 =>
      Option.bind (at? a1 0) fun v4 =>
      bif (v3.toNat : Int) != (v4.toNat : Int) then
        some (.inr 0)
      else
      spec_l17Letter.l0 j a1 (IntKind.wrap .i64 (a2 + 1))
    else
    some (.inl ())
def spec_l17Letter (k : Nat) (a1 : Str) : Option (Int) :=
  bif ((a1.length) : Int) != 8 then
    some 0
  else
  Option.bind (at? a1 0) fun v2 =>
  bif decide ((v2.toNat : Int) < 97) then
    some 0
  else
  Option.bind (at? a1 0) fun v3 =>
  bif decide (122 < (v3.toNat : Int)) then
    some 0
  else
  Option.bind (spec_l17Letter.l0 k a1 1) fun
    | .inl y4 =>
      Option.bind (at? a1 0) fun v5 =>
      some (v5.toNat : Int)
    | .inr y6 =>
      some y6
def spec_l17Letter.sig : Sig := { ps := [.val false .str (ros .str)], rs := [.val false [.v (.int .u8)]], ntmps := 29 }
def spec_l17Letter.con (k : Nat) : Con := spec_l17Letter.sig.con (fun x => spec_l17Letter k x)
def spec_l17Letter.C (k : Nat) : Ctx := { ti := TAB, con := conL [] }
theorem spec_l17Letter.cok (k : Nat) : CtxOk Tryz.prog (spec_l17Letter.C k) := ctx_ok TABok trivial
def spec_l17Letter.l0.ish : Shape := { tmps := [(0, .one (.v .str)), (3, .one (.v (.int .i64)))], slots := [], nb := 0 }
def spec_l17Letter.l0.outs : List (Ex × Shape) := [(.exit 0, { tmps := [], slots := [], nb := 0 }), (.ret, { tmps := [(2, .one (.v (.int .u8)))], slots := [], nb := 0 })]
def spec_l17Letter.l0.F (k j : Nat) (x : Prod' spec_l17Letter.l0.ish.tys) : Option (Outs spec_l17Letter.l0.outs) := spec_l17Letter.l0 j x.1 x.2
def spec_l17Letter.l0.s (k : Nat) : Summ := { n := 29, ish := spec_l17Letter.l0.ish, outs := spec_l17Letter.l0.outs, f := spec_l17Letter.l0.F k k }
theorem spec_l17Letter.l0.ev (k j : Nat) (x : Prod' spec_l17Letter.l0.ish.tys) : V (spec_l17Letter.C k) .auto (cO (cO (cR (cL (cR (cR (cB Tryz.f157))))))) (mk spec_l17Letter.l0.ish 29 x) (fun e st' => match e with | .nrm => (rd spec_l17Letter.l0.ish st').bind (spec_l17Letter.l0.F k j) | e => rdOut e st' spec_l17Letter.l0.outs) = spec_l17Letter.l0.F k (j + 1) x := by kernel_rfl
theorem spec_l17Letter.l0.ok (k : Nat) : SumOk Tryz.prog (spec_l17Letter.C k) (.loop (cO (cO (cR (cL (cR (cR (cB Tryz.f157)))))))) (spec_l17Letter.l0.s k) := sum_ok (by kernel_rfl) (sum_loop (p := .auto) (F := spec_l17Letter.l0.F k) (spec_l17Letter.cok k) (by kernel_rfl) (plan_of (L := []) (by kernel_rfl) trivial) (fun _ => rfl) (fun j x y h => (spec_l17Letter.l0.ev k j x).trans h) k rfl)
theorem spec_l17Letter.ev (k : Nat) (x : Prod' spec_l17Letter.sig.ins) : spec_l17Letter.sig.ev (spec_l17Letter.C k) (.two .auto (.two .auto (.two (.two .auto (.one (.sum (spec_l17Letter.l0.s k)))) .auto))) Tryz.f157.results.toList (cB Tryz.f157) x = spec_l17Letter k x := by kernel_rfl
theorem spec_l17Letter.ok (k : Nat) : ConOk Tryz.prog 157 (spec_l17Letter.con k) := sig_ok (p := (.two .auto (.two .auto (.two (.two .auto (.one (.sum (spec_l17Letter.l0.s k)))) .auto)))) (spec_l17Letter.cok k) Tryz.func157 (by kernel_rfl) (show Tryz.f157.body = some (cB Tryz.f157) by kernel_rfl) (by kernel_rfl) (by kernel_rfl) (plan_of (L := [(spec_l17Letter.l0.s k, cO (cR (cL (cR (cR (cB Tryz.f157))))))]) (by kernel_rfl) ⟨spec_l17Letter.l0.ok k, trivial⟩) (fun x y h => (spec_l17Letter.ev k x).trans h)
def spec_l17Cmd.j0 (a1 : Int) : Option (Bool) :=
  bif a1 == 7 then
    some true
  else
  some (a1 == 9)
def spec_l17Cmd.j1 (k : Nat) (a1 : Str) (a2 : Int) (a3 : Int) (a4 : Int) (a5 : Str) : Option ((Str × Int × Int × Int × Str)) :=
  bif a2 != 5 then
    Option.bind (cat? a1 ([32] : Str)) fun v6 =>
    Option.bind (spec_l01Dec k a3) fun v7 =>
    Option.bind (cat? v6 v7) fun v8 =>
    some (v8, a2, a3, a4, a5)
  else
  some (a1, a2, a3, a4, a5)
def spec_l17Cmd.j2 (k : Nat) (a1 : Str) (a2 : Int) (a3 : Int) (a4 : Int) (a5 : Str) : Option ((Str × Int × Int × Int × Str)) :=
  bif decide (3 ≤ a2) then
    Option.bind (cat? a1 ([32] : Str)) fun v6 =>
    Option.bind (spec_l01Dec k a4) fun v7 =>
    Option.bind (cat? v6 v7) fun v8 =>
    some (v8, a2, a3, a4, a5)
  else
  some (a1, a2, a3, a4, a5)
def spec_l17Cmd (k : Nat) (a1 : G25) : Option (Str) :=
  Option.bind (spec_l17Words a1.1 a1.2.2.2.2.1) fun v2 =>
  bif a1.1 == 1 then
    Option.bind (cat? v2 ([32] : Str)) fun v3 =>
    Option.bind (spec_l01Dec k a1.2.1) fun v4 =>
    Option.bind (cat? v3 v4) fun v5 =>
    Option.bind (cat? v5 ([32] : Str)) fun v6 =>
    Option.bind (spec_l01Dec k a1.2.2.1) fun v7 =>
    Option.bind (cat? v6 v7) fun v8 =>
    Option.bind (cat? v8 ([32] : Str)) fun v9 =>
    Option.bind (spec_l16Hex k a1.2.2.2.1) fun v10 =>
    Option.bind (cat? v9 v10) fun v11 =>
    some v11
  else
  Option.bind (spec_l17Cmd.j0 a1.1) fun y12 =>
  bif y12 then
    Option.bind (cat? v2 ([32] : Str)) fun v13 =>
    Option.bind (spec_l01Dec k a1.2.1) fun v14 =>
    Option.bind (cat? v13 v14) fun v15 =>
    some v15
  else
  bif a1.1 == 2 then
    Option.bind (spec_l17Cmd.j1 k v2 a1.2.2.2.2.1 a1.2.2.2.2.2.1 a1.2.2.2.2.2.2.1 a1.2.2.2.2.2.2.2) fun y16 =>
    Option.bind (spec_l17Cmd.j2 k y16.1 y16.2.1 y16.2.2.1 y16.2.2.2.1 y16.2.2.2.2) fun y17 =>
    bif (y17.2.1 == 2) || (y17.2.1 == 4) then
      Option.bind (spec_l17Letter k y17.2.2.2.2) fun v18 =>
      bif v18 == 0 then
        some ([])
      else
      Option.bind (cat? y17.1 ([32] : Str)) fun v19 =>
      Option.bind (cut? y17.2.2.2.2 0 1) fun v20 =>
      Option.bind (cat? v19 v20) fun v21 =>
      some v21
    else
    some y17.1
  else
  some v2
def spec_l17Cmd.sig : Sig := { ps := [.val true T25 (ros T25)], rs := [.val false [.v .str]], ntmps := 82 }
def spec_l17Cmd.con (k : Nat) : Con := spec_l17Cmd.sig.con (fun x => spec_l17Cmd k x)
def spec_l17Cmd.C (k : Nat) : Ctx := { ti := TAB, con := conL [(88, spec_l17Words.con k), (91, spec_l01Dec.con k), (156, spec_l16Hex.con k), (157, spec_l17Letter.con k)] }
theorem spec_l17Cmd.cok (k : Nat) : CtxOk Tryz.prog (spec_l17Cmd.C k) := ctx_ok TABok ⟨spec_l17Words.ok k, spec_l01Dec.ok k, spec_l16Hex.ok k, spec_l17Letter.ok k, trivial⟩
def spec_l17Cmd.j0.ish : Shape := { tmps := [(12, .one (.v (.int .i64)))], slots := [], nb := 1 }
def spec_l17Cmd.j0.outs : List (Ex × Shape) := [(.nrm, { tmps := [(32, .one (.v .bool))], slots := [], nb := 1 })]
def spec_l17Cmd.j0.F (k : Nat) (x : Prod' spec_l17Cmd.j0.ish.tys) : Option (Outs spec_l17Cmd.j0.outs) := spec_l17Cmd.j0 x
def spec_l17Cmd.j0.s (k : Nat) : Summ := { n := 82, ish := spec_l17Cmd.j0.ish, outs := spec_l17Cmd.j0.outs, f := spec_l17Cmd.j0.F k }
theorem spec_l17Cmd.j0.ev (k : Nat) (x : Prod' spec_l17Cmd.j0.ish.tys) : V (spec_l17Cmd.C k) .auto (cL (cR (cR (cO (cR (cL (cR (cR (cB Tryz.f90))))))))) (mk spec_l17Cmd.j0.ish 82 x) (fun e st' => rdOut e st' spec_l17Cmd.j0.outs) = spec_l17Cmd.j0.F k x := by kernel_rfl
theorem spec_l17Cmd.j0.ok (k : Nat) : SumOk Tryz.prog (spec_l17Cmd.C k) (cL (cR (cR (cO (cR (cL (cR (cR (cB Tryz.f90))))))))) (spec_l17Cmd.j0.s k) := sum_ok (by kernel_rfl) (sum_code (p := .auto) (spec_l17Cmd.cok k) (by kernel_rfl) (plan_of (L := []) (by kernel_rfl) trivial) (fun x y h => (spec_l17Cmd.j0.ev k x).trans h))
def spec_l17Cmd.j1.ish : Shape := { tmps := [(3, .one (.v .str)), (4, .one (.ptr 1 0))], slots := [(1, .box 23 [.v (.int .i64), .v (.int .i64), .v (.int .i64), .v .str])], nb := 2 }
def spec_l17Cmd.j1.outs : List (Ex × Shape) := [(.nrm, { tmps := [(3, .one (.v .str))], slots := [(1, .box 23 [.v (.int .i64), .v (.int .i64), .v (.int .i64), .v .str])], nb := 2 })]
def spec_l17Cmd.j1.F (k : Nat) (x : Prod' spec_l17Cmd.j1.ish.tys) : Option (Outs spec_l17Cmd.j1.outs) := spec_l17Cmd.j1 k x.1 x.2.1 x.2.2.1 x.2.2.2.1 x.2.2.2.2
def spec_l17Cmd.j1.s (k : Nat) : Summ := { n := 82, ish := spec_l17Cmd.j1.ish, outs := spec_l17Cmd.j1.outs, f := spec_l17Cmd.j1.F k }
theorem spec_l17Cmd.j1.ev (k : Nat) (x : Prod' spec_l17Cmd.j1.ish.tys) : V (spec_l17Cmd.C k) .auto (cL (cR (cR (cR (cR (cB Tryz.f90)))))) (mk spec_l17Cmd.j1.ish 82 x) (fun e st' => rdOut e st' spec_l17Cmd.j1.outs) = spec_l17Cmd.j1.F k x := by kernel_rfl
theorem spec_l17Cmd.j1.ok (k : Nat) : SumOk Tryz.prog (spec_l17Cmd.C k) (cL (cR (cR (cR (cR (cB Tryz.f90)))))) (spec_l17Cmd.j1.s k) := sum_ok (by kernel_rfl) (sum_code (p := .auto) (spec_l17Cmd.cok k) (by kernel_rfl) (plan_of (L := []) (by kernel_rfl) trivial) (fun x y h => (spec_l17Cmd.j1.ev k x).trans h))
def spec_l17Cmd.j2.ish : Shape := { tmps := [(3, .one (.v .str)), (4, .one (.ptr 1 0))], slots := [(1, .box 23 [.v (.int .i64), .v (.int .i64), .v (.int .i64), .v .str])], nb := 2 }
def spec_l17Cmd.j2.outs : List (Ex × Shape) := [(.nrm, { tmps := [(3, .one (.v .str))], slots := [(1, .box 23 [.v (.int .i64), .v (.int .i64), .v (.int .i64), .v .str])], nb := 2 })]
def spec_l17Cmd.j2.F (k : Nat) (x : Prod' spec_l17Cmd.j2.ish.tys) : Option (Outs spec_l17Cmd.j2.outs) := spec_l17Cmd.j2 k x.1 x.2.1 x.2.2.1 x.2.2.2.1 x.2.2.2.2
def spec_l17Cmd.j2.s (k : Nat) : Summ := { n := 82, ish := spec_l17Cmd.j2.ish, outs := spec_l17Cmd.j2.outs, f := spec_l17Cmd.j2.F k }
theorem spec_l17Cmd.j2.ev (k : Nat) (x : Prod' spec_l17Cmd.j2.ish.tys) : V (spec_l17Cmd.C k) .auto (cL (cR (cR (cR (cR (cR (cB Tryz.f90))))))) (mk spec_l17Cmd.j2.ish 82 x) (fun e st' => rdOut e st' spec_l17Cmd.j2.outs) = spec_l17Cmd.j2.F k x := by kernel_rfl
theorem spec_l17Cmd.j2.ok (k : Nat) : SumOk Tryz.prog (spec_l17Cmd.C k) (cL (cR (cR (cR (cR (cR (cB Tryz.f90))))))) (spec_l17Cmd.j2.s k) := sum_ok (by kernel_rfl) (sum_code (p := .auto) (spec_l17Cmd.cok k) (by kernel_rfl) (plan_of (L := []) (by kernel_rfl) trivial) (fun x y h => (spec_l17Cmd.j2.ev k x).trans h))
theorem spec_l17Cmd.ev (k : Nat) (x : Prod' spec_l17Cmd.sig.ins) : spec_l17Cmd.sig.ev (spec_l17Cmd.C k) (.two .auto (.two .auto (.two (.two .auto (.one (.two .auto (.two .auto (.two (.sum (spec_l17Cmd.j0.s k)) .auto))))) (.two .auto (.two (.sum (spec_l17Cmd.j1.s k)) (.two (.sum (spec_l17Cmd.j2.s k)) .auto)))))) Tryz.f90.results.toList (cB Tryz.f90) x = spec_l17Cmd k x := by kernel_rfl
theorem spec_l17Cmd.ok (k : Nat) : ConOk Tryz.prog 90 (spec_l17Cmd.con k) := sig_ok (p := (.two .auto (.two .auto (.two (.two .auto (.one (.two .auto (.two .auto (.two (.sum (spec_l17Cmd.j0.s k)) .auto))))) (.two .auto (.two (.sum (spec_l17Cmd.j1.s k)) (.two (.sum (spec_l17Cmd.j2.s k)) .auto))))))) (spec_l17Cmd.cok k) Tryz.func90 (by kernel_rfl) (show Tryz.f90.body = some (cB Tryz.f90) by kernel_rfl) (by kernel_rfl) (by kernel_rfl) (plan_of (L := [(spec_l17Cmd.j0.s k, cL (cR (cR (cO (cR (cL (cR (cR (cB Tryz.f90))))))))), (spec_l17Cmd.j1.s k, cL (cR (cR (cR (cR (cB Tryz.f90)))))), (spec_l17Cmd.j2.s k, cL (cR (cR (cR (cR (cR (cB Tryz.f90)))))))]) (by kernel_rfl) ⟨spec_l17Cmd.j0.ok k, spec_l17Cmd.j1.ok k, spec_l17Cmd.j2.ok k, trivial⟩) (fun x y h => (spec_l17Cmd.ev k x).trans h)
end Go.Proofs.YtcnkbllbpimaiaaGreatDoorE
