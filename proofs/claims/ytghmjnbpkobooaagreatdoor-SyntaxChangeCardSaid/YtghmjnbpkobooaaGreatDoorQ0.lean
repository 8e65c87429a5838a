/-
  Contracts of Go's library at this program (strings.Join, strconv.Itoa, strconv.Atoi): laid by the kit's tool, and brought into our words.
-/
import Derived.Shelf.Lays
import Derived.Shelf.LaysC
import Derived.Shelf.LaysM
import Derived.Shelf.Small.Strs
import Derived.Shelf.Strconv.Atoi
import Derived.Shelf.Strconv.AtoiAll
import Derived.Shelf.Strconv.AtoiErrFast
import Derived.Shelf.Strconv.AtoiFail
import Derived.Shelf.Strconv.AtoiInnerAll
import Derived.Shelf.Strconv.AtoiLong
import Derived.Shelf.Strconv.Clone
import Derived.Shelf.Strconv.ErrVarAll
import Derived.Shelf.Strconv.Itoa0
import Derived.Shelf.Strconv.Itoa1
import Derived.Shelf.Strconv.Itoa2
import Derived.Shelf.Strconv.Itoa3
import Derived.Shelf.Strconv.Lower
import Derived.Shelf.Strconv.ParseInt10
import Derived.Shelf.Strconv.ParseIntEmpty
import Derived.Shelf.Strconv.ParseUint10
import Derived.Shelf.Strconv.ParseUint10Any
import Derived.Shelf.Strconv.ParseUint10Empty
import Derived.Shelf.Strconv.RangeError
import Derived.Shelf.Strconv.SyntaxError
import Derived.Shelf.Strconv.ToError
import Derived.Shelf.Strconv.ToErrorRange
import Derived.Shelf.Strings.Builder1
import Derived.Shelf.Strings.Builder2
import Derived.Shelf.Strings.OnBuilder
import Derived.Shelf.Strings.Prefix
import Derived.Shelf.Strings.Search1
import Derived.Test.YtghmjnbpkobooaaGreatDoorBA
set_option linter.unusedVariables false
set_option linter.unusedSimpArgs false
set_option maxRecDepth 10000
namespace Go.Proofs
open Go.Shelf
def Tryz.lays156_ren : Go.Shelf.Ren := ⟨fun | 156 => 102 | 165 => 197 | 166 => 198 | 169 => 199 | 240 => 262 | 241 => 263 | 276 => 320 | 277 => 321 | n => n, fun | 31 => 22 | 9 => 9 | 3 => 3 | 4 => 4 | 0 => 0 | 20 => 20 | 72 => 254 | 76 => 249 | 70 => 252 | 37 => 66 | 75 => 248 | 127 => 299 | 164 => 340 | 5 => 5 | 80 => 256 | n => n, fun | n => n⟩
theorem Tryz.lays156 : Go.Proofs.Lays.n156 Tryz.prog Tryz.lays156_ren := {
  mixed := by kernel_rfl
  f156 := Tryz.func102.trans (congrArg some (by kernel_rfl))
  f165 := Tryz.func197.trans (congrArg some (by kernel_rfl))
  f166 := Tryz.func198.trans (congrArg some (by kernel_rfl))
  f169 := Tryz.func199.trans (congrArg some (by kernel_rfl))
  f240 := Tryz.func262.trans (congrArg some (by kernel_rfl))
  f241 := Tryz.func263.trans (congrArg some (by kernel_rfl))
  f276 := Tryz.func320.trans (congrArg some (by kernel_rfl))
  f277 := Tryz.func321.trans (congrArg some (by kernel_rfl))
  t0 := Tryz.underlying0
  a0 := Tryz.isAgg0
  z0 := Tryz.sizeOf0
  v0 := Tryz.zeroValue0
  t3 := Tryz.underlying3
  a3 := Tryz.isAgg3
  z3 := Tryz.sizeOf3
  v3 := Tryz.zeroValue3
  t4 := Tryz.underlying4
  a4 := Tryz.isAgg4
  z4 := Tryz.sizeOf4
  v4 := Tryz.zeroValue4
  t9 := Tryz.underlying9
  a9 := Tryz.isAgg9
  z9 := Tryz.sizeOf9
  v9 := Tryz.zeroValue9
  t20 := Tryz.underlying20
  a20 := Tryz.isAgg20
  z20 := Tryz.sizeOf20
  v20 := Tryz.zeroValue20
  t31 := Tryz.underlying22
  a31 := Tryz.isAgg22
  z31 := Tryz.sizeOf22
  v31 := Tryz.zeroValue22
  t37 := Tryz.underlying66
  a37 := Tryz.isAgg66
  z37 := Tryz.sizeOf66
  v37 := Tryz.zeroValue66
  t70 := Tryz.underlying252
  a70 := Tryz.isAgg252
  z70 := Tryz.sizeOf252
  v70 := Tryz.zeroValue252
  t72 := Tryz.underlying254
  a72 := Tryz.isAgg254
  z72 := Tryz.sizeOf254
  v72 := Tryz.zeroValue254
  t75 := Tryz.underlying248
  a75 := Tryz.isAgg248
  z75 := Tryz.sizeOf248
  v75 := Tryz.zeroValue248
  t76 := Tryz.underlying249
  a76 := Tryz.isAgg249
  z76 := Tryz.sizeOf249
  v76 := Tryz.zeroValue249
  t127 := Tryz.underlying299
  a127 := Tryz.isAgg299
  z127 := Tryz.sizeOf299
  v127 := Tryz.zeroValue299
  t164 := Tryz.underlying340
  a164 := Tryz.isAgg340
  z164 := Tryz.sizeOf340
  v164 := Tryz.zeroValue340 }
theorem Tryz.Builder_Extra_156 : Builder.Extra Tryz.prog Tryz.lays156_ren := {
  sizeBuilder := by kernel_rfl
  liesBuilder := by kernel_rfl
  t5 := Tryz.underlying5
  a5 := Tryz.isAgg5
  z5 := Tryz.sizeOf5
  v5 := Tryz.zeroValue5
  infoByte := by kernel_rfl
  cellsByte := by kernel_rfl
  sizeByte := by kernel_rfl
  neB5 := by decide }
open Go.RowKit in
theorem Tryz.strings_Join_none (a : Option Addr) (c : Nat) (sep : ByteArray) (w : World) :
    Calls Tryz.prog 102 #[.slice a 0 c, .string sep] w fun e w' => e = .returned (.string ⟨#[]⟩) ∧ w' = w := Any.strings_Join_none Tryz.lays156 Tryz.Builder_Extra_156 a c sep w
open Go.RowKit in
theorem Tryz.strings_Join (bk o c : Nat) (xs : List ByteArray) (sep : ByteArray) (w : World) (hcells : ∀ (j : Nat) x, xs[j]? = some x → w.cell? ⟨bk, o + j, none⟩ = some (.string x)) (hbk : bk < w.heap.size) (hN : xs.length ≤ 140737488355328) (hcap : xs.length ≤ c) (hlen : (Lib.join (xs.map (·.data.toList)) sep.data.toList).length ≤ 140737488355328) :
    Calls Tryz.prog 102 #[.slice (some ⟨bk, o, none⟩) xs.length c, .string sep] w fun e w' => e = .returned (.string ⟨(Lib.join (xs.map (·.data.toList)) sep.data.toList).toArray⟩) ∧ Below w.heap.size w w' := Any.strings_Join Tryz.lays156 Tryz.Builder_Extra_156 bk o c xs sep w hcells hbk hN hcap hlen
def Tryz.laysM171_ren : Go.Shelf.Ren := ⟨fun | 171 => 101 | 243 => 196 | 246 => 261 | 283 => 316 | 284 => 317 | 285 => 318 | 286 => 319 | 129 => 299 | 317 => 339 | 318 => 340 | 319 => 341 | 320 => 342 | 337 => 347 | 338 => 348 | n => n, fun | 3 => 3 | 9 => 9 | 2 => 2 | 4 => 4 | 171 => 336 | 0 => 0 | 53 => 324 | 37 => 66 | 5 => 5 | 173 => 338 | 212 => 358 | 51 => 322 | 20 => 20 | 213 => 359 | 46 => 76 | 232 => 368 | 233 => 369 | n => n, fun | 17 => 4 | 18 => 5 | 19 => 6 | n => n⟩
theorem Tryz.laysM171 : Go.Proofs.LaysM.n171 Tryz.prog Tryz.laysM171_ren := {
  mixed := by kernel_rfl
  f129 := Tryz.func299.trans (congrArg some (by kernel_rfl))
  f171 := Tryz.func101.trans (congrArg some (by kernel_rfl))
  f243 := Tryz.func196.trans (congrArg some (by kernel_rfl))
  f246 := Tryz.func261.trans (congrArg some (by kernel_rfl))
  f283 := Tryz.func316.trans (congrArg some (by kernel_rfl))
  f284 := Tryz.func317.trans (congrArg some (by kernel_rfl))
  f285 := Tryz.func318.trans (congrArg some (by kernel_rfl))
  f286 := Tryz.func319.trans (congrArg some (by kernel_rfl))
  f317 := Tryz.func339.trans (congrArg some (by kernel_rfl))
  f318 := Tryz.func340.trans (congrArg some (by kernel_rfl))
  f319 := Tryz.func341.trans (congrArg some (by kernel_rfl))
  f320 := Tryz.func342.trans (congrArg some (by kernel_rfl))
  f337 := Tryz.func347.trans (congrArg some (by kernel_rfl))
  f338 := Tryz.func348.trans (congrArg some (by kernel_rfl))
  t0 := Tryz.underlying0
  a0 := Tryz.isAgg0
  z0 := Tryz.sizeOf0
  v0 := Tryz.zeroValue0
  t2 := Tryz.underlying2
  a2 := Tryz.isAgg2
  z2 := Tryz.sizeOf2
  v2 := Tryz.zeroValue2
  t3 := Tryz.underlying3
  a3 := Tryz.isAgg3
  z3 := Tryz.sizeOf3
  v3 := Tryz.zeroValue3
  t4 := Tryz.underlying4
  a4 := Tryz.isAgg4
  z4 := Tryz.sizeOf4
  v4 := Tryz.zeroValue4
  t5 := Tryz.underlying5
  a5 := Tryz.isAgg5
  z5 := Tryz.sizeOf5
  v5 := Tryz.zeroValue5
  t9 := Tryz.underlying9
  a9 := Tryz.isAgg9
  z9 := Tryz.sizeOf9
  v9 := Tryz.zeroValue9
  t20 := Tryz.underlying20
  a20 := Tryz.isAgg20
  z20 := Tryz.sizeOf20
  v20 := Tryz.zeroValue20
  t37 := Tryz.underlying66
  a37 := Tryz.isAgg66
  z37 := Tryz.sizeOf66
  v37 := Tryz.zeroValue66
  t46 := Tryz.underlying76
  a46 := Tryz.isAgg76
  z46 := Tryz.sizeOf76
  v46 := Tryz.zeroValue76
  t51 := Tryz.underlying322
  a51 := Tryz.isAgg322
  z51 := Tryz.sizeOf322
  v51 := Tryz.zeroValue322
  t53 := Tryz.underlying324
  a53 := Tryz.isAgg324
  z53 := Tryz.sizeOf324
  v53 := Tryz.zeroValue324
  t171 := Tryz.underlying336
  a171 := Tryz.isAgg336
  z171 := Tryz.sizeOf336
  v171 := Tryz.zeroValue336
  t173 := Tryz.underlying338
  a173 := Tryz.isAgg338
  z173 := Tryz.sizeOf338
  v173 := Tryz.zeroValue338
  t212 := Tryz.underlying358
  a212 := Tryz.isAgg358
  z212 := Tryz.sizeOf358
  v212 := Tryz.zeroValue358
  t213 := Tryz.underlying359
  a213 := Tryz.isAgg359
  z213 := Tryz.sizeOf359
  t232 := Tryz.underlying368
  a232 := Tryz.isAgg368
  z232 := Tryz.sizeOf368
  v232 := Tryz.zeroValue368
  t233 := Tryz.underlying369
  a233 := Tryz.isAgg369
  z233 := Tryz.sizeOf369
  v233 := Tryz.zeroValue369
  g17 := by kernel_rfl
  g18 := by kernel_rfl
  g19 := by kernel_rfl
  i0 := by kernel_rfl
  i2 := by kernel_rfl
  i3 := by kernel_rfl
  i4 := by kernel_rfl
  i5 := by kernel_rfl
  i9 := by kernel_rfl
  i20 := by kernel_rfl
  i37 := by kernel_rfl
  i46 := by kernel_rfl
  i51 := by kernel_rfl
  i53 := by kernel_rfl
  i171 := by kernel_rfl
  i173 := by kernel_rfl
  i212 := by kernel_rfl
  i232 := by kernel_rfl
  i233 := by kernel_rfl
  m17 := by kernel_rfl
  m18 := by kernel_rfl
  m19 := by kernel_rfl }
open Go.RowKit Go.Sort in
theorem Tryz.strconv_Itoa (n : Int) (h0 : -9223372036854775808 ≤ n) (h1 : n ≤ 9223372036854775807) (w : World) (htab : Lib.TabIs Tryz.prog w "internal/strconv.uint64pow10" .u64 Lib.pow10Tab) :
    Calls Tryz.prog 101 #[.int .i64 n] w fun e w' => e = .returned (.string ⟨(Lib.itoa n).toArray⟩) ∧ ∃ k os, w' = grow (w.drewN k) os := Any.strconv_Itoa Tryz.laysM171 n h0 h1 w htab
def Tryz.laysC172_ren : Go.Shelf.Ren := ⟨fun | 172 => 193 | 244 => 258 | 245 => 259 | 247 => 310 | 279 => 311 | 280 => 312 | 281 => 313 | 282 => 314 | 287 => 336 | 316 => 337 | 171 => 101 | 205 => 338 | 321 => 345 | 322 => 346 | 243 => 196 | 246 => 261 | 283 => 316 | 284 => 317 | 285 => 318 | 286 => 319 | 129 => 299 | 317 => 339 | 318 => 340 | 319 => 341 | 320 => 342 | 337 => 347 | 338 => 348 | n => n, fun | 9 => 9 | 3 => 3 | 75 => 248 | 76 => 249 | 4 => 4 | 5 => 5 | 167 => 330 | 37 => 66 | 0 => 0 | 85 => 331 | 2 => 2 | 168 => 333 | 53 => 324 | 175 => 351 | 46 => 76 | 210 => 355 | 127 => 299 | 145 => 367 | 143 => 365 | 21 => 21 | 171 => 336 | 173 => 338 | 212 => 358 | 51 => 322 | 20 => 20 | 213 => 359 | 232 => 368 | 233 => 369 | 80 => 256 | n => n, fun | 15 => 1 | 16 => 2 | 17 => 4 | 18 => 5 | 19 => 6 | n => n⟩
theorem Tryz.laysC172 : Go.Proofs.LaysC.n172 Tryz.prog Tryz.laysC172_ren := {
  mixed := by kernel_rfl
  f129 := Tryz.func299.trans (congrArg some (by kernel_rfl))
  f171 := Tryz.func101.trans (congrArg some (by kernel_rfl))
  f172 := Tryz.func193.trans (congrArg some (by kernel_rfl))
  f205 := Tryz.func338.trans (congrArg some (by kernel_rfl))
  f243 := Tryz.func196.trans (congrArg some (by kernel_rfl))
  f244 := Tryz.func258.trans (congrArg some (by kernel_rfl))
  f245 := Tryz.func259.trans (congrArg some (by kernel_rfl))
  f246 := Tryz.func261.trans (congrArg some (by kernel_rfl))
  f247 := Tryz.func310.trans (congrArg some (by kernel_rfl))
  f279 := Tryz.func311.trans (congrArg some (by kernel_rfl))
  f280 := Tryz.func312.trans (congrArg some (by kernel_rfl))
  f281 := Tryz.func313.trans (congrArg some (by kernel_rfl))
  f282 := Tryz.func314.trans (congrArg some (by kernel_rfl))
  f283 := Tryz.func316.trans (congrArg some (by kernel_rfl))
  f284 := Tryz.func317.trans (congrArg some (by kernel_rfl))
  f285 := Tryz.func318.trans (congrArg some (by kernel_rfl))
  f286 := Tryz.func319.trans (congrArg some (by kernel_rfl))
  f287 := Tryz.func336.trans (congrArg some (by kernel_rfl))
  f316 := Tryz.func337.trans (congrArg some (by kernel_rfl))
  f317 := Tryz.func339.trans (congrArg some (by kernel_rfl))
  f318 := Tryz.func340.trans (congrArg some (by kernel_rfl))
  f319 := Tryz.func341.trans (congrArg some (by kernel_rfl))
  f320 := Tryz.func342.trans (congrArg some (by kernel_rfl))
  f321 := Tryz.func345.trans (congrArg some (by kernel_rfl))
  f322 := Tryz.func346.trans (congrArg some (by kernel_rfl))
  f337 := Tryz.func347.trans (congrArg some (by kernel_rfl))
  f338 := Tryz.func348.trans (congrArg some (by kernel_rfl))
  t0 := Tryz.underlying0
  a0 := Tryz.isAgg0
  z0 := Tryz.sizeOf0
  v0 := Tryz.zeroValue0
  t2 := Tryz.underlying2
  a2 := Tryz.isAgg2
  z2 := Tryz.sizeOf2
  v2 := Tryz.zeroValue2
  t3 := Tryz.underlying3
  a3 := Tryz.isAgg3
  z3 := Tryz.sizeOf3
  v3 := Tryz.zeroValue3
  t4 := Tryz.underlying4
  a4 := Tryz.isAgg4
  z4 := Tryz.sizeOf4
  v4 := Tryz.zeroValue4
  t5 := Tryz.underlying5
  a5 := Tryz.isAgg5
  z5 := Tryz.sizeOf5
  v5 := Tryz.zeroValue5
  t9 := Tryz.underlying9
  a9 := Tryz.isAgg9
  z9 := Tryz.sizeOf9
  v9 := Tryz.zeroValue9
  t20 := Tryz.underlying20
  a20 := Tryz.isAgg20
  z20 := Tryz.sizeOf20
  v20 := Tryz.zeroValue20
  t21 := Tryz.underlying21
  a21 := Tryz.isAgg21
  z21 := Tryz.sizeOf21
  v21 := Tryz.zeroValue21
  t37 := Tryz.underlying66
  a37 := Tryz.isAgg66
  z37 := Tryz.sizeOf66
  v37 := Tryz.zeroValue66
  t46 := Tryz.underlying76
  a46 := Tryz.isAgg76
  z46 := Tryz.sizeOf76
  v46 := Tryz.zeroValue76
  t51 := Tryz.underlying322
  a51 := Tryz.isAgg322
  z51 := Tryz.sizeOf322
  v51 := Tryz.zeroValue322
  t53 := Tryz.underlying324
  a53 := Tryz.isAgg324
  z53 := Tryz.sizeOf324
  v53 := Tryz.zeroValue324
  t75 := Tryz.underlying248
  a75 := Tryz.isAgg248
  z75 := Tryz.sizeOf248
  v75 := Tryz.zeroValue248
  t76 := Tryz.underlying249
  a76 := Tryz.isAgg249
  z76 := Tryz.sizeOf249
  v76 := Tryz.zeroValue249
  t85 := Tryz.underlying331
  a85 := Tryz.isAgg331
  z85 := Tryz.sizeOf331
  v85 := Tryz.zeroValue331
  t127 := Tryz.underlying299
  a127 := Tryz.isAgg299
  z127 := Tryz.sizeOf299
  v127 := Tryz.zeroValue299
  t143 := Tryz.underlying365
  a143 := Tryz.isAgg365
  z143 := Tryz.sizeOf365
  v143 := Tryz.zeroValue365
  t145 := Tryz.underlying367
  a145 := Tryz.isAgg367
  z145 := Tryz.sizeOf367
  v145 := Tryz.zeroValue367
  t167 := Tryz.underlying330
  a167 := Tryz.isAgg330
  z167 := Tryz.sizeOf330
  v167 := Tryz.zeroValue330
  t168 := Tryz.underlying333
  a168 := Tryz.isAgg333
  z168 := Tryz.sizeOf333
  v168 := Tryz.zeroValue333
  t171 := Tryz.underlying336
  a171 := Tryz.isAgg336
  z171 := Tryz.sizeOf336
  v171 := Tryz.zeroValue336
  t173 := Tryz.underlying338
  a173 := Tryz.isAgg338
  z173 := Tryz.sizeOf338
  v173 := Tryz.zeroValue338
  t175 := Tryz.underlying351
  a175 := Tryz.isAgg351
  z175 := Tryz.sizeOf351
  v175 := Tryz.zeroValue351
  t210 := Tryz.underlying355
  a210 := Tryz.isAgg355
  z210 := Tryz.sizeOf355
  v210 := Tryz.zeroValue355
  t212 := Tryz.underlying358
  a212 := Tryz.isAgg358
  z212 := Tryz.sizeOf358
  v212 := Tryz.zeroValue358
  t213 := Tryz.underlying359
  a213 := Tryz.isAgg359
  z213 := Tryz.sizeOf359
  t232 := Tryz.underlying368
  a232 := Tryz.isAgg368
  z232 := Tryz.sizeOf368
  v232 := Tryz.zeroValue368
  t233 := Tryz.underlying369
  a233 := Tryz.isAgg369
  z233 := Tryz.sizeOf369
  v233 := Tryz.zeroValue369
  g15 := by kernel_rfl
  g16 := by kernel_rfl
  g17 := by kernel_rfl
  g18 := by kernel_rfl
  g19 := by kernel_rfl
  t80 := Tryz.underlying256
  a80 := Tryz.isAgg256
  z80 := Tryz.sizeOf256
  v80 := Tryz.zeroValue256
  i0 := by kernel_rfl
  i2 := by kernel_rfl
  i3 := by kernel_rfl
  i4 := by kernel_rfl
  i5 := by kernel_rfl
  i9 := by kernel_rfl
  i20 := by kernel_rfl
  i21 := by kernel_rfl
  i37 := by kernel_rfl
  i46 := by kernel_rfl
  i51 := by kernel_rfl
  i53 := by kernel_rfl
  i75 := by kernel_rfl
  i76 := by kernel_rfl
  i80 := by kernel_rfl
  i85 := by kernel_rfl
  i127 := by kernel_rfl
  i143 := by kernel_rfl
  i145 := by kernel_rfl
  i167 := by kernel_rfl
  i168 := by kernel_rfl
  i171 := by kernel_rfl
  i173 := by kernel_rfl
  i175 := by kernel_rfl
  i210 := by kernel_rfl
  i212 := by kernel_rfl
  i232 := by kernel_rfl
  i233 := by kernel_rfl
  m15 := by kernel_rfl
  m16 := by kernel_rfl
  m17 := by kernel_rfl
  m18 := by kernel_rfl
  m19 := by kernel_rfl
  c0 := by kernel_rfl
  c2 := by kernel_rfl
  c3 := by kernel_rfl
  c4 := by kernel_rfl
  c5 := by kernel_rfl
  c9 := by kernel_rfl
  c20 := by kernel_rfl
  c21 := by kernel_rfl
  c37 := by kernel_rfl
  c46 := by kernel_rfl
  c51 := by kernel_rfl
  c53 := by kernel_rfl
  c75 := by kernel_rfl
  c76 := by kernel_rfl
  c80 := by kernel_rfl
  c85 := by kernel_rfl
  c127 := by kernel_rfl
  c143 := by kernel_rfl
  c145 := by kernel_rfl
  c167 := by kernel_rfl
  c168 := by kernel_rfl
  c171 := by kernel_rfl
  c173 := by kernel_rfl
  c175 := by kernel_rfl
  c210 := by kernel_rfl
  c212 := by kernel_rfl
  c213 := by kernel_rfl
  c232 := by kernel_rfl
  c233 := by kernel_rfl }
open Go.RowKit in
theorem Tryz.strconv_Atoi_ok (s : ByteArray) (hmax : s.size ≤ 9223372036854775806) (v : Int) (h : Lib.atoiAll s.data.toList = .ok v) (w : World) :
    Calls Tryz.prog 193 #[.string s] w fun e w' => e = .returned (.tuple #[.int .i64 v, .nilIface]) ∧ (w' = w ∨ ∃ t, w' = Lib.bytesWorld w 5 t) := Any.strconv_Atoi_ok Tryz.laysC172 s hmax v h w
end Go.Proofs
namespace Go.Proofs.YtghmjnbpkobooaaGreatDoor
open Go Go.RowKit
/-- Of what lay nothing has turned. -/
theorem Hp.same {B : World} {I : Im} {w w' : World} {L : List (Nat × Obj)} (h : Hp B I w L) (hb : Below w.heap.size w w') : Hp B I w' L := h.below hb
theorem below_grow (w : World) (k : Nat) (os : Array Obj) : Below w.heap.size w (Sort.grow (w.drewN k) os) :=
  ⟨rfl, rfl, rfl, by simp [Sort.grow, World.drewN], fun j hj => by
    show (w.heap ++ os)[j]? = _
    rw [Array.getElem?_append_left hj]⟩
def itoaS (n : Int) : ByteArray := ⟨(Lib.itoa n).toArray⟩
def powV : List Value := Lib.pow10Tab.map fun z => Value.int .u64 z
/-- What the library's own variables hold: the table of powers; the two errors. -/
structure LibAt (I : Im) : Prop where
  tab : ∃ e fz, I 4 = some (.cells powV.toArray e fz)
  syn : ∃ tp p e fz, I 1 = some (.cells #[.iface tp p] e fz)
  ran : ∃ tp p e fz, I 2 = some (.cells #[.iface tp p] e fz)
theorem LibAt.mono {I I' : Im} (h : LibAt I) (hle : Le I I') : LibAt I' := by
  obtain ⟨⟨e, fz, h1⟩, ⟨tp, p, e2, fz2, h2⟩, ⟨tp3, p3, e3, fz3, h3⟩⟩ := h
  exact ⟨⟨e, fz, hle _ _ h1⟩, ⟨tp, p, e2, fz2, hle _ _ h2⟩, ⟨tp3, p3, e3, fz3, hle _ _ h3⟩⟩
theorem gPow : Tryz.prog.globalNamed "internal/strconv.uint64pow10" = some 4 := by kernel_rfl
theorem gSyn : Tryz.prog.globalNamed "strconv.ErrSyntax" = some 1 := by kernel_rfl
theorem gRan : Tryz.prog.globalNamed "strconv.ErrRange" = some 2 := by kernel_rfl
theorem var_of {w : World} {n : String} {g : Nat} {cs : Array Value} {e : TypeId} {fz : Nat × Nat} (hg : Tryz.prog.globalNamed n = some g) (h : w.heap[g]? = some (.cells cs e fz)) : w.var? Tryz.prog n = some cs := by
  simp [World.var?, hg, h]
theorem Itoa_c {B I L w} (H : Hp B I w L) {n : Int} (hn : I64 n) (hlib : LibAt I) : Calls Tryz.prog 101 #[.int .i64 n] w (Rt fun r w' => r = .string (itoaS n) ∧ Hp B I w' L) := by
  obtain ⟨e, fz, h1⟩ := hlib.tab
  refine Calls.mono (Tryz.strconv_Itoa n hn.1 hn.2 w (var_of gPow (H.imm _ _ h1))) fun q w' hq => ?_
  obtain ⟨rfl, k, os, rfl⟩ := hq
  exact ⟨_, rfl, rfl, H.below (below_grow w k os)⟩
/-- What Atoi makes of a text: a number, or none. -/
def atoiO (s : ByteArray) : Option Int := match Lib.atoiAll s.data.toList with
  | .ok v => some v
  | _ => none
theorem Atoi_c {B I L w} (H : Hp B I w L) {s : ByteArray} (hs : s.size ≤ 281474976710656) (hlib : LibAt I) : Calls Tryz.prog 193 #[.string s] w (Rt fun r w' => Hp B I w' L ∧ ((∃ v, atoiO s = some v ∧ r = .tuple #[.int .i64 v, .nilIface]) ∨ ∃ v g, atoiO s = none ∧ r = .tuple #[.int .i64 v, .iface 333 (.pointer (some ⟨g, 0, none⟩))])) := by
  obtain ⟨tp, p, e, fz, h1⟩ := hlib.syn
  obtain ⟨tp3, p3, e3, fz3, h3⟩ := hlib.ran
  cases hq : Lib.atoiAll s.data.toList with
  | ok v =>
    refine Calls.mono (Tryz.strconv_Atoi_ok s (by omega) v hq w) fun q w' hr => ?_
    obtain ⟨rfl, hw⟩ := hr
    refine ⟨_, rfl, ?_, .inl ⟨v, by simp [atoiO, hq], rfl⟩⟩
    rcases hw with rfl | ⟨t, rfl⟩
    · exact H
    · exact H.below (Lib.bytesWorld_below _ _ _)
  | range =>
    refine Calls.mono (Any.strconv_Atoi_range_var Tryz.laysC172 s hs hq tp3 p3 w (var_of gRan (H.imm _ _ h3))) fun q w' hr => ?_
    obtain ⟨N, rfl, _, _, hb⟩ := hr
    exact ⟨_, rfl, H.below hb, .inr ⟨_, N, by simp [atoiO, hq], rfl⟩⟩
  | _ =>
    refine Calls.mono (Any.strconv_Atoi_syntax_var Tryz.laysC172 s hs hq tp p w (var_of gSyn (H.imm _ _ h1))) fun q w' hr => ?_
    obtain ⟨N, rfl, _, _, hb⟩ := hr
    exact ⟨_, rfl, H.below hb, .inr ⟨_, N, by simp [atoiO, hq], rfl⟩⟩
theorem I64_atoi {s : ByteArray} {v : Int} (h : atoiO s = some v) : I64 v := by
  unfold atoiO at h
  split at h
  · rename_i u hu
    cases h
    have := Lib.atoiAll_bounds hu
    constructor <;> omega
  · cases h
def joinS (xs : List ByteArray) (sep : ByteArray) : ByteArray := ⟨(Lib.join (xs.map (·.data.toList)) sep.data.toList).toArray⟩
theorem Join_c {B I L w} (H : Hp B I w L) {xs : List ByteArray} {v : Value} (hv : RepS encS I 1 xs v) (sep : ByteArray) (hN : xs.length ≤ 1000000) (hlen : (joinS xs sep).size ≤ 140737488355328) : Calls Tryz.prog 102 #[v, .string sep] w (Rt fun r w' => r = .string (joinS xs sep) ∧ Hp B I w' L) := by
  obtain ⟨A, c, rfl, h1, h2, hv⟩ := RepS.open_ hv
  cases xs with
  | nil =>
    refine Calls.mono (Tryz.strings_Join_none A c sep w) fun q w' hr => ?_
    obtain ⟨rfl, rfl⟩ := hr
    exact ⟨_, rfl, rfl, H⟩
  | cons x xs =>
    obtain ⟨b, o, rfl⟩ := RepS.some_ hv (by simp)
    have hcell : ∀ (j : Nat) y, (x :: xs)[j]? = some y → w.cell? ⟨b, o + j, none⟩ = some (.string y) := by
      intro j y hy
      obtain ⟨b', o', us, hA, hat, _, hr⟩ := RepS.get hv hy
      cases hA
      obtain ⟨rfl, _⟩ := s_iff.1 hr
      have := cell_At H hat 0 _ rfl
      rw [add_mk, Nat.mul_one, Nat.add_zero] at this
      exact this
    have hb : b < w.heap.size := by
      have h0 := hcell 0 x rfl
      unfold World.cell? at h0
      simp only at h0
      split at h0
      · rename_i hh
        exact lt_of_at hh
      · cases h0
    refine Calls.mono (Tryz.strings_Join b o c (x :: xs) sep w hcell hb (by omega) h1 (by simpa [joinS, ByteArray.size] using hlen)) fun q w' hr => ?_
    obtain ⟨rfl, hbl⟩ := hr
    exact ⟨_, rfl, rfl, H.below hbl⟩
end Go.Proofs.YtghmjnbpkobooaaGreatDoor
