/- Parts of the proof: Shelf ShelfB GLib. -/
import Derived.Shelf.Strings.Builder1
import Derived.Shelf.Strings.Builder2
import Derived.Shelf.Strings.Trim
import Derived.Shelf.Small.Utf8
import Derived.Shelf.Small.Strs
import Derived.Shelf.Strings.BuilderF
import Derived.Shelf.Strings.BuilderK
import Derived.Shelf.Strings.Builder2Cap
import Derived.Shelf.Strconv.Itoa0
import Derived.Shelf.Strconv.Itoa1
import Derived.Shelf.LaysM
import Derived.Shelf.Strconv.Itoa2
import Derived.Shelf.Strconv.Itoa3
import Derived.Shelf.Strconv.Itoa4
import Derived.Shelf.Strings.Search1
import Derived.Shelf.Strings.Prefix
import Derived.Shelf.Strings.Runes
import Derived.Shelf.Strings.AsciiSet
import Derived.Shelf.Bits.Mul64
import Derived.Shelf.Strings.Repeat
import Derived.Shelf.Unicode.DecodeSlow
import Derived.Shelf.Strings.BuilderCap
import Derived.Shelf.Slices.Turned
import Derived.Ground.Names2Prog
import Derived.Shelf.Slices.Clone
import Derived.Test.YtfgdhcemidlnfaaGreatDoorProg
import Derived.Shelf.Strings.SlTrimAscii
import Derived.Test.YtfgdhcemidlnfaaGreatDoorRows
import Derived.Test.YtfgdhcemidlnfaaGreatDoorPpa
import Derived.WalkKit
import Derived.WalkSpells
import Derived.WalkLawsBesides
import Derived.Lib.Hide
import Derived.OneCell
import Derived.Deep.DeepFit
import Derived.Deep.LoopGhost
import Derived.Deep.AppendLies
set_option linter.all false
set_option maxRecDepth 100000
set_option maxHeartbeats 8000000
namespace Go.Proofs
open Go.Shelf
def Tryz.lays169_ren : Go.Shelf.Ren:=⟨fun | 169 => 54 | n => n,fun | 70 => 97 | 9 => 9 | 0 => 0 | 72 => 100 | 37 => 98 | 127 => 134 | 3 => 3 | 5 => 5 | n => n,fun | n => n⟩
theorem Tryz.lays169 : Go.Proofs.Lays.n169 Tryz.prog Tryz.lays169_ren:={
 mixed:=by kernel_rfl
 f169:=Tryz.func54.trans (congrArg some (by kernel_rfl))
 t0:=Tryz.underlying0
 a0:=Tryz.isAgg0
 z0:=Tryz.sizeOf0
 v0:=Tryz.zeroValue0
 t3:=Tryz.underlying3
 a3:=Tryz.isAgg3
 z3:=Tryz.sizeOf3
 v3:=Tryz.zeroValue3
 t9:=Tryz.underlying9
 a9:=Tryz.isAgg9
 z9:=Tryz.sizeOf9
 v9:=Tryz.zeroValue9
 t37:=Tryz.underlying98
 a37:=Tryz.isAgg98
 z37:=Tryz.sizeOf98
 v37:=Tryz.zeroValue98
 t70:=Tryz.underlying97
 a70:=Tryz.isAgg97
 z70:=Tryz.sizeOf97
 v70:=Tryz.zeroValue97
 t72:=Tryz.underlying100
 a72:=Tryz.isAgg100
 z72:=Tryz.sizeOf100
 v72:=Tryz.zeroValue100
 t127:=Tryz.underlying134
 a127:=Tryz.isAgg134
 z127:=Tryz.sizeOf134
 v127:=Tryz.zeroValue134 }
theorem Tryz.Builder_Extra_169 : Builder.Extra Tryz.prog Tryz.lays169_ren:={
 sizeBuilder:=by kernel_rfl
 liesBuilder:=by kernel_rfl
 t5:=Tryz.underlying5
 a5:=Tryz.isAgg5
 z5:=Tryz.sizeOf5
 v5:=Tryz.zeroValue5
 infoByte:=by kernel_rfl
 cellsByte:=by kernel_rfl
 sizeByte:=by kernel_rfl
 neB5:=by decide }
open Go.RowKit in
theorem Tryz.Builder_String_any (B b : Nat) (l : List UInt8) (w : World) (h : Lib.IsBuilder 100 5 B b (Lib.byteCells l) w) (hBw : B ≤ w.heap.size) :
   Calls Tryz.prog 54 #[.pointer (some ⟨b,0,none⟩)] w fun e w' => e = .returned (.string ⟨l.toArray⟩) ∧ Below B w w':=Any.Builder_String_any Tryz.lays169 Tryz.Builder_Extra_169 B b l w h hBw
def Tryz.lays165_ren : Go.Shelf.Ren:=⟨fun | 165 => 199 | 240 => 93 | 241 => 227 | 276 => 150 | 277 => 239 | n => n,fun | 70 => 97 | 3 => 3 | 0 => 0 | 4 => 4 | 9 => 9 | 20 => 20 | 72 => 100 | 37 => 98 | 164 => 173 | 5 => 5 | n => n,fun | n => n⟩
theorem Tryz.lays165 : Go.Proofs.Lays.n165 Tryz.prog Tryz.lays165_ren:={
 mixed:=by kernel_rfl
 f165:=Tryz.func199.trans (congrArg some (by kernel_rfl))
 f240:=Tryz.func93.trans (congrArg some (by kernel_rfl))
 f241:=Tryz.func227.trans (congrArg some (by kernel_rfl))
 f276:=Tryz.func150.trans (congrArg some (by kernel_rfl))
 f277:=Tryz.func239.trans (congrArg some (by kernel_rfl))
 t0:=Tryz.underlying0
 a0:=Tryz.isAgg0
 z0:=Tryz.sizeOf0
 v0:=Tryz.zeroValue0
 t3:=Tryz.underlying3
 a3:=Tryz.isAgg3
 z3:=Tryz.sizeOf3
 v3:=Tryz.zeroValue3
 t4:=Tryz.underlying4
 a4:=Tryz.isAgg4
 z4:=Tryz.sizeOf4
 v4:=Tryz.zeroValue4
 t9:=Tryz.underlying9
 a9:=Tryz.isAgg9
 z9:=Tryz.sizeOf9
 v9:=Tryz.zeroValue9
 t20:=Tryz.underlying20
 a20:=Tryz.isAgg20
 z20:=Tryz.sizeOf20
 v20:=Tryz.zeroValue20
 t37:=Tryz.underlying98
 a37:=Tryz.isAgg98
 z37:=Tryz.sizeOf98
 v37:=Tryz.zeroValue98
 t70:=Tryz.underlying97
 a70:=Tryz.isAgg97
 z70:=Tryz.sizeOf97
 v70:=Tryz.zeroValue97
 t72:=Tryz.underlying100
 a72:=Tryz.isAgg100
 z72:=Tryz.sizeOf100
 v72:=Tryz.zeroValue100
 t164:=Tryz.underlying173
 a164:=Tryz.isAgg173
 z164:=Tryz.sizeOf173
 v164:=Tryz.zeroValue173 }
theorem Tryz.Builder_Extra_165 : Builder.Extra Tryz.prog Tryz.lays165_ren:={
 sizeBuilder:=by kernel_rfl
 liesBuilder:=by kernel_rfl
 t5:=Tryz.underlying5
 a5:=Tryz.isAgg5
 z5:=Tryz.sizeOf5
 v5:=Tryz.zeroValue5
 infoByte:=by kernel_rfl
 cellsByte:=by kernel_rfl
 sizeByte:=by kernel_rfl
 neB5:=by decide }
open Go.RowKit in
theorem Tryz.Builder_Grow_fresh (B b n : Nat) (w : World) (hB : B ≤ b) (hbk : w.heap[b]? = some (.cells #[.pointer none, .slice none 0 0] 100 (0, 0))) (hBw : B ≤ w.heap.size) (hn : n ≤ 281474976710656) :
   Calls Tryz.prog 199 #[.pointer (some ⟨b,0,none⟩),.int .i64 n] w fun e w' => e = .returned (.tuple #[]) ∧ (Lib.BuilderAt 100 5 B b (.pointer (some ⟨b,0,none⟩)) [] w' ∧ Below B w w'):=Any.Builder_Grow_fresh Tryz.lays165 Tryz.Builder_Extra_165 B b n w hB hbk hBw hn
def Tryz.lays162_ren : Go.Shelf.Ren:=⟨fun | 162 => 244 | 232 => 247 | 227 => 248 | 234 => 249 | 236 => 250 | 228 => 251 | 271 => 252 | 151 => 253 | 120 => 254 | 197 => 255 | 152 => 256 | 260 => 257 | 137 => 211 | 119 => 258 | 224 => 259 | 225 => 260 | 217 => 229 | 266 => 241 | n => n,fun | 9 => 9 | 4 => 4 | 3 => 3 | 5 => 5 | 117 => 241 | 116 => 240 | 0 => 0 | 124 => 244 | 21 => 21 | 105 => 247 | 46 => 195 | 119 => 252 | 139 => 255 | 138 => 254 | n => n,fun | 3 => 4 | 4 => 5 | n => n⟩
theorem Tryz.lays162 : Go.Proofs.Lays.n162 Tryz.prog Tryz.lays162_ren:={
 mixed:=by kernel_rfl
 f119:=Tryz.func258.trans (congrArg some (by kernel_rfl))
 f120:=Tryz.func254.trans (congrArg some (by kernel_rfl))
 f137:=Tryz.func211.trans (congrArg some (by kernel_rfl))
 f151:=Tryz.func253.trans (congrArg some (by kernel_rfl))
 f152:=Tryz.func256.trans (congrArg some (by kernel_rfl))
 f162:=Tryz.func244.trans (congrArg some (by kernel_rfl))
 f197:=Tryz.func255.trans (congrArg some (by kernel_rfl))
 f217:=Tryz.func229.trans (congrArg some (by kernel_rfl))
 f224:=Tryz.func259.trans (congrArg some (by kernel_rfl))
 f225:=Tryz.func260.trans (congrArg some (by kernel_rfl))
 f227:=Tryz.func248.trans (congrArg some (by kernel_rfl))
 f228:=Tryz.func251.trans (congrArg some (by kernel_rfl))
 f232:=Tryz.func247.trans (congrArg some (by kernel_rfl))
 f234:=Tryz.func249.trans (congrArg some (by kernel_rfl))
 f236:=Tryz.func250.trans (congrArg some (by kernel_rfl))
 f260:=Tryz.func257.trans (congrArg some (by kernel_rfl))
 f266:=Tryz.func241.trans (congrArg some (by kernel_rfl))
 f271:=Tryz.func252.trans (congrArg some (by kernel_rfl))
 t0:=Tryz.underlying0
 a0:=Tryz.isAgg0
 z0:=Tryz.sizeOf0
 v0:=Tryz.zeroValue0
 t3:=Tryz.underlying3
 a3:=Tryz.isAgg3
 z3:=Tryz.sizeOf3
 v3:=Tryz.zeroValue3
 t4:=Tryz.underlying4
 a4:=Tryz.isAgg4
 z4:=Tryz.sizeOf4
 v4:=Tryz.zeroValue4
 t5:=Tryz.underlying5
 a5:=Tryz.isAgg5
 z5:=Tryz.sizeOf5
 v5:=Tryz.zeroValue5
 t9:=Tryz.underlying9
 a9:=Tryz.isAgg9
 z9:=Tryz.sizeOf9
 v9:=Tryz.zeroValue9
 t21:=Tryz.underlying21
 a21:=Tryz.isAgg21
 z21:=Tryz.sizeOf21
 v21:=Tryz.zeroValue21
 t46:=Tryz.underlying195
 a46:=Tryz.isAgg195
 z46:=Tryz.sizeOf195
 v46:=Tryz.zeroValue195
 t105:=Tryz.underlying247
 a105:=Tryz.isAgg247
 z105:=Tryz.sizeOf247
 v105:=Tryz.zeroValue247
 t116:=Tryz.underlying240
 a116:=Tryz.isAgg240
 z116:=Tryz.sizeOf240
 t117:=Tryz.underlying241
 a117:=Tryz.isAgg241
 z117:=Tryz.sizeOf241
 v117:=Tryz.zeroValue241
 t119:=Tryz.underlying252
 a119:=Tryz.isAgg252
 z119:=Tryz.sizeOf252
 t124:=Tryz.underlying244
 a124:=Tryz.isAgg244
 z124:=Tryz.sizeOf244
 v124:=Tryz.zeroValue244
 t138:=Tryz.underlying254
 a138:=Tryz.isAgg254
 z138:=Tryz.sizeOf254
 v138:=Tryz.zeroValue254
 t139:=Tryz.underlying255
 a139:=Tryz.isAgg255
 z139:=Tryz.sizeOf255
 v139:=Tryz.zeroValue255
 g3:=by kernel_rfl
 g4:=by kernel_rfl }
open Go.RowKit in
theorem Tryz.strings_TrimRight_one (s : ByteArray) (c : UInt8) (hc : c.toNat < 128) (w : World) (hs : s.size ≤ 9223372036854775807) :
   Calls Tryz.prog 244 #[.string s,.string ⟨#[c]⟩] w fun e w' => e = .returned (.string ⟨(Lib.trimRightB s.data.toList c).toArray⟩) ∧ w' = w:=Any.strings_TrimRight_one Tryz.lays162 s c hc w hs
def Tryz.lays137_ren : Go.Shelf.Ren:=⟨fun | 137 => 211 | 217 => 229 | 266 => 241 | n => n,fun | 9 => 9 | 5 => 5 | 3 => 3 | n => n,fun | n => n⟩
theorem Tryz.lays137 : Go.Proofs.Lays.n137 Tryz.prog Tryz.lays137_ren:={
 mixed:=by kernel_rfl
 f137:=Tryz.func211.trans (congrArg some (by kernel_rfl))
 f217:=Tryz.func229.trans (congrArg some (by kernel_rfl))
 f266:=Tryz.func241.trans (congrArg some (by kernel_rfl))
 t3:=Tryz.underlying3
 a3:=Tryz.isAgg3
 z3:=Tryz.sizeOf3
 v3:=Tryz.zeroValue3
 t5:=Tryz.underlying5
 a5:=Tryz.isAgg5
 z5:=Tryz.sizeOf5
 v5:=Tryz.zeroValue5
 t9:=Tryz.underlying9
 a9:=Tryz.isAgg9
 z9:=Tryz.sizeOf9
 v9:=Tryz.zeroValue9 }
open Go.RowKit in
theorem Tryz.strings_IndexByte (s : ByteArray) (c : Int) (w : World) :
   Calls Tryz.prog 211 #[.string s,.int .u8 c] w fun e w' => e = .returned (.int .i64 (Lib.indexByte s.data.toList c.toNat.toUInt8)) ∧ w' = w:=Any.strings_IndexByte Tryz.lays137 s c w
open Go.RowKit in
theorem Tryz.Builder_String_any_k (B b : Nat) (l : List UInt8) (w : World) (h : Lib.IsBuilderF 100 5 B b (Lib.byteCells l) w) (hBw : B ≤ w.heap.size) :
   Calls Tryz.prog 54 #[.pointer (some ⟨b,0,none⟩)] w fun e w' => e = .returned (.string ⟨l.toArray⟩) ∧ (Lib.IsBuilderF 100 5 B b (Lib.byteCells l) w' ∧ Below B w w' ∧ Lib.OthersKept 5 (some b) w w'):=Any.Builder_String_any_k Tryz.lays169 Tryz.Builder_Extra_169 B b l w h hBw
def Tryz.laysM246_ren : Go.Shelf.Ren:=⟨fun | 246 => 195 | 283 => 220 | 284 => 221 | 285 => 222 | 286 => 223 | 129 => 235 | 317 => 234 | 318 => 236 | 319 => 237 | 320 => 238 | 337 => 245 | 338 => 246 | n => n,fun | 2 => 2 | 3 => 3 | 9 => 9 | 4 => 4 | 171 => 216 | 0 => 0 | 53 => 217 | 37 => 98 | 5 => 5 | 173 => 220 | 212 => 231 | 51 => 222 | 20 => 20 | 213 => 232 | 46 => 195 | 232 => 245 | 233 => 246 | n => n,fun | 17 => 0 | 18 => 2 | 19 => 3 | n => n⟩
def Tryz.laysM243_ren : Go.Shelf.Ren:=⟨fun | 243 => 196 | 246 => 195 | 283 => 220 | 284 => 221 | 285 => 222 | 286 => 223 | 129 => 235 | 317 => 234 | 318 => 236 | 319 => 237 | 320 => 238 | 337 => 245 | 338 => 246 | n => n,fun | 3 => 3 | 9 => 9 | 2 => 2 | 4 => 4 | 171 => 216 | 0 => 0 | 53 => 217 | 37 => 98 | 5 => 5 | 173 => 220 | 212 => 231 | 51 => 222 | 20 => 20 | 213 => 232 | 46 => 195 | 232 => 245 | 233 => 246 | n => n,fun | 17 => 0 | 18 => 2 | 19 => 3 | n => n⟩
def Tryz.laysM171_ren : Go.Shelf.Ren:=⟨fun | 171 => 148 | 243 => 196 | 246 => 195 | 283 => 220 | 284 => 221 | 285 => 222 | 286 => 223 | 129 => 235 | 317 => 234 | 318 => 236 | 319 => 237 | 320 => 238 | 337 => 245 | 338 => 246 | n => n,fun | 3 => 3 | 9 => 9 | 2 => 2 | 4 => 4 | 171 => 216 | 0 => 0 | 53 => 217 | 37 => 98 | 5 => 5 | 173 => 220 | 212 => 231 | 51 => 222 | 20 => 20 | 213 => 232 | 46 => 195 | 232 => 245 | 233 => 246 | n => n,fun | 17 => 0 | 18 => 2 | 19 => 3 | n => n⟩
theorem Tryz.laysM171 : Go.Proofs.LaysM.n171 Tryz.prog Tryz.laysM171_ren:={
 mixed:=by kernel_rfl
 f129:=Tryz.func235.trans (congrArg some (by kernel_rfl))
 f171:=Tryz.func148.trans (congrArg some (by kernel_rfl))
 f243:=Tryz.func196.trans (congrArg some (by kernel_rfl))
 f246:=Tryz.func195.trans (congrArg some (by kernel_rfl))
 f283:=Tryz.func220.trans (congrArg some (by kernel_rfl))
 f284:=Tryz.func221.trans (congrArg some (by kernel_rfl))
 f285:=Tryz.func222.trans (congrArg some (by kernel_rfl))
 f286:=Tryz.func223.trans (congrArg some (by kernel_rfl))
 f317:=Tryz.func234.trans (congrArg some (by kernel_rfl))
 f318:=Tryz.func236.trans (congrArg some (by kernel_rfl))
 f319:=Tryz.func237.trans (congrArg some (by kernel_rfl))
 f320:=Tryz.func238.trans (congrArg some (by kernel_rfl))
 f337:=Tryz.func245.trans (congrArg some (by kernel_rfl))
 f338:=Tryz.func246.trans (congrArg some (by kernel_rfl))
 t0:=Tryz.underlying0
 a0:=Tryz.isAgg0
 z0:=Tryz.sizeOf0
 v0:=Tryz.zeroValue0
 t2:=Tryz.underlying2
 a2:=Tryz.isAgg2
 z2:=Tryz.sizeOf2
 v2:=Tryz.zeroValue2
 t3:=Tryz.underlying3
 a3:=Tryz.isAgg3
 z3:=Tryz.sizeOf3
 v3:=Tryz.zeroValue3
 t4:=Tryz.underlying4
 a4:=Tryz.isAgg4
 z4:=Tryz.sizeOf4
 v4:=Tryz.zeroValue4
 t5:=Tryz.underlying5
 a5:=Tryz.isAgg5
 z5:=Tryz.sizeOf5
 v5:=Tryz.zeroValue5
 t9:=Tryz.underlying9
 a9:=Tryz.isAgg9
 z9:=Tryz.sizeOf9
 v9:=Tryz.zeroValue9
 t20:=Tryz.underlying20
 a20:=Tryz.isAgg20
 z20:=Tryz.sizeOf20
 v20:=Tryz.zeroValue20
 t37:=Tryz.underlying98
 a37:=Tryz.isAgg98
 z37:=Tryz.sizeOf98
 v37:=Tryz.zeroValue98
 t46:=Tryz.underlying195
 a46:=Tryz.isAgg195
 z46:=Tryz.sizeOf195
 v46:=Tryz.zeroValue195
 t51:=Tryz.underlying222
 a51:=Tryz.isAgg222
 z51:=Tryz.sizeOf222
 v51:=Tryz.zeroValue222
 t53:=Tryz.underlying217
 a53:=Tryz.isAgg217
 z53:=Tryz.sizeOf217
 v53:=Tryz.zeroValue217
 t171:=Tryz.underlying216
 a171:=Tryz.isAgg216
 z171:=Tryz.sizeOf216
 v171:=Tryz.zeroValue216
 t173:=Tryz.underlying220
 a173:=Tryz.isAgg220
 z173:=Tryz.sizeOf220
 v173:=Tryz.zeroValue220
 t212:=Tryz.underlying231
 a212:=Tryz.isAgg231
 z212:=Tryz.sizeOf231
 v212:=Tryz.zeroValue231
 t213:=Tryz.underlying232
 a213:=Tryz.isAgg232
 z213:=Tryz.sizeOf232
 t232:=Tryz.underlying245
 a232:=Tryz.isAgg245
 z232:=Tryz.sizeOf245
 v232:=Tryz.zeroValue245
 t233:=Tryz.underlying246
 a233:=Tryz.isAgg246
 z233:=Tryz.sizeOf246
 v233:=Tryz.zeroValue246
 g17:=by kernel_rfl
 g18:=by kernel_rfl
 g19:=by kernel_rfl
 i0:=by kernel_rfl
 i2:=by kernel_rfl
 i3:=by kernel_rfl
 i4:=by kernel_rfl
 i5:=by kernel_rfl
 i9:=by kernel_rfl
 i20:=by kernel_rfl
 i37:=by kernel_rfl
 i46:=by kernel_rfl
 i51:=by kernel_rfl
 i53:=by kernel_rfl
 i171:=by kernel_rfl
 i173:=by kernel_rfl
 i212:=by kernel_rfl
 i232:=by kernel_rfl
 i233:=by kernel_rfl
 m17:=by kernel_rfl
 m18:=by kernel_rfl
 m19:=by kernel_rfl }
open Go.RowKit Go.Sort Go.Lib in
theorem Tryz.strconv_Itoa (n : Int) (h0 : -9223372036854775808 ≤ n) (h1 : n ≤ 9223372036854775807) (w : World) (htab : Lib.TabIs Tryz.prog w "internal/strconv.uint64pow10" .u64 Lib.pow10Tab) :
   Calls Tryz.prog 148 #[.int .i64 n] w fun e w' => e = .returned (.string ⟨(Lib.itoa n).toArray⟩) ∧ ∃ k os,w' = grow (w.drewN k) os:=Any.strconv_Itoa Tryz.laysM171 n h0 h1 w htab
def Tryz.laysM173_ren : Go.Shelf.Ren:=⟨fun | 173 => 147 | 246 => 195 | 283 => 220 | 284 => 221 | 285 => 222 | 286 => 223 | 129 => 235 | 317 => 234 | 318 => 236 | 319 => 237 | 320 => 238 | 337 => 245 | 338 => 246 | n => n,fun | 2 => 2 | 3 => 3 | 9 => 9 | 4 => 4 | 171 => 216 | 0 => 0 | 53 => 217 | 37 => 98 | 5 => 5 | 173 => 220 | 212 => 231 | 51 => 222 | 20 => 20 | 213 => 232 | 46 => 195 | 232 => 245 | 233 => 246 | n => n,fun | 17 => 0 | 18 => 2 | 19 => 3 | n => n⟩
theorem Tryz.laysM173 : Go.Proofs.LaysM.n173 Tryz.prog Tryz.laysM173_ren:={
 mixed:=by kernel_rfl
 f129:=Tryz.func235.trans (congrArg some (by kernel_rfl))
 f173:=Tryz.func147.trans (congrArg some (by kernel_rfl))
 f246:=Tryz.func195.trans (congrArg some (by kernel_rfl))
 f283:=Tryz.func220.trans (congrArg some (by kernel_rfl))
 f284:=Tryz.func221.trans (congrArg some (by kernel_rfl))
 f285:=Tryz.func222.trans (congrArg some (by kernel_rfl))
 f286:=Tryz.func223.trans (congrArg some (by kernel_rfl))
 f317:=Tryz.func234.trans (congrArg some (by kernel_rfl))
 f318:=Tryz.func236.trans (congrArg some (by kernel_rfl))
 f319:=Tryz.func237.trans (congrArg some (by kernel_rfl))
 f320:=Tryz.func238.trans (congrArg some (by kernel_rfl))
 f337:=Tryz.func245.trans (congrArg some (by kernel_rfl))
 f338:=Tryz.func246.trans (congrArg some (by kernel_rfl))
 t0:=Tryz.underlying0
 a0:=Tryz.isAgg0
 z0:=Tryz.sizeOf0
 v0:=Tryz.zeroValue0
 t2:=Tryz.underlying2
 a2:=Tryz.isAgg2
 z2:=Tryz.sizeOf2
 v2:=Tryz.zeroValue2
 t3:=Tryz.underlying3
 a3:=Tryz.isAgg3
 z3:=Tryz.sizeOf3
 v3:=Tryz.zeroValue3
 t4:=Tryz.underlying4
 a4:=Tryz.isAgg4
 z4:=Tryz.sizeOf4
 v4:=Tryz.zeroValue4
 t5:=Tryz.underlying5
 a5:=Tryz.isAgg5
 z5:=Tryz.sizeOf5
 v5:=Tryz.zeroValue5
 t9:=Tryz.underlying9
 a9:=Tryz.isAgg9
 z9:=Tryz.sizeOf9
 v9:=Tryz.zeroValue9
 t20:=Tryz.underlying20
 a20:=Tryz.isAgg20
 z20:=Tryz.sizeOf20
 v20:=Tryz.zeroValue20
 t37:=Tryz.underlying98
 a37:=Tryz.isAgg98
 z37:=Tryz.sizeOf98
 v37:=Tryz.zeroValue98
 t46:=Tryz.underlying195
 a46:=Tryz.isAgg195
 z46:=Tryz.sizeOf195
 v46:=Tryz.zeroValue195
 t51:=Tryz.underlying222
 a51:=Tryz.isAgg222
 z51:=Tryz.sizeOf222
 v51:=Tryz.zeroValue222
 t53:=Tryz.underlying217
 a53:=Tryz.isAgg217
 z53:=Tryz.sizeOf217
 v53:=Tryz.zeroValue217
 t171:=Tryz.underlying216
 a171:=Tryz.isAgg216
 z171:=Tryz.sizeOf216
 v171:=Tryz.zeroValue216
 t173:=Tryz.underlying220
 a173:=Tryz.isAgg220
 z173:=Tryz.sizeOf220
 v173:=Tryz.zeroValue220
 t212:=Tryz.underlying231
 a212:=Tryz.isAgg231
 z212:=Tryz.sizeOf231
 v212:=Tryz.zeroValue231
 t213:=Tryz.underlying232
 a213:=Tryz.isAgg232
 z213:=Tryz.sizeOf232
 t232:=Tryz.underlying245
 a232:=Tryz.isAgg245
 z232:=Tryz.sizeOf245
 v232:=Tryz.zeroValue245
 t233:=Tryz.underlying246
 a233:=Tryz.isAgg246
 z233:=Tryz.sizeOf246
 v233:=Tryz.zeroValue246
 g17:=by kernel_rfl
 g18:=by kernel_rfl
 g19:=by kernel_rfl
 i0:=by kernel_rfl
 i2:=by kernel_rfl
 i3:=by kernel_rfl
 i4:=by kernel_rfl
 i5:=by kernel_rfl
 i9:=by kernel_rfl
 i20:=by kernel_rfl
 i37:=by kernel_rfl
 i46:=by kernel_rfl
 i51:=by kernel_rfl
 i53:=by kernel_rfl
 i171:=by kernel_rfl
 i173:=by kernel_rfl
 i212:=by kernel_rfl
 i232:=by kernel_rfl
 i233:=by kernel_rfl
 m17:=by kernel_rfl
 m18:=by kernel_rfl
 m19:=by kernel_rfl }
open Go.RowKit Go.Sort Go.Lib in
theorem Tryz.strconv_FormatInt_10 (n : Int) (h0 : -9223372036854775808 ≤ n) (h1 : n ≤ 9223372036854775807) (w : World) (htab : Lib.TabIs Tryz.prog w "internal/strconv.uint64pow10" .u64 Lib.pow10Tab) :
   Calls Tryz.prog 147 #[.int .i64 n,.int .i64 10] w fun e w' => e = .returned (.string ⟨(Lib.itoa n).toArray⟩) ∧ ∃ k os,w' = grow (w.drewN k) os:=Any.strconv_FormatInt_10 Tryz.laysM173 n h0 h1 w htab
def Tryz.lays105_ren : Go.Shelf.Ren:=⟨fun | 105 => 149 | 212 => 197 | 99 => 198 | 165 => 199 | 166 => 52 | 170 => 50 | 169 => 54 | 263 => 224 | 264 => 225 | 206 => 226 | 240 => 93 | 241 => 227 | 276 => 150 | 277 => 239 | n => n,fun | 9 => 9 | 3 => 3 | 4 => 4 | 20 => 20 | 0 => 0 | 46 => 195 | 109 => 204 | 5 => 5 | 72 => 100 | 76 => 106 | 51 => 222 | 146 => 223 | 53 => 217 | 148 => 225 | 70 => 97 | 37 => 98 | 75 => 105 | 127 => 134 | 164 => 173 | 80 => 108 | n => n,fun | n => n⟩
theorem Tryz.lays105 : Go.Proofs.Lays.n105 Tryz.prog Tryz.lays105_ren:={
 mixed:=by kernel_rfl
 f99:=Tryz.func198.trans (congrArg some (by kernel_rfl))
 f105:=Tryz.func149.trans (congrArg some (by kernel_rfl))
 f165:=Tryz.func199.trans (congrArg some (by kernel_rfl))
 f166:=Tryz.func52.trans (congrArg some (by kernel_rfl))
 f169:=Tryz.func54.trans (congrArg some (by kernel_rfl))
 f170:=Tryz.func50.trans (congrArg some (by kernel_rfl))
 f206:=Tryz.func226.trans (congrArg some (by kernel_rfl))
 f212:=Tryz.func197.trans (congrArg some (by kernel_rfl))
 f240:=Tryz.func93.trans (congrArg some (by kernel_rfl))
 f241:=Tryz.func227.trans (congrArg some (by kernel_rfl))
 f263:=Tryz.func224.trans (congrArg some (by kernel_rfl))
 f264:=Tryz.func225.trans (congrArg some (by kernel_rfl))
 f276:=Tryz.func150.trans (congrArg some (by kernel_rfl))
 f277:=Tryz.func239.trans (congrArg some (by kernel_rfl))
 t0:=Tryz.underlying0
 a0:=Tryz.isAgg0
 z0:=Tryz.sizeOf0
 v0:=Tryz.zeroValue0
 t3:=Tryz.underlying3
 a3:=Tryz.isAgg3
 z3:=Tryz.sizeOf3
 v3:=Tryz.zeroValue3
 t4:=Tryz.underlying4
 a4:=Tryz.isAgg4
 z4:=Tryz.sizeOf4
 v4:=Tryz.zeroValue4
 t5:=Tryz.underlying5
 a5:=Tryz.isAgg5
 z5:=Tryz.sizeOf5
 v5:=Tryz.zeroValue5
 t9:=Tryz.underlying9
 a9:=Tryz.isAgg9
 z9:=Tryz.sizeOf9
 v9:=Tryz.zeroValue9
 t20:=Tryz.underlying20
 a20:=Tryz.isAgg20
 z20:=Tryz.sizeOf20
 v20:=Tryz.zeroValue20
 t37:=Tryz.underlying98
 a37:=Tryz.isAgg98
 z37:=Tryz.sizeOf98
 v37:=Tryz.zeroValue98
 t46:=Tryz.underlying195
 a46:=Tryz.isAgg195
 z46:=Tryz.sizeOf195
 v46:=Tryz.zeroValue195
 t51:=Tryz.underlying222
 a51:=Tryz.isAgg222
 z51:=Tryz.sizeOf222
 v51:=Tryz.zeroValue222
 t53:=Tryz.underlying217
 a53:=Tryz.isAgg217
 z53:=Tryz.sizeOf217
 v53:=Tryz.zeroValue217
 t70:=Tryz.underlying97
 a70:=Tryz.isAgg97
 z70:=Tryz.sizeOf97
 v70:=Tryz.zeroValue97
 t72:=Tryz.underlying100
 a72:=Tryz.isAgg100
 z72:=Tryz.sizeOf100
 v72:=Tryz.zeroValue100
 t75:=Tryz.underlying105
 a75:=Tryz.isAgg105
 z75:=Tryz.sizeOf105
 v75:=Tryz.zeroValue105
 t76:=Tryz.underlying106
 a76:=Tryz.isAgg106
 z76:=Tryz.sizeOf106
 v76:=Tryz.zeroValue106
 t109:=Tryz.underlying204
 a109:=Tryz.isAgg204
 z109:=Tryz.sizeOf204
 v109:=Tryz.zeroValue204
 t127:=Tryz.underlying134
 a127:=Tryz.isAgg134
 z127:=Tryz.sizeOf134
 v127:=Tryz.zeroValue134
 t146:=Tryz.underlying223
 a146:=Tryz.isAgg223
 z146:=Tryz.sizeOf223
 v146:=Tryz.zeroValue223
 t148:=Tryz.underlying225
 a148:=Tryz.isAgg225
 z148:=Tryz.sizeOf225
 v148:=Tryz.zeroValue225
 t164:=Tryz.underlying173
 a164:=Tryz.isAgg173
 z164:=Tryz.sizeOf173
 v164:=Tryz.zeroValue173 }
theorem Tryz.Builder_Extra_105 : Builder.Extra Tryz.prog Tryz.lays105_ren:={
 sizeBuilder:=by kernel_rfl
 liesBuilder:=by kernel_rfl
 t5:=Tryz.underlying5
 a5:=Tryz.isAgg5
 z5:=Tryz.sizeOf5
 v5:=Tryz.zeroValue5
 infoByte:=by kernel_rfl
 cellsByte:=by kernel_rfl
 sizeByte:=by kernel_rfl
 neB5:=by decide }
open Go.RowKit Go.Lib in
theorem Tryz.strings_Repeat (s : ByteArray) (c : Nat) (w : World) (hc : c ≤ 9223372036854775807) (hlen : s.size * c ≤ 140737488355328) :
   Calls Tryz.prog 149 #[.string s,.int .i64 c] w fun e w' => e = .returned (.string ⟨(Lib.repeatL s.data.toList c).toArray⟩) ∧ Below w.heap.size w w':=Any.strings_Repeat Tryz.lays105 Tryz.Builder_Extra_105 s c w hc hlen
def Tryz.lays109_ren : Go.Shelf.Ren:=⟨fun | 109 => 168 | n => n,fun | 31 => 23 | 9 => 9 | 3 => 3 | 0 => 0 | 4 => 4 | n => n,fun | n => n⟩
theorem Tryz.lays109 : Go.Proofs.Lays.n109 Tryz.prog Tryz.lays109_ren:={
 mixed:=by kernel_rfl
 f109:=Tryz.func168.trans (congrArg some (by kernel_rfl))
 t0:=Tryz.underlying0
 a0:=Tryz.isAgg0
 z0:=Tryz.sizeOf0
 v0:=Tryz.zeroValue0
 t3:=Tryz.underlying3
 a3:=Tryz.isAgg3
 z3:=Tryz.sizeOf3
 v3:=Tryz.zeroValue3
 t4:=Tryz.underlying4
 a4:=Tryz.isAgg4
 z4:=Tryz.sizeOf4
 v4:=Tryz.zeroValue4
 t9:=Tryz.underlying9
 a9:=Tryz.isAgg9
 z9:=Tryz.sizeOf9
 v9:=Tryz.zeroValue9
 t31:=Tryz.underlying23
 a31:=Tryz.isAgg23
 z31:=Tryz.sizeOf23
 v31:=Tryz.zeroValue23 }
open Go.Lib in
theorem Tryz.slices_Index_string (b off n c : Nat) (zs : List ByteArray) (x : ByteArray) (w : World) (hz : n ≤ zs.length) (hbig : n ≤ 9223372036854775807) (hc : ∀ j, j < zs.length → w.cell? ⟨b, off + j, none⟩ = some (.string (zs.getD j ByteArray.empty))) :
   Calls Tryz.prog 168 #[.slice (some ⟨b,off,none⟩) n c,.string x] w fun e w' => e = .returned (.int .i64 (Lib.idxOfS (zs.take n) x)) ∧ w' = w:=Any.slices_Index_string Tryz.lays109 b off n c zs x w hz hbig hc
open Go.Lib in
theorem Tryz.slices_Index_string_empty (a : Option Addr) (c : Nat) (x : ByteArray) (w : World) :
   Calls Tryz.prog 168 #[.slice a 0 c,.string x] w fun e w' => e = .returned (.int .i64 (Lib.idxOfS [] x)) ∧ w' = w:=Any.slices_Index_string_empty Tryz.lays109 a c x w
def Tryz.lays110_ren : Go.Shelf.Ren:=⟨fun | 110 => 122 | 109 => 168 | n => n,fun | 31 => 23 | 9 => 9 | 4 => 4 | 3 => 3 | 0 => 0 | n => n,fun | n => n⟩
theorem Tryz.lays110 : Go.Proofs.Lays.n110 Tryz.prog Tryz.lays110_ren:={
 mixed:=by kernel_rfl
 f109:=Tryz.func168.trans (congrArg some (by kernel_rfl))
 f110:=Tryz.func122.trans (congrArg some (by kernel_rfl))
 t0:=Tryz.underlying0
 a0:=Tryz.isAgg0
 z0:=Tryz.sizeOf0
 v0:=Tryz.zeroValue0
 t3:=Tryz.underlying3
 a3:=Tryz.isAgg3
 z3:=Tryz.sizeOf3
 v3:=Tryz.zeroValue3
 t4:=Tryz.underlying4
 a4:=Tryz.isAgg4
 z4:=Tryz.sizeOf4
 v4:=Tryz.zeroValue4
 t9:=Tryz.underlying9
 a9:=Tryz.isAgg9
 z9:=Tryz.sizeOf9
 v9:=Tryz.zeroValue9
 t31:=Tryz.underlying23
 a31:=Tryz.isAgg23
 z31:=Tryz.sizeOf23
 v31:=Tryz.zeroValue23 }
open Go.Lib in
theorem Tryz.slices_Contains_string (b off n c : Nat) (zs : List ByteArray) (x : ByteArray) (w : World) (hz : n ≤ zs.length) (hbig : n ≤ 9223372036854775807) (hc : ∀ j, j < zs.length → w.cell? ⟨b, off + j, none⟩ = some (.string (zs.getD j ByteArray.empty))) :
   Calls Tryz.prog 122 #[.slice (some ⟨b,off,none⟩) n c,.string x] w fun e w' => e = .returned (.bool (Lib.containsS (zs.take n) x)) ∧ w' = w:=Any.slices_Contains_string Tryz.lays110 b off n c zs x w hz hbig hc
def Tryz.laysNm216_ren : Go.Shelf.Ren:=⟨fun | 16 => 140 | n => n,fun | 24 => 23 | 9 => 9 | 4 => 4 | n => n,fun | n => n⟩
theorem Tryz.laysNm216 : Go.Proofs.Lays2.n16 Tryz.prog Tryz.laysNm216_ren:={
 mixed:=by kernel_rfl
 f16:=Tryz.func140.trans (congrArg some (by kernel_rfl))
 t4:=Tryz.underlying4
 a4:=Tryz.isAgg4
 z4:=Tryz.sizeOf4
 v4:=Tryz.zeroValue4
 t9:=Tryz.underlying9
 a9:=Tryz.isAgg9
 z9:=Tryz.sizeOf9
 v9:=Tryz.zeroValue9
 t24:=Tryz.underlying23
 a24:=Tryz.isAgg23
 z24:=Tryz.sizeOf23
 v24:=Tryz.zeroValue23
 i9:=by kernel_rfl }
open Go.RowKit Go.Lib in
theorem Tryz.slices_Clone_string (b off n c : Nat) (zs : List ByteArray) (w : World) (hz : n ≤ zs.length) (hbig : n * 16 ≤ 140737488355328) (hc : ∀ j, j < zs.length → w.cell? ⟨b, off + j, none⟩ = some (.string (zs.getD j ByteArray.empty))) :
   Calls Tryz.prog 140 #[.slice (some ⟨b,off,none⟩) n c] w fun e w' => ∃ v',e = .returned v' ∧ w'.ownsRow w.heap.size 9 1 v' n ((zs.take n).map (Value.string)) ∧ v' ≠ .slice none 0 0 ∧ Below w.heap.size w w':=Any.slices_Clone_string Tryz.laysNm216 b off n c zs w hz hbig hc
open Go.RowKit Go.Lib in
theorem Tryz.slices_Clone_string_nil (n c : Nat) (w : World) :
   Calls Tryz.prog 140 #[.slice none n c] w fun e w' => e = .returned (.slice none 0 0) ∧ w' = w:=Any.slices_Clone_string_nil Tryz.laysNm216 n c w
open Go.RowKit Go.Lib in
theorem Tryz.slices_Clone_string_zero (a : Addr) (c : Nat) (w : World) :
   Calls Tryz.prog 140 #[.slice (some a) 0 c] w fun e w' => ∃ v',e = .returned v' ∧ w'.ownsRow w.heap.size 9 1 v' 0 [] ∧ v' ≠ .slice none 0 0 ∧ Below w.heap.size w w':=Any.slices_Clone_string_zero Tryz.laysNm216 a c w
end Go.Proofs
namespace Go.Proofs
open Go.Shelf Go.RowKit Go.Lib
def Tryz.lays167_ren : Go.Shelf.Ren:=⟨fun | 167 => 173 | 240 => 93 | 276 => 150 | n => n,fun | 0 => 0 | 3 => 3 | 4 => 4 | 5 => 5 | 9 => 9 | 20 => 20 | 37 => 98 | 70 => 97 | 72 => 100 | 75 => 105 | 80 => 108 | 164 => 173 | n => n,fun | n => n⟩
theorem Tryz.lays167 : Go.Proofs.Lays.n167 Tryz.prog Tryz.lays167_ren:={
 mixed:=by kernel_rfl
 f167:=Tryz.func173.trans (congrArg some (by kernel_rfl))
 f240:=Tryz.func93.trans (congrArg some (by kernel_rfl))
 f276:=Tryz.func150.trans (congrArg some (by kernel_rfl))
 t0:=Tryz.underlying0
 a0:=Tryz.isAgg0
 z0:=Tryz.sizeOf0
 v0:=Tryz.zeroValue0
 t4:=Tryz.underlying4
 a4:=Tryz.isAgg4
 z4:=Tryz.sizeOf4
 v4:=Tryz.zeroValue4
 t5:=Tryz.underlying5
 a5:=Tryz.isAgg5
 z5:=Tryz.sizeOf5
 v5:=Tryz.zeroValue5
 t9:=Tryz.underlying9
 a9:=Tryz.isAgg9
 z9:=Tryz.sizeOf9
 v9:=Tryz.zeroValue9
 t20:=Tryz.underlying20
 a20:=Tryz.isAgg20
 z20:=Tryz.sizeOf20
 v20:=Tryz.zeroValue20
 t37:=Tryz.underlying98
 a37:=Tryz.isAgg98
 z37:=Tryz.sizeOf98
 v37:=Tryz.zeroValue98
 t70:=Tryz.underlying97
 a70:=Tryz.isAgg97
 z70:=Tryz.sizeOf97
 v70:=Tryz.zeroValue97
 t72:=Tryz.underlying100
 a72:=Tryz.isAgg100
 z72:=Tryz.sizeOf100
 v72:=Tryz.zeroValue100
 t75:=Tryz.underlying105
 a75:=Tryz.isAgg105
 z75:=Tryz.sizeOf105
 v75:=Tryz.zeroValue105
 t164:=Tryz.underlying173
 a164:=Tryz.isAgg173
 z164:=Tryz.sizeOf173
 v164:=Tryz.zeroValue173 }
theorem Tryz.Builder_Extra_167 : Builder.Extra Tryz.prog Tryz.lays167_ren:={
 sizeBuilder:=by kernel_rfl
 liesBuilder:=by kernel_rfl
 t5:=Tryz.underlying5
 a5:=Tryz.isAgg5
 z5:=Tryz.sizeOf5
 v5:=Tryz.zeroValue5
 infoByte:=by kernel_rfl
 cellsByte:=by kernel_rfl
 sizeByte:=by kernel_rfl
 neB5:=by decide }
theorem Tryz.Builder_WriteByte (B b : Nat) (bs : List Value) (c : Int) (w : World) (h : Lib.IsBuilder 100 5 B b bs w) (hlen : bs.length + 1 ≤ 140737488355328) (hBw : B ≤ w.heap.size) :
   Calls Tryz.prog 173 #[.pointer (some ⟨b,0,none⟩),.int .u8 c] w fun e w' => e = .returned .nilIface ∧ (Lib.BuilderAt 100 5 B b (.pointer (some ⟨b,0,none⟩)) (bs ++ [.int .u8 c]) w' ∧ Below B w w'):=Any.Builder_WriteByte Tryz.lays167 Tryz.Builder_Extra_167 B b bs c w h hlen hBw
def Tryz.lays166_ren : Go.Shelf.Ren:=⟨fun | 166 => 52 | 240 => 93 | 276 => 150 | n => n,fun | 0 => 0 | 3 => 3 | 4 => 4 | 5 => 5 | 9 => 9 | 20 => 20 | 37 => 98 | 70 => 97 | 72 => 100 | 75 => 105 | 80 => 108 | 164 => 173 | n => n,fun | n => n⟩
theorem Tryz.lays166 : Go.Proofs.Lays.n166 Tryz.prog Tryz.lays166_ren:={
 mixed:=by kernel_rfl
 f166:=Tryz.func52.trans (congrArg some (by kernel_rfl))
 f240:=Tryz.func93.trans (congrArg some (by kernel_rfl))
 f276:=Tryz.func150.trans (congrArg some (by kernel_rfl))
 t0:=Tryz.underlying0
 a0:=Tryz.isAgg0
 z0:=Tryz.sizeOf0
 v0:=Tryz.zeroValue0
 t3:=Tryz.underlying3
 a3:=Tryz.isAgg3
 z3:=Tryz.sizeOf3
 v3:=Tryz.zeroValue3
 t4:=Tryz.underlying4
 a4:=Tryz.isAgg4
 z4:=Tryz.sizeOf4
 v4:=Tryz.zeroValue4
 t9:=Tryz.underlying9
 a9:=Tryz.isAgg9
 z9:=Tryz.sizeOf9
 v9:=Tryz.zeroValue9
 t20:=Tryz.underlying20
 a20:=Tryz.isAgg20
 z20:=Tryz.sizeOf20
 v20:=Tryz.zeroValue20
 t37:=Tryz.underlying98
 a37:=Tryz.isAgg98
 z37:=Tryz.sizeOf98
 v37:=Tryz.zeroValue98
 t70:=Tryz.underlying97
 a70:=Tryz.isAgg97
 z70:=Tryz.sizeOf97
 v70:=Tryz.zeroValue97
 t72:=Tryz.underlying100
 a72:=Tryz.isAgg100
 z72:=Tryz.sizeOf100
 v72:=Tryz.zeroValue100
 t75:=Tryz.underlying105
 a75:=Tryz.isAgg105
 z75:=Tryz.sizeOf105
 v75:=Tryz.zeroValue105
 t164:=Tryz.underlying173
 a164:=Tryz.isAgg173
 z164:=Tryz.sizeOf173
 v164:=Tryz.zeroValue173 }
theorem Tryz.Builder_Extra_166 : Builder.Extra Tryz.prog Tryz.lays166_ren:={
 sizeBuilder:=by kernel_rfl
 liesBuilder:=by kernel_rfl
 t5:=Tryz.underlying5
 a5:=Tryz.isAgg5
 z5:=Tryz.sizeOf5
 v5:=Tryz.zeroValue5
 infoByte:=by kernel_rfl
 cellsByte:=by kernel_rfl
 sizeByte:=by kernel_rfl
 neB5:=by decide }
theorem Tryz.Builder_WriteString (B b : Nat) (bs : List Value) (s : ByteArray) (w : World) (h : Lib.IsBuilder 100 5 B b bs w) (hlen : bs.length + s.size ≤ 140737488355328) (hBw : B ≤ w.heap.size) :
   Calls Tryz.prog 52 #[.pointer (some ⟨b,0,none⟩),.string s] w fun e w' => e = .returned (.tuple #[.int .i64 s.size,.nilIface]) ∧ (Lib.BuilderAt 100 5 B b (.pointer (some ⟨b,0,none⟩)) (bs ++ Lib.strCells s) w' ∧ Below B w w'):=Any.Builder_WriteString Tryz.lays166 Tryz.Builder_Extra_166 B b bs s w h hlen hBw
end Go.Proofs
namespace Go.Proofs.YtfgdhcemidlnfaaGreatDoor
open Go.RowKit Fo
theorem u8_all (p : UInt8 → Bool) (h : (List.range 256).all (fun n => p (UInt8.ofNat n)) = true) (c : UInt8) : p c = true:=by
 have:=List.all_eq_true.1 h c.toNat (List.mem_range.2 (UInt8.toNat_lt c))
 simpa using this
theorem white_ix (c : UInt8) : decide (0 ≤ Lib.indexByte [0,9,10,12,13,32] c) = white c:=by
 simpa using u8_all (fun c => decide (0 ≤ Lib.indexByte [0,9,10,12,13,32] c) == white c) (by decide +kernel) c
theorem delim_ix (c : UInt8) : decide (0 ≤ Lib.indexByte [40,41,60,62,91,93,123,125,47,37] c) = delim c:=by
 simpa using u8_all (fun c => decide (0 ≤ Lib.indexByte [40,41,60,62,91,93,123,125,47,37] c) == delim c) (by decide +kernel) c
theorem ret_bool {a b : Bool} (h : a = b) : Ending.returned (.bool a) = .returned (.bool b):=by rw [h]
theorem ret_int {k : IntKind} {a b : Int} (h : a = b) : Ending.returned (.int k a) = .returned (.int k b):=by rw [h]
theorem white_any (c : UInt8) (w : World) :
   Calls Tryz.prog 207 #[.int .u8 c.toNat] w fun e w' => e = .returned (.bool (white c)) ∧ w' = w:=by
 go_enter Tryz.func207,Tryz.ntmps207
 go_wp2_with (go_at_call 211;refine (Tryz.strings_IndexByte _ _ _).mono ?_;rintro e w' ⟨rfl,rfl⟩)
 go_ret
 exact ⟨ret_bool (by simpa using white_ix c),rfl⟩
theorem delim_any (c : UInt8) (w : World) :
   Calls Tryz.prog 208 #[.int .u8 c.toNat] w fun e w' => e = .returned (.bool (delim c)) ∧ w' = w:=by
 go_enter Tryz.func208,Tryz.ntmps208
 go_wp2_with (go_at_call 211;refine (Tryz.strings_IndexByte _ _ _).mono ?_;rintro e w' ⟨rfl,rfl⟩)
 go_ret
 exact ⟨ret_bool (by simpa using delim_ix c),rfl⟩
theorem regular_any (c : UInt8) (w : World) :
   Calls Tryz.prog 172 #[.int .u8 c.toNat] w fun e w' => e = .returned (.bool (regular c)) ∧ w' = w:=by
 go_enter Tryz.func172,Tryz.ntmps172
 go_wp2_with (first | (go_at_call 207;refine (white_any _ _).mono ?_;rintro e w' ⟨rfl,rfl⟩) | (go_at_call 208;refine (delim_any _ _).mono ?_;rintro e w' ⟨rfl,rfl⟩))
 all_goals go_ret
 all_goals exact ⟨ret_bool (by simp_all [regular]),rfl⟩
theorem u8k (c : UInt8) (n : Nat) (h : n < 256) : ((c.toNat : Int) == (n : Int)) = (c == UInt8.ofNat n):=by
 rw [Bool.eq_iff_iff];simp only [beq_iff_eq,← UInt8.toNat_inj,UInt8.toNat_ofNat_of_lt' (show n < UInt8.size from h)];omega
theorem drop_get (s : ByteArray) (k : Nat) (h : k < s.size) : s.data.toList.drop k = s[k] :: s.data.toList.drop (k + 1):=by
 rw [List.drop_eq_getElem_cons (by simpa using h)];rfl
theorem skipN_le (b : Bool) (l : L) : skipN b l ≤ l.length:=by
 induction l generalizing b with
 | nil => cases b <;> simp [skipN]
 | cons c l ih =>
   cases b <;> simp only [skipN,List.length_cons]
   · have h1:=ih true;have h2:=ih false
     split
     · omega
     · split <;> omega
   · have:=ih (!eol c);omega
theorem eq_yes {c : UInt8} {n : Nat} (hn : n < 256) (h : c = UInt8.ofNat n) : ((c.toNat : Int) == (n : Int)) = true:=by rw [u8k c n hn];simpa using h
theorem eq_no {c : UInt8} {n : Nat} (hn : n < 256) (h : ¬ c = UInt8.ofNat n) : ((c.toNat : Int) == (n : Int)) = false:=by rw [u8k c n hn];simpa using h
theorem lineN_le (l : L) : lineN l ≤ l.length:=by
 fun_induction lineN l <;> simp_all <;> omega
theorem lineN_cons (c : UInt8) (l : L) : lineN (c :: l) = if c = 10 then 1 else if c = 13 then (if l.head? = some 10 then 2 else 1) else lineN l + 1:=by
 by_cases h : c = 13
 · subst h
   cases l with
   | nil => simp [lineN,eol]
   | cons d l =>
     by_cases hd : d = 10
     · subst hd;simp [lineN]
     · rw [lineN]
       · simp [eol,hd]
       · intro d' h1 h2;simp_all
 · rw [lineN]
   · by_cases h2 : c = 10 <;> simp [eol,h,h2]
   · intro d h1 h2;simp_all
theorem Tryz.infoU8 : (Tryz.prog.info? 5).map (fun i => (i.zero,i.size,i.bytes)) = some (some (.int .u8 0),1,1):=by kernel_rfl
theorem bcell {W w1 : World} (hb : Below W.heap.size W w1) : (∀ b o,b < W.heap.size → w1.cell? ⟨b,o,none⟩ = W.cell? ⟨b,o,none⟩) ∧ (∀ b o,b < W.heap.size → w1.frozen? ⟨b,o,none⟩ = W.frozen? ⟨b,o,none⟩) :=
 ⟨fun b o h => hb.cell (p:=⟨b,o,none⟩) h,fun b o h => hb.frozen (p:=⟨b,o,none⟩) h⟩
theorem belowIter {B : Nat} {a w : World} (h : Below B a w) (hB : B ≤ w.heap.size) (s : ByteArray) (p : Nat) : Below B a (w.iter s p):=h.alloc hB _
theorem bT {B C : Nat} {a b c : World} (h : Below C b c) (k : Below B a b) (e : B ≤ C) : Below B a c:=k.trans (h.mono e)
theorem belowDrewN {B : Nat} {a w : World} (h : Below B a w) (n : Nat) : Below B a (w.drewN n):=⟨h.os,h.tape,h.output,h.size,h.block⟩
theorem bel {B : Nat} {a b : World} (h : Below B a b:=by repeat' (first | (with_reducible first | exact Below.refl _ _ | refine Below.drew ?_ | refine belowDrewN ?_ _ | refine belowIter ?_ ?_ _ _ | refine Below.setCell ?_ ?_ _ | refine Below.alloc ?_ ?_ _ | refine bT hb4 ?_ ?_ | refine bT hb3 ?_ ?_ | refine bT hb2 ?_ ?_ | refine bT hb1 ?_ ?_ | refine bT hbr ?_ ?_ | refine bT hb ?_ ?_) | (simp;done) | (simp;omega) | omega)) : Below B a b:=h
theorem belr {B : Nat} {a b : World} (h : Below B a b:=by repeat' (first | (with_reducible first | exact Below.refl _ _ | refine Below.setCell ?_ ?_ _ | refine Below.alloc ?_ ?_ _) | (show _ ≤ _;simp;done) | (show _ ≤ _;simp;omega) | omega)) : Below B a b:=h
theorem Lh {p : Prop} (h : p) : Hid p:=Lib.hid h
def ownB (w : World) (B : Nat) (v : Value) (l : L) : Prop:=w.ownsRow B 5 1 v l.length (l.map fun c => .int .u8 c.toNat)
theorem ownB_nil (w : World) (B : Nat) : ownB w B (.slice none 0 0) []:=⟨by simp,.inl ⟨rfl,rfl⟩⟩
theorem ownB_below {w w' : World} {B : Nat} {v : Value} {l : L} (h : ownB w B v l) (hb : Below w.heap.size w w') : ownB w' B v l :=
 World.ownsRow.kept h (row:=none) ⟨hb.os,hb.tape,hb.output,hb.size,fun k hk _ => hb.block k hk⟩ (Classical.em _)
theorem ownB_slice {w : World} {B : Nat} {v : Value} {l : L} (h : ownB w B v l) : ∃ p c,v = .slice p l.length c:=by
 rcases h.2 with ⟨h1,h2⟩ | ⟨g,cap,cur,h1,_⟩
 · exact ⟨none,0,by rw [h1,h2]⟩
 · exact ⟨_,_,h1⟩
theorem own_base {w : World} {B : Nat} {e : TypeId} {s n : Nat} {v : Value} {xs : List Value} (h : w.ownsRow B e s v n xs) : ∀ k,v.ownBlock = some k → B ≤ k:=by
 rcases h.2 with ⟨h1,_⟩ | ⟨g,cap,cur,h1,h2,_⟩
 · subst h1;intro k hk;simp [Value.ownBlock] at hk
 · subst h1;intro k hk;simp [Value.ownBlock] at hk;omega
theorem u8_back (n : Int) (h0 : 0 ≤ n) (h1 : n < 256) : ((UInt8.ofNat n.toNat).toNat : Int) = n:=by
 simp only [UInt8.toNat_ofNat'];omega
theorem append1 {ops : Array Oper} {rest : List Oper} {o : Oper} {a : Act} {Q : Exit → Act → World → Prop} {w : World} (hgd : o.guard = none) (s x : Operand)
   (ho : o.op = .call { callee:=.builtin .append,args:=#[s,x],argTypes:=#[98,98] })
   (B : Nat) (v : Value) (l : L) (n : Int) (hown : ownB w B v l) (hs : a.eval s = v)
   (hx : a.eval x = .slice (some ⟨w.heap.size,0,none⟩) 1 1) (hlen : l.length + 1 ≤ 140737488355328) (hB : B ≤ w.heap.size) (h0 : 0 ≤ n) (h1 : n < 256)
   (h : ∀ v' w',ownB w' B v' (l ++ [UInt8.ofNat n.toNat]) → Below B w w' → w.heap.size < w'.heap.size → wpList Tryz.prog ops Q rest (a.put o.dst v') w') :
   wpList Tryz.prog ops Q (o :: rest) a (w.alloc (.cells #[.int .u8 n] 5)):=by
 obtain ⟨i0,hi,hz0,hz1,hz2⟩:=info_parts Tryz.infoU8
 refine wpList_append_own _ hgd s x 98 ho B 5 i0 (.int .u8 0) 1 1 Tryz.underlying98 hi hz0 hz1 hz2 rfl (by decide) v l.length _ hs (hown.alloc _) ⟨w.heap.size,0,none⟩ 1 1 [.int .u8 n] hx rfl ?_ ?_ ?_ ?_ ?_ ?_
 · intro j u hj
   have hj0 : j = 0:=by
     rcases j with _ | j
     · rfl
     · simp at hj
   subst hj0
   simp at hj;subst hj
   rw [show (⟨w.heap.size,0,none⟩ : Addr).add 0 = ⟨w.heap.size,0,none⟩ from rfl,World.cell?_alloc_at _ _ _ _ rfl];rfl
 · intro u hu;simp at hu;subst hu;rfl
 · unfold maxLen;omega
 · omega
 · simp;omega
 · intro v' w' hown' hg _
   refine h v' w' ?_ (((Below.refl B w).alloc hB _).trans ((Below.refl B _).grown hg (by simp;omega) (own_base hown))) (by have:=hg.size;simp at this;omega)
   have hn : (Value.int .u8 n) = .int .u8 ((UInt8.ofNat n.toNat).toNat : Int):=by
     rw [u8_back n h0 h1]
   rw [hn] at hown'
   unfold ownB
   simpa using hown'
theorem foldl_push (l : L) (r : ByteArray) : (l.map fun c => ((c.toNat : Nat) : Int)).foldl (fun (r : ByteArray) (n : Int) => r.push (UInt8.ofNat n.toNat)) r = ⟨r.data ++ l.toArray⟩:=by
 induction l generalizing r with
 | nil => simp
 | cons c l ih =>
   simp only [List.map_cons,List.foldl_cons]
   rw [ih]
   simp [ByteArray.push]
theorem convB {w : World} {B : Nat} {v : Value} {l : L} (h : ownB w B v l) : (Go.convert 98 9 v).run Tryz.prog w = .ok (.string ⟨l.toArray⟩) w:=by
 rcases h.2 with ⟨h1,h2⟩ | ⟨g,cap,cur,h1,h2,h3,h4,h5,h6,h7⟩
 · have hl : l = []:=List.eq_nil_of_length_eq_zero h2
   subst hl;subst h1
   rw [run_convert_bytes_string w _ _ 5 _ _ _ Tryz.underlying98 Tryz.underlying5 Tryz.underlying9]
   rfl
 · subst h1
   rw [run_convert_bytes_string w _ _ 5 _ _ _ Tryz.underlying98 Tryz.underlying5 Tryz.underlying9]
   rw [run_bytesToString w _ _ _ (l.map fun c => (c.toNat : Int)),foldl_push]
   · show Result.ok (Value.string ⟨#[] ++ l.toArray⟩) w = _
     simp
   · have hc := run_loadCells_list (P := Tryz.prog) (w := w) ⟨g, 0, none⟩ (l.map fun c => Value.int .u8 c.toNat) (by
       intro j u hj
       have:=World.ownsRow.cellAt (base:=B) (e:=5) (size:=1) (g:=g) (cap:=cap) (w:=w) (xs:=l.map fun c => Value.int .u8 c.toNat) (n:=l.length) ⟨h.1,.inr ⟨g,cap,cur,rfl,h2,h3,h4,h5,h6,h7⟩⟩ j (by
         have:=(List.getElem?_eq_some_iff.1 hj).1;simpa using this)
       rw [hj] at this
       rw [← this]
       cases j <;> simp [Addr.add])
     simpa [List.map_map,Function.comp_def] using hc
def bldB (w : World) (B : Nat) (l : L) : Prop:=Lib.IsBuilder 100 5 B B (Lib.byteCells l) w
theorem bldB_below {w w' : World} {B : Nat} {l : L} (h : bldB w B l) (hb : Below w.heap.size w w') : bldB w' B l:=by
 have key : ∀ p,Lib.BuilderAt 100 5 B B p (Lib.byteCells l) w → Lib.BuilderAt 100 5 B B p (Lib.byteCells l) w':=by
   rintro p h
   have hlt:=h.lt
   obtain ⟨h1,v,h2,h3,h4⟩:=h
   exact ⟨h1,v,by rw [hb.block B hlt];exact h2,World.ownsRow.kept h3 (row:=none) ⟨hb.os,hb.tape,hb.output,hb.size,fun k hk _ => hb.block k hk⟩ (Classical.em _),h4⟩
 rcases h with h | h
 · exact .inl (key _ h)
 · exact .inr (key _ h)
theorem bldB_fresh (w : World) : bldB (w.alloc (.cells #[.pointer none,.slice none 0 0] 100)) w.heap.size []:=Lib.fresh_isBuilder _ _ w
theorem bld_byte (B : Nat) (l : L) (n : Int) (h0 : 0 ≤ n) (h1 : n < 256) (w : World) (h : bldB w B l) (hl : l.length + 1 ≤ 140737488355328) (hB : B ≤ w.heap.size) :
   Calls Tryz.prog 173 #[.pointer (some ⟨B,0,none⟩),.int .u8 n] w fun e w' => e = .returned .nilIface ∧ bldB w' B (l ++ [UInt8.ofNat n.toNat]) ∧ Below B w w':=by
 refine (Tryz.Builder_WriteByte B B _ _ w h (by rw [Lib.byteCells_length];exact hl) hB).mono fun e w' ⟨g1,g2,g3⟩ => ⟨g1,.inr ?_,g3⟩
 rw [show Lib.byteCells (l ++ [UInt8.ofNat n.toNat]) = Lib.byteCells l ++ [.int .u8 n] by simp only [Lib.byteCells,List.map_append,List.map_cons,List.map_nil,u8_back n h0 h1]]
 exact g2
theorem bld_str (B : Nat) (l : L) (s : ByteArray) (w : World) (h : bldB w B l) (hl : l.length + s.size ≤ 140737488355328) (hB : B ≤ w.heap.size) :
   Calls Tryz.prog 52 #[.pointer (some ⟨B,0,none⟩),.string s] w fun e w' => e = .returned (.tuple #[.int .i64 s.size,.nilIface]) ∧ bldB w' B (l ++ s.data.toList) ∧ Below B w w':=by
 refine (Tryz.Builder_WriteString B B _ _ w h (by rw [Lib.byteCells_length];exact hl) hB).mono fun e w' ⟨h1,h2,h3⟩ => ⟨h1,.inr ?_,h3⟩
 simpa [Lib.byteCells,Lib.strCells] using h2
theorem bld_get (B : Nat) (l : L) (w : World) (h : bldB w B l) (hB : B ≤ w.heap.size) :
   Calls Tryz.prog 54 #[.pointer (some ⟨B,0,none⟩)] w fun e w' => e = .returned (.string ⟨l.toArray⟩) ∧ Below B w w' :=
 Tryz.Builder_String_any B B l w h hB
structure Enc (α : Type) where
 k : Nat
 cells : α → List Value
 len : ∀ x,(cells x).length = k
 one : ∀ x,∀ u ∈ cells x,u.oneCell' = true
variable {α : Type}
def Enc.row (E : Enc α) (xs : List α) : List Value:=xs.flatMap E.cells
theorem Enc.row_length (E : Enc α) (xs : List α) : (E.row xs).length = xs.length * E.k:=by
 induction xs with
 | nil => simp [Enc.row]
 | cons x xs ih =>
   show (E.cells x ++ E.row xs).length = _
   rw [List.length_append,E.len,ih,List.length_cons,Nat.succ_mul];omega
theorem Enc.row_at (E : Enc α) (xs : List α) (j : Nat) (hj : j < xs.length) (i : Nat) (hi : i < E.k) : (E.row xs)[j * E.k + i]? = (E.cells xs[j])[i]?:=by
 induction xs generalizing j with
 | nil => exact absurd hj (Nat.not_lt_zero _)
 | cons x xs ih =>
   have e : E.row (x :: xs) = E.cells x ++ E.row xs:=rfl
   match j with
   | 0 =>
     rw [e,Nat.zero_mul,Nat.zero_add,List.getElem?_append_left (by rw [E.len];exact hi)];rfl
   | j + 1 =>
     rw [e,List.getElem?_append_right (by rw [E.len,Nat.succ_mul];omega),E.len,show (j + 1) * E.k + i - E.k = j * E.k + i by rw [Nat.succ_mul];omega]
     exact ih j (by simpa using hj)
theorem Enc.row_append (E : Enc α) (xs ys : List α) : E.row (xs ++ ys) = E.row xs ++ E.row ys:=by
 unfold Enc.row;rw [List.flatMap_append]
def rownS (E : Enc α) (t : TypeId) (w : World) (B : Nat) (v : Value) (xs : List α) : Prop:=w.ownsRow B t E.k v xs.length (E.row xs)
variable {E : Enc α} {t : TypeId}
theorem rownS_nil (w : World) (B : Nat) : rownS E t w B (.slice none 0 0) []:=⟨by simp [Enc.row],.inl ⟨rfl,rfl⟩⟩
theorem rown_slice {w : World} {B n k : Nat} {t : TypeId} {v : Value} {xs : List Value} (h : w.ownsRow B t k v n xs) : ∃ p c,v = .slice p n c:=by
 rcases h.2 with ⟨rfl,h0⟩ | ⟨g,cap,cur,rfl,_⟩
 · exact ⟨none,0,by rw [h0]⟩
 · exact ⟨_,cap,rfl⟩
theorem rownS.below {w w' : World} {B : Nat} {v : Value} {xs : List α} (h : rownS E t w B v xs) (hb : Below w.heap.size w w') : rownS E t w' B v xs :=
 World.ownsRow.kept h (row:=none) ⟨hb.os,hb.tape,hb.output,hb.size,fun k hk _ => hb.block k hk⟩ (Classical.em _)
def RArg (E : Enc α) (w : World) (v : Value) (xs : List α) : Prop:=∃ p c,v = .slice p xs.length c ∧ ∀ j (hj : j < xs.length),∃ g off,p = some ⟨g,off,none⟩ ∧ g < w.heap.size ∧
 ∀ i u,(E.cells xs[j])[i]? = some u → w.cell? ⟨g,off + j * E.k + i,none⟩ = some u
theorem RArg.below {w w' : World} {v : Value} {xs : List α} (h : RArg E w v xs) (hb : Below w.heap.size w w') : RArg E w' v xs:=by
 obtain ⟨p,c,rfl,h⟩:=h
 refine ⟨p,c,rfl,fun k hk => ?_⟩
 obtain ⟨g,off,h1,h2,h3⟩:=h k hk
 have hz:=hb.size
 exact ⟨g,off,h1,by omega,fun i u hu => (World.cell?_of_block (hb.block g h2)).trans (h3 i u hu)⟩
theorem RArg.nil (w : World) : RArg E w (.slice none 0 0) []:=⟨none,0,rfl,fun k hk => absurd hk (Nat.not_lt_zero _)⟩
theorem rownS.arg {w : World} {B : Nat} {v : Value} {xs : List α} (h : rownS E t w B v xs) : RArg E w v xs:=by
 obtain ⟨p,c,rfl⟩:=rown_slice h
 have h0:=h
 rcases h.2 with ⟨h1,h2⟩ | ⟨g,cap,cur,h1,h2,h3,h4,h5,h6,h7⟩
 · exact ⟨p,c,rfl,fun k hk => by omega⟩
 · simp only [Value.slice.injEq] at h1
   obtain ⟨rfl,hl,rfl⟩:=h1
   refine ⟨_,_,rfl,fun k hk => ⟨g,0,rfl,(Array.getElem?_eq_some_iff.1 h3).1,fun i u hu => ?_⟩⟩
   have hi : i < E.k:=by have:=(List.getElem?_eq_some_iff.1 hu).1;rw [E.len] at this;exact this
   have hlt : k * E.k + i < xs.length * E.k:=by
     have : (k + 1) * E.k ≤ xs.length * E.k:=Nat.mul_le_mul_right _ hk
     rw [Nat.succ_mul] at this;omega
   have:=World.ownsRow.cellAt h0 (k * E.k + i) hlt
   rw [Nat.zero_add,this,E.row_at xs k hk i hi,hu]
theorem rappend {ops : Array Oper} {rest : List Oper} {o : Oper} {a : Act} {Q : Exit → Act → World → Prop} {w : World} (hgd : o.guard = none) (s x : Operand) {ts : TypeId}
   (ho : o.op = .call { callee:=.builtin .append,args:=#[s,x],argTypes:=#[ts,ts] }) (ht : Tryz.prog.underlying ts = some (.slice t))
   {z : Value} {by' : Nat} (hin : (Tryz.prog.info? t).map (fun i => (i.zero,i.size,i.bytes)) = some (some z,E.k,by')) (hzk : z.cells.size = E.k) (hk0 : 0 < E.k) (hby : by' ≤ 1000)
   (B : Nat) (v : Value) (xs : List α) (y : α) (hown : rownS E t w B v xs) (hs : a.eval s = v)
   (hx : a.eval x = .slice (some ⟨w.heap.size,0,none⟩) 1 1) (hlen : xs.length ≤ 1000000000) (hB : B ≤ w.heap.size)
   (h : ∀ p q w',rownS E t w' B (.slice p (xs.length + 1) q) (xs ++ [y]) → Below B w w' → w.heap.size < w'.heap.size → (w.alloc (.cells (E.cells y).toArray t)).grownBy w' v.ownBlock → wpList Tryz.prog ops Q rest (a.put o.dst (.slice p (xs.length + 1) q)) w') :
   wpList Tryz.prog ops Q (o :: rest) a (w.alloc (.cells (E.cells y).toArray t)):=by
 obtain ⟨i0,hi,hz0,hz1,hz2⟩:=info_parts hin
 refine wpList_append_own _ hgd s x ts ho B t i0 z E.k by' ht hi hz0 hz1 hz2 hzk hk0 v xs.length _ hs (World.ownsRow.alloc hown _) ⟨w.heap.size,0,none⟩ 1 1 (E.cells y) hx (by rw [E.len];omega) ?_ ?_ ?_ ?_ ?_ ?_
 · exact World.news_of_block (cs:=(E.cells y).toArray) (t:=t) (fr:=(0,0)) (heap_alloc_new w _)
 · exact E.one y
 · unfold maxLen;omega
 · exact Nat.le_trans (Nat.mul_le_mul_left _ hby) (by omega)
 · simp;omega
 · intro v' w' hown' hg _
   obtain ⟨p,q,rfl⟩:=rown_slice hown'
   refine h p q w' ?_ (((Below.refl B w).alloc hB _).trans ((Below.refl B _).grown hg (by simp;omega) (own_base hown))) (by have:=hg.size;simp at this;omega) hg
   unfold rownS
   rw [E.row_append,List.length_append]
   simpa [Enc.row] using hown'
def KeysAt (S : Nat → Prop) (w : World) (v : Value) (ks : List L) : Prop :=
 (ks = [] ∧ ∃ p c,v = .slice p 0 c) ∨
 ∃ b o c,v = .slice (some ⟨b,o,none⟩) ks.length c ∧ S b ∧ ∀ i (h : i < ks.length),w.cell? ⟨b,o + i,none⟩ = some (.string ⟨(ks[i]).toArray⟩)
def objCells (k n g : Int) (s : L) (kv dv : Value) : List Value:=[.int .i64 k,.int .i64 n,.int .i64 g,.string ⟨s.toArray⟩,kv,dv]
def ObjAt (S : Nat → Prop) : Nat → World → List Value → Ob → Prop
 | 0,_,_,_ => False
 | d + 1, w, cs, o => ∃ kv dv, cs = objCells o.kind o.n o.g o.s kv dv ∧ KeysAt S w kv o.keys ∧
     ((o.kids = [] ∧ ∃ p c,dv = .slice p 0 c) ∨
      ∃ b off c,dv = .slice (some ⟨b,off,none⟩) o.kids.length c ∧ S b ∧
        ∀ i (h : i < o.kids.length),∃ ks : List Value,ks.length = 6 ∧ (∀ j (hj : j < ks.length),w.cell? ⟨b,off + 6 * i + j,none⟩ = some ks[j]) ∧ ObjAt S d w ks o.kids[i])
theorem KeysAt.kept {S : Nat → Prop} {w w' : World} {v : Value} {ks : List L} (h : KeysAt S w v ks) (hk : ∀ b,S b → w'.heap[b]? = w.heap[b]?) : KeysAt S w' v ks:=by
 rcases h with h | ⟨b,o,c,h1,h2,h3⟩
 · exact .inl h
 · exact .inr ⟨b,o,c,h1,h2,fun i hi => (World.cell?_of_block (hk b h2)).trans (h3 i hi)⟩
theorem ObjAt.kept {S : Nat → Prop} {w w' : World} (hk : ∀ b,S b → w'.heap[b]? = w.heap[b]?) : ∀ (d : Nat) {cs : List Value} {o : Ob},ObjAt S d w cs o → ObjAt S d w' cs o
 | 0,_,_,h => h
 | d + 1,cs,o,h => by
   obtain ⟨kv,dv,h1,h2,h3⟩:=h
   refine ⟨kv,dv,h1,h2.kept hk,?_⟩
   rcases h3 with h3 | ⟨b,off,c,h4,h5,h6⟩
   · exact .inl h3
   · refine .inr ⟨b,off,c,h4,h5,fun i hi => ?_⟩
     obtain ⟨ks,g1,g2,g3⟩:=h6 i hi
     exact ⟨ks,g1,fun j hj => (World.cell?_of_block (hk b h5)).trans (g2 j hj),ObjAt.kept hk d g3⟩
theorem KeysAt.weaken {S S' : Nat → Prop} {w : World} {v : Value} {ks : List L} (h : KeysAt S w v ks) (hk : ∀ b,S b → b < w.heap.size → S' b) : KeysAt S' w v ks:=by
 rcases h with h | ⟨b,o,c,h1,h2,h3⟩
 · exact .inl h
 · by_cases he : ks = []
   · exact .inl ⟨he,_,_,by rw [h1,he];rfl⟩
   · have h0:=h3 0 (List.length_pos_iff.2 he)
     have hlt : b < w.heap.size:=by
       apply Classical.byContradiction;intro hn
       simp [World.cell?,Array.getElem?_eq_none (Nat.not_lt.1 hn)] at h0
     exact .inr ⟨b,o,c,h1,hk b h2 hlt,h3⟩
theorem ObjAt.weaken {S S' : Nat → Prop} {w : World} (hk : ∀ b,S b → b < w.heap.size → S' b) : ∀ (d : Nat) {cs : List Value} {o : Ob},ObjAt S d w cs o → ObjAt S' d w cs o
 | 0,_,_,h => h
 | d + 1,cs,o,h => by
   obtain ⟨kv,dv,h1,h2,h3⟩:=h
   refine ⟨kv,dv,h1,h2.weaken hk,?_⟩
   rcases h3 with h3 | ⟨b,off,c,h4,h5,h6⟩
   · exact .inl h3
   · by_cases he : o.kids = []
     · exact .inl ⟨he,_,_,by rw [h4,he];rfl⟩
     · obtain ⟨ks,g1,g2,_⟩:=h6 0 (List.length_pos_iff.2 he)
       have h0:=g2 0 (by omega)
       have hlt : b < w.heap.size:=by
         apply Classical.byContradiction;intro hn
         simp [World.cell?,Array.getElem?_eq_none (Nat.not_lt.1 hn)] at h0
       refine .inr ⟨b,off,c,h4,hk b h5 hlt,fun i hi => ?_⟩
       obtain ⟨ks,g1,g2,g3⟩:=h6 i hi
       exact ⟨ks,g1,g2,ObjAt.weaken hk d g3⟩
theorem ObjAt.up {S : Nat → Prop} {w : World} : ∀ (d : Nat) {cs : List Value} {o : Ob},ObjAt S d w cs o → ObjAt S (d + 1) w cs o
 | 0,_,_,h => h.elim
 | d + 1,cs,o,h => by
   obtain ⟨kv,dv,h1,h2,h3⟩:=h
   refine ⟨kv,dv,h1,h2,?_⟩
   rcases h3 with h3 | ⟨b,off,c,h4,h5,h6⟩
   · exact .inl h3
   · refine .inr ⟨b,off,c,h4,h5,fun i hi => ?_⟩
     obtain ⟨ks,g1,g2,g3⟩:=h6 i hi
     exact ⟨ks,g1,g2,ObjAt.up d g3⟩
theorem heap_new_at (w : World) (o : Go.Obj) (b : Nat) (h : b = w.heap.size) : (w.alloc o).heap[b]? = some o:=by subst h;exact heap_alloc_new w o
theorem six_of {w : World} {b : Nat} {t : TypeId} {v0 v1 v2 v3 v4 v5 : Value} (h : w.heap[b]? = some (.cells #[v0, v1, v2, v3, v4, v5] t (0, 0))) :
   w.cell? ⟨b,0,none⟩ = some v0 ∧ w.cell? ⟨b,1,none⟩ = some v1 ∧ w.cell? ⟨b,2,none⟩ = some v2 ∧ w.cell? ⟨b,3,none⟩ = some v3 ∧ w.cell? ⟨b,4,none⟩ = some v4 ∧ w.cell? ⟨b,5,none⟩ = some v5 ∧ ∀ o,w.frozen? ⟨b,o,none⟩ = false:=by
 simp [World.cell?,World.frozen?,h]
theorem own_slice {w : World} {B sz n : Nat} {e : TypeId} {v : Value} {xs : List Value} (h : w.ownsRow B e sz v n xs) : ∃ p c,v = .slice p n c:=by
 rcases h.2 with ⟨h1,h2⟩ | ⟨g,cap,cur,h1,_⟩
 · exact ⟨none,0,by rw [h1,h2]⟩
 · exact ⟨_,_,h1⟩
theorem ObjAt.shape {S : Nat → Prop} {d : Nat} {w : World} {cs : List Value} {o : Ob} (h : ObjAt S d w cs o) : ∃ p1 n1 c1 p2 n2 c2,cs = objCells o.kind o.n o.g o.s (.slice p1 n1 c1) (.slice p2 n2 c2):=by
 cases d with
 | zero => exact h.elim
 | succ d =>
   obtain ⟨kv,dv,h1,h2,h3⟩:=h
   have a1 : ∃ p n c,kv = .slice p n c:=by
     rcases h2 with ⟨_,p,c,h⟩ | ⟨b,o,c,h,_⟩
     · exact ⟨_,_,_,h⟩
     · exact ⟨_,_,_,h⟩
   have a2 : ∃ p n c,dv = .slice p n c:=by
     rcases h3 with ⟨_,p,c,h⟩ | ⟨b,o,c,h,_⟩
     · exact ⟨_,_,_,h⟩
     · exact ⟨_,_,_,h⟩
   obtain ⟨p1,n1,c1,rfl⟩:=a1
   obtain ⟨p2,n2,c2,rfl⟩:=a2
   exact ⟨p1,n1,c1,p2,n2,c2,h1⟩
theorem Tryz.infoOb : (Tryz.prog.info? 26).map (fun i => (i.zero,i.size,i.bytes)) = some (some (.agg #[.int .i64 0,.int .i64 0,.int .i64 0,.string ⟨#[]⟩,.slice none 0 0,.slice none 0 0]),6,88):=by kernel_rfl
theorem ObjAt.grow {S S' : Nat → Prop} {w w' : World} {d : Nat} {cs : List Value} {o : Ob} (h : ObjAt S d w cs o)
   (hk : ∀ b,S b → b < w.heap.size → S' b ∧ w'.heap[b]? = w.heap[b]?) : ObjAt S' d w' cs o :=
 (ObjAt.kept (S:=fun b => S' b ∧ w'.heap[b]? = w.heap[b]?) (fun b hb => hb.2) d (h.weaken (fun b h1 h2 => hk b h1 h2) d)).weaken (fun b h _ => h.1) d
def KidsAt (S : Nat → Prop) (d : Nat) (w : World) (css : List (List Value)) (acc : List Ob) : Prop :=
 css.length = acc.length ∧ ∀ (i : Nat) (cs : List Value) (o : Ob),css[i]? = some cs → acc[i]? = some o → cs.length = 6 ∧ ObjAt S d w cs o
theorem KidsAt.nil {S : Nat → Prop} {d : Nat} {w : World} : KidsAt S d w [] []:=⟨rfl,fun i cs o h => by simp at h⟩
theorem KidsAt.grow {S S' : Nat → Prop} {w w' : World} {d : Nat} {css : List (List Value)} {acc : List Ob} (h : KidsAt S d w css acc)
   (hk : ∀ b,S b → b < w.heap.size → S' b ∧ w'.heap[b]? = w.heap[b]?) : KidsAt S' d w' css acc :=
 ⟨h.1,fun i cs o h1 h2 => ⟨(h.2 i cs o h1 h2).1,(h.2 i cs o h1 h2).2.grow hk⟩⟩
theorem KidsAt.push {S : Nat → Prop} {w : World} {d : Nat} {css : List (List Value)} {acc : List Ob} {cs : List Value} {o : Ob} (h : KidsAt S d w css acc)
   (hl : cs.length = 6) (ho : ObjAt S d w cs o) : KidsAt S d w (css ++ [cs]) (acc ++ [o]):=by
 refine ⟨by simp [h.1],fun i c x h1 h2 => ?_⟩
 by_cases hi : i < css.length
 · rw [List.getElem?_append_left hi] at h1
   rw [List.getElem?_append_left (by rw [← h.1];exact hi)] at h2
   exact h.2 i c x h1 h2
 · rw [List.getElem?_append_right (by omega)] at h1
   rw [List.getElem?_append_right (by rw [← h.1];omega)] at h2
   have h0 : i - css.length = 0:=by
     have:=(List.getElem?_eq_some_iff.1 h1).1;simp at this;omega
   rw [h0] at h1
   rw [← h.1,h0] at h2
   simp at h1 h2
   subst h1;subst h2
   exact ⟨hl,ho⟩
theorem flat6 {css : List (List Value)} (h : ∀ cs ∈ css,cs.length = 6) : css.flatten.length = 6 * css.length:=by
 induction css with
 | nil => rfl
 | cons c css ih =>
   rw [List.flatten_cons,List.length_append,h c (by simp),ih (fun x hx => h x (by simp [hx])),List.length_cons];omega
theorem flat6_get {css : List (List Value)} (h : ∀ cs ∈ css,cs.length = 6) {i j : Nat} {cs : List Value} (hi : css[i]? = some cs) (hj : j < 6) : css.flatten[6 * i + j]? = cs[j]?:=by
 induction css generalizing i with
 | nil => simp at hi
 | cons c css ih =>
   rw [List.flatten_cons]
   have hc : c.length = 6:=h c (by simp)
   cases i with
   | zero =>
     simp at hi;subst hi
     rw [List.getElem?_append_left (by omega)];simp
   | succ i =>
     simp at hi
     rw [List.getElem?_append_right (by omega),hc,show 6 * (i + 1) + j - 6 = 6 * i + j by omega]
     exact ih (fun x hx => h x (by simp [hx])) hi
theorem KidsAt.six {S : Nat → Prop} {w : World} {d : Nat} {css : List (List Value)} {acc : List Ob} (h : KidsAt S d w css acc) : ∀ cs ∈ css,cs.length = 6:=by
 intro cs hcs
 obtain ⟨i,hi,rfl⟩:=List.mem_iff_getElem.1 hcs
 have hi2 : i < acc.length:=by rw [← h.1];exact hi
 exact (h.2 i _ acc[i] (List.getElem?_eq_getElem hi) (List.getElem?_eq_getElem hi2)).1
theorem kids_at {S S' : Nat → Prop} {w : World} {B d : Nat} {v : Value} {css : List (List Value)} {acc : List Ob} (h : w.ownsRow B 26 6 v acc.length css.flatten) (hk : KidsAt S d w css acc)
   (hS : ∀ b,S b → S' b) (hB : ∀ b,B ≤ b → S' b) :
   (acc = [] ∧ ∃ p c,v = .slice p 0 c) ∨ ∃ b off c,v = .slice (some ⟨b,off,none⟩) acc.length c ∧ S' b ∧
     ∀ i (h : i < acc.length),∃ ks : List Value,ks.length = 6 ∧ (∀ j (hj : j < ks.length),w.cell? ⟨b,off + 6 * i + j,none⟩ = some ks[j]) ∧ ObjAt S' d w ks acc[i]:=by
 rcases h.2 with ⟨h1,h2⟩ | ⟨g,cap,cur,h1,h2,h3⟩
 · exact .inl ⟨List.eq_nil_of_length_eq_zero h2,_,_,h1⟩
 · refine .inr ⟨g,0,cap,h1,hB g h2,fun i hi => ?_⟩
   have hi' : i < css.length:=by rw [hk.1];exact hi
   have hks:=hk.2 i css[i] acc[i] (List.getElem?_eq_getElem hi') (List.getElem?_eq_getElem hi)
   refine ⟨css[i],hks.1,fun j hj => ?_,hks.2.weaken (fun b hb _ => hS b hb) d⟩
   have hlen : 6 * i + j < acc.length * 6:=by have:=hks.1;omega
   have hcell:=World.ownsRow.cellAt (g:=g) (cap:=cap) (by rw [← h1];exact h) (6 * i + j) hlen
   rw [show 0 + 6 * i + j = 6 * i + j by omega,hcell,flat6_get hk.six (List.getElem?_eq_getElem hi') (by have:=hks.1;omega)]
   exact List.getElem?_eq_getElem hj
theorem objCells_one (o : Ob) (p1 : Option Addr) (n1 c1 : Nat) (p2 : Option Addr) (n2 c2 : Nat) : ∀ u ∈ objCells o.kind o.n o.g o.s (.slice p1 n1 c1) (.slice p2 n2 c2),u.oneCell' = true:=by
 intro u hu;simp [objCells] at hu;rcases hu with rfl | rfl | rfl | rfl | rfl | rfl <;> rfl
theorem set1_grown {a w : World} {b : Nat} (h : a.grownBy w (some b)) (o : Nat) (v : Value) : a.grownBy (w.setCell ⟨b,o,none⟩ v) (some b) :=
 ⟨h.os,h.tape,h.output,by simp [World.setCell];exact h.size,fun k h1 h2 => (Below.heap_setCell _ _ _ _ (fun hk => h2 (by rw [hk]))).trans (h.block k h1 h2)⟩
theorem set6_grown (w : World) (b o0 o1 o2 o3 o4 o5 : Nat) (v0 v1 v2 v3 v4 v5 : Value) :
   w.grownBy ((((((w.setCell ⟨b,o0,none⟩ v0).setCell ⟨b,o1,none⟩ v1).setCell ⟨b,o2,none⟩ v2).setCell ⟨b,o3,none⟩ v3).setCell ⟨b,o4,none⟩ v4).setCell ⟨b,o5,none⟩ v5) (some b) :=
 set1_grown (set1_grown (set1_grown (set1_grown (set1_grown (set1_grown ⟨rfl,rfl,rfl,Nat.le_refl _,fun _ _ _ => rfl⟩ _ _) _ _) _ _) _ _) _ _) _ _
theorem flat_set {css : List (List Value)} {i : Nat} {u0 u1 u2 u3 u4 u5 : Value} (h : ∀ cs ∈ css, cs.length = 6) (hi : i < css.length) :
   ((((((css.flatten.set (6 * i) u0).set (6 * i + 1) u1).set (6 * i + 2) u2).set (6 * i + 3) u3).set (6 * i + 4) u4).set (6 * i + 5) u5) = (css.set i [u0,u1,u2,u3,u4,u5]).flatten:=by
 induction css generalizing i with
 | nil => simp at hi
 | cons c css ih =>
   have hc : c.length = 6:=h c (by simp)
   cases i with
   | zero =>
     obtain ⟨a0,a1,a2,a3,a4,a5,rfl⟩ : ∃ a0 a1 a2 a3 a4 a5,c = [a0,a1,a2,a3,a4,a5]:=by
       match c,hc with
       | [a0,a1,a2,a3,a4,a5],_ => exact ⟨_,_,_,_,_,_,rfl⟩
     simp
   | succ i =>
     have:=ih (i:=i) (fun x hx => h x (by simp [hx])) (by simpa using hi)
     rw [List.set_cons_succ,List.flatten_cons,List.flatten_cons,← this]
     have key : ∀ (l : List Value) (j : Nat) (u : Value),(c ++ l).set (6 * (i + 1) + j) u = c ++ l.set (6 * i + j) u:=fun l j u => by
       rw [List.set_append_right _ _ (by omega),hc,show 6 * (i + 1) + j - 6 = 6 * i + j by omega]
     have key0 : ∀ (l : List Value) (u : Value),(c ++ l).set (6 * (i + 1)) u = c ++ l.set (6 * i) u:=fun l u => key l 0 u
     rw [key0,key,key,key,key,key]
theorem flat_set' {css : List (List Value)} {i : Nat} {u0 u1 u2 u3 u4 u5 : Value} (h : ∀ cs ∈ css, cs.length = 6) (hi : i < css.length) :
   ((((((css.flatten.set (i * 6) u0).set (i * 6 + 1) u1).set (i * 6 + 2) u2).set (i * 6 + 3) u3).set (i * 6 + 4) u4).set (i * 6 + 5) u5) = (css.set i [u0,u1,u2,u3,u4,u5]).flatten:=by
 have:=flat_set (u0:=u0) (u1:=u1) (u2:=u2) (u3:=u3) (u4:=u4) (u5:=u5) h hi
 rw [Nat.mul_comm 6 i] at this
 exact this
theorem set_six {w : World} {b : Nat} {t : TypeId} {a0 a1 a2 a3 a4 a5 v0 v1 v2 v3 v4 v5 : Value} (h : w.heap[b]? = some (.cells #[a0, a1, a2, a3, a4, a5] t (0, 0))) :
   ((((((w.setCell ⟨b,0,none⟩ v0).setCell ⟨b,1,none⟩ v1).setCell ⟨b,2,none⟩ v2).setCell ⟨b,3,none⟩ v3).setCell ⟨b,4,none⟩ v4).setCell ⟨b,5,none⟩ v5).heap[b]? = some (.cells #[v0,v1,v2,v3,v4,v5] t (0,0)):=by
 have hlt:=lt_of_block h
 have h' : w.heap[b] = .cells #[a0,a1,a2,a3,a4,a5] t (0,0):=by simpa [Array.getElem?_eq_getElem hlt] using h
 simp only [World.setCell,Array.getElem?_modify]
 simp [h]
theorem set_fifth {w : World} {b : Nat} {t : TypeId} {v0 v1 v2 v3 v4 v5 v : Value} (h : w.heap[b]? = some (.cells #[v0, v1, v2, v3, v4, v5] t (0, 0))) :
   (w.setCell ⟨b,5,none⟩ v).heap[b]? = some (.cells #[v0,v1,v2,v3,v4,v] t (0,0)):=by
 have hlt:=lt_of_block h
 have h' : w.heap[b] = .cells #[v0,v1,v2,v3,v4,v5] t (0,0):=by simpa [Array.getElem?_eq_getElem hlt] using h
 simp only [World.setCell,Array.getElem?_modify]
 simp [h]
theorem set_fourth {w : World} {b : Nat} {t : TypeId} {v0 v1 v2 v3 v4 v5 v : Value} (h : w.heap[b]? = some (.cells #[v0, v1, v2, v3, v4, v5] t (0, 0))) :
   (w.setCell ⟨b,4,none⟩ v).heap[b]? = some (.cells #[v0,v1,v2,v3,v,v5] t (0,0)):=by
 have hlt:=lt_of_block h
 have h' : w.heap[b] = .cells #[v0,v1,v2,v3,v4,v5] t (0,0):=by simpa [Array.getElem?_eq_getElem hlt] using h
 simp only [World.setCell,Array.getElem?_modify]
 simp [h]
end Go.Proofs.YtfgdhcemidlnfaaGreatDoor
