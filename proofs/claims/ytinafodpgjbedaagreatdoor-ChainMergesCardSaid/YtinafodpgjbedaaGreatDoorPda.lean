/- Parts of the proof: Spec Shelf ShelfB Oct Lib Row Obj ObjAt KidA SetA LexA. -/
import Derived.Shelf.Strings.Builder1
import Derived.Shelf.Strings.Builder2
import Derived.Shelf.Strings.Trim
import Derived.Shelf.Small.Utf8
import Derived.Shelf.Small.Bits
import Derived.Shelf.Small.Strs
import Derived.Shelf.Strings.BuilderF
import Derived.Shelf.Strings.BuilderK
import Derived.Shelf.Strconv.Itoa0
import Derived.Shelf.Strings.Search1
import Derived.Shelf.Strings.Search2
import Derived.Shelf.Strings.Search3
import Derived.Shelf.Strings.Cut
import Derived.Shelf.LaysM
import Derived.Shelf.Strings.Shaped
import Derived.Shelf.Sort.Plain
import Derived.Shelf.Strings.Prefix
import Derived.Shelf.Strings.Runes
import Derived.Shelf.Strings.AsciiSet
import Derived.Shelf.Bits.Mul64
import Derived.Shelf.Strings.Repeat
import Derived.Shelf.Unicode.DecodeSlow
import Derived.Shelf.Slices.Turned
import Derived.Ground.Names2Prog
import Derived.Shelf.Slices.Clone
import Derived.Shelf.Slices.SearchI
import Derived.Shelf.Slices.Delete
import Derived.Shelf.Slices.Cells
import Derived.Shelf.Slices.In.SortNone
import Derived.Shelf.Slices.Empties
import Derived.Test.YtinafodpgjbedaaGreatDoorProg
import Derived.Shelf.Strings.SlTrimAscii
import Derived.Test.YtinafodpgjbedaaGreatDoorRows
import Derived.WalkKit
import Derived.WalkSpells
import Derived.WalkLawsBesides
import Derived.Lib.Hide
import Derived.OneCell
import Derived.Deep.DeepFit
import Derived.Deep.LoopGhost
import Derived.Deep.AppendLies
import Derived.Deep.QuietTactic
import Derived.BigQuiet
set_option linter.all false
set_option maxRecDepth 100000
set_option maxHeartbeats 8000000
namespace Fo
abbrev L:=List UInt8
def white (c : UInt8) : Bool:=c == 0 || c == 9 || c == 10 || c == 12 || c == 13 || c == 32
def delim (c : UInt8) : Bool:=c == 40 || c == 41 || c == 60 || c == 62 || c == 91 || c == 93 || c == 123 || c == 125 || c == 47 || c == 37
def regular (c : UInt8) : Bool:=!white c && !delim c
def eol (c : UInt8) : Bool:=c == 13 || c == 10
def digit (c : Nat) : Int :=
 if 48 ≤ c ∧ c ≤ 57 then c - 48 else if 65 ≤ c ∧ c ≤ 70 then c - 65 + 10 else if 97 ≤ c ∧ c ≤ 102 then c - 97 + 10 else -1
def hexv (c : UInt8) : Int:=digit c.toNat
def skipN : Bool → L → Nat
 | _,[] => 0
 | true,c :: l => skipN (!eol c) l + 1
 | false,c :: l => if c == 37 then skipN true l + 1 else if white c then skipN false l + 1 else 0
def lineN : L → Nat
 | [] => 0
 | 13 :: 10 :: _ => 2
 | c :: l => if eol c then 1 else lineN l + 1
def regN : L → Nat
 | [] => 0
 | c :: l => if regular c then regN l + 1 else 0
structure Tok where
 kind : Int
 len : Nat
 n : Int
 s : L
inductive Res (α : Type) where
 | bad (e : Int)
 | good (a : α)
def told (kind : Int) (len : Nat) (text : L) (most : Nat) : Res Tok :=
 if most < text.length then .bad 5 else .good ⟨kind,len,0,text⟩
def nameS : L → Nat → L → Res L
 | acc,_,[] => .good acc
 | acc,k + 1,_ :: l => nameS acc k l
 | acc,0,c :: l =>
   if c == 35 then
     match l with
     | a :: b :: _ => if hexv a < 0 ∨ hexv b < 0 ∨ 16 * hexv a + hexv b = 0 then .bad 3 else nameS (acc ++ [UInt8.ofNat (16 * hexv a + hexv b).toNat]) 2 l
     | _ => .bad 3
   else nameS (acc ++ [c]) 0 l
def nameOf (n : Nat) : Res L → Res Tok
 | .bad e => .bad e
 | .good x => told 4 (n + 1) x 127
def nameT (l : L) : Res Tok:=nameOf (regN l) (nameS [] 0 (l.take (regN l)))
def strOf : Res (L × Nat) → Res Tok
 | .bad e => .bad e
 | .good x => told 3 (x.2 + 1) x.1 32767
def oct (c : UInt8) : Bool:=48 ≤ c && c ≤ 55
def octN : Nat → Nat → Nat → L → Nat × Nat
 | 0,v,n,_ => (v,n)
 | _ + 1,v,n,[] => (v,n)
 | k + 1,v,n,c :: l => if oct c then octN k (8 * v + (c.toNat - 48)) (n + 1) l else (v,n)
def esc : L → L × Nat
 | [] => ([],0)
 | c :: l =>
   if c == 110 then ([10],1) else if c == 114 then ([13],1) else if c == 116 then ([9],1) else if c == 98 then ([8],1) else if c == 102 then ([12],1)
   else if eol c then ([],lineN (c :: l))
   else if (octN 3 0 0 (c :: l)).2 = 0 then ([c],1) else ([UInt8.ofNat (octN 3 0 0 (c :: l)).1],(octN 3 0 0 (c :: l)).2)
def textS : L → Nat → Nat → Nat → L → Res (L × Nat)
 | _,_,_,_,[] => .bad 4
 | acc,n,op,k + 1,_ :: l => textS acc (n + 1) op k l
 | acc,n,op,0,c :: l =>
   if eol c then textS (acc ++ [10]) (n + 1) op (lineN (c :: l) - 1) l
   else if c == 92 then (if l = [] then .bad 4 else textS (acc ++ (esc l).1) (n + 1) op (esc l).2 l)
   else if c == 40 then textS (acc ++ [c]) (n + 1) (op + 1) 0 l
   else if c == 41 then (if op = 1 then .good (acc,n + 1) else textS (acc ++ [c]) (n + 1) (op - 1) 0 l)
   else textS (acc ++ [c]) (n + 1) op 0 l
def textT (l : L) : Res Tok:=strOf (textS [] 0 1 0 l)
def hexS : L → Nat → Int → L → Res (L × Nat)
 | _,_,_,[] => .bad 4
 | acc,n,half,c :: l =>
   if c == 62 then .good (if 0 ≤ half then acc ++ [UInt8.ofNat (16 * half).toNat] else acc,n + 1)
   else if white c then hexS acc (n + 1) half l
   else if hexv c < 0 then .bad 3
   else if half < 0 then hexS acc (n + 1) (hexv c) l
   else hexS (acc ++ [UInt8.ofNat (16 * half + hexv c).toNat]) (n + 1) (-1) l
def hexT (l : L) : Res Tok:=strOf (hexS [] 0 (-1) l)
def isDig (c : UInt8) : Bool:=48 ≤ c && c ≤ 57
def sign (c : UInt8) : Bool:=c == 43 || c == 45
def allDig (l : L) : Bool:=l.all isDig
def unsigned : L → L
 | [] => []
 | c :: l => if sign c then l else c :: l
def isInt (l : L) : Bool:=!(unsigned l).isEmpty && allDig (unsigned l)
def val (l : L) : Nat:=l.foldl (fun v c => 10 * v + (c.toNat - 48)) 0
def minus (l : L) : Bool:=l.head? == some 45
def wholeV (l : L) : Res Int :=
 if 2147483647 < val (unsigned l) then .bad 2 else .good (if minus l then -(val (unsigned l) : Int) else val (unsigned l))
def preDot (l : L) : L:=l.takeWhile (· != 46)
def postDot (l : L) : L:=(l.dropWhile (· != 46)).drop 1
def atHalf (l : L) : Bool:=match l with | [] => false | c :: _ => 53 ≤ c
def overHalf (l : L) : Bool:=match l with | [] => false | c :: r => 53 < c || (c == 53 && r.any (· != 48))
def part4 (l : L) : L:=(l ++ [48,48,48,48]).take 4
def fixV (l : L) : Res Int :=
 if 40 < l.length then .bad 3
 else if (preDot (unsigned l) ++ postDot (unsigned l)).isEmpty then .bad 3
 else if !allDig (preDot (unsigned l)) || !allDig (postDot (unsigned l)) then .bad 3
 else
   let m:=val (preDot (unsigned l) ++ part4 (postDot (unsigned l)))
   let m:=if (if minus l then overHalf ((postDot (unsigned l)).drop 4) else atHalf ((postDot (unsigned l)).drop 4)) then m + 1 else m
   if 1073741824 < m then .bad 2 else .good (if minus l then -(m : Int) else m)
def wordT (r : L) : Res Tok :=
 if isInt r then (match wholeV r with | .bad e => .bad e | .good n => .good ⟨1,r.length,n,[]⟩)
 else if r.contains 46 then
   (match fixV r with
     | .good n => .good ⟨2,r.length,n,[]⟩
     | .bad 2 => .bad 2
     | .bad _ => told 5 r.length r 127)
 else told 5 r.length r 127
def tokT : L → Res Tok
 | [] => .bad 0
 | c :: l =>
   if c == 91 || c == 93 || c == 123 || c == 125 then .good ⟨6,1,0,[c]⟩
   else if c == 60 then (if l.head? = some 60 then .good ⟨6,2,0,[60,60]⟩ else hexT l)
   else if c == 62 then (if l.head? = some 62 then .good ⟨6,2,0,[62,62]⟩ else .bad 3)
   else if c == 47 then nameT l
   else if c == 40 then textT l
   else if c == 41 then .bad 3
   else wordT ((c :: l).take (regN (c :: l)))
def nextT (l : L) : Nat × Res Tok :=
 (skipN false l,if l.drop (skipN false l) = [] then .good ⟨0,0,0,[]⟩ else tokT (l.drop (skipN false l)))
end Fo
namespace Go.Proofs
open Go.Shelf
def Tryz.lays169_ren : Go.Shelf.Ren:=⟨fun | 169 => 163 | n => n,fun | 70 => 218 | 9 => 9 | 0 => 0 | 72 => 220 | 37 => 215 | 127 => 252 | 3 => 3 | 5 => 5 | n => n,fun | n => n⟩
theorem Tryz.lays169 : Go.Proofs.Lays.n169 Tryz.prog Tryz.lays169_ren:={
 mixed:=by kernel_rfl
 f169:=Tryz.func163.trans (congrArg some (by kernel_rfl))
 t0:=Tryz.underlying0
 a0:=Tryz.isAgg0
 z0:=Tryz.sizeOf0
 v0:=Tryz.zeroValue0
 t3:=Tryz.underlying3
 a3:=Tryz.isAgg3
 z3:=Tryz.sizeOf3
 v3:=Tryz.zeroValue3
 t9:=Tryz.underlying9
 a9:=Tryz.isAgg9
 z9:=Tryz.sizeOf9
 v9:=Tryz.zeroValue9
 t37:=Tryz.underlying215
 a37:=Tryz.isAgg215
 z37:=Tryz.sizeOf215
 v37:=Tryz.zeroValue215
 t70:=Tryz.underlying218
 a70:=Tryz.isAgg218
 z70:=Tryz.sizeOf218
 v70:=Tryz.zeroValue218
 t72:=Tryz.underlying220
 a72:=Tryz.isAgg220
 z72:=Tryz.sizeOf220
 v72:=Tryz.zeroValue220
 t127:=Tryz.underlying252
 a127:=Tryz.isAgg252
 z127:=Tryz.sizeOf252
 v127:=Tryz.zeroValue252 }
theorem Tryz.Builder_Extra_169 : Builder.Extra Tryz.prog Tryz.lays169_ren:={
 sizeBuilder:=by kernel_rfl
 liesBuilder:=by kernel_rfl
 t5:=Tryz.underlying5
 a5:=Tryz.isAgg5
 z5:=Tryz.sizeOf5
 v5:=Tryz.zeroValue5
 infoByte:=by kernel_rfl
 cellsByte:=by kernel_rfl
 sizeByte:=by kernel_rfl
 neB5:=by decide }
open Go.RowKit in
theorem Tryz.Builder_String_any (B b : Nat) (l : List UInt8) (w : World) (h : Lib.IsBuilder 220 5 B b (Lib.byteCells l) w) (hBw : B ≤ w.heap.size) :
   Calls Tryz.prog 163 #[.pointer (some ⟨b,0,none⟩)] w fun e w' => e = .returned (.string ⟨l.toArray⟩) ∧ Below B w w':=Any.Builder_String_any Tryz.lays169 Tryz.Builder_Extra_169 B b l w h hBw
def Tryz.lays161_ren : Go.Shelf.Ren:=⟨fun | 161 => 198 | 231 => 237 | 227 => 238 | 233 => 239 | 235 => 240 | 228 => 264 | 197 => 265 | 151 => 266 | 260 => 293 | 152 => 294 | 137 => 147 | 119 => 327 | 224 => 297 | 225 => 296 | 217 => 184 | 266 => 230 | n => n,fun | 9 => 9 | 4 => 4 | 3 => 3 | 5 => 5 | 117 => 291 | 116 => 290 | 0 => 0 | 124 => 294 | 105 => 319 | 21 => 21 | 119 => 385 | 46 => 114 | 139 => 388 | 138 => 387 | n => n,fun | 3 => 2 | 4 => 3 | n => n⟩
theorem Tryz.lays161 : Go.Proofs.Lays.n161 Tryz.prog Tryz.lays161_ren:={
 mixed:=by kernel_rfl
 f119:=Tryz.func327.trans (congrArg some (by kernel_rfl))
 f137:=Tryz.func147.trans (congrArg some (by kernel_rfl))
 f151:=Tryz.func266.trans (congrArg some (by kernel_rfl))
 f152:=Tryz.func294.trans (congrArg some (by kernel_rfl))
 f161:=Tryz.func198.trans (congrArg some (by kernel_rfl))
 f197:=Tryz.func265.trans (congrArg some (by kernel_rfl))
 f217:=Tryz.func184.trans (congrArg some (by kernel_rfl))
 f224:=Tryz.func297.trans (congrArg some (by kernel_rfl))
 f225:=Tryz.func296.trans (congrArg some (by kernel_rfl))
 f227:=Tryz.func238.trans (congrArg some (by kernel_rfl))
 f228:=Tryz.func264.trans (congrArg some (by kernel_rfl))
 f231:=Tryz.func237.trans (congrArg some (by kernel_rfl))
 f233:=Tryz.func239.trans (congrArg some (by kernel_rfl))
 f235:=Tryz.func240.trans (congrArg some (by kernel_rfl))
 f260:=Tryz.func293.trans (congrArg some (by kernel_rfl))
 f266:=Tryz.func230.trans (congrArg some (by kernel_rfl))
 t0:=Tryz.underlying0
 a0:=Tryz.isAgg0
 z0:=Tryz.sizeOf0
 v0:=Tryz.zeroValue0
 t3:=Tryz.underlying3
 a3:=Tryz.isAgg3
 z3:=Tryz.sizeOf3
 v3:=Tryz.zeroValue3
 t4:=Tryz.underlying4
 a4:=Tryz.isAgg4
 z4:=Tryz.sizeOf4
 v4:=Tryz.zeroValue4
 t5:=Tryz.underlying5
 a5:=Tryz.isAgg5
 z5:=Tryz.sizeOf5
 v5:=Tryz.zeroValue5
 t9:=Tryz.underlying9
 a9:=Tryz.isAgg9
 z9:=Tryz.sizeOf9
 v9:=Tryz.zeroValue9
 t21:=Tryz.underlying21
 a21:=Tryz.isAgg21
 z21:=Tryz.sizeOf21
 v21:=Tryz.zeroValue21
 t46:=Tryz.underlying114
 a46:=Tryz.isAgg114
 z46:=Tryz.sizeOf114
 v46:=Tryz.zeroValue114
 t105:=Tryz.underlying319
 a105:=Tryz.isAgg319
 z105:=Tryz.sizeOf319
 v105:=Tryz.zeroValue319
 t116:=Tryz.underlying290
 a116:=Tryz.isAgg290
 z116:=Tryz.sizeOf290
 t117:=Tryz.underlying291
 a117:=Tryz.isAgg291
 z117:=Tryz.sizeOf291
 v117:=Tryz.zeroValue291
 t119:=Tryz.underlying385
 a119:=Tryz.isAgg385
 z119:=Tryz.sizeOf385
 t124:=Tryz.underlying294
 a124:=Tryz.isAgg294
 z124:=Tryz.sizeOf294
 v124:=Tryz.zeroValue294
 t138:=Tryz.underlying387
 a138:=Tryz.isAgg387
 z138:=Tryz.sizeOf387
 v138:=Tryz.zeroValue387
 t139:=Tryz.underlying388
 a139:=Tryz.isAgg388
 z139:=Tryz.sizeOf388
 v139:=Tryz.zeroValue388
 g3:=by kernel_rfl
 g4:=by kernel_rfl }
def Tryz.lays162_ren : Go.Shelf.Ren:=⟨fun | 162 => 204 | 232 => 241 | 227 => 238 | 234 => 242 | 236 => 243 | 228 => 264 | 271 => 267 | 151 => 266 | 120 => 295 | 197 => 265 | 152 => 294 | 260 => 293 | 137 => 147 | 119 => 327 | 224 => 297 | 225 => 296 | 217 => 184 | 266 => 230 | n => n,fun | 9 => 9 | 4 => 4 | 3 => 3 | 5 => 5 | 117 => 291 | 116 => 290 | 0 => 0 | 124 => 294 | 21 => 21 | 105 => 319 | 46 => 114 | 119 => 385 | 139 => 388 | 138 => 387 | n => n,fun | 3 => 2 | 4 => 3 | n => n⟩
theorem Tryz.lays162 : Go.Proofs.Lays.n162 Tryz.prog Tryz.lays162_ren:={
 mixed:=by kernel_rfl
 f119:=Tryz.func327.trans (congrArg some (by kernel_rfl))
 f120:=Tryz.func295.trans (congrArg some (by kernel_rfl))
 f137:=Tryz.func147.trans (congrArg some (by kernel_rfl))
 f151:=Tryz.func266.trans (congrArg some (by kernel_rfl))
 f152:=Tryz.func294.trans (congrArg some (by kernel_rfl))
 f162:=Tryz.func204.trans (congrArg some (by kernel_rfl))
 f197:=Tryz.func265.trans (congrArg some (by kernel_rfl))
 f217:=Tryz.func184.trans (congrArg some (by kernel_rfl))
 f224:=Tryz.func297.trans (congrArg some (by kernel_rfl))
 f225:=Tryz.func296.trans (congrArg some (by kernel_rfl))
 f227:=Tryz.func238.trans (congrArg some (by kernel_rfl))
 f228:=Tryz.func264.trans (congrArg some (by kernel_rfl))
 f232:=Tryz.func241.trans (congrArg some (by kernel_rfl))
 f234:=Tryz.func242.trans (congrArg some (by kernel_rfl))
 f236:=Tryz.func243.trans (congrArg some (by kernel_rfl))
 f260:=Tryz.func293.trans (congrArg some (by kernel_rfl))
 f266:=Tryz.func230.trans (congrArg some (by kernel_rfl))
 f271:=Tryz.func267.trans (congrArg some (by kernel_rfl))
 t0:=Tryz.underlying0
 a0:=Tryz.isAgg0
 z0:=Tryz.sizeOf0
 v0:=Tryz.zeroValue0
 t3:=Tryz.underlying3
 a3:=Tryz.isAgg3
 z3:=Tryz.sizeOf3
 v3:=Tryz.zeroValue3
 t4:=Tryz.underlying4
 a4:=Tryz.isAgg4
 z4:=Tryz.sizeOf4
 v4:=Tryz.zeroValue4
 t5:=Tryz.underlying5
 a5:=Tryz.isAgg5
 z5:=Tryz.sizeOf5
 v5:=Tryz.zeroValue5
 t9:=Tryz.underlying9
 a9:=Tryz.isAgg9
 z9:=Tryz.sizeOf9
 v9:=Tryz.zeroValue9
 t21:=Tryz.underlying21
 a21:=Tryz.isAgg21
 z21:=Tryz.sizeOf21
 v21:=Tryz.zeroValue21
 t46:=Tryz.underlying114
 a46:=Tryz.isAgg114
 z46:=Tryz.sizeOf114
 v46:=Tryz.zeroValue114
 t105:=Tryz.underlying319
 a105:=Tryz.isAgg319
 z105:=Tryz.sizeOf319
 v105:=Tryz.zeroValue319
 t116:=Tryz.underlying290
 a116:=Tryz.isAgg290
 z116:=Tryz.sizeOf290
 t117:=Tryz.underlying291
 a117:=Tryz.isAgg291
 z117:=Tryz.sizeOf291
 v117:=Tryz.zeroValue291
 t119:=Tryz.underlying385
 a119:=Tryz.isAgg385
 z119:=Tryz.sizeOf385
 t124:=Tryz.underlying294
 a124:=Tryz.isAgg294
 z124:=Tryz.sizeOf294
 v124:=Tryz.zeroValue294
 t138:=Tryz.underlying387
 a138:=Tryz.isAgg387
 z138:=Tryz.sizeOf387
 v138:=Tryz.zeroValue387
 t139:=Tryz.underlying388
 a139:=Tryz.isAgg388
 z139:=Tryz.sizeOf388
 v139:=Tryz.zeroValue388
 g3:=by kernel_rfl
 g4:=by kernel_rfl }
def Tryz.lays160_ren : Go.Shelf.Ren:=⟨fun | 160 => 199 | 232 => 241 | 231 => 237 | 227 => 238 | 234 => 242 | 233 => 239 | 236 => 243 | 235 => 240 | 228 => 264 | 271 => 267 | 151 => 266 | 197 => 265 | 120 => 295 | 152 => 294 | 260 => 293 | 137 => 147 | 119 => 327 | 224 => 297 | 225 => 296 | 217 => 184 | 266 => 230 | n => n,fun | 9 => 9 | 4 => 4 | 3 => 3 | 5 => 5 | 117 => 291 | 116 => 290 | 0 => 0 | 124 => 294 | 21 => 21 | 105 => 319 | 46 => 114 | 119 => 385 | 139 => 388 | 138 => 387 | n => n,fun | 3 => 2 | 4 => 3 | n => n⟩
theorem Tryz.lays160 : Go.Proofs.Lays.n160 Tryz.prog Tryz.lays160_ren:={
 mixed:=by kernel_rfl
 f119:=Tryz.func327.trans (congrArg some (by kernel_rfl))
 f120:=Tryz.func295.trans (congrArg some (by kernel_rfl))
 f137:=Tryz.func147.trans (congrArg some (by kernel_rfl))
 f151:=Tryz.func266.trans (congrArg some (by kernel_rfl))
 f152:=Tryz.func294.trans (congrArg some (by kernel_rfl))
 f160:=Tryz.func199.trans (congrArg some (by kernel_rfl))
 f197:=Tryz.func265.trans (congrArg some (by kernel_rfl))
 f217:=Tryz.func184.trans (congrArg some (by kernel_rfl))
 f224:=Tryz.func297.trans (congrArg some (by kernel_rfl))
 f225:=Tryz.func296.trans (congrArg some (by kernel_rfl))
 f227:=Tryz.func238.trans (congrArg some (by kernel_rfl))
 f228:=Tryz.func264.trans (congrArg some (by kernel_rfl))
 f231:=Tryz.func237.trans (congrArg some (by kernel_rfl))
 f232:=Tryz.func241.trans (congrArg some (by kernel_rfl))
 f233:=Tryz.func239.trans (congrArg some (by kernel_rfl))
 f234:=Tryz.func242.trans (congrArg some (by kernel_rfl))
 f235:=Tryz.func240.trans (congrArg some (by kernel_rfl))
 f236:=Tryz.func243.trans (congrArg some (by kernel_rfl))
 f260:=Tryz.func293.trans (congrArg some (by kernel_rfl))
 f266:=Tryz.func230.trans (congrArg some (by kernel_rfl))
 f271:=Tryz.func267.trans (congrArg some (by kernel_rfl))
 t0:=Tryz.underlying0
 a0:=Tryz.isAgg0
 z0:=Tryz.sizeOf0
 v0:=Tryz.zeroValue0
 t3:=Tryz.underlying3
 a3:=Tryz.isAgg3
 z3:=Tryz.sizeOf3
 v3:=Tryz.zeroValue3
 t4:=Tryz.underlying4
 a4:=Tryz.isAgg4
 z4:=Tryz.sizeOf4
 v4:=Tryz.zeroValue4
 t5:=Tryz.underlying5
 a5:=Tryz.isAgg5
 z5:=Tryz.sizeOf5
 v5:=Tryz.zeroValue5
 t9:=Tryz.underlying9
 a9:=Tryz.isAgg9
 z9:=Tryz.sizeOf9
 v9:=Tryz.zeroValue9
 t21:=Tryz.underlying21
 a21:=Tryz.isAgg21
 z21:=Tryz.sizeOf21
 v21:=Tryz.zeroValue21
 t46:=Tryz.underlying114
 a46:=Tryz.isAgg114
 z46:=Tryz.sizeOf114
 v46:=Tryz.zeroValue114
 t105:=Tryz.underlying319
 a105:=Tryz.isAgg319
 z105:=Tryz.sizeOf319
 v105:=Tryz.zeroValue319
 t116:=Tryz.underlying290
 a116:=Tryz.isAgg290
 z116:=Tryz.sizeOf290
 t117:=Tryz.underlying291
 a117:=Tryz.isAgg291
 z117:=Tryz.sizeOf291
 v117:=Tryz.zeroValue291
 t119:=Tryz.underlying385
 a119:=Tryz.isAgg385
 z119:=Tryz.sizeOf385
 t124:=Tryz.underlying294
 a124:=Tryz.isAgg294
 z124:=Tryz.sizeOf294
 v124:=Tryz.zeroValue294
 t138:=Tryz.underlying387
 a138:=Tryz.isAgg387
 z138:=Tryz.sizeOf387
 v138:=Tryz.zeroValue387
 t139:=Tryz.underlying388
 a139:=Tryz.isAgg388
 z139:=Tryz.sizeOf388
 v139:=Tryz.zeroValue388
 g3:=by kernel_rfl
 g4:=by kernel_rfl }
def Tryz.lays137_ren : Go.Shelf.Ren:=⟨fun | 137 => 147 | 217 => 184 | 266 => 230 | n => n,fun | 9 => 9 | 5 => 5 | 3 => 3 | n => n,fun | n => n⟩
theorem Tryz.lays137 : Go.Proofs.Lays.n137 Tryz.prog Tryz.lays137_ren:={
 mixed:=by kernel_rfl
 f137:=Tryz.func147.trans (congrArg some (by kernel_rfl))
 f217:=Tryz.func184.trans (congrArg some (by kernel_rfl))
 f266:=Tryz.func230.trans (congrArg some (by kernel_rfl))
 t3:=Tryz.underlying3
 a3:=Tryz.isAgg3
 z3:=Tryz.sizeOf3
 v3:=Tryz.zeroValue3
 t5:=Tryz.underlying5
 a5:=Tryz.isAgg5
 z5:=Tryz.sizeOf5
 v5:=Tryz.zeroValue5
 t9:=Tryz.underlying9
 a9:=Tryz.isAgg9
 z9:=Tryz.sizeOf9
 v9:=Tryz.zeroValue9 }
open Go.RowKit in
theorem Tryz.strings_IndexByte (s : ByteArray) (c : Int) (w : World) :
   Calls Tryz.prog 147 #[.string s,.int .u8 c] w fun e w' => e = .returned (.int .i64 (Lib.indexByte s.data.toList c.toNat.toUInt8)) ∧ w' = w:=Any.strings_IndexByte Tryz.lays137 s c w
def Tryz.lays219_ren : Go.Shelf.Ren:=⟨fun | 219 => 268 | 217 => 184 | 225 => 296 | 224 => 297 | 267 => 298 | 266 => 230 | 314 => 328 | n => n,fun | 9 => 9 | 3 => 3 | 4 => 4 | 5 => 5 | 46 => 114 | 146 => 322 | 51 => 163 | n => n,fun | 1 => 1 | n => n⟩
def Tryz.lays143_ren : Go.Shelf.Ren:=⟨fun | 143 => 244 | 219 => 268 | 217 => 184 | 225 => 296 | 224 => 297 | 267 => 298 | 266 => 230 | 314 => 328 | n => n,fun | 9 => 9 | 3 => 3 | 4 => 4 | 5 => 5 | 46 => 114 | 146 => 322 | 51 => 163 | n => n,fun | 1 => 1 | n => n⟩
def Tryz.lays144_ren : Go.Shelf.Ren:=⟨fun | 144 => 200 | 143 => 244 | 219 => 268 | 217 => 184 | 225 => 296 | 224 => 297 | 267 => 298 | 266 => 230 | 314 => 328 | n => n,fun | 9 => 9 | 4 => 4 | 3 => 3 | 5 => 5 | 46 => 114 | 146 => 322 | 51 => 163 | n => n,fun | 1 => 1 | n => n⟩
theorem Tryz.lays144 : Go.Proofs.Lays.n144 Tryz.prog Tryz.lays144_ren:={
 mixed:=by kernel_rfl
 f143:=Tryz.func244.trans (congrArg some (by kernel_rfl))
 f144:=Tryz.func200.trans (congrArg some (by kernel_rfl))
 f217:=Tryz.func184.trans (congrArg some (by kernel_rfl))
 f219:=Tryz.func268.trans (congrArg some (by kernel_rfl))
 f224:=Tryz.func297.trans (congrArg some (by kernel_rfl))
 f225:=Tryz.func296.trans (congrArg some (by kernel_rfl))
 f266:=Tryz.func230.trans (congrArg some (by kernel_rfl))
 f267:=Tryz.func298.trans (congrArg some (by kernel_rfl))
 f314:=Tryz.func328.trans (congrArg some (by kernel_rfl))
 t3:=Tryz.underlying3
 a3:=Tryz.isAgg3
 z3:=Tryz.sizeOf3
 v3:=Tryz.zeroValue3
 t4:=Tryz.underlying4
 a4:=Tryz.isAgg4
 z4:=Tryz.sizeOf4
 v4:=Tryz.zeroValue4
 t5:=Tryz.underlying5
 a5:=Tryz.isAgg5
 z5:=Tryz.sizeOf5
 v5:=Tryz.zeroValue5
 t9:=Tryz.underlying9
 a9:=Tryz.isAgg9
 z9:=Tryz.sizeOf9
 v9:=Tryz.zeroValue9
 t46:=Tryz.underlying114
 a46:=Tryz.isAgg114
 z46:=Tryz.sizeOf114
 v46:=Tryz.zeroValue114
 t51:=Tryz.underlying163
 a51:=Tryz.isAgg163
 z51:=Tryz.sizeOf163
 v51:=Tryz.zeroValue163
 t146:=Tryz.underlying322
 a146:=Tryz.isAgg322
 z146:=Tryz.sizeOf322
 v146:=Tryz.zeroValue322
 g1:=by kernel_rfl }
open Go.RowKit Go.Lib in
theorem Tryz.strings_Contains_one (s : ByteArray) (c : UInt8) (w : World) :
   Calls Tryz.prog 200 #[.string s,.string ⟨#[c]⟩] w fun e w' => e = .returned (.bool (decide (0 ≤ Lib.indexByte s.data.toList c))) ∧ w' = w:=Any.strings_Contains_one Tryz.lays144 s c w
def Tryz.lays145_ren : Go.Shelf.Ren:=⟨fun | 145 => 202 | 220 => 245 | 219 => 268 | 217 => 184 | 225 => 296 | 224 => 297 | 267 => 298 | 266 => 230 | 314 => 328 | n => n,fun | 9 => 9 | 4 => 4 | 59 => 256 | 3 => 3 | 5 => 5 | 46 => 114 | 146 => 322 | 51 => 163 | n => n,fun | 1 => 1 | n => n⟩
theorem Tryz.lays145 : Go.Proofs.Lays.n145 Tryz.prog Tryz.lays145_ren:={
 mixed:=by kernel_rfl
 f145:=Tryz.func202.trans (congrArg some (by kernel_rfl))
 f217:=Tryz.func184.trans (congrArg some (by kernel_rfl))
 f219:=Tryz.func268.trans (congrArg some (by kernel_rfl))
 f220:=Tryz.func245.trans (congrArg some (by kernel_rfl))
 f224:=Tryz.func297.trans (congrArg some (by kernel_rfl))
 f225:=Tryz.func296.trans (congrArg some (by kernel_rfl))
 f266:=Tryz.func230.trans (congrArg some (by kernel_rfl))
 f267:=Tryz.func298.trans (congrArg some (by kernel_rfl))
 f314:=Tryz.func328.trans (congrArg some (by kernel_rfl))
 t3:=Tryz.underlying3
 a3:=Tryz.isAgg3
 z3:=Tryz.sizeOf3
 v3:=Tryz.zeroValue3
 t4:=Tryz.underlying4
 a4:=Tryz.isAgg4
 z4:=Tryz.sizeOf4
 v4:=Tryz.zeroValue4
 t5:=Tryz.underlying5
 a5:=Tryz.isAgg5
 z5:=Tryz.sizeOf5
 v5:=Tryz.zeroValue5
 t9:=Tryz.underlying9
 a9:=Tryz.isAgg9
 z9:=Tryz.sizeOf9
 v9:=Tryz.zeroValue9
 t46:=Tryz.underlying114
 a46:=Tryz.isAgg114
 z46:=Tryz.sizeOf114
 v46:=Tryz.zeroValue114
 t51:=Tryz.underlying163
 a51:=Tryz.isAgg163
 z51:=Tryz.sizeOf163
 v51:=Tryz.zeroValue163
 t59:=Tryz.underlying256
 a59:=Tryz.isAgg256
 z59:=Tryz.sizeOf256
 v59:=Tryz.zeroValue256
 t146:=Tryz.underlying322
 a146:=Tryz.isAgg322
 z146:=Tryz.sizeOf322
 v146:=Tryz.zeroValue322
 g1:=by kernel_rfl }
open Go.RowKit Go.Lib in
theorem Tryz.strings_Cut (s sep : ByteArray) (m : Int) (w : World) (hs : s.size < 4294967281) (hm : w.cell? ⟨1, 0, none⟩ = some (.int .i64 m)) :
   Calls Tryz.prog 202 #[.string s,.string sep] w fun e w' => e = .returned (.tuple #[.string ⟨(Lib.cut s.data.toList sep.data.toList).1.toArray⟩,.string ⟨(Lib.cut s.data.toList sep.data.toList).2.1.toArray⟩,.bool (Lib.cut s.data.toList sep.data.toList).2.2]) ∧ ∃ n,w' = w.drewN n:=Any.strings_Cut Tryz.lays145 s sep m w hs hm
def Tryz.laysM143_ren : Go.Shelf.Ren:=⟨fun | 143 => 244 | 219 => 268 | 217 => 184 | 225 => 296 | 224 => 297 | 267 => 298 | 266 => 230 | 314 => 328 | n => n,fun | 9 => 9 | 3 => 3 | 4 => 4 | 5 => 5 | 46 => 114 | 146 => 322 | 51 => 163 | n => n,fun | 1 => 1 | n => n⟩
theorem Tryz.laysM143 : Go.Proofs.LaysM.n143 Tryz.prog Tryz.laysM143_ren:={
 mixed:=by kernel_rfl
 f143:=Tryz.func244.trans (congrArg some (by kernel_rfl))
 f217:=Tryz.func184.trans (congrArg some (by kernel_rfl))
 f219:=Tryz.func268.trans (congrArg some (by kernel_rfl))
 f224:=Tryz.func297.trans (congrArg some (by kernel_rfl))
 f225:=Tryz.func296.trans (congrArg some (by kernel_rfl))
 f266:=Tryz.func230.trans (congrArg some (by kernel_rfl))
 f267:=Tryz.func298.trans (congrArg some (by kernel_rfl))
 f314:=Tryz.func328.trans (congrArg some (by kernel_rfl))
 t3:=Tryz.underlying3
 a3:=Tryz.isAgg3
 z3:=Tryz.sizeOf3
 v3:=Tryz.zeroValue3
 t4:=Tryz.underlying4
 a4:=Tryz.isAgg4
 z4:=Tryz.sizeOf4
 v4:=Tryz.zeroValue4
 t5:=Tryz.underlying5
 a5:=Tryz.isAgg5
 z5:=Tryz.sizeOf5
 v5:=Tryz.zeroValue5
 t9:=Tryz.underlying9
 a9:=Tryz.isAgg9
 z9:=Tryz.sizeOf9
 v9:=Tryz.zeroValue9
 t46:=Tryz.underlying114
 a46:=Tryz.isAgg114
 z46:=Tryz.sizeOf114
 v46:=Tryz.zeroValue114
 t51:=Tryz.underlying163
 a51:=Tryz.isAgg163
 z51:=Tryz.sizeOf163
 v51:=Tryz.zeroValue163
 t146:=Tryz.underlying322
 a146:=Tryz.isAgg322
 z146:=Tryz.sizeOf322
 v146:=Tryz.zeroValue322
 g1:=by kernel_rfl
 i3:=by kernel_rfl
 i4:=by kernel_rfl
 i5:=by kernel_rfl
 i9:=by kernel_rfl
 i46:=by kernel_rfl
 i51:=by kernel_rfl
 i146:=by kernel_rfl
 m1:=by kernel_rfl
 s1_3:=fun w h => Go.Proofs.cell_of_shapedOpen_int (zero:=#[.int .i64 0]) (t:=3) h (of_decide_eq_true (by kernel_rfl)) (by kernel_rfl) rfl (by kernel_rfl) (by kernel_rfl) Tryz.underlying3 }
def Tryz.lays190_ren : Go.Shelf.Ren:=⟨fun | 190 => 234 | 125 => 62 | 258 => 263 | 128 => 104 | 129 => 105 | 302 => 285 | 303 => 286 | 304 => 287 | 305 => 288 | 306 => 289 | 307 => 290 | 308 => 206 | 309 => 291 | 310 => 292 | 333 => 324 | 329 => 141 | 330 => 142 | 334 => 325 | 335 => 326 | 336 => 247 | 344 => 353 | n => n,fun | 31 => 33 | 9 => 9 | 3 => 3 | 46 => 114 | 0 => 0 | 51 => 163 | 53 => 165 | 4 => 4 | 183 => 156 | 182 => 155 | 131 => 160 | 5 => 5 | 218 => 203 | 222 => 207 | 228 => 243 | 229 => 92 | n => n,fun | n => n⟩
theorem Tryz.lays190 : Go.Proofs.Lays.n190 Tryz.prog Tryz.lays190_ren:={
 mixed:=by kernel_rfl
 f125:=Tryz.func62.trans (congrArg some (by kernel_rfl))
 f128:=Tryz.func104.trans (congrArg some (by kernel_rfl))
 f129:=Tryz.func105.trans (congrArg some (by kernel_rfl))
 f190:=Tryz.func234.trans (congrArg some (by kernel_rfl))
 f258:=Tryz.func263.trans (congrArg some (by kernel_rfl))
 f302:=Tryz.func285.trans (congrArg some (by kernel_rfl))
 f303:=Tryz.func286.trans (congrArg some (by kernel_rfl))
 f304:=Tryz.func287.trans (congrArg some (by kernel_rfl))
 f305:=Tryz.func288.trans (congrArg some (by kernel_rfl))
 f306:=Tryz.func289.trans (congrArg some (by kernel_rfl))
 f307:=Tryz.func290.trans (congrArg some (by kernel_rfl))
 f308:=Tryz.func206.trans (congrArg some (by kernel_rfl))
 f309:=Tryz.func291.trans (congrArg some (by kernel_rfl))
 f310:=Tryz.func292.trans (congrArg some (by kernel_rfl))
 f329:=Tryz.func141.trans (congrArg some (by kernel_rfl))
 f330:=Tryz.func142.trans (congrArg some (by kernel_rfl))
 f333:=Tryz.func324.trans (congrArg some (by kernel_rfl))
 f334:=Tryz.func325.trans (congrArg some (by kernel_rfl))
 f335:=Tryz.func326.trans (congrArg some (by kernel_rfl))
 f336:=Tryz.func247.trans (congrArg some (by kernel_rfl))
 f344:=Tryz.func353.trans (congrArg some (by kernel_rfl))
 t0:=Tryz.underlying0
 a0:=Tryz.isAgg0
 z0:=Tryz.sizeOf0
 v0:=Tryz.zeroValue0
 t3:=Tryz.underlying3
 a3:=Tryz.isAgg3
 z3:=Tryz.sizeOf3
 v3:=Tryz.zeroValue3
 t4:=Tryz.underlying4
 a4:=Tryz.isAgg4
 z4:=Tryz.sizeOf4
 v4:=Tryz.zeroValue4
 t5:=Tryz.underlying5
 a5:=Tryz.isAgg5
 z5:=Tryz.sizeOf5
 v5:=Tryz.zeroValue5
 t9:=Tryz.underlying9
 a9:=Tryz.isAgg9
 z9:=Tryz.sizeOf9
 v9:=Tryz.zeroValue9
 t31:=Tryz.underlying33
 a31:=Tryz.isAgg33
 z31:=Tryz.sizeOf33
 v31:=Tryz.zeroValue33
 t46:=Tryz.underlying114
 a46:=Tryz.isAgg114
 z46:=Tryz.sizeOf114
 v46:=Tryz.zeroValue114
 t51:=Tryz.underlying163
 a51:=Tryz.isAgg163
 z51:=Tryz.sizeOf163
 v51:=Tryz.zeroValue163
 t53:=Tryz.underlying165
 a53:=Tryz.isAgg165
 z53:=Tryz.sizeOf165
 v53:=Tryz.zeroValue165
 t131:=Tryz.underlying160
 a131:=Tryz.isAgg160
 z131:=Tryz.sizeOf160
 v131:=Tryz.zeroValue160
 t182:=Tryz.underlying155
 a182:=Tryz.isAgg155
 z182:=Tryz.sizeOf155
 v182:=Tryz.zeroValue155
 t183:=Tryz.underlying156
 a183:=Tryz.isAgg156
 z183:=Tryz.sizeOf156
 v183:=Tryz.zeroValue156
 t218:=Tryz.underlying203
 a218:=Tryz.isAgg203
 z218:=Tryz.sizeOf203
 v218:=Tryz.zeroValue203
 t222:=Tryz.underlying207
 a222:=Tryz.isAgg207
 z222:=Tryz.sizeOf207
 v222:=Tryz.zeroValue207
 t228:=Tryz.underlying243
 a228:=Tryz.isAgg243
 z228:=Tryz.sizeOf243
 v228:=Tryz.zeroValue243
 t229:=Tryz.underlying92
 a229:=Tryz.isAgg92
 z229:=Tryz.sizeOf92
 v229:=Tryz.zeroValue92 }
open Go.Sort Go.RowKit in
theorem Tryz.slices_Sort_string (blk off cap : Nat) (ss : List (List UInt8)) (w : World) (hH : Holds encStr w blk off ss.toArray) (hblk : blk < w.heap.size) (hsz : ss.length < 4611686018427387904) :
   Calls Tryz.prog 234 #[.slice (some ⟨blk,off,none⟩) ss.length cap] w fun e w' =>
     e = .returned (.tuple #[]) ∧ ∃ n os,w' = grow (putRow encStr (Sort.ahead w n) blk off (ss.mergeSort fun x y => decide (x ≤ y)).toArray) os:=Any.slices_Sort_string Tryz.lays190 blk off cap ss w hH hblk hsz
def Tryz.lays206_ren : Go.Shelf.Ren:=⟨fun | 206 => 69 | n => n,fun | 9 => 9 | 4 => 4 | 3 => 3 | n => n,fun | n => n⟩
def Tryz.lays99_ren : Go.Shelf.Ren:=⟨fun | 99 => 42 | 206 => 69 | n => n,fun | 9 => 9 | 4 => 4 | 3 => 3 | n => n,fun | n => n⟩
theorem Tryz.lays99 : Go.Proofs.Lays.n99 Tryz.prog Tryz.lays99_ren:={
 mixed:=by kernel_rfl
 f99:=Tryz.func42.trans (congrArg some (by kernel_rfl))
 f206:=Tryz.func69.trans (congrArg some (by kernel_rfl))
 t3:=Tryz.underlying3
 a3:=Tryz.isAgg3
 z3:=Tryz.sizeOf3
 v3:=Tryz.zeroValue3
 t4:=Tryz.underlying4
 a4:=Tryz.isAgg4
 z4:=Tryz.sizeOf4
 v4:=Tryz.zeroValue4
 t9:=Tryz.underlying9
 a9:=Tryz.isAgg9
 z9:=Tryz.sizeOf9
 v9:=Tryz.zeroValue9 }
open Go.RowKit Go.Lib in
theorem Tryz.strings_HasPrefix (s p : ByteArray) (w : World) :
   Calls Tryz.prog 42 #[.string s,.string p] w fun e w' => e = .returned (.bool (Lib.hasPrefix s.data.toList p.data.toList)) ∧ w' = w:=Any.strings_HasPrefix Tryz.lays99 s p w
def Tryz.lays109_ren : Go.Shelf.Ren:=⟨fun | 109 => 67 | n => n,fun | 31 => 33 | 9 => 9 | 3 => 3 | 0 => 0 | 4 => 4 | n => n,fun | n => n⟩
theorem Tryz.lays109 : Go.Proofs.Lays.n109 Tryz.prog Tryz.lays109_ren:={
 mixed:=by kernel_rfl
 f109:=Tryz.func67.trans (congrArg some (by kernel_rfl))
 t0:=Tryz.underlying0
 a0:=Tryz.isAgg0
 z0:=Tryz.sizeOf0
 v0:=Tryz.zeroValue0
 t3:=Tryz.underlying3
 a3:=Tryz.isAgg3
 z3:=Tryz.sizeOf3
 v3:=Tryz.zeroValue3
 t4:=Tryz.underlying4
 a4:=Tryz.isAgg4
 z4:=Tryz.sizeOf4
 v4:=Tryz.zeroValue4
 t9:=Tryz.underlying9
 a9:=Tryz.isAgg9
 z9:=Tryz.sizeOf9
 v9:=Tryz.zeroValue9
 t31:=Tryz.underlying33
 a31:=Tryz.isAgg33
 z31:=Tryz.sizeOf33
 v31:=Tryz.zeroValue33 }
open Go.Lib in
theorem Tryz.slices_Index_string (b off n c : Nat) (zs : List ByteArray) (x : ByteArray) (w : World) (hz : n ≤ zs.length) (hbig : n ≤ 9223372036854775807) (hc : ∀ j, j < zs.length → w.cell? ⟨b, off + j, none⟩ = some (.string (zs.getD j ByteArray.empty))) :
   Calls Tryz.prog 67 #[.slice (some ⟨b,off,none⟩) n c,.string x] w fun e w' => e = .returned (.int .i64 (Lib.idxOfS (zs.take n) x)) ∧ w' = w:=Any.slices_Index_string Tryz.lays109 b off n c zs x w hz hbig hc
open Go.Lib in
theorem Tryz.slices_Index_string_empty (a : Option Addr) (c : Nat) (x : ByteArray) (w : World) :
   Calls Tryz.prog 67 #[.slice a 0 c,.string x] w fun e w' => e = .returned (.int .i64 (Lib.idxOfS [] x)) ∧ w' = w:=Any.slices_Index_string_empty Tryz.lays109 a c x w
def Tryz.laysNm216_ren : Go.Shelf.Ren:=⟨fun | 16 => 139 | n => n,fun | 24 => 33 | 9 => 9 | 4 => 4 | n => n,fun | n => n⟩
theorem Tryz.laysNm216 : Go.Proofs.Lays2.n16 Tryz.prog Tryz.laysNm216_ren:={
 mixed:=by kernel_rfl
 f16:=Tryz.func139.trans (congrArg some (by kernel_rfl))
 t4:=Tryz.underlying4
 a4:=Tryz.isAgg4
 z4:=Tryz.sizeOf4
 v4:=Tryz.zeroValue4
 t9:=Tryz.underlying9
 a9:=Tryz.isAgg9
 z9:=Tryz.sizeOf9
 v9:=Tryz.zeroValue9
 t24:=Tryz.underlying33
 a24:=Tryz.isAgg33
 z24:=Tryz.sizeOf33
 v24:=Tryz.zeroValue33
 i9:=by kernel_rfl }
open Go.RowKit Go.Lib in
theorem Tryz.slices_Clone_string (b off n c : Nat) (zs : List ByteArray) (w : World) (hz : n ≤ zs.length) (hbig : n * 16 ≤ 140737488355328) (hc : ∀ j, j < zs.length → w.cell? ⟨b, off + j, none⟩ = some (.string (zs.getD j ByteArray.empty))) :
   Calls Tryz.prog 139 #[.slice (some ⟨b,off,none⟩) n c] w fun e w' => ∃ v',e = .returned v' ∧ w'.ownsRow w.heap.size 9 1 v' n ((zs.take n).map (Value.string)) ∧ v' ≠ .slice none 0 0 ∧ Below w.heap.size w w':=Any.slices_Clone_string Tryz.laysNm216 b off n c zs w hz hbig hc
open Go.RowKit Go.Lib in
theorem Tryz.slices_Clone_string_nil (n c : Nat) (w : World) :
   Calls Tryz.prog 139 #[.slice none n c] w fun e w' => e = .returned (.slice none 0 0) ∧ w' = w:=Any.slices_Clone_string_nil Tryz.laysNm216 n c w
open Go.RowKit Go.Lib in
theorem Tryz.slices_Clone_string_zero (a : Addr) (c : Nat) (w : World) :
   Calls Tryz.prog 139 #[.slice (some a) 0 c] w fun e w' => ∃ v',e = .returned v' ∧ w'.ownsRow w.heap.size 9 1 v' 0 [] ∧ v' ≠ .slice none 0 0 ∧ Below w.heap.size w w':=Any.slices_Clone_string_zero Tryz.laysNm216 a c w
open Go.RowKit Go.Sort in
theorem Tryz.slices_Sort_string_none (p : Option Addr) (cap : Nat) (w : World) :
   Calls Tryz.prog 234 #[.slice p 0 cap] w fun e w' => e = .returned (.tuple #[]) ∧ w' = w:=Any.slices_Sort_string_none Tryz.lays190 p cap w
end Go.Proofs
namespace Go.Proofs
open Go.Shelf Go.RowKit Go.Lib
def Tryz.lays167_ren : Go.Shelf.Ren:=⟨fun | 167 => 160 | 240 => 197 | 276 => 236 | n => n,fun | 0 => 0 | 3 => 3 | 4 => 4 | 5 => 5 | 9 => 9 | 20 => 20 | 37 => 215 | 70 => 218 | 72 => 220 | 75 => 223 | 80 => 229 | 164 => 286 | n => n,fun | n => n⟩
theorem Tryz.lays167 : Go.Proofs.Lays.n167 Tryz.prog Tryz.lays167_ren:={
 mixed:=by kernel_rfl
 f167:=Tryz.func160.trans (congrArg some (by kernel_rfl))
 f240:=Tryz.func197.trans (congrArg some (by kernel_rfl))
 f276:=Tryz.func236.trans (congrArg some (by kernel_rfl))
 t0:=Tryz.underlying0
 a0:=Tryz.isAgg0
 z0:=Tryz.sizeOf0
 v0:=Tryz.zeroValue0
 t4:=Tryz.underlying4
 a4:=Tryz.isAgg4
 z4:=Tryz.sizeOf4
 v4:=Tryz.zeroValue4
 t5:=Tryz.underlying5
 a5:=Tryz.isAgg5
 z5:=Tryz.sizeOf5
 v5:=Tryz.zeroValue5
 t9:=Tryz.underlying9
 a9:=Tryz.isAgg9
 z9:=Tryz.sizeOf9
 v9:=Tryz.zeroValue9
 t20:=Tryz.underlying20
 a20:=Tryz.isAgg20
 z20:=Tryz.sizeOf20
 v20:=Tryz.zeroValue20
 t37:=Tryz.underlying215
 a37:=Tryz.isAgg215
 z37:=Tryz.sizeOf215
 v37:=Tryz.zeroValue215
 t70:=Tryz.underlying218
 a70:=Tryz.isAgg218
 z70:=Tryz.sizeOf218
 v70:=Tryz.zeroValue218
 t72:=Tryz.underlying220
 a72:=Tryz.isAgg220
 z72:=Tryz.sizeOf220
 v72:=Tryz.zeroValue220
 t75:=Tryz.underlying223
 a75:=Tryz.isAgg223
 z75:=Tryz.sizeOf223
 v75:=Tryz.zeroValue223
 t164:=Tryz.underlying286
 a164:=Tryz.isAgg286
 z164:=Tryz.sizeOf286
 v164:=Tryz.zeroValue286 }
theorem Tryz.Builder_Extra_167 : Builder.Extra Tryz.prog Tryz.lays167_ren:={
 sizeBuilder:=by kernel_rfl
 liesBuilder:=by kernel_rfl
 t5:=Tryz.underlying5
 a5:=Tryz.isAgg5
 z5:=Tryz.sizeOf5
 v5:=Tryz.zeroValue5
 infoByte:=by kernel_rfl
 cellsByte:=by kernel_rfl
 sizeByte:=by kernel_rfl
 neB5:=by decide }
theorem Tryz.Builder_WriteByte (B b : Nat) (bs : List Value) (c : Int) (w : World) (h : Lib.IsBuilder 220 5 B b bs w) (hlen : bs.length + 1 ≤ 140737488355328) (hBw : B ≤ w.heap.size) :
   Calls Tryz.prog 160 #[.pointer (some ⟨b,0,none⟩),.int .u8 c] w fun e w' => e = .returned .nilIface ∧ (Lib.BuilderAt 220 5 B b (.pointer (some ⟨b,0,none⟩)) (bs ++ [.int .u8 c]) w' ∧ Below B w w'):=Any.Builder_WriteByte Tryz.lays167 Tryz.Builder_Extra_167 B b bs c w h hlen hBw
def Tryz.lays166_ren : Go.Shelf.Ren:=⟨fun | 166 => 162 | 240 => 197 | 276 => 236 | n => n,fun | 0 => 0 | 3 => 3 | 4 => 4 | 5 => 5 | 9 => 9 | 20 => 20 | 37 => 215 | 70 => 218 | 72 => 220 | 75 => 223 | 80 => 229 | 164 => 286 | n => n,fun | n => n⟩
theorem Tryz.lays166 : Go.Proofs.Lays.n166 Tryz.prog Tryz.lays166_ren:={
 mixed:=by kernel_rfl
 f166:=Tryz.func162.trans (congrArg some (by kernel_rfl))
 f240:=Tryz.func197.trans (congrArg some (by kernel_rfl))
 f276:=Tryz.func236.trans (congrArg some (by kernel_rfl))
 t0:=Tryz.underlying0
 a0:=Tryz.isAgg0
 z0:=Tryz.sizeOf0
 v0:=Tryz.zeroValue0
 t3:=Tryz.underlying3
 a3:=Tryz.isAgg3
 z3:=Tryz.sizeOf3
 v3:=Tryz.zeroValue3
 t4:=Tryz.underlying4
 a4:=Tryz.isAgg4
 z4:=Tryz.sizeOf4
 v4:=Tryz.zeroValue4
 t9:=Tryz.underlying9
 a9:=Tryz.isAgg9
 z9:=Tryz.sizeOf9
 v9:=Tryz.zeroValue9
 t20:=Tryz.underlying20
 a20:=Tryz.isAgg20
 z20:=Tryz.sizeOf20
 v20:=Tryz.zeroValue20
 t37:=Tryz.underlying215
 a37:=Tryz.isAgg215
 z37:=Tryz.sizeOf215
 v37:=Tryz.zeroValue215
 t70:=Tryz.underlying218
 a70:=Tryz.isAgg218
 z70:=Tryz.sizeOf218
 v70:=Tryz.zeroValue218
 t72:=Tryz.underlying220
 a72:=Tryz.isAgg220
 z72:=Tryz.sizeOf220
 v72:=Tryz.zeroValue220
 t75:=Tryz.underlying223
 a75:=Tryz.isAgg223
 z75:=Tryz.sizeOf223
 v75:=Tryz.zeroValue223
 t164:=Tryz.underlying286
 a164:=Tryz.isAgg286
 z164:=Tryz.sizeOf286
 v164:=Tryz.zeroValue286 }
theorem Tryz.Builder_Extra_166 : Builder.Extra Tryz.prog Tryz.lays166_ren:={
 sizeBuilder:=by kernel_rfl
 liesBuilder:=by kernel_rfl
 t5:=Tryz.underlying5
 a5:=Tryz.isAgg5
 z5:=Tryz.sizeOf5
 v5:=Tryz.zeroValue5
 infoByte:=by kernel_rfl
 cellsByte:=by kernel_rfl
 sizeByte:=by kernel_rfl
 neB5:=by decide }
theorem Tryz.Builder_WriteString (B b : Nat) (bs : List Value) (s : ByteArray) (w : World) (h : Lib.IsBuilder 220 5 B b bs w) (hlen : bs.length + s.size ≤ 140737488355328) (hBw : B ≤ w.heap.size) :
   Calls Tryz.prog 162 #[.pointer (some ⟨b,0,none⟩),.string s] w fun e w' => e = .returned (.tuple #[.int .i64 s.size,.nilIface]) ∧ (Lib.BuilderAt 220 5 B b (.pointer (some ⟨b,0,none⟩)) (bs ++ Lib.strCells s) w' ∧ Below B w w'):=Any.Builder_WriteString Tryz.lays166 Tryz.Builder_Extra_166 B b bs s w h hlen hBw
theorem Tryz.strings_Trim_cut (s cutset : ByteArray) (w : World) (hs : s.size ≤ 9223372036854775807) (hcs : cutset.size < 4294967281) (hascii : ∀ (j : Nat) b, cutset.data.toList[j]? = some b → b.toNat < 128) :
   Calls Tryz.prog 199 #[.string s,.string cutset] w fun e w' => e = .returned (.string ⟨(Lib.trimS s.data.toList cutset.data.toList).toArray⟩) ∧ Below w.heap.size w w':=Any.strings_Trim_laid Tryz.lays160 (by kernel_rfl) s cutset w hs hcs hascii
theorem Tryz.strings_TrimLeft_cut (s cutset : ByteArray) (w : World) (hcs : cutset.size < 4294967281) (hascii : ∀ (j : Nat) b, cutset.data.toList[j]? = some b → b.toNat < 128) :
   Calls Tryz.prog 198 #[.string s,.string cutset] w fun e w' => e = .returned (.string ⟨(Lib.trimLeftS s.data.toList cutset.data.toList).toArray⟩) ∧ Below w.heap.size w w':=Any.strings_TrimLeft_laid Tryz.lays161 (by kernel_rfl) s cutset w hcs hascii
theorem Tryz.strings_TrimRight_cut (s cutset : ByteArray) (w : World) (hs : s.size ≤ 9223372036854775807) (hcs : cutset.size < 4294967281) (hascii : ∀ (j : Nat) b, cutset.data.toList[j]? = some b → b.toNat < 128) :
   Calls Tryz.prog 204 #[.string s,.string cutset] w fun e w' => e = .returned (.string ⟨(Lib.trimRightS s.data.toList cutset.data.toList).toArray⟩) ∧ Below w.heap.size w w':=Any.strings_TrimRight_laid Tryz.lays162 (by kernel_rfl) s cutset w hs hcs hascii
end Go.Proofs
namespace Go.Proofs.YtinafodpgjbedaaGreatDoor
open Go.RowKit Fo
theorem u8_all (p : UInt8 → Bool) (h : (List.range 256).all (fun n => p (UInt8.ofNat n)) = true) (c : UInt8) : p c = true:=by
 have:=List.all_eq_true.1 h c.toNat (List.mem_range.2 (UInt8.toNat_lt c))
 simpa using this
theorem white_ix (c : UInt8) : decide (0 ≤ Lib.indexByte [0,9,10,12,13,32] c) = white c:=by
 simpa using u8_all (fun c => decide (0 ≤ Lib.indexByte [0,9,10,12,13,32] c) == white c) (by decide +kernel) c
theorem delim_ix (c : UInt8) : decide (0 ≤ Lib.indexByte [40,41,60,62,91,93,123,125,47,37] c) = delim c:=by
 simpa using u8_all (fun c => decide (0 ≤ Lib.indexByte [40,41,60,62,91,93,123,125,47,37] c) == delim c) (by decide +kernel) c
theorem ret_bool {a b : Bool} (h : a = b) : Ending.returned (.bool a) = .returned (.bool b):=by rw [h]
theorem ret_int {k : IntKind} {a b : Int} (h : a = b) : Ending.returned (.int k a) = .returned (.int k b):=by rw [h]
theorem white_any (c : UInt8) (w : World) :
   Calls Tryz.prog 154 #[.int .u8 c.toNat] w fun e w' => e = .returned (.bool (white c)) ∧ w' = w:=by
 go_enter Tryz.func154,Tryz.ntmps154
 go_wp2_with (go_at_call 147;refine (Tryz.strings_IndexByte _ _ _).mono ?_;rintro e w' ⟨rfl,rfl⟩)
 go_ret
 exact ⟨ret_bool (by simpa using white_ix c),rfl⟩
theorem delim_any (c : UInt8) (w : World) :
   Calls Tryz.prog 235 #[.int .u8 c.toNat] w fun e w' => e = .returned (.bool (delim c)) ∧ w' = w:=by
 go_enter Tryz.func235,Tryz.ntmps235
 go_wp2_with (go_at_call 147;refine (Tryz.strings_IndexByte _ _ _).mono ?_;rintro e w' ⟨rfl,rfl⟩)
 go_ret
 exact ⟨ret_bool (by simpa using delim_ix c),rfl⟩
theorem regular_any (c : UInt8) (w : World) :
   Calls Tryz.prog 195 #[.int .u8 c.toNat] w fun e w' => e = .returned (.bool (regular c)) ∧ w' = w:=by
 go_enter Tryz.func195,Tryz.ntmps195
 go_wp2_with (first | (go_at_call 154;refine (white_any _ _).mono ?_;rintro e w' ⟨rfl,rfl⟩) | (go_at_call 235;refine (delim_any _ _).mono ?_;rintro e w' ⟨rfl,rfl⟩))
 all_goals go_ret
 all_goals exact ⟨ret_bool (by simp_all [regular]),rfl⟩
theorem u8k (c : UInt8) (n : Nat) (h : n < 256) : ((c.toNat : Int) == (n : Int)) = (c == UInt8.ofNat n):=by
 rw [Bool.eq_iff_iff];simp only [beq_iff_eq,← UInt8.toNat_inj,UInt8.toNat_ofNat_of_lt' (show n < UInt8.size from h)];omega
theorem ends_any (c : UInt8) (w : World) :
   Calls Tryz.prog 153 #[.int .u8 c.toNat] w fun e w' => e = .returned (.bool (eol c)) ∧ w' = w:=by
 have h13:=u8k c 13 (by decide)
 have h10:=u8k c 10 (by decide)
 have H : Hid (eol c = (c == 13 || c == 10)):=rfl
 by_cases h : c = 13
 · subst h
   clear h13 h10
   go_enter Tryz.func153,Tryz.ntmps153
   go_wp2
   go_ret
   exact ⟨ret_bool (by decide),rfl⟩
 · have h1 : ((c.toNat : Int) == 13) = false:=by rw [show (13 : Int) = ((13 : Nat) : Int) from rfl,h13];simpa using h
   clear h13 h10
   go_enter Tryz.func153,Tryz.ntmps153
   go_wp2
   go_ret
   exact ⟨ret_bool (by rw [H.out,show (10 : Int) = ((10 : Nat) : Int) from rfl,u8k c 10 (by decide)];simp [h]),rfl⟩
theorem digit_any (c : Nat) (hc : c < 256) (w : World) :
   Calls Tryz.prog 156 #[.int .u8 c] w fun e w' => e = .returned (.int .i64 (digit c)) ∧ w' = w:=by
 go_enter Tryz.func156,Tryz.ntmps156
 go_wp2
 all_goals go_ret
 all_goals exact ⟨ret_int (by unfold digit;repeat' (split <;> try omega)),rfl⟩
theorem white_yes (c : UInt8) (h : white c = true) (w : World) :
   Calls Tryz.prog 154 #[.int .u8 c.toNat] w fun e w' => e = .returned (.bool true) ∧ w' = w:=h ▸ white_any c w
theorem white_no (c : UInt8) (h : white c = false) (w : World) :
   Calls Tryz.prog 154 #[.int .u8 c.toNat] w fun e w' => e = .returned (.bool false) ∧ w' = w:=h ▸ white_any c w
theorem drop_get (s : ByteArray) (k : Nat) (h : k < s.size) : s.data.toList.drop k = s[k] :: s.data.toList.drop (k + 1):=by
 rw [List.drop_eq_getElem_cons (by simpa using h)];rfl
theorem skipN_le (b : Bool) (l : L) : skipN b l ≤ l.length:=by
 induction l generalizing b with
 | nil => cases b <;> simp [skipN]
 | cons c l ih =>
   cases b <;> simp only [skipN,List.length_cons]
   · have h1:=ih true;have h2:=ih false
     split
     · omega
     · split <;> omega
   · have:=ih (!eol c);omega
theorem eq_yes {c : UInt8} {n : Nat} (hn : n < 256) (h : c = UInt8.ofNat n) : ((c.toNat : Int) == (n : Int)) = true:=by rw [u8k c n hn];simpa using h
theorem eq_no {c : UInt8} {n : Nat} (hn : n < 256) (h : ¬ c = UInt8.ofNat n) : ((c.toNat : Int) == (n : Int)) = false:=by rw [u8k c n hn];simpa using h
theorem skip_in (s : ByteArray) (a : Nat) (ha : a ≤ s.size) (hs : s.size ≤ maxLen) (w : World) :
   Calls Tryz.prog 122 #[.string s,.int .i64 a] w fun e w' => e = .returned (.int .i64 (a + skipN false (s.data.toList.drop a) : Nat)) ∧ w' = w:=by
 unfold maxLen at hs
 obtain ⟨T,hT⟩ : ∃ T,a + skipN false (s.data.toList.drop a) = T:=⟨_,rfl⟩
 rw [hT]
 have HT:=Lib.hid hT;clear hT
 have hz0 : decide ((a : Int) < 0) = false:=by simp
 have hz1 : decide (s.size < a) = false:=by simp;omega
 go_enter Tryz.func122,Tryz.ntmps122
 go_wp2
 go_loop [1,5] (fun p r => ∃ (k : Nat) (b : Bool),k ≤ s.size ∧ p = .int .i64 k ∧ r = .bool b ∧ Hid (k + skipN b (s.data.toList.drop k) = T)) (fun p _ => s.size - (intOf p).toNat)
 case atStart => exact ⟨a,false,ha,rfl,rfl,HT⟩
 case round =>
   obtain ⟨k,b,hk,rfl,rfl,H⟩:=hrel
   clear HT
   by_cases hlt : k < s.size
   · have H1:=H.out
     rw [drop_get s k hlt] at H1
     have H2:=Lib.hid H1;clear H1 H
     cases b
     · by_cases h37 : s[k] = 37
       · have h1 : ((s[k].toNat : Int) == 37) = true:=eq_yes (n:=37) (by decide) h37
         have H37:=Lib.hid h37;clear h37
         go_wp2
         go_round
         case rel => exact ⟨k + 1,true,by omega,by go_num,rfl,by have:=H2.out;rw [H37.out] at this;simp only [skipN,beq_self_eq_true,if_true] at this;show _ = _;omega⟩
         case measure => simp [intOf];omega
       · have h1 : ((s[k].toNat : Int) == 37) = false:=eq_no (n:=37) (by decide) h37
         have H37:=Lib.hid h37;clear h37
         cases hw : white s[k]
         · have HW:=Lib.hid hw;clear hw
           go_wp2_with (go_at_call 154;refine (white_no _ HW.out _).mono ?_;rintro e w' ⟨rfl,rfl⟩)
           go_ret
           exact ⟨ret_int (by have:=H2.out;simp [skipN,H37.out,HW.out] at this;omega),rfl⟩
         · have HW:=Lib.hid hw;clear hw
           go_wp2_with (go_at_call 154;refine (white_yes _ HW.out _).mono ?_;rintro e w' ⟨rfl,rfl⟩)
           go_round
           case rel => exact ⟨k + 1,false,by omega,by go_num,rfl,by have:=H2.out;simp [skipN,H37.out,HW.out] at this;show _ = _;omega⟩
           case measure => simp [intOf];omega
     · go_wp2_with (go_at_call 153;refine (ends_any _ _).mono ?_;rintro e w' ⟨rfl,rfl⟩)
       go_round
       case rel => exact ⟨k + 1,!eol s[k],by omega,by go_num,rfl,by have:=H2.out;simp only [skipN] at this;show _ = _;omega⟩
       case measure => simp [intOf];omega
   · have hk2 : k = s.size:=by omega
     subst hk2
     have H1:=Lib.hid (show s.size = T by have:=H.out;rw [List.drop_eq_nil_of_le (by simp)] at this;cases b <;> simpa [skipN] using this)
     clear H
     go_wp2
     go_ret
     exact ⟨ret_int (by rw [H1.out]),rfl⟩
theorem extract_end (s : ByteArray) (a : Nat) : List.take (s.size - a) (List.drop a s.data.toList) = s.data.toList.drop a :=
 List.take_of_length_le (by simp)
theorem begins_in (s p : ByteArray) (a : Nat) (ha : a ≤ s.size) (hs : s.size ≤ maxLen) (w : World) :
   Calls Tryz.prog 29 #[.string s,.string p,.int .i64 a] w fun e w' => e = .returned (.bool (Lib.hasPrefix (s.data.toList.drop a) p.data.toList)) ∧ w' = w:=by
 unfold maxLen at hs
 have hz0 : decide (0 ≤ (a : Int)) = true:=by simp
 have hz1 : decide (a ≤ s.size) = true:=by simp;omega
 go_enter Tryz.func29,Tryz.ntmps29
 go_wp2_with (go_at_call 42;refine (Tryz.strings_HasPrefix _ _ _).mono ?_;rintro e w' ⟨rfl,rfl⟩)
 go_ret
 exact ⟨ret_bool (by rw [extract_end]),rfl⟩
theorem begins_as (s p : ByteArray) (a : Nat) (b : Bool) (h : Lib.hasPrefix (s.data.toList.drop a) p.data.toList = b) (ha : a ≤ s.size) (hs : s.size ≤ maxLen) (w : World) :
   Calls Tryz.prog 29 #[.string s,.string p,.int .i64 a] w fun e w' => e = .returned (.bool b) ∧ w' = w:=h ▸ begins_in s p a ha hs w
theorem lineN_le (l : L) : lineN l ≤ l.length:=by
 fun_induction lineN l <;> simp_all <;> omega
theorem lineN_cons (c : UInt8) (l : L) : lineN (c :: l) = if c = 10 then 1 else if c = 13 then (if l.head? = some 10 then 2 else 1) else lineN l + 1:=by
 by_cases h : c = 13
 · subst h
   cases l with
   | nil => simp [lineN,eol]
   | cons d l =>
     by_cases hd : d = 10
     · subst hd;simp [lineN]
     · rw [lineN]
       · simp [eol,hd]
       · intro d' h1 h2;simp_all
 · rw [lineN]
   · by_cases h2 : c = 10 <;> simp [eol,h,h2]
   · intro d h1 h2;simp_all
theorem crlf_at (s : ByteArray) (k : Nat) (h : k < s.size) (hc : s[k] = 13) : Lib.hasPrefix (s.data.toList.drop k) [13,10] = ((s.data.toList.drop (k + 1)).head? == some 10):=by
 rw [drop_get s k h,hc]
 cases s.data.toList.drop (k + 1) with
 | nil => simp [Lib.hasPrefix]
 | cons d l => by_cases hd : d = 10 <;> simp [Lib.hasPrefix,List.isPrefixOf,hd,Bool.beq_comm]
theorem line_in (s : ByteArray) (a : Nat) (ha : a ≤ s.size) (hs : s.size ≤ maxLen) (w : World) :
   Calls Tryz.prog 196 #[.string s,.int .i64 a] w fun e w' => e = .returned (.int .i64 (a + lineN (s.data.toList.drop a) : Nat)) ∧ w' = w:=by
 have hs':=Lib.hid hs
 unfold maxLen at hs
 obtain ⟨T,hT⟩ : ∃ T,a + lineN (s.data.toList.drop a) = T:=⟨_,rfl⟩
 rw [hT]
 have HT:=Lib.hid hT;clear hT
 have hz0 : decide ((a : Int) < 0) = false:=by simp
 have hz1 : decide (s.size < a) = false:=by simp;omega
 go_enter Tryz.func196,Tryz.ntmps196
 go_wp2
 go_loop [1] (fun p => ∃ (k : Nat),k ≤ s.size ∧ p = .int .i64 k ∧ Hid (k + lineN (s.data.toList.drop k) = T)) (fun p => s.size - (intOf p).toNat)
 case atStart => exact ⟨a,ha,rfl,HT⟩
 case round =>
   obtain ⟨k,hk,rfl,H⟩:=hrel
   clear HT
   by_cases hlt : k < s.size
   · have H1:=H.out
     rw [drop_get s k hlt,lineN_cons] at H1
     have H2:=Lib.hid H1;clear H1 H
     by_cases h10 : s[k] = 10
     · have h1 : ((s[k].toNat : Int) == 10) = true:=eq_yes (n:=10) (by decide) h10
       have H10:=Lib.hid h10;clear h10
       go_wp2
       go_ret
       exact ⟨ret_int (by have:=H2.out;simp [H10.out] at this;omega),rfl⟩
     · have h1 : ((s[k].toNat : Int) == 10) = false:=eq_no (n:=10) (by decide) h10
       have H10:=Lib.hid h10;clear h10
       by_cases h13 : s[k] = 13
       · have h2 : ((s[k].toNat : Int) == 13) = true:=eq_yes (n:=13) (by decide) h13
         have HC:=crlf_at s k hlt h13
         have H13:=Lib.hid h13;clear h13
         by_cases hn : (s.data.toList.drop (k + 1)).head? = some 10
         · have hk1 : k + 1 < s.size := by
             apply Classical.byContradiction;intro h
             rw [List.drop_eq_nil_of_le (by simp;omega)] at hn;simp at hn
           rw [hn] at HC
           have HC2:=Lib.hid HC;have HN:=Lib.hid hn;clear HC hn
           go_wp2_with (go_at_call 29;refine (begins_as _ _ _ true HC2.out (by omega) hs'.out _).mono ?_;rintro e w' ⟨rfl,rfl⟩)
           go_ret
           exact ⟨ret_int (by have:=H2.out;rw [H13.out,if_neg (by decide),if_pos rfl,if_pos HN.out] at this;omega),rfl⟩
         · rw [beq_eq_false_iff_ne.2 hn] at HC
           have HC2:=Lib.hid HC;have HN:=Lib.hid hn;clear HC hn
           go_wp2_with (go_at_call 29;refine (begins_as _ _ _ false HC2.out (by omega) hs'.out _).mono ?_;rintro e w' ⟨rfl,rfl⟩)
           go_ret
           exact ⟨ret_int (by have:=H2.out;rw [H13.out,if_neg (by decide),if_pos rfl,if_neg HN.out] at this;omega),rfl⟩
       · have h2 : ((s[k].toNat : Int) == 13) = false:=eq_no (n:=13) (by decide) h13
         have H13:=Lib.hid h13;clear h13
         go_wp2
         go_round
         case rel => exact ⟨k + 1,by omega,by go_num,by have:=H2.out;simp [H10.out,H13.out] at this;show _ = _;omega⟩
         case measure => simp [intOf];omega
   · have hk2 : k = s.size:=by omega
     subst hk2
     have H1:=Lib.hid (show s.size = T by have:=H.out;rw [List.drop_eq_nil_of_le (by simp)] at this;simpa [lineN] using this)
     clear H
     go_wp2
     go_ret
     exact ⟨ret_int (by rw [H1.out]),rfl⟩
open Go.RowKit Fo
theorem Tryz.infoU8 : (Tryz.prog.info? 5).map (fun i => (i.zero,i.size,i.bytes)) = some (some (.int .u8 0),1,1):=by kernel_rfl
theorem bcell {W w1 : World} (hb : Below W.heap.size W w1) : (∀ b o,b < W.heap.size → w1.cell? ⟨b,o,none⟩ = W.cell? ⟨b,o,none⟩) ∧ (∀ b o,b < W.heap.size → w1.frozen? ⟨b,o,none⟩ = W.frozen? ⟨b,o,none⟩) :=
 ⟨fun b o h => hb.cell (p:=⟨b,o,none⟩) h,fun b o h => hb.frozen (p:=⟨b,o,none⟩) h⟩
theorem bcellB {B : Nat} {W w1 : World} (hb : Below B W w1) : (∀ b o,b < B → w1.cell? ⟨b,o,none⟩ = W.cell? ⟨b,o,none⟩) ∧ (∀ b o,b < B → w1.frozen? ⟨b,o,none⟩ = W.frozen? ⟨b,o,none⟩) :=
 ⟨fun b o h => hb.cell (p:=⟨b,o,none⟩) h,fun b o h => hb.frozen (p:=⟨b,o,none⟩) h⟩
theorem belowIter {B : Nat} {a w : World} (h : Below B a w) (hB : B ≤ w.heap.size) (s : ByteArray) (p : Nat) : Below B a (w.iter s p):=h.alloc hB _
theorem bT {B C : Nat} {a b c : World} (h : Below C b c) (k : Below B a b) (e : B ≤ C) : Below B a c:=k.trans (h.mono e)
theorem belowDrewN {B : Nat} {a w : World} (h : Below B a w) (n : Nat) : Below B a (w.drewN n):=⟨h.os,h.tape,h.output,h.size,h.block⟩
theorem bel {B : Nat} {a b : World} (h : Below B a b:=by repeat' (first | (with_reducible first | exact Below.refl _ _ | refine Below.drew ?_ | refine belowDrewN ?_ _ | refine belowIter ?_ ?_ _ _ | refine Below.setCell ?_ ?_ _ | refine Below.alloc ?_ ?_ _ | refine bT hb4 ?_ ?_ | refine bT hb3 ?_ ?_ | refine bT hb2 ?_ ?_ | refine bT hb1 ?_ ?_ | refine bT hbr ?_ ?_ | refine bT hb ?_ ?_) | (simp;done) | (simp;omega) | omega)) : Below B a b:=h
theorem belr {B : Nat} {a b : World} (h : Below B a b:=by repeat' (first | (with_reducible first | exact Below.refl _ _ | refine Below.setCell ?_ ?_ _ | refine Below.alloc ?_ ?_ _) | (show _ ≤ _;simp;done) | (show _ ≤ _;simp;omega) | omega)) : Below B a b:=h
theorem belS {B : Nat} {a b : World} (h : Below B a b:=by repeat' (first | (with_reducible first | exact Below.refl _ _ | refine Below.drew ?_ | refine belowDrewN ?_ _ | refine belowIter ?_ ?_ _ _ | refine Below.setCell ?_ ?_ _ | refine Below.alloc ?_ ?_ _ | refine bT hb4 ?_ ?_ | refine bT hb3 ?_ ?_ | refine bT hb2 ?_ ?_ | refine bT hb1 ?_ ?_ | refine bT hbr ?_ ?_ | refine bT hb ?_ ?_) | (show _ ≤ _;simp;done) | (show _ ≤ _;simp;omega) | (simp;done) | (simp;omega) | omega)) : Below B a b:=h
theorem Lh {p : Prop} (h : p) : Hid p:=Lib.hid h
def ownB (w : World) (B : Nat) (v : Value) (l : L) : Prop:=w.ownsRow B 5 1 v l.length (l.map fun c => .int .u8 c.toNat)
theorem ownB_nil (w : World) (B : Nat) : ownB w B (.slice none 0 0) []:=⟨by simp,.inl ⟨rfl,rfl⟩⟩
theorem ownB_below {w w' : World} {B : Nat} {v : Value} {l : L} (h : ownB w B v l) (hb : Below w.heap.size w w') : ownB w' B v l :=
 World.ownsRow.kept h (row:=none) ⟨hb.os,hb.tape,hb.output,hb.size,fun k hk _ => hb.block k hk⟩ (Classical.em _)
theorem own_base {w : World} {B : Nat} {e : TypeId} {s n : Nat} {v : Value} {xs : List Value} (h : w.ownsRow B e s v n xs) : ∀ k,v.ownBlock = some k → B ≤ k:=by
 rcases h.2 with ⟨h1,_⟩ | ⟨g,cap,cur,h1,h2,_⟩
 · subst h1;intro k hk;simp [Value.ownBlock] at hk
 · subst h1;intro k hk;simp [Value.ownBlock] at hk;omega
theorem u8_back (n : Int) (h0 : 0 ≤ n) (h1 : n < 256) : ((UInt8.ofNat n.toNat).toNat : Int) = n:=by
 simp only [UInt8.toNat_ofNat'];omega
theorem append1 {ops : Array Oper} {rest : List Oper} {o : Oper} {a : Act} {Q : Exit → Act → World → Prop} {w : World} (hgd : o.guard = none) (s x : Operand)
   (ho : o.op = .call { callee:=.builtin .append,args:=#[s,x],argTypes:=#[215,215] })
   (B : Nat) (v : Value) (l : L) (n : Int) (hown : ownB w B v l) (hs : a.eval s = v)
   (hx : a.eval x = .slice (some ⟨w.heap.size,0,none⟩) 1 1) (hlen : l.length + 1 ≤ 140737488355328) (hB : B ≤ w.heap.size) (h0 : 0 ≤ n) (h1 : n < 256)
   (h : ∀ v' w',ownB w' B v' (l ++ [UInt8.ofNat n.toNat]) → Below B w w' → w.heap.size < w'.heap.size → wpList Tryz.prog ops Q rest (a.put o.dst v') w') :
   wpList Tryz.prog ops Q (o :: rest) a (w.alloc (.cells #[.int .u8 n] 5)):=by
 obtain ⟨i0,hi,hz0,hz1,hz2⟩:=info_parts Tryz.infoU8
 refine wpList_append_own _ hgd s x 215 ho B 5 i0 (.int .u8 0) 1 1 Tryz.underlying215 hi hz0 hz1 hz2 rfl (by decide) v l.length _ hs (hown.alloc _) ⟨w.heap.size,0,none⟩ 1 1 [.int .u8 n] hx rfl ?_ ?_ ?_ ?_ ?_ ?_
 · intro j u hj
   have hj0 : j = 0:=by
     rcases j with _ | j
     · rfl
     · simp at hj
   subst hj0
   simp at hj;subst hj
   rw [show (⟨w.heap.size,0,none⟩ : Addr).add 0 = ⟨w.heap.size,0,none⟩ from rfl,World.cell?_alloc_at _ _ _ _ rfl];rfl
 · intro u hu;simp at hu;subst hu;rfl
 · unfold maxLen;omega
 · omega
 · simp;omega
 · intro v' w' hown' hg _
   refine h v' w' ?_ (((Below.refl B w).alloc hB _).trans ((Below.refl B _).grown hg (by simp;omega) (own_base hown))) (by have:=hg.size;simp at this;omega)
   have hn : (Value.int .u8 n) = .int .u8 ((UInt8.ofNat n.toNat).toNat : Int):=by
     rw [u8_back n h0 h1]
   rw [hn] at hown'
   unfold ownB
   simpa using hown'
theorem foldl_push (l : L) (r : ByteArray) : (l.map fun c => ((c.toNat : Nat) : Int)).foldl (fun (r : ByteArray) (n : Int) => r.push (UInt8.ofNat n.toNat)) r = ⟨r.data ++ l.toArray⟩:=by
 induction l generalizing r with
 | nil => simp
 | cons c l ih =>
   simp only [List.map_cons,List.foldl_cons]
   rw [ih]
   simp [ByteArray.push]
theorem convB {w : World} {B : Nat} {v : Value} {l : L} (h : ownB w B v l) : (Go.convert 215 9 v).run Tryz.prog w = .ok (.string ⟨l.toArray⟩) w:=by
 rcases h.2 with ⟨h1,h2⟩ | ⟨g,cap,cur,h1,h2,h3,h4,h5,h6,h7⟩
 · have hl : l = []:=List.eq_nil_of_length_eq_zero h2
   subst hl;subst h1
   rw [run_convert_bytes_string w _ _ 5 _ _ _ Tryz.underlying215 Tryz.underlying5 Tryz.underlying9]
   rfl
 · subst h1
   rw [run_convert_bytes_string w _ _ 5 _ _ _ Tryz.underlying215 Tryz.underlying5 Tryz.underlying9]
   rw [run_bytesToString w _ _ _ (l.map fun c => (c.toNat : Int)),foldl_push]
   · show Result.ok (Value.string ⟨#[] ++ l.toArray⟩) w = _
     simp
   · have hc := run_loadCells_list (P := Tryz.prog) (w := w) ⟨g, 0, none⟩ (l.map fun c => Value.int .u8 c.toNat) (by
       intro j u hj
       have:=World.ownsRow.cellAt (base:=B) (e:=5) (size:=1) (g:=g) (cap:=cap) (w:=w) (xs:=l.map fun c => Value.int .u8 c.toNat) (n:=l.length) ⟨h.1,.inr ⟨g,cap,cur,rfl,h2,h3,h4,h5,h6,h7⟩⟩ j (by
         have:=(List.getElem?_eq_some_iff.1 hj).1;simpa using this)
       rw [hj] at this
       rw [← this]
       cases j <;> simp [Addr.add])
     simpa [List.map_map,Function.comp_def] using hc
open Go.RowKit Fo
structure Enc (α : Type) where
 k : Nat
 cells : α → List Value
 len : ∀ x,(cells x).length = k
 one : ∀ x,∀ u ∈ cells x,u.oneCell' = true
variable {α : Type}
def Enc.row (E : Enc α) (xs : List α) : List Value:=xs.flatMap E.cells
theorem Enc.row_length (E : Enc α) (xs : List α) : (E.row xs).length = xs.length * E.k:=by
 induction xs with
 | nil => simp [Enc.row]
 | cons x xs ih =>
   show (E.cells x ++ E.row xs).length = _
   rw [List.length_append,E.len,ih,List.length_cons,Nat.succ_mul];omega
theorem Enc.row_at (E : Enc α) (xs : List α) (j : Nat) (hj : j < xs.length) (i : Nat) (hi : i < E.k) : (E.row xs)[j * E.k + i]? = (E.cells xs[j])[i]?:=by
 induction xs generalizing j with
 | nil => exact absurd hj (Nat.not_lt_zero _)
 | cons x xs ih =>
   have e : E.row (x :: xs) = E.cells x ++ E.row xs:=rfl
   match j with
   | 0 =>
     rw [e,Nat.zero_mul,Nat.zero_add,List.getElem?_append_left (by rw [E.len];exact hi)];rfl
   | j + 1 =>
     rw [e,List.getElem?_append_right (by rw [E.len,Nat.succ_mul];omega),E.len,show (j + 1) * E.k + i - E.k = j * E.k + i by rw [Nat.succ_mul];omega]
     exact ih j (by simpa using hj)
theorem Enc.row_append (E : Enc α) (xs ys : List α) : E.row (xs ++ ys) = E.row xs ++ E.row ys:=by
 unfold Enc.row;rw [List.flatMap_append]
def rownS (E : Enc α) (t : TypeId) (w : World) (B : Nat) (v : Value) (xs : List α) : Prop:=w.ownsRow B t E.k v xs.length (E.row xs)
variable {E : Enc α} {t : TypeId}
theorem rownS_nil (w : World) (B : Nat) : rownS E t w B (.slice none 0 0) []:=⟨by simp [Enc.row],.inl ⟨rfl,rfl⟩⟩
theorem rown_slice {w : World} {B n k : Nat} {t : TypeId} {v : Value} {xs : List Value} (h : w.ownsRow B t k v n xs) : ∃ p c,v = .slice p n c:=by
 rcases h.2 with ⟨rfl,h0⟩ | ⟨g,cap,cur,rfl,_⟩
 · exact ⟨none,0,by rw [h0]⟩
 · exact ⟨_,cap,rfl⟩
theorem rownS.below {w w' : World} {B : Nat} {v : Value} {xs : List α} (h : rownS E t w B v xs) (hb : Below w.heap.size w w') : rownS E t w' B v xs :=
 World.ownsRow.kept h (row:=none) ⟨hb.os,hb.tape,hb.output,hb.size,fun k hk _ => hb.block k hk⟩ (Classical.em _)
theorem rownS.low {w : World} {B B' : Nat} {v : Value} {xs : List α} (h : rownS E t w B' v xs) (hB : B ≤ B') : rownS E t w B v xs:=by
 rcases h with ⟨h0,h1 | ⟨g,cap,cur,h1,h2,h3⟩⟩
 · exact ⟨h0,.inl h1⟩
 · exact ⟨h0,.inr ⟨g,cap,cur,h1,by omega,h3⟩⟩
def RArg (E : Enc α) (w : World) (v : Value) (xs : List α) : Prop:=∃ p c,v = .slice p xs.length c ∧ ∀ j (hj : j < xs.length),∃ g off,p = some ⟨g,off,none⟩ ∧ g < w.heap.size ∧
 ∀ i u,(E.cells xs[j])[i]? = some u → w.cell? ⟨g,off + j * E.k + i,none⟩ = some u
theorem RArg.below {w w' : World} {v : Value} {xs : List α} (h : RArg E w v xs) (hb : Below w.heap.size w w') : RArg E w' v xs:=by
 obtain ⟨p,c,rfl,h⟩:=h
 refine ⟨p,c,rfl,fun k hk => ?_⟩
 obtain ⟨g,off,h1,h2,h3⟩:=h k hk
 have hz:=hb.size
 exact ⟨g,off,h1,by omega,fun i u hu => (World.cell?_of_block (hb.block g h2)).trans (h3 i u hu)⟩
theorem RArg.nil (w : World) : RArg E w (.slice none 0 0) []:=⟨none,0,rfl,fun k hk => absurd hk (Nat.not_lt_zero _)⟩
theorem rownS.arg {w : World} {B : Nat} {v : Value} {xs : List α} (h : rownS E t w B v xs) : RArg E w v xs:=by
 obtain ⟨p,c,rfl⟩:=rown_slice h
 have h0:=h
 rcases h.2 with ⟨h1,h2⟩ | ⟨g,cap,cur,h1,h2,h3,h4,h5,h6,h7⟩
 · exact ⟨p,c,rfl,fun k hk => by omega⟩
 · simp only [Value.slice.injEq] at h1
   obtain ⟨rfl,hl,rfl⟩:=h1
   refine ⟨_,_,rfl,fun k hk => ⟨g,0,rfl,(Array.getElem?_eq_some_iff.1 h3).1,fun i u hu => ?_⟩⟩
   have hi : i < E.k:=by have:=(List.getElem?_eq_some_iff.1 hu).1;rw [E.len] at this;exact this
   have hlt : k * E.k + i < xs.length * E.k:=by
     have : (k + 1) * E.k ≤ xs.length * E.k:=Nat.mul_le_mul_right _ hk
     rw [Nat.succ_mul] at this;omega
   have:=World.ownsRow.cellAt h0 (k * E.k + i) hlt
   rw [Nat.zero_add,this,E.row_at xs k hk i hi,hu]
theorem rappend {ops : Array Oper} {rest : List Oper} {o : Oper} {a : Act} {Q : Exit → Act → World → Prop} {w : World} (hgd : o.guard = none) (s x : Operand) {ts : TypeId}
   (ho : o.op = .call { callee:=.builtin .append,args:=#[s,x],argTypes:=#[ts,ts] }) (ht : Tryz.prog.underlying ts = some (.slice t))
   {z : Value} {by' : Nat} (hin : (Tryz.prog.info? t).map (fun i => (i.zero,i.size,i.bytes)) = some (some z,E.k,by')) (hzk : z.cells.size = E.k) (hk0 : 0 < E.k) (hby : by' ≤ 1000)
   (B : Nat) (v : Value) (xs : List α) (y : α) (hown : rownS E t w B v xs) (hs : a.eval s = v)
   (hx : a.eval x = .slice (some ⟨w.heap.size,0,none⟩) 1 1) (hlen : xs.length ≤ 1000000000) (hB : B ≤ w.heap.size)
   (h : ∀ p q w',rownS E t w' B (.slice p (xs.length + 1) q) (xs ++ [y]) → Below B w w' → w.heap.size < w'.heap.size → (w.alloc (.cells (E.cells y).toArray t)).grownBy w' v.ownBlock → wpList Tryz.prog ops Q rest (a.put o.dst (.slice p (xs.length + 1) q)) w') :
   wpList Tryz.prog ops Q (o :: rest) a (w.alloc (.cells (E.cells y).toArray t)):=by
 obtain ⟨i0,hi,hz0,hz1,hz2⟩:=info_parts hin
 refine wpList_append_own _ hgd s x ts ho B t i0 z E.k by' ht hi hz0 hz1 hz2 hzk hk0 v xs.length _ hs (World.ownsRow.alloc hown _) ⟨w.heap.size,0,none⟩ 1 1 (E.cells y) hx (by rw [E.len];omega) ?_ ?_ ?_ ?_ ?_ ?_
 · exact World.news_of_block (cs:=(E.cells y).toArray) (t:=t) (fr:=(0,0)) (heap_alloc_new w _)
 · exact E.one y
 · unfold maxLen;omega
 · exact Nat.le_trans (Nat.mul_le_mul_left _ hby) (by omega)
 · simp;omega
 · intro v' w' hown' hg _
   obtain ⟨p,q,rfl⟩:=rown_slice hown'
   refine h p q w' ?_ (((Below.refl B w).alloc hB _).trans ((Below.refl B _).grown hg (by simp;omega) (own_base hown))) (by have:=hg.size;simp at this;omega) hg
   unfold rownS
   rw [E.row_append,List.length_append]
   simpa [Enc.row] using hown'
theorem rappendL {α : Type} {E : Enc α} {t : TypeId} {ops : Array Oper} {rest : List Oper} {o : Oper} {a : Act} {Q : Exit → Act → World → Prop} {w : World} (hgd : o.guard = none) (s x : Operand) {ts : TypeId}
   (ho : o.op = .call { callee:=.builtin .append,args:=#[s,x],argTypes:=#[ts,ts] }) (ht : Tryz.prog.underlying ts = some (.slice t))
   {z : Value} {by' : Nat} (hin : (Tryz.prog.info? t).map (fun i => (i.zero,i.size,i.bytes)) = some (some z,E.k,by')) (hzk : z.cells.size = E.k) (hk0 : 0 < E.k) (hby : by' ≤ 1000)
   (B : Nat) (v : Value) (xs : List α) (y : α) (hown : rownS E t w B v xs) (hs : a.eval s = v)
   (hx : a.eval x = .slice (some ⟨w.heap.size,0,none⟩) 1 1) (hlen : xs.length ≤ 1000000000) (hB : B ≤ w.heap.size)
   (h : ∀ g q w',rownS E t w' B (.slice (some ⟨g,0,none⟩) (xs.length + 1) q) (xs ++ [y]) → Below B w w' → w.heap.size < w'.heap.size → (w.alloc (.cells (E.cells y).toArray t)).grownBy w' v.ownBlock → (v.ownBlock = some g ∨ g = w.heap.size + 1) → wpList Tryz.prog ops Q rest (a.put o.dst (.slice (some ⟨g,0,none⟩) (xs.length + 1) q)) w') :
   wpList Tryz.prog ops Q (o :: rest) a (w.alloc (.cells (E.cells y).toArray t)):=by
 obtain ⟨i0,hi,hz0,hz1,hz2⟩:=info_parts hin
 refine wpList_append_lies _ hgd s x ts ho B t i0 z E.k by' ht hi hz0 hz1 hz2 hzk hk0 v xs.length _ hs (World.ownsRow.alloc hown _) ⟨w.heap.size,0,none⟩ 1 1 (E.cells y) hx (by rw [E.len];omega) ?_ ?_ (by decide) ?_ ?_ ?_ (w.heap.size + 1) (by simp) ?_
 · exact World.news_of_block (cs:=(E.cells y).toArray) (t:=t) (fr:=(0,0)) (heap_alloc_new w _)
 · exact E.one y
 · unfold maxLen;omega
 · exact Nat.le_trans (Nat.mul_le_mul_left _ hby) (by omega)
 · simp;omega
 · intro g q w' hown' hg hor hlt
   refine h g q w' ?_ (((Below.refl B w).alloc hB _).trans ((Below.refl B _).grown hg (by simp;omega) (own_base hown))) (by have:=hg.size;simp at this;omega) hg hor
   unfold rownS
   rw [E.row_append,List.length_append]
   simpa [Enc.row] using hown'
theorem row_set {α : Type} {E : Enc α} {t : TypeId} {w : World} {B b o : Nat} {v u : Value} {xs : List α} (h : rownS E t w B v xs) (hb : b < B) : rownS E t (w.setCell ⟨b,o,none⟩ u) B v xs :=
 World.ownsRow.kept h (row:=some b) ⟨rfl,rfl,rfl,by simp [World.setCell],fun k _ hk => Below.heap_setCell _ _ _ _ (fun e => hk (by rw [e]))⟩ (.inr (fun e => by have:=own_base h _ e;omega))
end Go.Proofs.YtinafodpgjbedaaGreatDoor
namespace Fo
inductive Ob where
 | mk (kind n g : Int) (s : L) (keys : List L) (kids : List Ob)
def Ob.kind : Ob → Int | .mk k _ _ _ _ _ => k
def Ob.n : Ob → Int | .mk _ n _ _ _ _ => n
def Ob.g : Ob → Int | .mk _ _ g _ _ _ => g
def Ob.s : Ob → L | .mk _ _ _ s _ _ => s
def Ob.keys : Ob → List L | .mk _ _ _ _ k _ => k
def Ob.kids : Ob → List Ob | .mk _ _ _ _ _ k => k
def Ob.zero : Ob:=.mk 0 0 0 [] [] []
def Ob.int (n : Int) : Ob:=.mk 2 n 0 [] [] []
def Ob.real (n : Int) : Ob:=.mk 3 n 0 [] [] []
def Ob.str (s : L) : Ob:=.mk 4 0 0 s [] []
def Ob.name (s : L) : Ob:=.mk 5 0 0 s [] []
def Ob.ref (n g : Int) : Ob:=.mk 8 n g [] [] []
def Ob.bool (b : Bool) : Ob:=.mk 1 (if b then 1 else 0) 0 [] [] []
def wTrue : L:=[116,114,117,101]
def wFalse : L:=[102,97,108,115,101]
def wNull : L:=[110,117,108,108]
def nextS (l : L) : Res (Tok × L) :=
 match (nextT l).2 with
 | .bad e => .bad e
 | .good t => if t.kind = 0 then .bad 4 else .good (t,l.drop ((nextT l).1 + t.len))
def beginsS (t : Tok) : Bool :=
 if t.kind = 5 then t.s == wTrue || t.s == wFalse || t.s == wNull
 else if t.kind = 6 then t.s == [91] || t.s == [60,60]
 else true
def refS (t : Tok) (l : L) : Option (Int × L) :=
 if t.n < 1 ∨ 8191 < t.n then none
 else
   match (nextT l).2 with
   | .bad _ => none
   | .good g =>
     if g.kind ≠ 1 ∨ g.n < 0 ∨ 65535 < g.n then none
     else
       match (nextT (l.drop ((nextT l).1 + g.len))).2 with
       | .bad _ => none
       | .good w => if w.kind = 5 ∧ w.s = [82] then some (g.n,(l.drop ((nextT l).1 + g.len)).drop ((nextT (l.drop ((nextT l).1 + g.len))).1 + w.len)) else none
def arrS (f : Tok → L → Res (Ob × L)) (d : Nat) : Nat → L → List Ob → Res (List Ob × L)
 | 0,_,_ => .bad 0
 | m + 1,l,acc =>
   match nextS l with
   | .bad e => .bad e
   | .good (t,r) =>
     if t.kind = 6 ∧ t.s = [93] then .good (acc,r)
     else if beginsS t = true ∧ 0 < d ∧ 8191 ≤ acc.length then .bad 6
     else
       match f t r with
       | .bad e => .bad e
       | .good (o,r2) => arrS f d m r2 (acc ++ [o])
def dictS (f : Tok → L → Res (Ob × L)) : Nat → L → List (L × Ob) → Res (List (L × Ob) × L)
 | 0,_,_ => .bad 0
 | m + 1,l,acc =>
   match nextS l with
   | .bad e => .bad e
   | .good (t,r) =>
     if t.kind = 6 ∧ t.s = [62,62] then .good (acc,r)
     else if t.kind ≠ 4 then .bad 3
     else if (acc.any fun p => p.1 == t.s) = true then .bad 9
     else if 8191 ≤ acc.length then .bad 6
     else
       match nextS r with
       | .bad e => .bad e
       | .good (t2,r2) =>
         match f t2 r2 with
         | .bad e => .bad e
         | .good (o,r3) => dictS f m r3 (acc ++ [(t.s,o)])
def leL : L → L → Bool
 | [],_ => true
 | _ :: _,[] => false
 | a :: x,b :: y => a < b || (a == b && leL x y)
def insL (k : L) : List L → List L
 | [] => [k]
 | x :: l => if leL k x then k :: x :: l else x :: insL k l
def isort (l : List L) : List L:=l.foldr insL []
def mkDict (ps : List (L × Ob)) : Ob :=
 let ks:=isort ((ps.filter fun p => p.2.kind != 0).map (·.1))
 .mk 7 0 0 [] ks (ks.map fun k => ((ps.find? fun p => p.1 == k).map (·.2)).getD .zero)
def objS : Nat → Tok → L → Res (Ob × L)
 | 0,t,_ => if beginsS t then .bad 7 else .bad 3
 | d + 1,t,l =>
   if beginsS t then
     if t.kind = 1 then
       match refS t l with
       | some (g,r) => .good (.ref t.n g,r)
       | none => .good (.int t.n,l)
     else if t.kind = 2 then .good (.real t.n,l)
     else if t.kind = 3 then .good (.str t.s,l)
     else if t.kind = 4 then .good (.name t.s,l)
     else if t.kind = 5 then .good (if t.s = wNull then .zero else .bool (t.s == wTrue),l)
     else if t.s = [91] then
       match arrS (objS d) d (l.length + 1) l [] with
       | .bad e => .bad e
       | .good (ks,r) => .good (.mk 6 0 0 [] [] ks,r)
     else
       match dictS (objS d) (l.length + 1) l [] with
       | .bad e => .bad e
       | .good (ps,r) => .good (mkDict ps,r)
   else .bad 3
def readS (l : L) : Res (Ob × L) :=
 match nextS l with
 | .bad e => .bad e
 | .good (t,r) => objS 24 t r
end Fo
namespace Go.Proofs.YtinafodpgjbedaaGreatDoor
open Go.RowKit Fo
def KeysAt (S : Nat → Prop) (w : World) (v : Value) (ks : List L) : Prop :=
 (ks = [] ∧ ∃ p c,v = .slice p 0 c) ∨
 ∃ b o c,v = .slice (some ⟨b,o,none⟩) ks.length c ∧ S b ∧ ∀ i (h : i < ks.length),w.cell? ⟨b,o + i,none⟩ = some (.string ⟨(ks[i]).toArray⟩)
def objCells (k n g : Int) (s : L) (kv dv : Value) : List Value:=[.int .i64 k,.int .i64 n,.int .i64 g,.string ⟨s.toArray⟩,kv,dv]
def ObjAt (S : Nat → Prop) : Nat → World → List Value → Ob → Prop
 | 0,_,_,_ => False
 | d + 1, w, cs, o => ∃ kv dv, cs = objCells o.kind o.n o.g o.s kv dv ∧ KeysAt S w kv o.keys ∧
     ((o.kids = [] ∧ ∃ p c,dv = .slice p 0 c) ∨
      ∃ b off c,dv = .slice (some ⟨b,off,none⟩) o.kids.length c ∧ S b ∧
        ∀ i (h : i < o.kids.length),∃ ks : List Value,ks.length = 6 ∧ (∀ j (hj : j < ks.length),w.cell? ⟨b,off + 6 * i + j,none⟩ = some ks[j]) ∧ ObjAt S d w ks o.kids[i])
theorem KeysAt.kept {S : Nat → Prop} {w w' : World} {v : Value} {ks : List L} (h : KeysAt S w v ks) (hk : ∀ b,S b → w'.heap[b]? = w.heap[b]?) : KeysAt S w' v ks:=by
 rcases h with h | ⟨b,o,c,h1,h2,h3⟩
 · exact .inl h
 · exact .inr ⟨b,o,c,h1,h2,fun i hi => (World.cell?_of_block (hk b h2)).trans (h3 i hi)⟩
theorem ObjAt.kept {S : Nat → Prop} {w w' : World} (hk : ∀ b,S b → w'.heap[b]? = w.heap[b]?) : ∀ (d : Nat) {cs : List Value} {o : Ob},ObjAt S d w cs o → ObjAt S d w' cs o
 | 0,_,_,h => h
 | d + 1,cs,o,h => by
   obtain ⟨kv,dv,h1,h2,h3⟩:=h
   refine ⟨kv,dv,h1,h2.kept hk,?_⟩
   rcases h3 with h3 | ⟨b,off,c,h4,h5,h6⟩
   · exact .inl h3
   · refine .inr ⟨b,off,c,h4,h5,fun i hi => ?_⟩
     obtain ⟨ks,g1,g2,g3⟩:=h6 i hi
     exact ⟨ks,g1,fun j hj => (World.cell?_of_block (hk b h5)).trans (g2 j hj),ObjAt.kept hk d g3⟩
theorem KeysAt.weaken {S S' : Nat → Prop} {w : World} {v : Value} {ks : List L} (h : KeysAt S w v ks) (hk : ∀ b,S b → b < w.heap.size → S' b) : KeysAt S' w v ks:=by
 rcases h with h | ⟨b,o,c,h1,h2,h3⟩
 · exact .inl h
 · by_cases he : ks = []
   · exact .inl ⟨he,_,_,by rw [h1,he];rfl⟩
   · have h0:=h3 0 (List.length_pos_iff.2 he)
     have hlt : b < w.heap.size:=by
       apply Classical.byContradiction;intro hn
       simp [World.cell?,Array.getElem?_eq_none (Nat.not_lt.1 hn)] at h0
     exact .inr ⟨b,o,c,h1,hk b h2 hlt,h3⟩
theorem ObjAt.weaken {S S' : Nat → Prop} {w : World} (hk : ∀ b,S b → b < w.heap.size → S' b) : ∀ (d : Nat) {cs : List Value} {o : Ob},ObjAt S d w cs o → ObjAt S' d w cs o
 | 0,_,_,h => h
 | d + 1,cs,o,h => by
   obtain ⟨kv,dv,h1,h2,h3⟩:=h
   refine ⟨kv,dv,h1,h2.weaken hk,?_⟩
   rcases h3 with h3 | ⟨b,off,c,h4,h5,h6⟩
   · exact .inl h3
   · by_cases he : o.kids = []
     · exact .inl ⟨he,_,_,by rw [h4,he];rfl⟩
     · obtain ⟨ks,g1,g2,_⟩:=h6 0 (List.length_pos_iff.2 he)
       have h0:=g2 0 (by omega)
       have hlt : b < w.heap.size:=by
         apply Classical.byContradiction;intro hn
         simp [World.cell?,Array.getElem?_eq_none (Nat.not_lt.1 hn)] at h0
       refine .inr ⟨b,off,c,h4,hk b h5 hlt,fun i hi => ?_⟩
       obtain ⟨ks,g1,g2,g3⟩:=h6 i hi
       exact ⟨ks,g1,g2,ObjAt.weaken hk d g3⟩
theorem ObjAt.up {S : Nat → Prop} {w : World} : ∀ (d : Nat) {cs : List Value} {o : Ob},ObjAt S d w cs o → ObjAt S (d + 1) w cs o
 | 0,_,_,h => h.elim
 | d + 1,cs,o,h => by
   obtain ⟨kv,dv,h1,h2,h3⟩:=h
   refine ⟨kv,dv,h1,h2,?_⟩
   rcases h3 with h3 | ⟨b,off,c,h4,h5,h6⟩
   · exact .inl h3
   · refine .inr ⟨b,off,c,h4,h5,fun i hi => ?_⟩
     obtain ⟨ks,g1,g2,g3⟩:=h6 i hi
     exact ⟨ks,g1,g2,ObjAt.up d g3⟩
structure Bes (r : Nat) (w w' : World) : Prop where
 os : w'.os = w.os
 tape : w'.tape = w.tape
 output : w'.output = w.output
 size : w.heap.size ≤ w'.heap.size
 block : ∀ k,k < w.heap.size → k ≠ r → w'.heap[k]? = w.heap[k]?
theorem Bes.refl (r : Nat) (w : World) : Bes r w w:=⟨rfl,rfl,rfl,Nat.le_refl _,fun _ _ _ => rfl⟩
theorem Bes.trans {r : Nat} {a b c : World} (h : Bes r a b) (k : Bes r b c) : Bes r a c :=
 ⟨k.os.trans h.os,k.tape.trans h.tape,k.output.trans h.output,Nat.le_trans h.size k.size,fun i hi hr => (k.block i (Nat.lt_of_lt_of_le hi h.size) hr).trans (h.block i hi hr)⟩
theorem Bes.of_below {r : Nat} {w w' : World} (h : Below w.heap.size w w') : Bes r w w':=⟨h.os,h.tape,h.output,h.size,fun k hk _ => h.block k hk⟩
theorem Bes.below {r : Nat} {a w w' : World} (h : Bes r a w) (hb : Below w.heap.size w w') : Bes r a w':=h.trans (.of_below hb)
theorem Bes.belowB {r B : Nat} {a w w' : World} (h : Bes r a w) (hb : Below B w w') (hB : a.heap.size ≤ B) : Bes r a w' :=
 ⟨hb.os.trans h.os,hb.tape.trans h.tape,hb.output.trans h.output,Nat.le_trans h.size hb.size,fun i hi hr => (hb.block i (by omega)).trans (h.block i hi hr)⟩
theorem Bes.setCell {r : Nat} {a w : World} (h : Bes r a w) (o : Nat) (v : Value) : Bes r a (w.setCell ⟨r,o,none⟩ v) :=
 ⟨h.os,h.tape,h.output,by simp [World.setCell];exact h.size,fun k hk hr => (Below.heap_setCell _ _ _ _ (by simpa using hr)).trans (h.block k hk hr)⟩
theorem Bes.setCell_new {r : Nat} {a w : World} (h : Bes r a w) {p : Addr} (hp : a.heap.size ≤ p.block) (v : Value) : Bes r a (w.setCell p v) :=
 ⟨h.os,h.tape,h.output,by simp [World.setCell];exact h.size,fun k hk hr => (Below.heap_setCell _ _ _ _ (by omega)).trans (h.block k hk hr)⟩
theorem Bes.alloc {r : Nat} {a w : World} (h : Bes r a w) (o : Go.Obj) : Bes r a (w.alloc o) :=
 ⟨h.os,h.tape,h.output,by simp;have:=h.size;omega,fun k hk hr => (Below.heap_alloc _ _ _ (Nat.lt_of_lt_of_le hk h.size)).trans (h.block k hk hr)⟩
theorem Bes.drew {r : Nat} {a w : World} (h : Bes r a w) : Bes r a w.drew:=⟨h.os,h.tape,h.output,h.size,h.block⟩
theorem Bes.drewN {r : Nat} {a w : World} (h : Bes r a w) (n : Nat) : Bes r a (w.drewN n):=⟨h.os,h.tape,h.output,h.size,h.block⟩
def RdAt (w : World) (r : Nat) (s : ByteArray) (a : Nat) : Prop:=w.heap[r]? = some (.cells #[.string s,.int .i64 a] 178 (0,0))
theorem RdAt.lt {w : World} {r : Nat} {s : ByteArray} {a : Nat} (h : RdAt w r s a) : r < w.heap.size:=lt_of_block h
theorem RdAt.cell0 {w : World} {r : Nat} {s : ByteArray} {a : Nat} (h : RdAt w r s a) : w.cell? ⟨r,0,none⟩ = some (.string s):=by
 unfold RdAt at h;simp [World.cell?,h]
theorem RdAt.cell1 {w : World} {r : Nat} {s : ByteArray} {a : Nat} (h : RdAt w r s a) : w.cell? ⟨r,1,none⟩ = some (.int .i64 a):=by
 unfold RdAt at h;simp [World.cell?,h]
theorem RdAt.frozen {w : World} {r : Nat} {s : ByteArray} {a : Nat} (h : RdAt w r s a) (o : Nat) : w.frozen? ⟨r,o,none⟩ = false:=by
 unfold RdAt at h;simp [World.frozen?,h]
theorem RdAt.below {w w' : World} {r : Nat} {s : ByteArray} {a : Nat} (h : RdAt w r s a) (hb : Below w.heap.size w w') : RdAt w' r s a:=by
 unfold RdAt at *;rw [hb.block r (lt_of_block h)];exact h
theorem RdAt.belowB {B : Nat} {w w' : World} {r : Nat} {s : ByteArray} {a : Nat} (h : RdAt w r s a) (hb : Below B w w') (hB : r < B) : RdAt w' r s a:=by
 unfold RdAt at *;rw [hb.block r hB];exact h
theorem RdAt.set {w : World} {r : Nat} {s : ByteArray} {a b : Nat} (h : RdAt w r s a) : RdAt (w.setCell ⟨r,1,none⟩ (.int .i64 b)) r s b:=by
 unfold RdAt at *
 have hlt:=lt_of_block h
 have h' : w.heap[r] = .cells #[.string s,.int .i64 a] 178 (0,0):=by simpa [Array.getElem?_eq_getElem hlt] using h
 simp only [World.setCell,Array.getElem?_modify]
 simp [h]
open Go.RowKit Fo
theorem heap_new_at (w : World) (o : Go.Obj) (b : Nat) (h : b = w.heap.size) : (w.alloc o).heap[b]? = some o:=by subst h;exact heap_alloc_new w o
theorem six_of {w : World} {b : Nat} {t : TypeId} {v0 v1 v2 v3 v4 v5 : Value} (h : w.heap[b]? = some (.cells #[v0, v1, v2, v3, v4, v5] t (0, 0))) :
   w.cell? ⟨b,0,none⟩ = some v0 ∧ w.cell? ⟨b,1,none⟩ = some v1 ∧ w.cell? ⟨b,2,none⟩ = some v2 ∧ w.cell? ⟨b,3,none⟩ = some v3 ∧ w.cell? ⟨b,4,none⟩ = some v4 ∧ w.cell? ⟨b,5,none⟩ = some v5 ∧ ∀ o,w.frozen? ⟨b,o,none⟩ = false:=by
 simp [World.cell?,World.frozen?,h]
theorem own_slice {w : World} {B sz n : Nat} {e : TypeId} {v : Value} {xs : List Value} (h : w.ownsRow B e sz v n xs) : ∃ p c,v = .slice p n c:=by
 rcases h.2 with ⟨h1,h2⟩ | ⟨g,cap,cur,h1,_⟩
 · exact ⟨none,0,by rw [h1,h2]⟩
 · exact ⟨_,_,h1⟩
theorem ObjAt.shape {S : Nat → Prop} {d : Nat} {w : World} {cs : List Value} {o : Ob} (h : ObjAt S d w cs o) : ∃ p1 n1 c1 p2 n2 c2,cs = objCells o.kind o.n o.g o.s (.slice p1 n1 c1) (.slice p2 n2 c2):=by
 cases d with
 | zero => exact h.elim
 | succ d =>
   obtain ⟨kv,dv,h1,h2,h3⟩:=h
   have a1 : ∃ p n c,kv = .slice p n c:=by
     rcases h2 with ⟨_,p,c,h⟩ | ⟨b,o,c,h,_⟩
     · exact ⟨_,_,_,h⟩
     · exact ⟨_,_,_,h⟩
   have a2 : ∃ p n c,dv = .slice p n c:=by
     rcases h3 with ⟨_,p,c,h⟩ | ⟨b,o,c,h,_⟩
     · exact ⟨_,_,_,h⟩
     · exact ⟨_,_,_,h⟩
   obtain ⟨p1,n1,c1,rfl⟩:=a1
   obtain ⟨p2,n2,c2,rfl⟩:=a2
   exact ⟨p1,n1,c1,p2,n2,c2,h1⟩
theorem Tryz.infoOb : (Tryz.prog.info? 36).map (fun i => (i.zero,i.size,i.bytes)) = some (some (.agg #[.int .i64 0,.int .i64 0,.int .i64 0,.string ⟨#[]⟩,.slice none 0 0,.slice none 0 0]),6,88):=by kernel_rfl
theorem ObjAt.grow {S S' : Nat → Prop} {w w' : World} {d : Nat} {cs : List Value} {o : Ob} (h : ObjAt S d w cs o)
   (hk : ∀ b,S b → b < w.heap.size → S' b ∧ w'.heap[b]? = w.heap[b]?) : ObjAt S' d w' cs o :=
 (ObjAt.kept (S:=fun b => S' b ∧ w'.heap[b]? = w.heap[b]?) (fun b hb => hb.2) d (h.weaken (fun b h1 h2 => hk b h1 h2) d)).weaken (fun b h _ => h.1) d
def KidsAt (S : Nat → Prop) (d : Nat) (w : World) (css : List (List Value)) (acc : List Ob) : Prop :=
 css.length = acc.length ∧ ∀ (i : Nat) (cs : List Value) (o : Ob),css[i]? = some cs → acc[i]? = some o → cs.length = 6 ∧ ObjAt S d w cs o
theorem KidsAt.nil {S : Nat → Prop} {d : Nat} {w : World} : KidsAt S d w [] []:=⟨rfl,fun i cs o h => by simp at h⟩
theorem KidsAt.grow {S S' : Nat → Prop} {w w' : World} {d : Nat} {css : List (List Value)} {acc : List Ob} (h : KidsAt S d w css acc)
   (hk : ∀ b,S b → b < w.heap.size → S' b ∧ w'.heap[b]? = w.heap[b]?) : KidsAt S' d w' css acc :=
 ⟨h.1,fun i cs o h1 h2 => ⟨(h.2 i cs o h1 h2).1,(h.2 i cs o h1 h2).2.grow hk⟩⟩
theorem KidsAt.push {S : Nat → Prop} {w : World} {d : Nat} {css : List (List Value)} {acc : List Ob} {cs : List Value} {o : Ob} (h : KidsAt S d w css acc)
   (hl : cs.length = 6) (ho : ObjAt S d w cs o) : KidsAt S d w (css ++ [cs]) (acc ++ [o]):=by
 refine ⟨by simp [h.1],fun i c x h1 h2 => ?_⟩
 by_cases hi : i < css.length
 · rw [List.getElem?_append_left hi] at h1
   rw [List.getElem?_append_left (by rw [← h.1];exact hi)] at h2
   exact h.2 i c x h1 h2
 · rw [List.getElem?_append_right (by omega)] at h1
   rw [List.getElem?_append_right (by rw [← h.1];omega)] at h2
   have h0 : i - css.length = 0:=by
     have:=(List.getElem?_eq_some_iff.1 h1).1;simp at this;omega
   rw [h0] at h1
   rw [← h.1,h0] at h2
   simp at h1 h2
   subst h1;subst h2
   exact ⟨hl,ho⟩
theorem flat6 {css : List (List Value)} (h : ∀ cs ∈ css,cs.length = 6) : css.flatten.length = 6 * css.length:=by
 induction css with
 | nil => rfl
 | cons c css ih =>
   rw [List.flatten_cons,List.length_append,h c (by simp),ih (fun x hx => h x (by simp [hx])),List.length_cons];omega
theorem flat6_get {css : List (List Value)} (h : ∀ cs ∈ css,cs.length = 6) {i j : Nat} {cs : List Value} (hi : css[i]? = some cs) (hj : j < 6) : css.flatten[6 * i + j]? = cs[j]?:=by
 induction css generalizing i with
 | nil => simp at hi
 | cons c css ih =>
   rw [List.flatten_cons]
   have hc : c.length = 6:=h c (by simp)
   cases i with
   | zero =>
     simp at hi;subst hi
     rw [List.getElem?_append_left (by omega)];simp
   | succ i =>
     simp at hi
     rw [List.getElem?_append_right (by omega),hc,show 6 * (i + 1) + j - 6 = 6 * i + j by omega]
     exact ih (fun x hx => h x (by simp [hx])) hi
theorem KidsAt.six {S : Nat → Prop} {w : World} {d : Nat} {css : List (List Value)} {acc : List Ob} (h : KidsAt S d w css acc) : ∀ cs ∈ css,cs.length = 6:=by
 intro cs hcs
 obtain ⟨i,hi,rfl⟩:=List.mem_iff_getElem.1 hcs
 have hi2 : i < acc.length:=by rw [← h.1];exact hi
 exact (h.2 i _ acc[i] (List.getElem?_eq_getElem hi) (List.getElem?_eq_getElem hi2)).1
theorem kids_at {S S' : Nat → Prop} {w : World} {B d : Nat} {v : Value} {css : List (List Value)} {acc : List Ob} (h : w.ownsRow B 36 6 v acc.length css.flatten) (hk : KidsAt S d w css acc)
   (hS : ∀ b,S b → S' b) (hB : ∀ b,B ≤ b → S' b) :
   (acc = [] ∧ ∃ p c,v = .slice p 0 c) ∨ ∃ b off c,v = .slice (some ⟨b,off,none⟩) acc.length c ∧ S' b ∧
     ∀ i (h : i < acc.length),∃ ks : List Value,ks.length = 6 ∧ (∀ j (hj : j < ks.length),w.cell? ⟨b,off + 6 * i + j,none⟩ = some ks[j]) ∧ ObjAt S' d w ks acc[i]:=by
 rcases h.2 with ⟨h1,h2⟩ | ⟨g,cap,cur,h1,h2,h3⟩
 · exact .inl ⟨List.eq_nil_of_length_eq_zero h2,_,_,h1⟩
 · refine .inr ⟨g,0,cap,h1,hB g h2,fun i hi => ?_⟩
   have hi' : i < css.length:=by rw [hk.1];exact hi
   have hks:=hk.2 i css[i] acc[i] (List.getElem?_eq_getElem hi') (List.getElem?_eq_getElem hi)
   refine ⟨css[i],hks.1,fun j hj => ?_,hks.2.weaken (fun b hb _ => hS b hb) d⟩
   have hlen : 6 * i + j < acc.length * 6:=by have:=hks.1;omega
   have hcell:=World.ownsRow.cellAt (g:=g) (cap:=cap) (by rw [← h1];exact h) (6 * i + j) hlen
   rw [show 0 + 6 * i + j = 6 * i + j by omega,hcell,flat6_get hk.six (List.getElem?_eq_getElem hi') (by have:=hks.1;omega)]
   exact List.getElem?_eq_getElem hj
theorem objCells_one (o : Ob) (p1 : Option Addr) (n1 c1 : Nat) (p2 : Option Addr) (n2 c2 : Nat) : ∀ u ∈ objCells o.kind o.n o.g o.s (.slice p1 n1 c1) (.slice p2 n2 c2),u.oneCell' = true:=by
 intro u hu;simp [objCells] at hu;rcases hu with rfl | rfl | rfl | rfl | rfl | rfl <;> rfl
theorem set1_grown {a w : World} {b : Nat} (h : a.grownBy w (some b)) (o : Nat) (v : Value) : a.grownBy (w.setCell ⟨b,o,none⟩ v) (some b) :=
 ⟨h.os,h.tape,h.output,by simp [World.setCell];exact h.size,fun k h1 h2 => (Below.heap_setCell _ _ _ _ (fun hk => h2 (by rw [hk]))).trans (h.block k h1 h2)⟩
theorem set6_grown (w : World) (b o0 o1 o2 o3 o4 o5 : Nat) (v0 v1 v2 v3 v4 v5 : Value) :
   w.grownBy ((((((w.setCell ⟨b,o0,none⟩ v0).setCell ⟨b,o1,none⟩ v1).setCell ⟨b,o2,none⟩ v2).setCell ⟨b,o3,none⟩ v3).setCell ⟨b,o4,none⟩ v4).setCell ⟨b,o5,none⟩ v5) (some b) :=
 set1_grown (set1_grown (set1_grown (set1_grown (set1_grown (set1_grown ⟨rfl,rfl,rfl,Nat.le_refl _,fun _ _ _ => rfl⟩ _ _) _ _) _ _) _ _) _ _) _ _
theorem flat_set {css : List (List Value)} {i : Nat} {u0 u1 u2 u3 u4 u5 : Value} (h : ∀ cs ∈ css, cs.length = 6) (hi : i < css.length) :
   ((((((css.flatten.set (6 * i) u0).set (6 * i + 1) u1).set (6 * i + 2) u2).set (6 * i + 3) u3).set (6 * i + 4) u4).set (6 * i + 5) u5) = (css.set i [u0,u1,u2,u3,u4,u5]).flatten:=by
 induction css generalizing i with
 | nil => simp at hi
 | cons c css ih =>
   have hc : c.length = 6:=h c (by simp)
   cases i with
   | zero =>
     obtain ⟨a0,a1,a2,a3,a4,a5,rfl⟩ : ∃ a0 a1 a2 a3 a4 a5,c = [a0,a1,a2,a3,a4,a5]:=by
       match c,hc with
       | [a0,a1,a2,a3,a4,a5],_ => exact ⟨_,_,_,_,_,_,rfl⟩
     simp
   | succ i =>
     have:=ih (i:=i) (fun x hx => h x (by simp [hx])) (by simpa using hi)
     rw [List.set_cons_succ,List.flatten_cons,List.flatten_cons,← this]
     have key : ∀ (l : List Value) (j : Nat) (u : Value),(c ++ l).set (6 * (i + 1) + j) u = c ++ l.set (6 * i + j) u:=fun l j u => by
       rw [List.set_append_right _ _ (by omega),hc,show 6 * (i + 1) + j - 6 = 6 * i + j by omega]
     have key0 : ∀ (l : List Value) (u : Value),(c ++ l).set (6 * (i + 1)) u = c ++ l.set (6 * i) u:=fun l u => key l 0 u
     rw [key0,key,key,key,key,key]
theorem flat_set' {css : List (List Value)} {i : Nat} {u0 u1 u2 u3 u4 u5 : Value} (h : ∀ cs ∈ css, cs.length = 6) (hi : i < css.length) :
   ((((((css.flatten.set (i * 6) u0).set (i * 6 + 1) u1).set (i * 6 + 2) u2).set (i * 6 + 3) u3).set (i * 6 + 4) u4).set (i * 6 + 5) u5) = (css.set i [u0,u1,u2,u3,u4,u5]).flatten:=by
 have:=flat_set (u0:=u0) (u1:=u1) (u2:=u2) (u3:=u3) (u4:=u4) (u5:=u5) h hi
 rw [Nat.mul_comm 6 i] at this
 exact this
theorem set_six {w : World} {b : Nat} {t : TypeId} {a0 a1 a2 a3 a4 a5 v0 v1 v2 v3 v4 v5 : Value} (h : w.heap[b]? = some (.cells #[a0, a1, a2, a3, a4, a5] t (0, 0))) :
   ((((((w.setCell ⟨b,0,none⟩ v0).setCell ⟨b,1,none⟩ v1).setCell ⟨b,2,none⟩ v2).setCell ⟨b,3,none⟩ v3).setCell ⟨b,4,none⟩ v4).setCell ⟨b,5,none⟩ v5).heap[b]? = some (.cells #[v0,v1,v2,v3,v4,v5] t (0,0)):=by
 have hlt:=lt_of_block h
 have h' : w.heap[b] = .cells #[a0,a1,a2,a3,a4,a5] t (0,0):=by simpa [Array.getElem?_eq_getElem hlt] using h
 simp only [World.setCell,Array.getElem?_modify]
 simp [h]
theorem set_fifth {w : World} {b : Nat} {t : TypeId} {v0 v1 v2 v3 v4 v5 v : Value} (h : w.heap[b]? = some (.cells #[v0, v1, v2, v3, v4, v5] t (0, 0))) :
   (w.setCell ⟨b,5,none⟩ v).heap[b]? = some (.cells #[v0,v1,v2,v3,v4,v] t (0,0)):=by
 have hlt:=lt_of_block h
 have h' : w.heap[b] = .cells #[v0,v1,v2,v3,v4,v5] t (0,0):=by simpa [Array.getElem?_eq_getElem hlt] using h
 simp only [World.setCell,Array.getElem?_modify]
 simp [h]
theorem set_fourth {w : World} {b : Nat} {t : TypeId} {v0 v1 v2 v3 v4 v5 v : Value} (h : w.heap[b]? = some (.cells #[v0, v1, v2, v3, v4, v5] t (0, 0))) :
   (w.setCell ⟨b,4,none⟩ v).heap[b]? = some (.cells #[v0,v1,v2,v3,v,v5] t (0,0)):=by
 have hlt:=lt_of_block h
 have h' : w.heap[b] = .cells #[v0,v1,v2,v3,v4,v5] t (0,0):=by simpa [Array.getElem?_eq_getElem hlt] using h
 simp only [World.setCell,Array.getElem?_modify]
 simp [h]
theorem set_any {w : World} {b o : Nat} {t : TypeId} {cur : Array Value} {v : Value} (h : w.heap[b]? = some (.cells cur t (0, 0))) :
   (w.setCell ⟨b,o,none⟩ v).heap[b]? = some (.cells (cur.setIfInBounds o v) t (0,0)):=by
 have hlt:=lt_of_block h
 have h' : w.heap[b] = .cells cur t (0,0):=by simpa [Array.getElem?_eq_getElem hlt] using h
 simp only [World.setCell,Array.getElem?_modify]
 simp [h',Array.getElem?_eq_getElem hlt]
open Go.RowKit Fo
theorem own_lt {α : Type} {E : Enc α} {t : TypeId} {w : World} {B : Nat} {v : Value} {xs : List α} (h : rownS E t w B v xs) : ∀ k,v.ownBlock = some k → k < w.heap.size:=by
 intro k hk
 unfold rownS at h
 rcases h.2 with ⟨rfl,_⟩ | ⟨g,cap,cur,rfl,h2,h3,_⟩
 · simp [Value.ownBlock] at hk
 · simp [Value.ownBlock] at hk
   subst hk
   exact lt_of_block (by first | exact h3 | exact h3.1)
theorem row_lies {α : Type} {E : Enc α} {t : TypeId} {w w' : World} {B : Nat} {v : Value} {xs : List α} (h : rownS E t w B v xs) (hk : ∀ k,v.ownBlock = some k → w'.heap[k]? = w.heap[k]?) : rownS E t w' B v xs:=by
 refine ⟨h.1,?_⟩
 rcases h.2 with h0 | ⟨g,cap,cur,rfl,h2,h3,h4⟩
 · exact .inl h0
 · exact .inr ⟨g,cap,cur,rfl,h2,(hk g rfl).trans h3,h4⟩
structure SetAt (X : Nat) (w w' : World) : Prop where
 os : w'.os = w.os
 tape : w'.tape = w.tape
 output : w'.output = w.output
 size : w'.heap.size = w.heap.size
 block : ∀ k,k ≠ X → w'.heap[k]? = w.heap[k]?
theorem SetAt.refl (X : Nat) (w : World) : SetAt X w w:=⟨rfl,rfl,rfl,rfl,fun _ _ => rfl⟩
theorem SetAt.set {X : Nat} {w w' : World} (h : SetAt X w w') (o : Nat) (v : Value) : SetAt X w (w'.setCell ⟨X,o,none⟩ v) :=
 ⟨h.os,h.tape,h.output,by rw [← h.size];simp [World.setCell],fun k hk => (Below.heap_setCell _ _ _ _ hk).trans (h.block k hk)⟩
open Go.RowKit Fo
theorem regular_as (c : UInt8) (b : Bool) (h : regular c = b) (w : World) :
   Calls Tryz.prog 195 #[.int .u8 c.toNat] w fun e w' => e = .returned (.bool b) ∧ w' = w:=h ▸ regular_any c w
theorem regN_le (l : L) : regN l ≤ l.length:=by
 induction l with
 | nil => simp [regN]
 | cons c l ih => simp only [regN,List.length_cons];split <;> omega
theorem run_in (s : ByteArray) (c a : Nat) (ha : a ≤ s.size) (hs : s.size ≤ maxLen) (w : World) :
   Calls Tryz.prog 157 #[.agg #[.string s,.int .i64 c],.int .i64 a] w fun e w' => e = .returned (.int .i64 (a + regN (s.data.toList.drop a) : Nat)) ∧ Below w.heap.size w w':=by
 unfold maxLen at hs
 obtain ⟨T,hT⟩ : ∃ T,a + regN (s.data.toList.drop a) = T:=⟨_,rfl⟩
 rw [hT]
 have HT:=Lib.hid hT;clear hT
 go_enter Tryz.func157,Tryz.ntmps157
 go_wp2
 go_loop [1] (fun p => ∃ (k : Nat),k ≤ s.size ∧ p = .int .i64 k ∧ Hid (k + regN (s.data.toList.drop k) = T)) (fun p => s.size - (intOf p).toNat)
 case atStart => exact ⟨a,ha,rfl,HT⟩
 case round =>
   obtain ⟨k,hk,rfl,H⟩:=hrel
   clear HT
   by_cases hlt : k < s.size
   · have H1:=H.out
     rw [drop_get s k hlt] at H1
     have H2:=Lib.hid H1;clear H1 H
     cases hr : regular s[k]
     · have HR:=Lib.hid hr;clear hr
       go_wp2_with (go_at_call 195;refine (regular_as _ _ HR.out _).mono ?_;rintro e w' ⟨rfl,rfl⟩)
       go_ret
       exact ⟨ret_int (by have:=H2.out;simp [regN,HR.out] at this;omega),(Below.refl _ _).alloc (Nat.le_refl _) _⟩
     · have HR:=Lib.hid hr;clear hr
       go_wp2_with (go_at_call 195;refine (regular_as _ _ HR.out _).mono ?_;rintro e w' ⟨rfl,rfl⟩)
       go_round
       case rel => exact ⟨k + 1,by omega,by go_num,by have:=H2.out;simp [regN,HR.out] at this;show _ = _;omega⟩
       case measure => simp [intOf];omega
   · have hk2 : k = s.size:=by omega
     subst hk2
     have H1:=Lib.hid (show s.size = T by have:=H.out;rw [List.drop_eq_nil_of_le (by simp)] at this;simpa [regN] using this)
     clear H
     go_wp2
     go_ret
     exact ⟨ret_int (by rw [H1.out]),(Below.refl _ _).alloc (Nat.le_refl _) _⟩
theorem mark_in (s : ByteArray) (a n : Nat) (ha : a + n ≤ s.size) (hs : s.size ≤ maxLen) (w : World) :
   Calls Tryz.prog 123 #[.agg #[.string s,.int .i64 a],.int .i64 n] w fun e w' => e = .returned (.tuple #[.agg #[.int .i64 6,.int .i64 a,.int .i64 (a + n : Nat),.int .i64 0,.string (s.extract a (a + n))],.int .i64 0]) ∧ Below w.heap.size w w':=by
 unfold maxLen at hs
 go_enter Tryz.func123,Tryz.ntmps123
 go_wp2
 go_region
 go_wp2
 refine bodyPost_ret (v:=.tuple #[.agg #[.int .i64 6,.int .i64 a,.int .i64 (a + n),.int .i64 0,.string (s.extract a (a + n))],.int .i64 0]) (by simp [results,Tryz.results123,go_sem]) rfl ⟨by simp,bel⟩
theorem told_in (s : ByteArray) (a : Nat) (k tt : Int) (t : ByteArray) (most : Nat) (ht : t.size ≤ maxLen) (w : World) (h : t.size ≤ most) :
   Calls Tryz.prog 155 #[.agg #[.string s,.int .i64 a],.int .i64 k,.int .i64 tt,.string t,.int .i64 most] w fun e w' => e = .returned (.tuple #[.agg #[.int .i64 k,.int .i64 a,.int .i64 tt,.int .i64 0,.string t],.int .i64 0]) ∧ Below w.heap.size w w':=by
 unfold maxLen at ht
 go_enter Tryz.func155,Tryz.ntmps155
 go_wp2
 refine bodyPost_ret (v:=.tuple #[.agg #[.int .i64 k,.int .i64 a,.int .i64 tt,.int .i64 0,.string t],.int .i64 0]) (by simp [results,Tryz.results155,go_sem]) rfl ⟨rfl,bel⟩
theorem refused_in (e : Int) (w : World) :
   Calls Tryz.prog 121 #[.int .i64 e] w fun x w' => x = .returned (.tuple #[.agg #[.int .i64 0,.int .i64 0,.int .i64 0,.int .i64 0,.string ⟨#[]⟩],.int .i64 e]) ∧ Below w.heap.size w w':=by
 go_enter Tryz.func121,Tryz.ntmps121
 go_wp2
 refine bodyPost_ret (v:=.tuple #[.agg #[.int .i64 0,.int .i64 0,.int .i64 0,.int .i64 0,.string ⟨#[]⟩],.int .i64 e]) (by simp [results,Tryz.results121,go_sem]) rfl ⟨rfl,bel⟩
theorem told_long (s : ByteArray) (a : Nat) (k tt : Int) (t : ByteArray) (most : Nat) (ht : t.size ≤ maxLen) (w : World) (h : most < t.size) :
   Calls Tryz.prog 155 #[.agg #[.string s,.int .i64 a],.int .i64 k,.int .i64 tt,.string t,.int .i64 most] w fun e w' => e = .returned (.tuple #[.agg #[.int .i64 0,.int .i64 0,.int .i64 0,.int .i64 0,.string ⟨#[]⟩],.int .i64 5]) ∧ Below w.heap.size w w':=by
 unfold maxLen at ht
 go_enter Tryz.func155,Tryz.ntmps155
 go_wp2_with (go_at_call 121;refine (refused_in _ _).mono ?_;rintro e w1 ⟨rfl,hb⟩;obtain ⟨hc,hf⟩:=bcell hb;have hz:=hb.size;simp at hz)
 refine bodyPost_ret (v:=.tuple #[.agg #[.int .i64 0,.int .i64 0,.int .i64 0,.int .i64 0,.string ⟨#[]⟩],.int .i64 5]) (by simp [results,Tryz.results155,go_sem,hc,hf]) rfl ⟨rfl,bel⟩
end Go.Proofs.YtinafodpgjbedaaGreatDoor
