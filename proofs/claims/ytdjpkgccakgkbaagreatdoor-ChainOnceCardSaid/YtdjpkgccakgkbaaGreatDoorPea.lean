/- Parts of the proof: Spec Shelf ShelfB Oct Lib Row Obj ObjAt KidA SetA. -/
import Derived.Shelf.Strings.Builder1
import Derived.Shelf.Strings.Builder2
import Derived.Shelf.Strings.Trim
import Derived.Shelf.Small.Utf8
import Derived.Shelf.Small.Bits
import Derived.Shelf.Small.Strs
import Derived.Shelf.Strings.BuilderF
import Derived.Shelf.Strings.BuilderK
import Derived.Shelf.Strconv.Itoa0
import Derived.Shelf.Strings.Search1
import Derived.Shelf.Strings.Search2
import Derived.Shelf.Strings.Search3
import Derived.Shelf.Strings.Cut
import Derived.Shelf.LaysM
import Derived.Shelf.Strings.Shaped
import Derived.Shelf.Sort.Plain
import Derived.Shelf.Strings.Prefix
import Derived.Shelf.Strings.Runes
import Derived.Shelf.Strings.AsciiSet
import Derived.Shelf.Bits.Mul64
import Derived.Shelf.Strings.Repeat
import Derived.Shelf.Unicode.DecodeSlow
import Derived.Shelf.Slices.Turned
import Derived.Ground.Names2Prog
import Derived.Shelf.Slices.Clone
import Derived.Shelf.Slices.SearchI
import Derived.Shelf.Slices.Delete
import Derived.Shelf.Slices.Cells
import Derived.Shelf.Slices.In.SortNone
import Derived.Shelf.Slices.Empties
import Derived.Test.YtdjpkgccakgkbaaGreatDoorProg
import Derived.Shelf.Strings.SlTrimAscii
import Derived.Test.YtdjpkgccakgkbaaGreatDoorRows
import Derived.WalkKit
import Derived.WalkSpells
import Derived.WalkLawsBesides
import Derived.Lib.Hide
import Derived.OneCell
import Derived.Deep.DeepFit
import Derived.Deep.LoopGhost
import Derived.Deep.AppendLies
set_option linter.all false
set_option maxRecDepth 100000
set_option maxHeartbeats 8000000
open Go Go.RowKit
theorem eX{α:Sort _}(x:α):∃y,x=y:=⟨x,rfl⟩
theorem oM{p:Prop}(h:p:=by omega):p:=h
theorem kR{p:Prop}(h:p:=by kernel_rfl):p:=h
theorem dC{p:Prop}(h:p:=by decide):p:=h
theorem sI{p:Prop}(h:p:=by simp):p:=h
theorem sO{p:Prop}(h:p:=by simp;omega):p:=h
abbrev bGA:=@Nat.lt_of_lt_of_le
abbrev bGB:=@Nat.le_refl
abbrev bGC:=@Nat.le_trans
abbrev bGD:=@Nat.le_of_eq
abbrev bGE:=@List.getElem?_eq_getElem
abbrev bGF:=@Nat.zero_le
abbrev bGG:=@List.getElem_mem
abbrev bGH:=@decide_eq_false
abbrev bGI:=@decide_eq_true
abbrev bGJ:=@lt_of_block
abbrev bGK:=@Below.heap_setCell
abbrev bGL:=@Below.refl
abbrev bGM:=@Below.heap_alloc
abbrev bGN:=@bodyPost_ret
abbrev bGO:=@World.cell?_of_block
abbrev bGP:=@heap_alloc_new
abbrev bGQ:=@And.intro
abbrev bGR:=@List.length_append
abbrev bGS:=@List.length_drop
abbrev bGT:=@List.length_take
abbrev bGU:=@if_neg
abbrev bGV:=@if_pos
abbrev bGW:=@leaves_cons
abbrev bGX:=@List.getD_eq_getElem?_getD
abbrev bGY:=@Nat.le_of_lt
abbrev bGZ:=@List.getElem?_eq_none
abbrev bHA:=@List.length_cons
abbrev bHB:=@List.all_eq_true
abbrev bHC:=@List.take_of_length_le
abbrev bHD:=@Calls.quiet_of_same
abbrev bHE:=@Below.trans
abbrev bHF:=@AllReady.cons
abbrev bHG:=@List.mem_of_getElem?
abbrev bHH:=@List.drop_eq_getElem_cons
abbrev bHI:=@List.eq_nil_of_length_eq_zero
abbrev bHJ:=@UInt8.toNat_ofNat'
abbrev bHK:=@List.length_replicate
abbrev bHL:=@Nat.mul_comm
abbrev bHM:=@Nat.add_assoc
section
variable{p:Prop}
theorem q8(h:p:=by decide +kernel):p:=h
theorem q10(h:p:=by simpa using h):p:=h
theorem q12(h:p:=by go_num):p:=h
theorem q13(h:p:=by have:=hg.size;simp at this;omega):p:=h
theorem q14(h:p:=by simpa using hj):p:=h
theorem q17(h:p:=by have:=(List.getElem?_eq_some_iff.1 hu).1;rw[E.len] at this;exact this):p:=h
theorem q18(h:p:=by simp[World.setCell]):p:=h
theorem q19(h:p:=by simp[World.setCell];exact h.size):p:=h
theorem q20(h:p:=by simpa[Array.getElem?_eq_getElem hlt] using h):p:=h
theorem q21(h:p:=by simp at h):p:=h
theorem q22(h:p:=by simpa using hi):p:=h
theorem q95(h:p:=by repeat' (first|(with_reducible exact Bes.refl _ _)|(with_reducible refine Bes.drew ?_)|(with_reducible refine Bes.drewN ?_ _)|(with_reducible refine Bes.alloc ?_ _)|(with_reducible refine Bes.setCell ?_ _ _)|(with_reducible refine Bes.setCell_new ?_ ?_ _)|(with_reducible refine Bes.belowB ?_ hb5 ?_)|(with_reducible refine Bes.belowB ?_ hb4 ?_)|(with_reducible refine Bes.belowB ?_ hb3 ?_)|(with_reducible refine Bes.belowB ?_ hb2 ?_)|(with_reducible refine Bes.belowB ?_ hb1 ?_)|(with_reducible refine Bes.belowB ?_ hbr ?_)|(with_reducible refine Bes.belowB ?_ hb ?_)|(with_reducible refine Bes.trans ?_ hs5)|(with_reducible refine Bes.trans ?_ hs4)|(with_reducible refine Bes.trans ?_ hs3)|(with_reducible refine Bes.trans ?_ hs2)|(with_reducible refine Bes.trans ?_ hs1)|(show _<=_;simp;done)|(show _<=_;simp;omega)|omega)):p:=h
theorem q123(h:p:=by cases e;omega):p:=h
theorem q126(h:p:=by rw[<-hw3];exact bel):p:=h
theorem q128(h:p:=by simp[World.setCell];omega):p:=h
theorem q150(h:p:=by rw[<-hw0];exact bel):p:=h
theorem q160(h:p:=by rw[bGS];omega):p:=h
theorem q161(h:p:=by rw[HRE.out]):p:=h
theorem q162(h:p:=by simp at h1;omega):p:=h
theorem q163(h:p:=by rw[<-hw6];exact(Bes.refl _ _).setCell _ _):p:=h
theorem q164(h:p:=by rw[<-hw6];simp[World.setCell]):p:=h
theorem q167(h:p:=by rw[IntKind.wrap_i64];omega):p:=h
theorem q170(h:p:=by rw[bGT];omega):p:=h
theorem q171(h:p:=by rw[<-hw2];exact bel):p:=h
theorem q176(h:p:=by rw[<-hw2];exact aA _ _ _ rfl):p:=h
theorem q177(h:p:=by simp[World.cell?,hE']):p:=h
theorem q178(h:p:=by go_simp):p:=h
theorem q184(h:p:=by show w.heap.size≠w.heap.size+2;omega):p:=h
theorem q185(h:p:=by show w.heap.size+1≠w.heap.size+2;omega):p:=h
theorem q186(h:p:=by show w.heap.size<=w.heap.size+2;omega):p:=h
theorem q242(h:p:=by simpa[Value.ownBlock] using e):p:=h
theorem q248(h:p:=by simp[World.frozen?,hE]):p:=h
theorem q249(h:p:=by simp only[World.size_alloc];omega):p:=h
theorem q339(h:p:=by simp[intOf];omega):p:=h
theorem q352(h:p:=by
 cases d with
 |zero=>exact h.elim
 |succ d =>
  obtain⟨kv,dv,h1,h2,h3⟩:=h;have a1:∃p n c,kv=.slice p n c:=by
   rcases h2 with⟨_,p,c,h⟩|⟨b,o,c,h,_⟩
   ·exact⟨_,_,_,h⟩
   ·exact⟨_,_,_,h⟩
  have a2:∃p n c,dv=.slice p n c:=by
   rcases h3 with⟨_,p,c,h⟩|⟨b,o,c,h,_⟩
   ·exact⟨_,_,_,h⟩
   ·exact⟨_,_,_,h⟩
  obtain⟨p1,n1,c1,rfl⟩:=a1;obtain⟨p2,n2,c2,rfl⟩:=a2;exact⟨p1,n1,c1,p2,n2,c2,h1⟩):p:=h
theorem q374(h:p:=by simp[World.cell?,World.frozen?,h]):p:=h
theorem q390(h:p:=by simp only[List.setIfInBounds_toArray,List.set_cons_succ,List.set_cons_zero]):p:=h
theorem q392(h:p:=by all_goals exact HF.out.elim):p:=h
theorem q393(h:p:=by
 go_ret
 exact⟨rfl,rfl⟩):p:=h
theorem q398(h:p:=by
 intro j u hj;have hj0:j=0:=by
  rcases j with _|j
  ·rfl
  ·simp at hj
 subst hj0;simp at hj;subst hj;rw[show(⟨w.heap.size,0,none⟩:Addr).add 0=⟨w.heap.size,0,none⟩ from rfl,World.cell?_alloc_at _ _ _ _ rfl];rfl):p:=h
theorem q399(h:p:=by
 simp only[World.setCell,Array.getElem?_modify];simp[h]):p:=h
theorem q403(h:p:=by
 induction l generalizing b with
 |nil=>cases b<;>simp[dY]
 |cons c l ih =>
  cases b<;>simp only[dY,bHA]
  ·have h1:=ih true;have h2:=ih false;split
   ·omega
   ·split<;>omega
  ·have:=ih (!eol c);omega):p:=h
theorem q408(h:p:=by
 apply Classical.byContradiction;intro hn
 simp[World.cell?,Array.getElem?_eq_none (Nat.not_lt.1 hn)] at h0):p:=h
theorem q443(h:p:=by
 have hlt:=bGJ h;have h':w.heap[b]=.cells cur t (0,0):=q20;simp only[World.setCell,Array.getElem?_modify];simp[h',Array.getElem?_eq_getElem hlt]):p:=h
theorem q461(h:p:=by
 refine⟨?_,((Bes.refl b w).setCell _ _).alloc _⟩;rw[bGM _ _ _ (by simpa[World.setCell] using hlt),aC H.out];rfl):p:=h
theorem q463(h:p:=by exact bGC (Nat.mul_le_mul_left _ hby) oM):p:=h
theorem q496(h:p:=by exact World.news_of_block (cs:=(E.cells y).toArray) (t:=t) (fr:=(0,0)) (bGP w _)):p:=h
theorem q511(h:p:=by
 unfold aG;rw[E.row_append,bGR];simpa[Enc.row] using hown'):p:=h
theorem q519(h:p:=by intro u hu;simp[aB] at hu;rcases hu with rfl|rfl|rfl|rfl|rfl|rfl<;>rfl):p:=h
theorem q520(h:p:=by
 clear H;go_wp2;go_ret
 exact⟨eA (by rw[H1.out]),rfl⟩):p:=h
theorem q537(h:p:=by
 intro x hx;have:=h x hx;simp;omega):p:=h
theorem q542(h:p:=by unfold maxLen;omega):p:=h
theorem q545(h:p:=by
 cases d with
 |zero=>exact h.elim
 |succ e=>exact⟨e,rfl⟩):p:=h
theorem q551(h:p:=by exact .inl ⟨bHI h2,_,_,h1⟩):p:=h
theorem q553(h:p:=by rw[bGM _ _ _ sI];exact aA _ _ _ rfl):p:=h
theorem q589(h:p:=by
 have hlt:=bGJ h;have h':w.heap[b]=.cells #[v0,v1,v2,v3,v4,v5] t (0,0):=q20;exact q399):p:=h
theorem q597(h:p:=by
 go_wp2;exact q450):p:=h
theorem q598(h:p:=by
 go_wp2;exact q436):p:=h
end
namespace Fo
abbrev L:=List UInt8
def dX(c:UInt8):Bool:=c==0||c==9||c==10||c==12||c==13||c==32
def aCS(c:UInt8):Bool:=c==40||c==41||c==60||c==62||c==91||c==93||c==123||c==125||c==47||c==37
def fO(c:UInt8):Bool:=!dX c&&!aCS c
def eol(c:UInt8):Bool:=c==13||c==10
def digit(c:Nat):Int :=
 if 48<=c/\c<=57 then c-48 else if 65<=c/\c<=70 then c-65+10 else if 97<=c/\c<=102 then c-97+10 else -1
def bI(c:UInt8):Int:=digit c.toNat
def dY:Bool->L->Nat
 |_,[]=>0
 |true,c::l=>dY (!eol c) l+1
 |false,c::l=>if c==37 then dY true l+1 else if dX c then dY false l+1 else 0
def dZ:L->Nat
 |[]=>0
 |13::10::_=>2
 |c::l=>if eol c then 1 else dZ l+1
def iS:L->Nat
 |[]=>0
 |c::l=>if fO c then iS l+1 else 0
structure Tok where
 kind:Int
 len:Nat
 n:Int
 s:L
inductive Res (α:Type) where
 |bad (e:Int)
 |good (a:α)
def nC(kind:Int)(len:Nat)(text:L)(most:Nat):Res Tok :=
 if most<text.length then .bad 5 else .good ⟨kind,len,0,text⟩
def bZ:L->Nat->L->Res L
 |acc,_,[]=>.good acc
 |acc,k+1,_::l=>bZ acc k l
 |acc,0,c::l =>
  if c==35 then
   match l with
   |a::b::_=>if bI a<0\/bI b<0\/16*bI a+bI b=0 then .bad 3 else bZ (acc++[UInt8.ofNat (16*bI a+bI b).toNat]) 2 l
   |_=>.bad 3
  else bZ (acc++[c]) 0 l
def uY(n:Nat):Res L->Res Tok
 |.bad e=>.bad e
 |.good x=>nC 4 (n+1) x 127
def yC(l:L):Res Tok:=uY (iS l) (bZ [] 0 (l.take (iS l)))
def tB:Res (L×Nat)->Res Tok
 |.bad e=>.bad e
 |.good x=>nC 3 (x.2+1) x.1 32767
def oct(c:UInt8):Bool:=48<=c&&c<=55
def jX:Nat->Nat->Nat->L->Nat×Nat
 |0,v,n,_=>(v,n)
 |_+1,v,n,[]=>(v,n)
 |k+1,v,n,c::l=>if oct c then jX k (8*v+(c.toNat-48)) (n+1) l else(v,n)
def esc:L->L×Nat
 |[]=>([],0)
 |c::l =>
  if c==110 then([10],1) else if c==114 then([13],1) else if c==116 then([9],1) else if c==98 then([8],1) else if c==102 then([12],1)
  else if eol c then([],dZ (c::l))
  else if(jX 3 0 0 (c::l)).2=0 then([c],1) else([UInt8.ofNat (jX 3 0 0 (c::l)).1],(jX 3 0 0 (c::l)).2)
def bS:L->Nat->Nat->Nat->L->Res (L×Nat)
 |_,_,_,_,[]=>.bad 4
 |acc,n,op,k+1,_::l=>bS acc (n+1) op k l
 |acc,n,op,0,c::l =>
  if eol c then bS (acc++[10]) (n+1) op (dZ (c::l)-1) l
  else if c==92 then(if l=[] then .bad 4 else bS (acc++(esc l).1) (n+1) op (esc l).2 l)
  else if c==40 then bS (acc++[c]) (n+1) (op+1) 0 l
  else if c==41 then(if op=1 then .good (acc,n+1) else bS (acc++[c]) (n+1) (op-1) 0 l)
  else bS (acc++[c]) (n+1) op 0 l
def aLJ(l:L):Res Tok:=tB (bS [] 0 1 0 l)
def gP:L->Nat->Int->L->Res (L×Nat)
 |_,_,_,[]=>.bad 4
 |acc,n,half,c::l =>
  if c==62 then .good (if 0<=half then acc++[UInt8.ofNat (16*half).toNat] else acc,n+1)
  else if dX c then gP acc (n+1) half l
  else if bI c<0 then .bad 3
  else if half<0 then gP acc (n+1) (bI c) l
  else gP (acc++[UInt8.ofNat (16*half+bI c).toNat]) (n+1) (-1) l
def aZY(l:L):Res Tok:=tB (gP [] 0 (-1) l)
def iF(c:UInt8):Bool:=48<=c&&c<=57
def aR(c:UInt8):Bool:=c==43||c==45
def eW(l:L):Bool:=l.all iF
def aL:L->L
 |[]=>[]
 |c::l=>if aR c then l else c::l
def jF(l:L):Bool:=!(aL l).isEmpty&&eW (aL l)
def val(l:L):Nat:=l.foldl (fun v c=>10*v+(c.toNat-48)) 0
def iG(l:L):Bool:=l.head?==some 45
def iM(l:L):Res Int :=
 if 2147483647<val (aL l) then .bad 2 else .good (if iG l then -(val (aL l):Int) else val (aL l))
def eC(l:L):L:=l.takeWhile (· !=46)
def bU(l:L):L:=(l.dropWhile (· !=46)).drop 1
def mF(l:L):Bool:=match l with|[]=>false|c::_=>53<=c
def gA(l:L):Bool:=match l with|[]=>false|c::r=>53<c||(c==53&&r.any (· !=48))
def dE(l:L):L:=(l++[48,48,48,48]).take 4
def pH(l:L):Res Int :=
 if 40<l.length then .bad 3
 else if(eC (aL l)++bU (aL l)).isEmpty then .bad 3
 else if !eW (eC (aL l))||!eW (bU (aL l)) then .bad 3
 else
  let m:=val (eC (aL l)++dE (bU (aL l)))
  let m:=if(if iG l then gA ((bU (aL l)).drop 4) else mF ((bU (aL l)).drop 4)) then m+1 else m
  if 1073741824<m then .bad 2 else .good (if iG l then -(m:Int) else m)
def eR(r:L):Res Tok :=
 if jF r then(match iM r with|.bad e=>.bad e|.good n=>.good ⟨1,r.length,n,[]⟩)
 else if r.contains 46 then
  (match pH r with
   |.good n=>.good ⟨2,r.length,n,[]⟩
   |.bad 2=>.bad 2
   |.bad _=>nC 5 r.length r 127)
 else nC 5 r.length r 127
def rW:L->Res Tok
 |[]=>.bad 0
 |c::l =>
  if c==91||c==93||c==123||c==125 then .good ⟨6,1,0,[c]⟩
  else if c==60 then(if l.head?=some 60 then .good ⟨6,2,0,[60,60]⟩ else aZY l)
  else if c==62 then(if l.head?=some 62 then .good ⟨6,2,0,[62,62]⟩ else .bad 3)
  else if c==47 then yC l
  else if c==40 then aLJ l
  else if c==41 then .bad 3
  else eR ((c::l).take (iS (c::l)))
def aM(l:L):Nat×Res Tok :=
 (dY false l,if l.drop (dY false l)=[] then .good ⟨0,0,0,[]⟩ else rW (l.drop (dY false l)))
end Fo
namespace Go.Proofs
open Go.Proofs.Tryz
open Go.Shelf
def Tryz.lays169_ren:Go.Shelf.Ren:=⟨fun|169=>135|n=>n,fun|70=>199|9=>9|0=>0|72=>201|37=>196|127=>240|3=>3|5=>5|n=>n,fun|n=>n⟩
theorem Tryz.lays169:Go.Proofs.Lays.n169 prog Tryz.lays169_ren:={
 mixed:=kR
 f169:=func135.trans (congrArg some kR)
 t0:=underlying0
 a0:=isAgg0
 z0:=sizeOf0
 v0:=zeroValue0
 t3:=underlying3
 a3:=isAgg3
 z3:=sizeOf3
 v3:=zeroValue3
 t9:=underlying9
 a9:=isAgg9
 z9:=sizeOf9
 v9:=zeroValue9
 t37:=underlying196
 a37:=isAgg196
 z37:=sizeOf196
 v37:=zeroValue196
 t70:=underlying199
 a70:=isAgg199
 z70:=sizeOf199
 v70:=zeroValue199
 t72:=underlying201
 a72:=isAgg201
 z72:=sizeOf201
 v72:=zeroValue201
 t127:=underlying240
 a127:=isAgg240
 z127:=sizeOf240
 v127:=zeroValue240 }
theorem Tryz.Builder_Extra_169:Builder.Extra prog Tryz.lays169_ren:={
 sizeBuilder:=kR
 liesBuilder:=kR
 t5:=underlying5
 a5:=isAgg5
 z5:=sizeOf5
 v5:=zeroValue5
 infoByte:=kR
 cellsByte:=kR
 sizeByte:=kR
 neB5:=by decide }
open Go.RowKit in
theorem Tryz.Builder_String_any(B b:Nat)(l:List UInt8)(w:World)(h:Lib.IsBuilder 201 5 B b (Lib.byteCells l) w)(hBw:B<=w.heap.size) :
 Calls prog 135 #[.pointer (some ⟨b,0,none⟩)] w fun e w'=>e=.returned (.string ⟨l.toArray⟩)/\Below B w w':=Any.Builder_String_any Tryz.lays169 Tryz.Builder_Extra_169 B b l w h hBw
def Tryz.lays161_ren:Go.Shelf.Ren:=⟨fun|161=>176|231=>216|227=>217|233=>218|235=>219|228=>244|197=>245|151=>246|260=>273|152=>274|137=>162|119=>307|224=>277|225=>276|217=>209|266=>242|n=>n,fun|9=>9|4=>4|3=>3|5=>5|117=>281|116=>280|0=>0|124=>284|105=>309|21=>21|119=>375|46=>132|139=>378|138=>377|n=>n,fun|3=>2|4=>3|n=>n⟩
theorem Tryz.lays161:Go.Proofs.Lays.n161 prog Tryz.lays161_ren:={
 mixed:=kR
 f119:=func307.trans (congrArg some kR)
 f137:=func162.trans (congrArg some kR)
 f151:=func246.trans (congrArg some kR)
 f152:=func274.trans (congrArg some kR)
 f161:=func176.trans (congrArg some kR)
 f197:=func245.trans (congrArg some kR)
 f217:=func209.trans (congrArg some kR)
 f224:=func277.trans (congrArg some kR)
 f225:=func276.trans (congrArg some kR)
 f227:=func217.trans (congrArg some kR)
 f228:=func244.trans (congrArg some kR)
 f231:=func216.trans (congrArg some kR)
 f233:=func218.trans (congrArg some kR)
 f235:=func219.trans (congrArg some kR)
 f260:=func273.trans (congrArg some kR)
 f266:=func242.trans (congrArg some kR)
 t0:=underlying0
 a0:=isAgg0
 z0:=sizeOf0
 v0:=zeroValue0
 t3:=underlying3
 a3:=isAgg3
 z3:=sizeOf3
 v3:=zeroValue3
 t4:=underlying4
 a4:=isAgg4
 z4:=sizeOf4
 v4:=zeroValue4
 t5:=underlying5
 a5:=isAgg5
 z5:=sizeOf5
 v5:=zeroValue5
 t9:=underlying9
 a9:=isAgg9
 z9:=sizeOf9
 v9:=zeroValue9
 t21:=underlying21
 a21:=isAgg21
 z21:=sizeOf21
 v21:=zeroValue21
 t46:=underlying132
 a46:=isAgg132
 z46:=sizeOf132
 v46:=zeroValue132
 t105:=underlying309
 a105:=isAgg309
 z105:=sizeOf309
 v105:=zeroValue309
 t116:=underlying280
 a116:=isAgg280
 z116:=sizeOf280
 t117:=underlying281
 a117:=isAgg281
 z117:=sizeOf281
 v117:=zeroValue281
 t119:=underlying375
 a119:=isAgg375
 z119:=sizeOf375
 t124:=underlying284
 a124:=isAgg284
 z124:=sizeOf284
 v124:=zeroValue284
 t138:=underlying377
 a138:=isAgg377
 z138:=sizeOf377
 v138:=zeroValue377
 t139:=underlying378
 a139:=isAgg378
 z139:=sizeOf378
 v139:=zeroValue378
 g3:=kR
 g4:=by kernel_rfl }
def Tryz.lays162_ren:Go.Shelf.Ren:=⟨fun|162=>182|232=>220|227=>217|234=>221|236=>222|228=>244|271=>247|151=>246|120=>275|197=>245|152=>274|260=>273|137=>162|119=>307|224=>277|225=>276|217=>209|266=>242|n=>n,fun|9=>9|4=>4|3=>3|5=>5|117=>281|116=>280|0=>0|124=>284|21=>21|105=>309|46=>132|119=>375|139=>378|138=>377|n=>n,fun|3=>2|4=>3|n=>n⟩
theorem Tryz.lays162:Go.Proofs.Lays.n162 prog Tryz.lays162_ren:={
 mixed:=kR
 f119:=func307.trans (congrArg some kR)
 f120:=func275.trans (congrArg some kR)
 f137:=func162.trans (congrArg some kR)
 f151:=func246.trans (congrArg some kR)
 f152:=func274.trans (congrArg some kR)
 f162:=func182.trans (congrArg some kR)
 f197:=func245.trans (congrArg some kR)
 f217:=func209.trans (congrArg some kR)
 f224:=func277.trans (congrArg some kR)
 f225:=func276.trans (congrArg some kR)
 f227:=func217.trans (congrArg some kR)
 f228:=func244.trans (congrArg some kR)
 f232:=func220.trans (congrArg some kR)
 f234:=func221.trans (congrArg some kR)
 f236:=func222.trans (congrArg some kR)
 f260:=func273.trans (congrArg some kR)
 f266:=func242.trans (congrArg some kR)
 f271:=func247.trans (congrArg some kR)
 t0:=underlying0
 a0:=isAgg0
 z0:=sizeOf0
 v0:=zeroValue0
 t3:=underlying3
 a3:=isAgg3
 z3:=sizeOf3
 v3:=zeroValue3
 t4:=underlying4
 a4:=isAgg4
 z4:=sizeOf4
 v4:=zeroValue4
 t5:=underlying5
 a5:=isAgg5
 z5:=sizeOf5
 v5:=zeroValue5
 t9:=underlying9
 a9:=isAgg9
 z9:=sizeOf9
 v9:=zeroValue9
 t21:=underlying21
 a21:=isAgg21
 z21:=sizeOf21
 v21:=zeroValue21
 t46:=underlying132
 a46:=isAgg132
 z46:=sizeOf132
 v46:=zeroValue132
 t105:=underlying309
 a105:=isAgg309
 z105:=sizeOf309
 v105:=zeroValue309
 t116:=underlying280
 a116:=isAgg280
 z116:=sizeOf280
 t117:=underlying281
 a117:=isAgg281
 z117:=sizeOf281
 v117:=zeroValue281
 t119:=underlying375
 a119:=isAgg375
 z119:=sizeOf375
 t124:=underlying284
 a124:=isAgg284
 z124:=sizeOf284
 v124:=zeroValue284
 t138:=underlying377
 a138:=isAgg377
 z138:=sizeOf377
 v138:=zeroValue377
 t139:=underlying378
 a139:=isAgg378
 z139:=sizeOf378
 v139:=zeroValue378
 g3:=kR
 g4:=by kernel_rfl }
def Tryz.lays160_ren:Go.Shelf.Ren:=⟨fun|160=>177|232=>220|231=>216|227=>217|234=>221|233=>218|236=>222|235=>219|228=>244|271=>247|151=>246|197=>245|120=>275|152=>274|260=>273|137=>162|119=>307|224=>277|225=>276|217=>209|266=>242|n=>n,fun|9=>9|4=>4|3=>3|5=>5|117=>281|116=>280|0=>0|124=>284|21=>21|105=>309|46=>132|119=>375|139=>378|138=>377|n=>n,fun|3=>2|4=>3|n=>n⟩
theorem Tryz.lays160:Go.Proofs.Lays.n160 prog Tryz.lays160_ren:={
 mixed:=kR
 f119:=func307.trans (congrArg some kR)
 f120:=func275.trans (congrArg some kR)
 f137:=func162.trans (congrArg some kR)
 f151:=func246.trans (congrArg some kR)
 f152:=func274.trans (congrArg some kR)
 f160:=func177.trans (congrArg some kR)
 f197:=func245.trans (congrArg some kR)
 f217:=func209.trans (congrArg some kR)
 f224:=func277.trans (congrArg some kR)
 f225:=func276.trans (congrArg some kR)
 f227:=func217.trans (congrArg some kR)
 f228:=func244.trans (congrArg some kR)
 f231:=func216.trans (congrArg some kR)
 f232:=func220.trans (congrArg some kR)
 f233:=func218.trans (congrArg some kR)
 f234:=func221.trans (congrArg some kR)
 f235:=func219.trans (congrArg some kR)
 f236:=func222.trans (congrArg some kR)
 f260:=func273.trans (congrArg some kR)
 f266:=func242.trans (congrArg some kR)
 f271:=func247.trans (congrArg some kR)
 t0:=underlying0
 a0:=isAgg0
 z0:=sizeOf0
 v0:=zeroValue0
 t3:=underlying3
 a3:=isAgg3
 z3:=sizeOf3
 v3:=zeroValue3
 t4:=underlying4
 a4:=isAgg4
 z4:=sizeOf4
 v4:=zeroValue4
 t5:=underlying5
 a5:=isAgg5
 z5:=sizeOf5
 v5:=zeroValue5
 t9:=underlying9
 a9:=isAgg9
 z9:=sizeOf9
 v9:=zeroValue9
 t21:=underlying21
 a21:=isAgg21
 z21:=sizeOf21
 v21:=zeroValue21
 t46:=underlying132
 a46:=isAgg132
 z46:=sizeOf132
 v46:=zeroValue132
 t105:=underlying309
 a105:=isAgg309
 z105:=sizeOf309
 v105:=zeroValue309
 t116:=underlying280
 a116:=isAgg280
 z116:=sizeOf280
 t117:=underlying281
 a117:=isAgg281
 z117:=sizeOf281
 v117:=zeroValue281
 t119:=underlying375
 a119:=isAgg375
 z119:=sizeOf375
 t124:=underlying284
 a124:=isAgg284
 z124:=sizeOf284
 v124:=zeroValue284
 t138:=underlying377
 a138:=isAgg377
 z138:=sizeOf377
 v138:=zeroValue377
 t139:=underlying378
 a139:=isAgg378
 z139:=sizeOf378
 v139:=zeroValue378
 g3:=kR
 g4:=by kernel_rfl }
def Tryz.lays137_ren:Go.Shelf.Ren:=⟨fun|137=>162|217=>209|266=>242|n=>n,fun|9=>9|5=>5|3=>3|n=>n,fun|n=>n⟩
theorem Tryz.lays137:Go.Proofs.Lays.n137 prog Tryz.lays137_ren:={
 mixed:=kR
 f137:=func162.trans (congrArg some kR)
 f217:=func209.trans (congrArg some kR)
 f266:=func242.trans (congrArg some kR)
 t3:=underlying3
 a3:=isAgg3
 z3:=sizeOf3
 v3:=zeroValue3
 t5:=underlying5
 a5:=isAgg5
 z5:=sizeOf5
 v5:=zeroValue5
 t9:=underlying9
 a9:=isAgg9
 z9:=sizeOf9
 v9:=zeroValue9 }
open Go.RowKit in
theorem Tryz.strings_IndexByte(s:ByteArray)(c:Int)(w:World) :
 Calls prog 162 #[.string s,.int .u8 c] w fun e w'=>e=.returned (.int .i64 (Lib.indexByte s.data.toList c.toNat.toUInt8))/\w'=w:=Any.strings_IndexByte Tryz.lays137 s c w
def Tryz.lays219_ren:Go.Shelf.Ren:=⟨fun|219=>248|217=>209|225=>276|224=>277|267=>278|266=>242|314=>308|n=>n,fun|9=>9|3=>3|4=>4|5=>5|46=>132|146=>312|51=>184|n=>n,fun|1=>1|n=>n⟩
def Tryz.lays143_ren:Go.Shelf.Ren:=⟨fun|143=>223|219=>248|217=>209|225=>276|224=>277|267=>278|266=>242|314=>308|n=>n,fun|9=>9|3=>3|4=>4|5=>5|46=>132|146=>312|51=>184|n=>n,fun|1=>1|n=>n⟩
def Tryz.lays144_ren:Go.Shelf.Ren:=⟨fun|144=>178|143=>223|219=>248|217=>209|225=>276|224=>277|267=>278|266=>242|314=>308|n=>n,fun|9=>9|4=>4|3=>3|5=>5|46=>132|146=>312|51=>184|n=>n,fun|1=>1|n=>n⟩
theorem Tryz.lays144:Go.Proofs.Lays.n144 prog Tryz.lays144_ren:={
 mixed:=kR
 f143:=func223.trans (congrArg some kR)
 f144:=func178.trans (congrArg some kR)
 f217:=func209.trans (congrArg some kR)
 f219:=func248.trans (congrArg some kR)
 f224:=func277.trans (congrArg some kR)
 f225:=func276.trans (congrArg some kR)
 f266:=func242.trans (congrArg some kR)
 f267:=func278.trans (congrArg some kR)
 f314:=func308.trans (congrArg some kR)
 t3:=underlying3
 a3:=isAgg3
 z3:=sizeOf3
 v3:=zeroValue3
 t4:=underlying4
 a4:=isAgg4
 z4:=sizeOf4
 v4:=zeroValue4
 t5:=underlying5
 a5:=isAgg5
 z5:=sizeOf5
 v5:=zeroValue5
 t9:=underlying9
 a9:=isAgg9
 z9:=sizeOf9
 v9:=zeroValue9
 t46:=underlying132
 a46:=isAgg132
 z46:=sizeOf132
 v46:=zeroValue132
 t51:=underlying184
 a51:=isAgg184
 z51:=sizeOf184
 v51:=zeroValue184
 t146:=underlying312
 a146:=isAgg312
 z146:=sizeOf312
 v146:=zeroValue312
 g1:=by kernel_rfl }
open Go.RowKit Go.Lib in
theorem Tryz.strings_Contains_one(s:ByteArray)(c:UInt8)(w:World) :
 Calls prog 178 #[.string s,.string ⟨#[c]⟩] w fun e w'=>e=.returned (.bool (decide (0<=Lib.indexByte s.data.toList c)))/\w'=w:=Any.strings_Contains_one Tryz.lays144 s c w
def Tryz.lays145_ren:Go.Shelf.Ren:=⟨fun|145=>180|220=>224|219=>248|217=>209|225=>276|224=>277|267=>278|266=>242|314=>308|n=>n,fun|9=>9|4=>4|59=>244|3=>3|5=>5|46=>132|146=>312|51=>184|n=>n,fun|1=>1|n=>n⟩
theorem Tryz.lays145:Go.Proofs.Lays.n145 prog Tryz.lays145_ren:={
 mixed:=kR
 f145:=func180.trans (congrArg some kR)
 f217:=func209.trans (congrArg some kR)
 f219:=func248.trans (congrArg some kR)
 f220:=func224.trans (congrArg some kR)
 f224:=func277.trans (congrArg some kR)
 f225:=func276.trans (congrArg some kR)
 f266:=func242.trans (congrArg some kR)
 f267:=func278.trans (congrArg some kR)
 f314:=func308.trans (congrArg some kR)
 t3:=underlying3
 a3:=isAgg3
 z3:=sizeOf3
 v3:=zeroValue3
 t4:=underlying4
 a4:=isAgg4
 z4:=sizeOf4
 v4:=zeroValue4
 t5:=underlying5
 a5:=isAgg5
 z5:=sizeOf5
 v5:=zeroValue5
 t9:=underlying9
 a9:=isAgg9
 z9:=sizeOf9
 v9:=zeroValue9
 t46:=underlying132
 a46:=isAgg132
 z46:=sizeOf132
 v46:=zeroValue132
 t51:=underlying184
 a51:=isAgg184
 z51:=sizeOf184
 v51:=zeroValue184
 t59:=underlying244
 a59:=isAgg244
 z59:=sizeOf244
 v59:=zeroValue244
 t146:=underlying312
 a146:=isAgg312
 z146:=sizeOf312
 v146:=zeroValue312
 g1:=by kernel_rfl }
open Go.RowKit Go.Lib in
theorem Tryz.strings_Cut(s sep:ByteArray)(m:Int)(w:World)(hs:s.size<4294967281)(hm:w.cell? ⟨1,0,none⟩=some (.int .i64 m)) :
 Calls prog 180 #[.string s,.string sep] w fun e w'=>e=.returned (.tuple #[.string ⟨(Lib.cut s.data.toList sep.data.toList).1.toArray⟩,.string ⟨(Lib.cut s.data.toList sep.data.toList).2.1.toArray⟩,.bool (Lib.cut s.data.toList sep.data.toList).2.2])/\∃n,w'=w.drewN n:=Any.strings_Cut Tryz.lays145 s sep m w hs hm
def Tryz.laysM143_ren:Go.Shelf.Ren:=⟨fun|143=>223|219=>248|217=>209|225=>276|224=>277|267=>278|266=>242|314=>308|n=>n,fun|9=>9|3=>3|4=>4|5=>5|46=>132|146=>312|51=>184|n=>n,fun|1=>1|n=>n⟩
theorem Tryz.laysM143:Go.Proofs.LaysM.n143 prog Tryz.laysM143_ren:={
 mixed:=kR
 f143:=func223.trans (congrArg some kR)
 f217:=func209.trans (congrArg some kR)
 f219:=func248.trans (congrArg some kR)
 f224:=func277.trans (congrArg some kR)
 f225:=func276.trans (congrArg some kR)
 f266:=func242.trans (congrArg some kR)
 f267:=func278.trans (congrArg some kR)
 f314:=func308.trans (congrArg some kR)
 t3:=underlying3
 a3:=isAgg3
 z3:=sizeOf3
 v3:=zeroValue3
 t4:=underlying4
 a4:=isAgg4
 z4:=sizeOf4
 v4:=zeroValue4
 t5:=underlying5
 a5:=isAgg5
 z5:=sizeOf5
 v5:=zeroValue5
 t9:=underlying9
 a9:=isAgg9
 z9:=sizeOf9
 v9:=zeroValue9
 t46:=underlying132
 a46:=isAgg132
 z46:=sizeOf132
 v46:=zeroValue132
 t51:=underlying184
 a51:=isAgg184
 z51:=sizeOf184
 v51:=zeroValue184
 t146:=underlying312
 a146:=isAgg312
 z146:=sizeOf312
 v146:=zeroValue312
 g1:=kR
 i3:=kR
 i4:=kR
 i5:=kR
 i9:=kR
 i46:=kR
 i51:=kR
 i146:=kR
 m1:=kR
 s1_3:=fun w h=>Go.Proofs.cell_of_shapedOpen_int (zero:=#[.int .i64 0]) (t:=3) h (of_decide_eq_true kR) kR rfl kR kR underlying3 }
def Tryz.lays190_ren:Go.Shelf.Ren:=⟨fun|190=>213|125=>76|258=>243|128=>113|129=>114|302=>265|303=>266|304=>267|305=>268|306=>269|307=>270|308=>184|309=>271|310=>272|333=>304|329=>156|330=>157|334=>305|335=>306|336=>226|344=>333|n=>n,fun|31=>28|9=>9|3=>3|46=>132|0=>0|51=>184|53=>186|4=>4|183=>177|182=>176|131=>181|5=>5|218=>224|222=>228|228=>268|229=>77|n=>n,fun|n=>n⟩
theorem Tryz.lays190:Go.Proofs.Lays.n190 prog Tryz.lays190_ren:={
 mixed:=kR
 f125:=func76.trans (congrArg some kR)
 f128:=func113.trans (congrArg some kR)
 f129:=func114.trans (congrArg some kR)
 f190:=func213.trans (congrArg some kR)
 f258:=func243.trans (congrArg some kR)
 f302:=func265.trans (congrArg some kR)
 f303:=func266.trans (congrArg some kR)
 f304:=func267.trans (congrArg some kR)
 f305:=func268.trans (congrArg some kR)
 f306:=func269.trans (congrArg some kR)
 f307:=func270.trans (congrArg some kR)
 f308:=func184.trans (congrArg some kR)
 f309:=func271.trans (congrArg some kR)
 f310:=func272.trans (congrArg some kR)
 f329:=func156.trans (congrArg some kR)
 f330:=func157.trans (congrArg some kR)
 f333:=func304.trans (congrArg some kR)
 f334:=func305.trans (congrArg some kR)
 f335:=func306.trans (congrArg some kR)
 f336:=func226.trans (congrArg some kR)
 f344:=func333.trans (congrArg some kR)
 t0:=underlying0
 a0:=isAgg0
 z0:=sizeOf0
 v0:=zeroValue0
 t3:=underlying3
 a3:=isAgg3
 z3:=sizeOf3
 v3:=zeroValue3
 t4:=underlying4
 a4:=isAgg4
 z4:=sizeOf4
 v4:=zeroValue4
 t5:=underlying5
 a5:=isAgg5
 z5:=sizeOf5
 v5:=zeroValue5
 t9:=underlying9
 a9:=isAgg9
 z9:=sizeOf9
 v9:=zeroValue9
 t31:=underlying28
 a31:=isAgg28
 z31:=sizeOf28
 v31:=zeroValue28
 t46:=underlying132
 a46:=isAgg132
 z46:=sizeOf132
 v46:=zeroValue132
 t51:=underlying184
 a51:=isAgg184
 z51:=sizeOf184
 v51:=zeroValue184
 t53:=underlying186
 a53:=isAgg186
 z53:=sizeOf186
 v53:=zeroValue186
 t131:=underlying181
 a131:=isAgg181
 z131:=sizeOf181
 v131:=zeroValue181
 t182:=underlying176
 a182:=isAgg176
 z182:=sizeOf176
 v182:=zeroValue176
 t183:=underlying177
 a183:=isAgg177
 z183:=sizeOf177
 v183:=zeroValue177
 t218:=underlying224
 a218:=isAgg224
 z218:=sizeOf224
 v218:=zeroValue224
 t222:=underlying228
 a222:=isAgg228
 z222:=sizeOf228
 v222:=zeroValue228
 t228:=underlying268
 a228:=isAgg268
 z228:=sizeOf268
 v228:=zeroValue268
 t229:=underlying77
 a229:=isAgg77
 z229:=sizeOf77
 v229:=zeroValue77 }
open Go.Sort Go.RowKit in
theorem Tryz.slices_Sort_string(blk off cap:Nat)(ss:List (List UInt8))(w:World)(hH:Holds encStr w blk off ss.toArray)(hblk:blk<w.heap.size)(hsz:ss.length<4611686018427387904) :
 Calls prog 213 #[.slice (some ⟨blk,off,none⟩) ss.length cap] w fun e w' =>
  e=.returned (.tuple #[])/\∃n os,w'=grow (putRow encStr (Sort.ahead w n) blk off (ss.mergeSort fun x y=>decide (x<=y)).toArray) os:=Any.slices_Sort_string Tryz.lays190 blk off cap ss w hH hblk hsz
def Tryz.lays206_ren:Go.Shelf.Ren:=⟨fun|206=>47|n=>n,fun|9=>9|4=>4|3=>3|n=>n,fun|n=>n⟩
def Tryz.lays99_ren:Go.Shelf.Ren:=⟨fun|99=>23|206=>47|n=>n,fun|9=>9|4=>4|3=>3|n=>n,fun|n=>n⟩
theorem Tryz.lays99:Go.Proofs.Lays.n99 prog Tryz.lays99_ren:={
 mixed:=kR
 f99:=func23.trans (congrArg some kR)
 f206:=func47.trans (congrArg some kR)
 t3:=underlying3
 a3:=isAgg3
 z3:=sizeOf3
 v3:=zeroValue3
 t4:=underlying4
 a4:=isAgg4
 z4:=sizeOf4
 v4:=zeroValue4
 t9:=underlying9
 a9:=isAgg9
 z9:=sizeOf9
 v9:=zeroValue9 }
open Go.RowKit Go.Lib in
theorem Tryz.strings_HasPrefix(s p:ByteArray)(w:World) :
 Calls prog 23 #[.string s,.string p] w fun e w'=>e=.returned (.bool (Lib.hasPrefix s.data.toList p.data.toList))/\w'=w:=Any.strings_HasPrefix Tryz.lays99 s p w
def Tryz.lays212_ren:Go.Shelf.Ren:=⟨fun|212=>229|263=>249|264=>250|n=>n,fun|46=>132|51=>184|146=>312|53=>186|148=>314|n=>n,fun|n=>n⟩
theorem Tryz.lays212:Go.Proofs.Lays.n212 prog Tryz.lays212_ren:={
 mixed:=kR
 f212:=func229.trans (congrArg some kR)
 f263:=func249.trans (congrArg some kR)
 f264:=func250.trans (congrArg some kR)
 t46:=underlying132
 a46:=isAgg132
 z46:=sizeOf132
 v46:=zeroValue132
 t51:=underlying184
 a51:=isAgg184
 z51:=sizeOf184
 v51:=zeroValue184
 t53:=underlying186
 a53:=isAgg186
 z53:=sizeOf186
 v53:=zeroValue186
 t146:=underlying312
 a146:=isAgg312
 z146:=sizeOf312
 v146:=zeroValue312
 t148:=underlying314
 a148:=isAgg314
 z148:=sizeOf314
 v148:=zeroValue314 }
open Go.RowKit Go.Lib in
theorem Tryz.bits_Mul(x y:Nat)(hx:x<18446744073709551616)(hy:y<18446744073709551616)(w:World) :
 Calls prog 229 #[.int .u64 x,.int .u64 y] w fun e w'=>e=.returned (.tuple #[.int .u64 ((x*y/18446744073709551616:Nat):Int),.int .u64 ((x*y % 18446744073709551616:Nat):Int)])/\w'=w:=Any.bits_Mul Tryz.lays212 x y hx hy w
def Tryz.lays105_ren:Go.Shelf.Ren:=⟨fun|105=>203|212=>229|99=>23|165=>230|166=>134|170=>231|169=>135|263=>249|264=>250|206=>47|240=>175|241=>251|276=>215|277=>279|n=>n,fun|9=>9|3=>3|4=>4|20=>20|0=>0|46=>132|109=>294|5=>5|72=>201|76=>208|51=>184|146=>312|53=>186|148=>314|70=>199|37=>196|75=>204|127=>240|164=>276|80=>210|n=>n,fun|n=>n⟩
theorem Tryz.lays105:Go.Proofs.Lays.n105 prog Tryz.lays105_ren:={
 mixed:=kR
 f99:=func23.trans (congrArg some kR)
 f105:=func203.trans (congrArg some kR)
 f165:=func230.trans (congrArg some kR)
 f166:=func134.trans (congrArg some kR)
 f169:=func135.trans (congrArg some kR)
 f170:=func231.trans (congrArg some kR)
 f206:=func47.trans (congrArg some kR)
 f212:=func229.trans (congrArg some kR)
 f240:=func175.trans (congrArg some kR)
 f241:=func251.trans (congrArg some kR)
 f263:=func249.trans (congrArg some kR)
 f264:=func250.trans (congrArg some kR)
 f276:=func215.trans (congrArg some kR)
 f277:=func279.trans (congrArg some kR)
 t0:=underlying0
 a0:=isAgg0
 z0:=sizeOf0
 v0:=zeroValue0
 t3:=underlying3
 a3:=isAgg3
 z3:=sizeOf3
 v3:=zeroValue3
 t4:=underlying4
 a4:=isAgg4
 z4:=sizeOf4
 v4:=zeroValue4
 t5:=underlying5
 a5:=isAgg5
 z5:=sizeOf5
 v5:=zeroValue5
 t9:=underlying9
 a9:=isAgg9
 z9:=sizeOf9
 v9:=zeroValue9
 t20:=underlying20
 a20:=isAgg20
 z20:=sizeOf20
 v20:=zeroValue20
 t37:=underlying196
 a37:=isAgg196
 z37:=sizeOf196
 v37:=zeroValue196
 t46:=underlying132
 a46:=isAgg132
 z46:=sizeOf132
 v46:=zeroValue132
 t51:=underlying184
 a51:=isAgg184
 z51:=sizeOf184
 v51:=zeroValue184
 t53:=underlying186
 a53:=isAgg186
 z53:=sizeOf186
 v53:=zeroValue186
 t70:=underlying199
 a70:=isAgg199
 z70:=sizeOf199
 v70:=zeroValue199
 t72:=underlying201
 a72:=isAgg201
 z72:=sizeOf201
 v72:=zeroValue201
 t75:=underlying204
 a75:=isAgg204
 z75:=sizeOf204
 v75:=zeroValue204
 t76:=underlying208
 a76:=isAgg208
 z76:=sizeOf208
 v76:=zeroValue208
 t109:=underlying294
 a109:=isAgg294
 z109:=sizeOf294
 v109:=zeroValue294
 t127:=underlying240
 a127:=isAgg240
 z127:=sizeOf240
 v127:=zeroValue240
 t146:=underlying312
 a146:=isAgg312
 z146:=sizeOf312
 v146:=zeroValue312
 t148:=underlying314
 a148:=isAgg314
 z148:=sizeOf314
 v148:=zeroValue314
 t164:=underlying276
 a164:=isAgg276
 z164:=sizeOf276
 v164:=zeroValue276 }
theorem Tryz.Builder_Extra_105:Builder.Extra prog Tryz.lays105_ren:={
 sizeBuilder:=kR
 liesBuilder:=kR
 t5:=underlying5
 a5:=isAgg5
 z5:=sizeOf5
 v5:=zeroValue5
 infoByte:=kR
 cellsByte:=kR
 sizeByte:=kR
 neB5:=by decide }
open Go.RowKit Go.Lib in
theorem Tryz.strings_Repeat_main(s:ByteArray)(c:Nat)(w:World)(hc2:2<=c)(hc:c<=9223372036854775807)(hlen:s.size*c<=140737488355328)(h0:0<s.size) :
 Calls prog 203 #[.string s,.int .i64 c] w fun e w'=>e=.returned (.string ⟨(Lib.repeatL s.data.toList c).toArray⟩)/\Below w.heap.size w w':=Any.strings_Repeat_main Tryz.lays105 Tryz.Builder_Extra_105 s c w hc2 hc hlen h0
def Tryz.lays109_ren:Go.Shelf.Ren:=⟨fun|109=>81|n=>n,fun|31=>28|9=>9|3=>3|0=>0|4=>4|n=>n,fun|n=>n⟩
theorem Tryz.lays109:Go.Proofs.Lays.n109 prog Tryz.lays109_ren:={
 mixed:=kR
 f109:=func81.trans (congrArg some kR)
 t0:=underlying0
 a0:=isAgg0
 z0:=sizeOf0
 v0:=zeroValue0
 t3:=underlying3
 a3:=isAgg3
 z3:=sizeOf3
 v3:=zeroValue3
 t4:=underlying4
 a4:=isAgg4
 z4:=sizeOf4
 v4:=zeroValue4
 t9:=underlying9
 a9:=isAgg9
 z9:=sizeOf9
 v9:=zeroValue9
 t31:=underlying28
 a31:=isAgg28
 z31:=sizeOf28
 v31:=zeroValue28 }
open Go.Lib in
theorem Tryz.slices_Index_string(b off n c:Nat)(zs:List ByteArray)(x:ByteArray)(w:World)(hz:n<=zs.length)(hbig:n<=9223372036854775807)(hc:∀j,j<zs.length->w.cell? ⟨b,off+j,none⟩=some (.string (zs.getD j ByteArray.empty))) :
 Calls prog 81 #[.slice (some ⟨b,off,none⟩) n c,.string x] w fun e w'=>e=.returned (.int .i64 (Lib.idxOfS (zs.take n) x))/\w'=w:=Any.slices_Index_string Tryz.lays109 b off n c zs x w hz hbig hc
open Go.Lib in
theorem Tryz.slices_Index_string_empty(a:Option Addr)(c:Nat)(x:ByteArray)(w:World) :
 Calls prog 81 #[.slice a 0 c,.string x] w fun e w'=>e=.returned (.int .i64 (Lib.idxOfS [] x))/\w'=w:=Any.slices_Index_string_empty Tryz.lays109 a c x w
def Tryz.laysNm215_ren:Go.Shelf.Ren:=⟨fun|15=>315|n=>n,fun|22=>346|3=>3|4=>4|n=>n,fun|n=>n⟩
theorem Tryz.laysNm215:Go.Proofs.Lays2.n15 prog Tryz.laysNm215_ren:={
 mixed:=kR
 f15:=func315.trans (congrArg some kR)
 t3:=underlying3
 a3:=isAgg3
 z3:=sizeOf3
 v3:=zeroValue3
 t4:=underlying4
 a4:=isAgg4
 z4:=sizeOf4
 v4:=zeroValue4
 t22:=underlying346
 a22:=isAgg346
 z22:=sizeOf346
 v22:=zeroValue346
 i3:=by kernel_rfl }
open Go.RowKit Go.Lib in
theorem Tryz.slices_Clone_int(b off n c:Nat)(zs:List Int)(w:World)(hz:n<=zs.length)(hbig:n*8<=140737488355328)(hc:∀j,j<zs.length->w.cell? ⟨b,off+j,none⟩=some (.int .i64 (zs.getD j 0))) :
 Calls prog 315 #[.slice (some ⟨b,off,none⟩) n c] w fun e w'=>∃v',e=.returned v'/\w'.ownsRow w.heap.size 3 1 v' n ((zs.take n).map (Value.int .i64))/\v'≠.slice none 0 0/\Below w.heap.size w w':=Any.slices_Clone_int Tryz.laysNm215 b off n c zs w hz hbig hc
def Tryz.laysNm216_ren:Go.Shelf.Ren:=⟨fun|16=>104|n=>n,fun|24=>28|9=>9|4=>4|n=>n,fun|n=>n⟩
theorem Tryz.laysNm216:Go.Proofs.Lays2.n16 prog Tryz.laysNm216_ren:={
 mixed:=kR
 f16:=func104.trans (congrArg some kR)
 t4:=underlying4
 a4:=isAgg4
 z4:=sizeOf4
 v4:=zeroValue4
 t9:=underlying9
 a9:=isAgg9
 z9:=sizeOf9
 v9:=zeroValue9
 t24:=underlying28
 a24:=isAgg28
 z24:=sizeOf28
 v24:=zeroValue28
 i9:=by kernel_rfl }
open Go.RowKit Go.Lib in
theorem Tryz.slices_Clone_string(b off n c:Nat)(zs:List ByteArray)(w:World)(hz:n<=zs.length)(hbig:n*16<=140737488355328)(hc:∀j,j<zs.length->w.cell? ⟨b,off+j,none⟩=some (.string (zs.getD j ByteArray.empty))) :
 Calls prog 104 #[.slice (some ⟨b,off,none⟩) n c] w fun e w'=>∃v',e=.returned v'/\w'.ownsRow w.heap.size 9 1 v' n ((zs.take n).map (Value.string))/\v'≠.slice none 0 0/\Below w.heap.size w w':=Any.slices_Clone_string Tryz.laysNm216 b off n c zs w hz hbig hc
open Go.RowKit Go.Lib in
theorem Tryz.slices_Clone_string_nil(n c:Nat)(w:World) :
 Calls prog 104 #[.slice none n c] w fun e w'=>e=.returned (.slice none 0 0)/\w'=w:=Any.slices_Clone_string_nil Tryz.laysNm216 n c w
open Go.RowKit Go.Lib in
theorem Tryz.slices_Clone_string_zero(a:Addr)(c:Nat)(w:World) :
 Calls prog 104 #[.slice (some a) 0 c] w fun e w'=>∃v',e=.returned v'/\w'.ownsRow w.heap.size 9 1 v' 0 []/\v'≠.slice none 0 0/\Below w.heap.size w w':=Any.slices_Clone_string_zero Tryz.laysNm216 a c w
open Go.RowKit Go.Sort in
theorem Tryz.slices_Sort_string_none(p:Option Addr)(cap:Nat)(w:World) :
 Calls prog 213 #[.slice p 0 cap] w fun e w'=>e=.returned (.tuple #[])/\w'=w:=Any.slices_Sort_string_none Tryz.lays190 p cap w
end Go.Proofs
namespace Go.Proofs
open Go.Proofs.Tryz
open Go.Shelf Go.RowKit Go.Lib
def Tryz.lays167_ren:Go.Shelf.Ren:=⟨fun|167=>132|240=>175|276=>215|n=>n,fun|0=>0|3=>3|4=>4|5=>5|9=>9|20=>20|37=>196|70=>199|72=>201|75=>204|80=>210|164=>276|n=>n,fun|n=>n⟩
theorem Tryz.lays167:Go.Proofs.Lays.n167 prog Tryz.lays167_ren:={
 mixed:=kR
 f167:=func132.trans (congrArg some kR)
 f240:=func175.trans (congrArg some kR)
 f276:=func215.trans (congrArg some kR)
 t0:=underlying0
 a0:=isAgg0
 z0:=sizeOf0
 v0:=zeroValue0
 t4:=underlying4
 a4:=isAgg4
 z4:=sizeOf4
 v4:=zeroValue4
 t5:=underlying5
 a5:=isAgg5
 z5:=sizeOf5
 v5:=zeroValue5
 t9:=underlying9
 a9:=isAgg9
 z9:=sizeOf9
 v9:=zeroValue9
 t20:=underlying20
 a20:=isAgg20
 z20:=sizeOf20
 v20:=zeroValue20
 t37:=underlying196
 a37:=isAgg196
 z37:=sizeOf196
 v37:=zeroValue196
 t70:=underlying199
 a70:=isAgg199
 z70:=sizeOf199
 v70:=zeroValue199
 t72:=underlying201
 a72:=isAgg201
 z72:=sizeOf201
 v72:=zeroValue201
 t75:=underlying204
 a75:=isAgg204
 z75:=sizeOf204
 v75:=zeroValue204
 t164:=underlying276
 a164:=isAgg276
 z164:=sizeOf276
 v164:=zeroValue276 }
theorem Tryz.Builder_Extra_167:Builder.Extra prog Tryz.lays167_ren:={
 sizeBuilder:=kR
 liesBuilder:=kR
 t5:=underlying5
 a5:=isAgg5
 z5:=sizeOf5
 v5:=zeroValue5
 infoByte:=kR
 cellsByte:=kR
 sizeByte:=kR
 neB5:=by decide }
theorem Tryz.Builder_WriteByte(B b:Nat)(bs:List Value)(c:Int)(w:World)(h:Lib.IsBuilder 201 5 B b bs w)(hlen:bs.length+1<=140737488355328)(hBw:B<=w.heap.size) :
 Calls prog 132 #[.pointer (some ⟨b,0,none⟩),.int .u8 c] w fun e w'=>e=.returned .nilIface/\(Lib.BuilderAt 201 5 B b (.pointer (some ⟨b,0,none⟩)) (bs++[.int .u8 c]) w'/\Below B w w'):=Any.Builder_WriteByte Tryz.lays167 Tryz.Builder_Extra_167 B b bs c w h hlen hBw
def Tryz.lays166_ren:Go.Shelf.Ren:=⟨fun|166=>134|240=>175|276=>215|n=>n,fun|0=>0|3=>3|4=>4|5=>5|9=>9|20=>20|37=>196|70=>199|72=>201|75=>204|80=>210|164=>276|n=>n,fun|n=>n⟩
theorem Tryz.lays166:Go.Proofs.Lays.n166 prog Tryz.lays166_ren:={
 mixed:=kR
 f166:=func134.trans (congrArg some kR)
 f240:=func175.trans (congrArg some kR)
 f276:=func215.trans (congrArg some kR)
 t0:=underlying0
 a0:=isAgg0
 z0:=sizeOf0
 v0:=zeroValue0
 t3:=underlying3
 a3:=isAgg3
 z3:=sizeOf3
 v3:=zeroValue3
 t4:=underlying4
 a4:=isAgg4
 z4:=sizeOf4
 v4:=zeroValue4
 t9:=underlying9
 a9:=isAgg9
 z9:=sizeOf9
 v9:=zeroValue9
 t20:=underlying20
 a20:=isAgg20
 z20:=sizeOf20
 v20:=zeroValue20
 t37:=underlying196
 a37:=isAgg196
 z37:=sizeOf196
 v37:=zeroValue196
 t70:=underlying199
 a70:=isAgg199
 z70:=sizeOf199
 v70:=zeroValue199
 t72:=underlying201
 a72:=isAgg201
 z72:=sizeOf201
 v72:=zeroValue201
 t75:=underlying204
 a75:=isAgg204
 z75:=sizeOf204
 v75:=zeroValue204
 t164:=underlying276
 a164:=isAgg276
 z164:=sizeOf276
 v164:=zeroValue276 }
theorem Tryz.Builder_Extra_166:Builder.Extra prog Tryz.lays166_ren:={
 sizeBuilder:=kR
 liesBuilder:=kR
 t5:=underlying5
 a5:=isAgg5
 z5:=sizeOf5
 v5:=zeroValue5
 infoByte:=kR
 cellsByte:=kR
 sizeByte:=kR
 neB5:=by decide }
theorem Tryz.Builder_WriteString(B b:Nat)(bs:List Value)(s:ByteArray)(w:World)(h:Lib.IsBuilder 201 5 B b bs w)(hlen:bs.length+s.size<=140737488355328)(hBw:B<=w.heap.size) :
 Calls prog 134 #[.pointer (some ⟨b,0,none⟩),.string s] w fun e w'=>e=.returned (.tuple #[.int .i64 s.size,.nilIface])/\(Lib.BuilderAt 201 5 B b (.pointer (some ⟨b,0,none⟩)) (bs++Lib.strCells s) w'/\Below B w w'):=Any.Builder_WriteString Tryz.lays166 Tryz.Builder_Extra_166 B b bs s w h hlen hBw
theorem Tryz.strings_Trim_cut(s cutset:ByteArray)(w:World)(hs:s.size<=9223372036854775807)(hcs:cutset.size<4294967281)(hascii:∀(j:Nat) b,cutset.data.toList[j]?=some b->b.toNat<128) :
 Calls prog 177 #[.string s,.string cutset] w fun e w'=>e=.returned (.string ⟨(Lib.trimS s.data.toList cutset.data.toList).toArray⟩)/\Below w.heap.size w w':=Any.strings_Trim_laid Tryz.lays160 kR s cutset w hs hcs hascii
theorem Tryz.strings_TrimLeft_cut(s cutset:ByteArray)(w:World)(hcs:cutset.size<4294967281)(hascii:∀(j:Nat) b,cutset.data.toList[j]?=some b->b.toNat<128) :
 Calls prog 176 #[.string s,.string cutset] w fun e w'=>e=.returned (.string ⟨(Lib.trimLeftS s.data.toList cutset.data.toList).toArray⟩)/\Below w.heap.size w w':=Any.strings_TrimLeft_laid Tryz.lays161 kR s cutset w hcs hascii
theorem Tryz.strings_TrimRight_cut(s cutset:ByteArray)(w:World)(hs:s.size<=9223372036854775807)(hcs:cutset.size<4294967281)(hascii:∀(j:Nat) b,cutset.data.toList[j]?=some b->b.toNat<128) :
 Calls prog 182 #[.string s,.string cutset] w fun e w'=>e=.returned (.string ⟨(Lib.trimRightS s.data.toList cutset.data.toList).toArray⟩)/\Below w.heap.size w w':=Any.strings_TrimRight_laid Tryz.lays162 kR s cutset w hs hcs hascii
end Go.Proofs
namespace Go.Proofs.YtdjpkgccakgkbaaGreatDoor
open Go.Proofs.Tryz
open Go.RowKit Fo
theorem rX(p:UInt8->Bool)(h:(List.range 256).all (fun n=>p (UInt8.ofNat n))=true)(c:UInt8):p c=true:=by
 have:=List.all_eq_true.1 h c.toNat (List.mem_range.2 (UInt8.toNat_lt c));simpa using this
theorem aTG(c:UInt8):decide (0<=Lib.indexByte [0,9,10,12,13,32] c)=dX c:=by
 simpa using rX (fun c=>decide (0<=Lib.indexByte [0,9,10,12,13,32] c)==dX c) q8 c
theorem aTH(c:UInt8):decide (0<=Lib.indexByte [40,41,60,62,91,93,123,125,47,37] c)=aCS c:=by
 simpa using rX (fun c=>decide (0<=Lib.indexByte [40,41,60,62,91,93,123,125,47,37] c)==aCS c) q8 c
theorem bG{a b:Bool}(h:a=b):Ending.returned (.bool a)=.returned (.bool b):=by rw[h]
theorem eA{k:IntKind}{a b:Int}(h:a=b):Ending.returned (.int k a)=.returned (.int k b):=by rw[h]
theorem rY(c:UInt8)(w:World) :
 Calls prog 126 #[.int .u8 c.toNat] w fun e w'=>e=.returned (.bool (dX c))/\w'=w:=by
 go_enter func126,ntmps126
 go_wp2_with(go_at_call 162;refine(Tryz.strings_IndexByte _ _ _).mono ?_;rintro e w' ⟨rfl,rfl⟩)
 go_ret
 exact⟨bG (by simpa using aTG c),rfl⟩
theorem aNP(c:UInt8)(w:World) :
 Calls prog 214 #[.int .u8 c.toNat] w fun e w'=>e=.returned (.bool (aCS c))/\w'=w:=by
 go_enter func214,ntmps214
 go_wp2_with(go_at_call 162;refine(Tryz.strings_IndexByte _ _ _).mono ?_;rintro e w' ⟨rfl,rfl⟩)
 go_ret
 exact⟨bG (by simpa using aTH c),rfl⟩
theorem aCT(c:UInt8)(w:World) :
 Calls prog 173 #[.int .u8 c.toNat] w fun e w'=>e=.returned (.bool (fO c))/\w'=w:=by
 go_enter func173,ntmps173
 go_wp2_with(first|(go_at_call 126;refine(rY _ _).mono ?_;rintro e w' ⟨rfl,rfl⟩)|(go_at_call 214;refine(aNP _ _).mono ?_;rintro e w' ⟨rfl,rfl⟩))
 all_goals go_ret
 all_goals exact⟨bG (by simp_all [fO]),rfl⟩
theorem u8k(c:UInt8)(n:Nat)(h:n<256):((c.toNat:Int)==(n:Int))=(c==UInt8.ofNat n):=by
 rw[Bool.eq_iff_iff];simp only[beq_iff_eq,<-UInt8.toNat_inj,UInt8.toNat_ofNat_of_lt' (show n<UInt8.size from h)];omega
theorem aTI(c:UInt8)(w:World) :
 Calls prog 125 #[.int .u8 c.toNat] w fun e w'=>e=.returned (.bool (eol c))/\w'=w:=by
 have h13:=u8k c 13 dC;have h10:=u8k c 10 dC;have H:Hid (eol c=(c==13||c==10)):=rfl;by_cases h:c=13
 ·subst h;clear h13 h10;go_enter func125,ntmps125
  go_wp2;go_ret
  exact⟨bG dC,rfl⟩
 ·have h1:((c.toNat:Int)==13)=false:=by rw[show(13:Int)=((13:Nat):Int) from rfl,h13];simpa using h
  clear h13 h10;go_enter func125,ntmps125
  go_wp2;go_ret
  exact⟨bG (by rw[H.out,show(10:Int)=((10:Nat):Int) from rfl,u8k c 10 dC];simp[h]),rfl⟩
theorem rZ(c:Nat)(hc:c<256)(w:World) :
 Calls prog 128 #[.int .u8 c] w fun e w'=>e=.returned (.int .i64 (digit c))/\w'=w:=by
 go_enter func128,ntmps128
 go_wp2;all_goals go_ret
 all_goals exact⟨eA (by unfold digit;repeat' (split<;>try omega)),rfl⟩
theorem oF(c:UInt8)(h:dX c=true)(w:World) :
 Calls prog 126 #[.int .u8 c.toNat] w fun e w'=>e=.returned (.bool true)/\w'=w:=h▸rY c w
theorem eZ(c:UInt8)(h:dX c=false)(w:World) :
 Calls prog 126 #[.int .u8 c.toNat] w fun e w'=>e=.returned (.bool false)/\w'=w:=h▸rY c w
theorem aV(s:ByteArray)(k:Nat)(h:k<s.size):s.data.toList.drop k=s[k]::s.data.toList.drop (k+1):=by
 rw[bHH q10];rfl
theorem aTJ(b:Bool)(l:L):dY b l<=l.length:=by
 exact q403
theorem cP{c:UInt8}{n:Nat}(hn:n<256)(h:c=UInt8.ofNat n):((c.toNat:Int)==(n:Int))=true:=by rw[u8k c n hn];simpa using h
theorem eD{c:UInt8}{n:Nat}(hn:n<256)(h:¬c=UInt8.ofNat n):((c.toNat:Int)==(n:Int))=false:=by rw[u8k c n hn];simpa using h
theorem aZZ(s:ByteArray)(a:Nat)(ha:a<=s.size)(hs:s.size<=maxLen)(w:World) :
 Calls prog 87 #[.string s,.int .i64 a] w fun e w'=>e=.returned (.int .i64 (a+dY false (s.data.toList.drop a):Nat))/\w'=w:=by
 unfold maxLen at hs;obtain⟨T,hT⟩:=eX (a+dY false (s.data.toList.drop a));rw[hT];have HT:=Lib.hid hT;clear hT;have hz0:decide ((a:Int)<0)=false:=sI;have hz1:decide (s.size<a)=false:=sO;go_enter func87,ntmps87
 go_wp2;go_loop [1,5] (fun p r=>∃(k:Nat) (b:Bool),k<=s.size/\p=.int .i64 k/\r=.bool b/\Hid (k+dY b (s.data.toList.drop k)=T)) (fun p _=>s.size-(intOf p).toNat)
 case atStart=>exact⟨a,false,ha,rfl,rfl,HT⟩
 case round =>
  obtain⟨k,b,hk,rfl,rfl,H⟩:=hrel;clear HT;by_cases hlt:k<s.size
  ·have H1:=H.out;rw[aV s k hlt] at H1;have H2:=Lib.hid H1;clear H1 H;cases b
   ·by_cases h37:s[k]=37
    ·have h1:((s[k].toNat:Int)==37)=true:=cP (n:=37) dC h37;have H37:=Lib.hid h37;clear h37;go_wp2;go_round
     case rel=>exact⟨k+1,true,oM,q12,rfl,by have:=H2.out;rw[H37.out] at this;simp only[dY,beq_self_eq_true,if_true] at this;show _=_;omega⟩
     case measure=>exact q339
    ·have h1:((s[k].toNat:Int)==37)=false:=eD (n:=37) dC h37;have H37:=Lib.hid h37;clear h37;cases hw:dX s[k]
     ·have HW:=Lib.hid hw;clear hw;go_wp2_with(go_at_call 126;refine(eZ _ HW.out _).mono ?_;rintro e w' ⟨rfl,rfl⟩)
      go_ret
      exact⟨eA (by have:=H2.out;simp[dY,H37.out,HW.out] at this;omega),rfl⟩
     ·have HW:=Lib.hid hw;clear hw;go_wp2_with(go_at_call 126;refine(oF _ HW.out _).mono ?_;rintro e w' ⟨rfl,rfl⟩)
      go_round
      case rel=>exact⟨k+1,false,oM,q12,rfl,by have:=H2.out;simp[dY,H37.out,HW.out] at this;show _=_;omega⟩
      case measure=>exact q339
   ·go_wp2_with(go_at_call 125;refine(aTI _ _).mono ?_;rintro e w' ⟨rfl,rfl⟩)
    go_round
    case rel=>exact⟨k+1,!eol s[k],oM,q12,rfl,by have:=H2.out;simp only[dY] at this;show _=_;omega⟩
    case measure=>exact q339
  ·have hk2:k=s.size:=oM;subst hk2;have H1:=Lib.hid (show s.size=T by have:=H.out;rw[List.drop_eq_nil_of_le sI] at this;cases b<;>simpa[dY] using this);exact q520
theorem aCU(s:ByteArray)(a:Nat):List.take (s.size-a) (List.drop a s.data.toList)=s.data.toList.drop a :=
 bHC sI
theorem aNQ(s p:ByteArray)(a:Nat)(ha:a<=s.size)(hs:s.size<=maxLen)(w:World) :
 Calls prog 11 #[.string s,.string p,.int .i64 a] w fun e w'=>e=.returned (.bool (Lib.hasPrefix (s.data.toList.drop a) p.data.toList))/\w'=w:=by
 unfold maxLen at hs;have hz0:decide (0<=(a:Int))=true:=sI;have hz1:decide (a<=s.size)=true:=sO;go_enter func11,ntmps11
 go_wp2_with(go_at_call 23;refine(Tryz.strings_HasPrefix _ _ _).mono ?_;rintro e w' ⟨rfl,rfl⟩)
 go_ret
 exact⟨bG (by rw[aCU]),rfl⟩
theorem dQ(s p:ByteArray)(a:Nat)(b:Bool)(h:Lib.hasPrefix (s.data.toList.drop a) p.data.toList=b)(ha:a<=s.size)(hs:s.size<=maxLen)(w:World) :
 Calls prog 11 #[.string s,.string p,.int .i64 a] w fun e w'=>e=.returned (.bool b)/\w'=w:=h▸aNQ s p a ha hs w
theorem uZ(l:L):dZ l<=l.length:=by
 fun_induction dZ l<;>simp_all<;>omega
theorem vA(c:UInt8)(l:L):dZ (c::l)=if c=10 then 1 else if c=13 then(if l.head?=some 10 then 2 else 1) else dZ l+1:=by
 by_cases h:c=13
 ·subst h;cases l with
  |nil=>simp[dZ,eol]
  |cons d l =>
   by_cases hd:d=10
   ·subst hd;simp[dZ]
   ·rw[dZ]
    ·simp[eol,hd]
    ·intro d' h1 h2;simp_all
 ·rw[dZ]
  ·by_cases h2:c=10<;>simp[eol,h,h2]
  ·intro d h1 h2;simp_all
theorem bAA(s:ByteArray)(k:Nat)(h:k<s.size)(hc:s[k]=13):Lib.hasPrefix (s.data.toList.drop k) [13,10]=((s.data.toList.drop (k+1)).head?==some 10):=by
 rw[aV s k h,hc];cases s.data.toList.drop (k+1) with
 |nil=>simp[Lib.hasPrefix]
 |cons d l=>by_cases hd:d=10<;>simp[Lib.hasPrefix,List.isPrefixOf,hd,Bool.beq_comm]
theorem bAB(s:ByteArray)(a:Nat)(ha:a<=s.size)(hs:s.size<=maxLen)(w:World) :
 Calls prog 174 #[.string s,.int .i64 a] w fun e w'=>e=.returned (.int .i64 (a+dZ (s.data.toList.drop a):Nat))/\w'=w:=by
 have hs':=Lib.hid hs;unfold maxLen at hs;obtain⟨T,hT⟩:=eX (a+dZ (s.data.toList.drop a));rw[hT];have HT:=Lib.hid hT;clear hT;have hz0:decide ((a:Int)<0)=false:=sI;have hz1:decide (s.size<a)=false:=sO;go_enter func174,ntmps174
 go_wp2;go_loop [1] (fun p=>∃(k:Nat),k<=s.size/\p=.int .i64 k/\Hid (k+dZ (s.data.toList.drop k)=T)) (fun p=>s.size-(intOf p).toNat)
 case atStart=>exact⟨a,ha,rfl,HT⟩
 case round =>
  obtain⟨k,hk,rfl,H⟩:=hrel;clear HT;by_cases hlt:k<s.size
  ·have H1:=H.out;rw[aV s k hlt,vA] at H1;have H2:=Lib.hid H1;clear H1 H;by_cases h10:s[k]=10
   ·have h1:((s[k].toNat:Int)==10)=true:=cP (n:=10) dC h10;have H10:=Lib.hid h10;clear h10;go_wp2;go_ret
    exact⟨eA (by have:=H2.out;simp[H10.out] at this;omega),rfl⟩
   ·have h1:((s[k].toNat:Int)==10)=false:=eD (n:=10) dC h10;have H10:=Lib.hid h10;clear h10;by_cases h13:s[k]=13
    ·have h2:((s[k].toNat:Int)==13)=true:=cP (n:=13) dC h13;have HC:=bAA s k hlt h13;have H13:=Lib.hid h13;clear h13;by_cases hn:(s.data.toList.drop (k+1)).head?=some 10
     ·have hk1:k+1<s.size := by
       apply Classical.byContradiction;intro h
       rw[List.drop_eq_nil_of_le sO] at hn;simp at hn
      rw[hn] at HC;have HC2:=Lib.hid HC;have HN:=Lib.hid hn;clear HC hn;go_wp2_with(go_at_call 11;refine(dQ _ _ _ true HC2.out oM hs'.out _).mono ?_;rintro e w' ⟨rfl,rfl⟩)
      go_ret
      exact⟨eA (by have:=H2.out;rw[H13.out,bGU dC,bGV rfl,bGV HN.out] at this;omega),rfl⟩
     ·rw[beq_eq_false_iff_ne.2 hn] at HC;have HC2:=Lib.hid HC;have HN:=Lib.hid hn;clear HC hn;go_wp2_with(go_at_call 11;refine(dQ _ _ _ false HC2.out oM hs'.out _).mono ?_;rintro e w' ⟨rfl,rfl⟩)
      go_ret
      exact⟨eA (by have:=H2.out;rw[H13.out,bGU dC,bGV rfl,bGU HN.out] at this;omega),rfl⟩
    ·have h2:((s[k].toNat:Int)==13)=false:=eD (n:=13) dC h13;have H13:=Lib.hid h13;clear h13;go_wp2;go_round
     case rel=>exact⟨k+1,oM,q12,by have:=H2.out;simp[H10.out,H13.out] at this;show _=_;omega⟩
     case measure=>exact q339
  ·have hk2:k=s.size:=oM;subst hk2;have H1:=Lib.hid (show s.size=T by have:=H.out;rw[List.drop_eq_nil_of_le sI] at this;simpa[dZ] using this);exact q520
theorem Tryz.infoU8:(prog.info? 5).map (fun i=>(i.zero,i.size,i.bytes))=some (some (.int .u8 0),1,1):=kR
theorem aZ{W w1:World}(hb:Below W.heap.size W w1):(∀b o,b<W.heap.size->w1.cell? ⟨b,o,none⟩=W.cell? ⟨b,o,none⟩)/\(∀b o,b<W.heap.size->w1.frozen? ⟨b,o,none⟩=W.frozen? ⟨b,o,none⟩) :=
 ⟨fun b o h=>hb.cell (p:=⟨b,o,none⟩) h,fun b o h=>hb.frozen (p:=⟨b,o,none⟩) h⟩
theorem aQ{B:Nat}{W w1:World}(hb:Below B W w1):(∀b o,b<B->w1.cell? ⟨b,o,none⟩=W.cell? ⟨b,o,none⟩)/\(∀b o,b<B->w1.frozen? ⟨b,o,none⟩=W.frozen? ⟨b,o,none⟩) :=
 ⟨fun b o h=>hb.cell (p:=⟨b,o,none⟩) h,fun b o h=>hb.frozen (p:=⟨b,o,none⟩) h⟩
theorem gQ{B:Nat}{a w:World}(h:Below B a w)(hB:B<=w.heap.size)(s:ByteArray)(p:Nat):Below B a (w.iter s p):=h.alloc hB _
theorem bT{B C:Nat}{a b c:World}(h:Below C b c)(k:Below B a b)(e:B<=C):Below B a c:=k.trans (h.mono e)
theorem aN{B:Nat}{a w:World}(h:Below B a w)(n:Nat):Below B a (w.drewN n):=⟨h.os,h.tape,h.output,h.size,h.block⟩
theorem bel{B:Nat}{a b:World}(h:Below B a b:=by repeat' (first|(with_reducible first|exact bGL _ _|refine Below.drew ?_|refine aN ?_ _|refine gQ ?_ ?_ _ _|refine Below.setCell ?_ ?_ _|refine Below.alloc ?_ ?_ _|refine bT hb4 ?_ ?_|refine bT hb3 ?_ ?_|refine bT hb2 ?_ ?_|refine bT hb1 ?_ ?_|refine bT hbr ?_ ?_|refine bT hb ?_ ?_)|(simp;done)|(simp;omega)|omega)):Below B a b:=h
theorem xK{B:Nat}{a b:World}(h:Below B a b:=by repeat' (first|(with_reducible first|exact bGL _ _|refine Below.setCell ?_ ?_ _|refine Below.alloc ?_ ?_ _)|(show _<=_;simp;done)|(show _<=_;simp;omega)|omega)):Below B a b:=h
theorem bAC{B:Nat}{a b:World}(h:Below B a b:=by repeat' (first|(with_reducible first|exact bGL _ _|refine Below.drew ?_|refine aN ?_ _|refine gQ ?_ ?_ _ _|refine Below.setCell ?_ ?_ _|refine Below.alloc ?_ ?_ _|refine bT hb4 ?_ ?_|refine bT hb3 ?_ ?_|refine bT hb2 ?_ ?_|refine bT hb1 ?_ ?_|refine bT hbr ?_ ?_|refine bT hb ?_ ?_)|(show _<=_;simp;done)|(show _<=_;simp;omega)|(simp;done)|(simp;omega)|omega)):Below B a b:=h
theorem Lh{p:Prop}(h:p):Hid p:=Lib.hid h
def pI(w:World)(B:Nat)(v:Value)(l:L):Prop:=w.ownsRow B 5 1 v l.length (l.map fun c=>.int .u8 c.toNat)
theorem aCV(w:World)(B:Nat):pI w B (.slice none 0 0) []:=⟨sI,.inl ⟨rfl,rfl⟩⟩
theorem aGY{w w':World}{B:Nat}{v:Value}{l:L}(h:pI w B v l)(hb:Below w.heap.size w w'):pI w' B v l :=
 World.ownsRow.kept h (row:=none) ⟨hb.os,hb.tape,hb.output,hb.size,fun k hk _=>hb.block k hk⟩ (Classical.em _)
theorem aK{w:World}{B:Nat}{e:TypeId}{s n:Nat}{v:Value}{xs:List Value}(h:w.ownsRow B e s v n xs):∀k,v.ownBlock=some k->B<=k:=by
 rcases h.2 with⟨h1,_⟩|⟨g,cap,cur,h1,h2,_⟩
 ·subst h1;intro k hk;simp[Value.ownBlock] at hk
 ·subst h1;intro k hk;simp[Value.ownBlock] at hk;omega
theorem aLK(n:Int)(h0:0<=n)(h1:n<256):((UInt8.ofNat n.toNat).toNat:Int)=n:=by
 simp only[bHJ];omega
theorem uL{ops:Array Oper}{aP:List Oper}{o:Oper}{a:Act}{Q:Exit->Act->World->Prop}{w:World}(hgd:o.guard=none)(s x:Operand)
 (ho:o.op=.call { callee:=.builtin .append,args:=#[s,x],argTypes:=#[196,196] })
 (B:Nat) (v:Value) (l:L) (n:Int) (hown:pI w B v l) (hs:a.eval s=v)
 (hx:a.eval x=.slice (some ⟨w.heap.size,0,none⟩) 1 1) (hlen:l.length+1<=140737488355328) (hB:B<=w.heap.size) (h0:0<=n) (h1:n<256)
 (h:∀v' w',pI w' B v' (l++[UInt8.ofNat n.toNat])->Below B w w'->w.heap.size<w'.heap.size->wpList prog ops Q aP (a.put o.dst v') w') :
 wpList prog ops Q (o::aP) a (w.alloc (.cells #[.int .u8 n] 5)):=by
 obtain⟨i0,hi,hz0,hz1,hz2⟩:=info_parts Tryz.infoU8;refine wpList_append_own _ hgd s x 196 ho B 5 i0 (.int .u8 0) 1 1 underlying196 hi hz0 hz1 hz2 rfl dC v l.length _ hs (hown.alloc _) ⟨w.heap.size,0,none⟩ 1 1 [.int .u8 n] hx rfl ?_ ?_ ?_ ?_ ?_ ?_
 ·exact q398
 ·intro u hu;simp at hu;subst hu;rfl
 ·exact q542
 ·omega
 ·simp;omega
 ·intro v' w' hown' hg _;refine h v' w' ?_ (((bGL B w).alloc hB _).trans ((bGL B _).grown hg sO (aK hown))) q13;have hn:(Value.int .u8 n)=.int .u8 ((UInt8.ofNat n.toNat).toNat:Int):=by
   rw[aLK n h0 h1]
  rw[hn] at hown';unfold pI;simpa using hown'
theorem aGZ(l:L)(r:ByteArray):(l.map fun c=>((c.toNat:Nat):Int)).foldl (fun(r:ByteArray) (n:Int)=>r.push (UInt8.ofNat n.toNat)) r=⟨r.data++l.toArray⟩:=by
 induction l generalizing r with
 |nil=>simp
 |cons c l ih =>
  simp only[List.map_cons,List.foldl_cons];rw[ih];simp[ByteArray.push]
theorem qA{w:World}{B:Nat}{v:Value}{l:L}(h:pI w B v l):(Go.convert 196 9 v).run prog w=.ok (.string ⟨l.toArray⟩) w:=by
 rcases h.2 with⟨h1,h2⟩|⟨g,cap,cur,h1,h2,h3,h4,h5,h6,h7⟩
 ·have hl:l=[]:=bHI h2;subst hl;subst h1;rw[run_convert_bytes_string w _ _ 5 _ _ _ underlying196 underlying5 underlying9];rfl
 ·subst h1;rw[run_convert_bytes_string w _ _ 5 _ _ _ underlying196 underlying5 underlying9];rw[run_bytesToString w _ _ _ (l.map fun c=>(c.toNat:Int)),aGZ]
  ·show Result.ok (Value.string ⟨#[]++l.toArray⟩) w=_
   simp
  ·have hc := run_loadCells_list (P := prog) (w := w) ⟨g,0,none⟩ (l.map fun c=>Value.int .u8 c.toNat) (by
    intro j u hj;have:=World.ownsRow.cellAt (base:=B) (e:=5) (size:=1) (g:=g) (cap:=cap) (w:=w) (xs:=l.map fun c=>Value.int .u8 c.toNat) (n:=l.length) ⟨h.1,.inr ⟨g,cap,cur,rfl,h2,h3,h4,h5,h6,h7⟩⟩ j (by
     have:=(List.getElem?_eq_some_iff.1 hj).1;simpa using this)
    rw[hj] at this;rw[<-this];cases j<;>simp[Addr.add])
   simpa[List.map_map,Function.comp_def] using hc
structure Enc (α:Type) where
 k:Nat
 cells:α->List Value
 len:∀x,(cells x).length=k
 one:∀x,∀u∈cells x,u.oneCell'=true
variable {α:Type}
def Enc.row(E:Enc α)(xs:List α):List Value:=xs.flatMap E.cells
theorem Enc.row_length(E:Enc α)(xs:List α):(E.row xs).length=xs.length*E.k:=by
 induction xs with
 |nil=>simp[Enc.row]
 |cons x xs ih =>
  show(E.cells x++E.row xs).length=_
  rw[bGR,E.len,ih,bHA,Nat.succ_mul];omega
theorem Enc.row_at(E:Enc α)(xs:List α)(j:Nat)(hj:j<xs.length)(i:Nat)(hi:i<E.k):(E.row xs)[j*E.k+i]?=(E.cells xs[j])[i]?:=by
 induction xs generalizing j with
 |nil=>exact absurd hj (Nat.not_lt_zero _)
 |cons x xs ih =>
  have e:E.row (x::xs)=E.cells x++E.row xs:=rfl;match j with
  |0 =>
   rw[e,Nat.zero_mul,Nat.zero_add,List.getElem?_append_left (by rw[E.len];exact hi)];rfl
  |j+1 =>
   rw[e,List.getElem?_append_right (by rw[E.len,Nat.succ_mul];omega),E.len,show(j+1)*E.k+i-E.k=j*E.k+i by rw[Nat.succ_mul];omega];exact ih j q14
theorem Enc.row_append(E:Enc α)(xs ys:List α):E.row (xs++ys)=E.row xs++E.row ys:=by
 unfold Enc.row;rw[List.flatMap_append]
def aG(E:Enc α)(t:TypeId)(w:World)(B:Nat)(v:Value)(xs:List α):Prop:=w.ownsRow B t E.k v xs.length (E.row xs)
variable {E:Enc α} {t:TypeId}
theorem bF(w:World)(B:Nat):aG E t w B (.slice none 0 0) []:=⟨by simp[Enc.row],.inl ⟨rfl,rfl⟩⟩
theorem aH{w:World}{B n k:Nat}{t:TypeId}{v:Value}{xs:List Value}(h:w.ownsRow B t k v n xs):∃p c,v=.slice p n c:=by
 rcases h.2 with⟨rfl,h0⟩|⟨g,cap,cur,rfl,_⟩
 ·exact⟨none,0,by rw[h0]⟩
 ·exact⟨_,cap,rfl⟩
theorem aG.below{w w':World}{B:Nat}{v:Value}{xs:List α}(h:aG E t w B v xs)(hb:Below w.heap.size w w'):aG E t w' B v xs :=
 World.ownsRow.kept h (row:=none) ⟨hb.os,hb.tape,hb.output,hb.size,fun k hk _=>hb.block k hk⟩ (Classical.em _)
theorem aG.low{w:World}{B B':Nat}{v:Value}{xs:List α}(h:aG E t w B' v xs)(hB:B<=B'):aG E t w B v xs:=by
 rcases h with⟨h0,h1|⟨g,cap,cur,h1,h2,h3⟩⟩
 ·exact⟨h0,.inl h1⟩
 ·exact⟨h0,.inr ⟨g,cap,cur,h1,oM,h3⟩⟩
def bC(E:Enc α)(w:World)(v:Value)(xs:List α):Prop:=∃p c,v=.slice p xs.length c/\∀j (hj:j<xs.length),∃g off,p=some ⟨g,off,none⟩/\g<w.heap.size /\
 ∀i u,(E.cells xs[j])[i]?=some u->w.cell? ⟨g,off+j*E.k+i,none⟩=some u
theorem bC.below{w w':World}{v:Value}{xs:List α}(h:bC E w v xs)(hb:Below w.heap.size w w'):bC E w' v xs:=by
 obtain⟨p,c,rfl,h⟩:=h;refine⟨p,c,rfl,fun k hk=>?_⟩;obtain⟨g,off,h1,h2,h3⟩:=h k hk;have hz:=hb.size;exact⟨g,off,h1,oM,fun i u hu=>(bGO (hb.block g h2)).trans (h3 i u hu)⟩
theorem bC.nil(w:World):bC E w (.slice none 0 0) []:=⟨none,0,rfl,fun k hk=>absurd hk (Nat.not_lt_zero _)⟩
theorem aG.arg{w:World}{B:Nat}{v:Value}{xs:List α}(h:aG E t w B v xs):bC E w v xs:=by
 obtain⟨p,c,rfl⟩:=aH h;have h0:=h;rcases h.2 with⟨h1,h2⟩|⟨g,cap,cur,h1,h2,h3,h4,h5,h6,h7⟩
 ·exact⟨p,c,rfl,fun k hk=>oM⟩
 ·simp only[Value.slice.injEq] at h1;obtain⟨rfl,hl,rfl⟩:=h1;refine⟨_,_,rfl,fun k hk=>⟨g,0,rfl,(Array.getElem?_eq_some_iff.1 h3).1,fun i u hu=>?_⟩⟩;have hi:i<E.k:=q17;have hlt:k*E.k+i<xs.length*E.k:=by
   have:(k+1)*E.k<=xs.length*E.k:=Nat.mul_le_mul_right _ hk;rw[Nat.succ_mul] at this;omega
  have:=World.ownsRow.cellAt h0 (k*E.k+i) hlt;rw[Nat.zero_add,this,E.row_at xs k hk i hi,hu]
theorem bAD{ops:Array Oper}{aP:List Oper}{o:Oper}{a:Act}{Q:Exit->Act->World->Prop}{w:World}(hgd:o.guard=none)(s x:Operand){ts:TypeId}
 (ho:o.op=.call { callee:=.builtin .append,args:=#[s,x],argTypes:=#[ts,ts] }) (ht:prog.underlying ts=some (.slice t))
 {z:Value} {by':Nat} (hin:(prog.info? t).map (fun i=>(i.zero,i.size,i.bytes))=some (some z,E.k,by')) (hzk:z.cells.size=E.k) (hk0:0<E.k) (hby:by'<=1000)
 (B:Nat) (v:Value) (xs:List α) (y:α) (hown:aG E t w B v xs) (hs:a.eval s=v)
 (hx:a.eval x=.slice (some ⟨w.heap.size,0,none⟩) 1 1) (hlen:xs.length<=1000000000) (hB:B<=w.heap.size)
 (h:∀p q w',aG E t w' B (.slice p (xs.length+1) q) (xs++[y])->Below B w w'->w.heap.size<w'.heap.size->(w.alloc (.cells (E.cells y).toArray t)).grownBy w' v.ownBlock->wpList prog ops Q aP (a.put o.dst (.slice p (xs.length+1) q)) w') :
 wpList prog ops Q (o::aP) a (w.alloc (.cells (E.cells y).toArray t)):=by
 obtain⟨i0,hi,hz0,hz1,hz2⟩:=info_parts hin;refine wpList_append_own _ hgd s x ts ho B t i0 z E.k by' ht hi hz0 hz1 hz2 hzk hk0 v xs.length _ hs (World.ownsRow.alloc hown _) ⟨w.heap.size,0,none⟩ 1 1 (E.cells y) hx (by rw[E.len];omega) ?_ ?_ ?_ ?_ ?_ ?_
 ·exact q496
 ·exact E.one y
 ·exact q542
 ·exact q463
 ·simp;omega
 ·intro v' w' hown' hg _;obtain⟨p,q,rfl⟩:=aH hown';refine h p q w' ?_ (((bGL B w).alloc hB _).trans ((bGL B _).grown hg sO (aK hown))) q13 hg;exact q511
theorem eE{α:Type}{E:Enc α}{t:TypeId}{ops:Array Oper}{aP:List Oper}{o:Oper}{a:Act}{Q:Exit->Act->World->Prop}{w:World}(hgd:o.guard=none)(s x:Operand){ts:TypeId}
 (ho:o.op=.call { callee:=.builtin .append,args:=#[s,x],argTypes:=#[ts,ts] }) (ht:prog.underlying ts=some (.slice t))
 {z:Value} {by':Nat} (hin:(prog.info? t).map (fun i=>(i.zero,i.size,i.bytes))=some (some z,E.k,by')) (hzk:z.cells.size=E.k) (hk0:0<E.k) (hby:by'<=1000)
 (B:Nat) (v:Value) (xs:List α) (y:α) (hown:aG E t w B v xs) (hs:a.eval s=v)
 (hx:a.eval x=.slice (some ⟨w.heap.size,0,none⟩) 1 1) (hlen:xs.length<=1000000000) (hB:B<=w.heap.size)
 (h:∀g q w',aG E t w' B (.slice (some ⟨g,0,none⟩) (xs.length+1) q) (xs++[y])->Below B w w'->w.heap.size<w'.heap.size->(w.alloc (.cells (E.cells y).toArray t)).grownBy w' v.ownBlock->(v.ownBlock=some g\/g=w.heap.size+1)->wpList prog ops Q aP (a.put o.dst (.slice (some ⟨g,0,none⟩) (xs.length+1) q)) w') :
 wpList prog ops Q (o::aP) a (w.alloc (.cells (E.cells y).toArray t)):=by
 obtain⟨i0,hi,hz0,hz1,hz2⟩:=info_parts hin;refine wpList_append_lies _ hgd s x ts ho B t i0 z E.k by' ht hi hz0 hz1 hz2 hzk hk0 v xs.length _ hs (World.ownsRow.alloc hown _) ⟨w.heap.size,0,none⟩ 1 1 (E.cells y) hx (by rw[E.len];omega) ?_ ?_ dC ?_ ?_ ?_ (w.heap.size+1) sI ?_
 ·exact q496
 ·exact E.one y
 ·exact q542
 ·exact q463
 ·simp;omega
 ·intro g q w' hown' hg hor hlt;refine h g q w' ?_ (((bGL B w).alloc hB _).trans ((bGL B _).grown hg sO (aK hown))) q13 hg hor;exact q511
theorem cG{α:Type}{E:Enc α}{t:TypeId}{w:World}{B b o:Nat}{v u:Value}{xs:List α}(h:aG E t w B v xs)(hb:b<B):aG E t (w.setCell ⟨b,o,none⟩ u) B v xs :=
 World.ownsRow.kept h (row:=some b) ⟨rfl,rfl,rfl,q18,fun k _ hk=>bGK _ _ _ _ (fun e=>hk (by rw[e]))⟩ (.inr (fun e=>by have:=aK h _ e;omega))
end Go.Proofs.YtdjpkgccakgkbaaGreatDoor
namespace Fo
inductive Ob where
 |mk (kind n g:Int) (s:L) (keys:List L) (kids:List Ob)
def Ob.kind:Ob->Int|.mk k _ _ _ _ _=>k
def Ob.n:Ob->Int|.mk _ n _ _ _ _=>n
def Ob.g:Ob->Int|.mk _ _ g _ _ _=>g
def Ob.s:Ob->L|.mk _ _ _ s _ _=>s
def Ob.keys:Ob->List L|.mk _ _ _ _ k _=>k
def Ob.kids:Ob->List Ob|.mk _ _ _ _ _ k=>k
def Ob.zero:Ob:=.mk 0 0 0 [] [] []
def Ob.int(n:Int):Ob:=.mk 2 n 0 [] [] []
def Ob.real(n:Int):Ob:=.mk 3 n 0 [] [] []
def Ob.str(s:L):Ob:=.mk 4 0 0 s [] []
def Ob.name(s:L):Ob:=.mk 5 0 0 s [] []
def Ob.ref(n g:Int):Ob:=.mk 8 n g [] [] []
def Ob.bool(b:Bool):Ob:=.mk 1 (if b then 1 else 0) 0 [] [] []
def yD:L:=[116,114,117,101]
def aTK:L:=[102,97,108,115,101]
def vB:L:=[110,117,108,108]
def bE(l:L):Res (Tok×L) :=
 match (aM l).2 with
 |.bad e=>.bad e
 |.good t=>if t.kind=0 then .bad 4 else .good (t,l.drop ((aM l).1+t.len))
def bL(t:Tok):Bool :=
 if t.kind=5 then t.s==yD||t.s==aTK||t.s==vB
 else if t.kind=6 then t.s==[91]||t.s==[60,60]
 else true
def uB(t:Tok)(l:L):Option (Int×L) :=
 if t.n<1\/8191<t.n then none
 else
  match (aM l).2 with
  |.bad _=>none
  |.good g =>
   if g.kind≠1\/g.n<0\/65535<g.n then none
   else
    match (aM (l.drop ((aM l).1+g.len))).2 with
    |.bad _=>none
    |.good w=>if w.kind=5/\w.s=[82] then some (g.n,(l.drop ((aM l).1+g.len)).drop ((aM (l.drop ((aM l).1+g.len))).1+w.len)) else none
def iN(f:Tok->L->Res (Ob×L))(d:Nat):Nat->L->List Ob->Res (List Ob×L)
 |0,_,_=>.bad 0
 |m+1,l,acc =>
  match bE l with
  |.bad e=>.bad e
  |.good (t,r) =>
   if t.kind=6/\t.s=[93] then .good (acc,r)
   else if bL t=true/\0<d/\8191<=acc.length then .bad 6
   else
    match f t r with
    |.bad e=>.bad e
    |.good (o,r2)=>iN f d m r2 (acc++[o])
def cQ(f:Tok->L->Res (Ob×L)):Nat->L->List (L×Ob)->Res (List (L×Ob)×L)
 |0,_,_=>.bad 0
 |m+1,l,acc =>
  match bE l with
  |.bad e=>.bad e
  |.good (t,r) =>
   if t.kind=6/\t.s=[62,62] then .good (acc,r)
   else if t.kind≠4 then .bad 3
   else if(acc.any fun p=>p.1==t.s)=true then .bad 9
   else if 8191<=acc.length then .bad 6
   else
    match bE r with
    |.bad e=>.bad e
    |.good (t2,r2) =>
     match f t2 r2 with
     |.bad e=>.bad e
     |.good (o,r3)=>cQ f m r3 (acc++[(t.s,o)])
def leL:L->L->Bool
 |[],_=>true
 |_::_,[]=>false
 |a::x,b::y=>a<b||(a==b&&leL x y)
def aHA(k:L):List L->List L
 |[]=>[k]
 |x::l=>if leL k x then k::x::l else x::aHA k l
def mX(l:List L):List L:=l.foldr aHA []
def pJ(ps:List (L×Ob)):Ob :=
 let ks:=mX ((ps.filter fun p=>p.2.kind !=0).map (·.1))
 .mk 7 0 0 [] ks (ks.map fun k=>((ps.find? fun p=>p.1==k).map (·.2)).getD .zero)
def dM:Nat->Tok->L->Res (Ob×L)
 |0,t,_=>if bL t then .bad 7 else .bad 3
 |d+1,t,l =>
  if bL t then
   if t.kind=1 then
    match uB t l with
    |some (g,r)=>.good (.ref t.n g,r)
    |none=>.good (.int t.n,l)
   else if t.kind=2 then .good (.real t.n,l)
   else if t.kind=3 then .good (.str t.s,l)
   else if t.kind=4 then .good (.name t.s,l)
   else if t.kind=5 then .good (if t.s=vB then .zero else .bool (t.s==yD),l)
   else if t.s=[91] then
    match iN (dM d) d (l.length+1) l [] with
    |.bad e=>.bad e
    |.good (ks,r)=>.good (.mk 6 0 0 [] [] ks,r)
   else
    match cQ (dM d) (l.length+1) l [] with
    |.bad e=>.bad e
    |.good (ps,r)=>.good (pJ ps,r)
  else .bad 3
def fA(l:L):Res (Ob×L) :=
 match bE l with
 |.bad e=>.bad e
 |.good (t,r)=>dM 24 t r
end Fo
namespace Go.Proofs.YtdjpkgccakgkbaaGreatDoor
open Go.Proofs.Tryz
open Go.RowKit Fo
def cU(S:Nat->Prop)(w:World)(v:Value)(ks:List L):Prop :=
 (ks=[]/\∃p c,v=.slice p 0 c) \/
 ∃b o c,v=.slice (some ⟨b,o,none⟩) ks.length c/\S b/\∀i (h:i<ks.length),w.cell? ⟨b,o+i,none⟩=some (.string ⟨(ks[i]).toArray⟩)
def aB(k n g:Int)(s:L)(kv dv:Value):List Value:=[.int .i64 k,.int .i64 n,.int .i64 g,.string ⟨s.toArray⟩,kv,dv]
def aI(S:Nat->Prop):Nat->World->List Value->Ob->Prop
 |0,_,_,_=>False
 |d+1,w,cs,o=>∃kv dv,cs=aB o.kind o.n o.g o.s kv dv/\cU S w kv o.keys /\
  ((o.kids=[]/\∃p c,dv=.slice p 0 c) \/
   ∃b off c,dv=.slice (some ⟨b,off,none⟩) o.kids.length c/\S b /\
    ∀i (h:i<o.kids.length),∃ks:List Value,ks.length=6/\(∀j (hj:j<ks.length),w.cell? ⟨b,off+6*i+j,none⟩=some ks[j])/\aI S d w ks o.kids[i])
theorem cU.kept{S:Nat->Prop}{w w':World}{v:Value}{ks:List L}(h:cU S w v ks)(hk:∀b,S b->w'.heap[b]?=w.heap[b]?):cU S w' v ks:=by
 rcases h with h|⟨b,o,c,h1,h2,h3⟩
 ·exact .inl h
 ·exact .inr ⟨b,o,c,h1,h2,fun i hi=>(bGO (hk b h2)).trans (h3 i hi)⟩
theorem aI.kept{S:Nat->Prop}{w w':World}(hk:∀b,S b->w'.heap[b]?=w.heap[b]?):∀(d:Nat) {cs:List Value} {o:Ob},aI S d w cs o->aI S d w' cs o
 |0,_,_,h=>h
 |d+1,cs,o,h=>by
  obtain⟨kv,dv,h1,h2,h3⟩:=h;refine⟨kv,dv,h1,h2.kept hk,?_⟩;rcases h3 with h3|⟨b,off,c,h4,h5,h6⟩
  ·exact .inl h3
  ·refine .inr ⟨b,off,c,h4,h5,fun i hi=>?_⟩;obtain⟨ks,g1,g2,g3⟩:=h6 i hi;exact⟨ks,g1,fun j hj=>(bGO (hk b h5)).trans (g2 j hj),aI.kept hk d g3⟩
theorem cU.weaken{S S':Nat->Prop}{w:World}{v:Value}{ks:List L}(h:cU S w v ks)(hk:∀b,S b->b<w.heap.size->S' b):cU S' w v ks:=by
 rcases h with h|⟨b,o,c,h1,h2,h3⟩
 ·exact .inl h
 ·by_cases he:ks=[]
  ·exact .inl ⟨he,_,_,by rw[h1,he];rfl⟩
  ·have h0:=h3 0 (List.length_pos_iff.2 he);have hlt:b<w.heap.size:=by
    exact q408
   exact .inr ⟨b,o,c,h1,hk b h2 hlt,h3⟩
theorem aI.weaken{S S':Nat->Prop}{w:World}(hk:∀b,S b->b<w.heap.size->S' b):∀(d:Nat) {cs:List Value} {o:Ob},aI S d w cs o->aI S' d w cs o
 |0,_,_,h=>h
 |d+1,cs,o,h=>by
  obtain⟨kv,dv,h1,h2,h3⟩:=h;refine⟨kv,dv,h1,h2.weaken hk,?_⟩;rcases h3 with h3|⟨b,off,c,h4,h5,h6⟩
  ·exact .inl h3
  ·by_cases he:o.kids=[]
   ·exact .inl ⟨he,_,_,by rw[h4,he];rfl⟩
   ·obtain⟨ks,g1,g2,_⟩:=h6 0 (List.length_pos_iff.2 he);have h0:=g2 0 oM;have hlt:b<w.heap.size:=by
     exact q408
    refine .inr ⟨b,off,c,h4,hk b h5 hlt,fun i hi=>?_⟩;obtain⟨ks,g1,g2,g3⟩:=h6 i hi;exact⟨ks,g1,g2,aI.weaken hk d g3⟩
structure Bes (r:Nat) (w w':World):Prop where
 os:w'.os=w.os
 tape:w'.tape=w.tape
 output:w'.output=w.output
 size:w.heap.size<=w'.heap.size
 block:∀k,k<w.heap.size->k≠r->w'.heap[k]?=w.heap[k]?
theorem Bes.refl(r:Nat)(w:World):Bes r w w:=⟨rfl,rfl,rfl,bGB _,fun _ _ _=>rfl⟩
theorem Bes.trans{r:Nat}{a b c:World}(h:Bes r a b)(k:Bes r b c):Bes r a c :=
 ⟨k.os.trans h.os,k.tape.trans h.tape,k.output.trans h.output,bGC h.size k.size,fun i hi hr=>(k.block i (bGA hi h.size) hr).trans (h.block i hi hr)⟩
theorem Bes.of_below{r:Nat}{w w':World}(h:Below w.heap.size w w'):Bes r w w':=⟨h.os,h.tape,h.output,h.size,fun k hk _=>h.block k hk⟩
theorem Bes.below{r:Nat}{a w w':World}(h:Bes r a w)(hb:Below w.heap.size w w'):Bes r a w':=h.trans (.of_below hb)
theorem Bes.belowB{r B:Nat}{a w w':World}(h:Bes r a w)(hb:Below B w w')(hB:a.heap.size<=B):Bes r a w' :=
 ⟨hb.os.trans h.os,hb.tape.trans h.tape,hb.output.trans h.output,bGC h.size hb.size,fun i hi hr=>(hb.block i oM).trans (h.block i hi hr)⟩
theorem Bes.setCell{r:Nat}{a w:World}(h:Bes r a w)(o:Nat)(v:Value):Bes r a (w.setCell ⟨r,o,none⟩ v) :=
 ⟨h.os,h.tape,h.output,q19,fun k hk hr=>(bGK _ _ _ _ (by simpa using hr)).trans (h.block k hk hr)⟩
theorem Bes.setCell_new{r:Nat}{a w:World}(h:Bes r a w){p:Addr}(hp:a.heap.size<=p.block)(v:Value):Bes r a (w.setCell p v) :=
 ⟨h.os,h.tape,h.output,q19,fun k hk hr=>(bGK _ _ _ _ oM).trans (h.block k hk hr)⟩
theorem Bes.alloc{r:Nat}{a w:World}(h:Bes r a w)(o:Go.Obj):Bes r a (w.alloc o) :=
 ⟨h.os,h.tape,h.output,by simp;have:=h.size;omega,fun k hk hr=>(bGM _ _ _ (bGA hk h.size)).trans (h.block k hk hr)⟩
theorem Bes.drew{r:Nat}{a w:World}(h:Bes r a w):Bes r a w.drew:=⟨h.os,h.tape,h.output,h.size,h.block⟩
theorem Bes.drewN{r:Nat}{a w:World}(h:Bes r a w)(n:Nat):Bes r a (w.drewN n):=⟨h.os,h.tape,h.output,h.size,h.block⟩
def aU(w:World)(r:Nat)(s:ByteArray)(a:Nat):Prop:=w.heap[r]?=some (.cells #[.string s,.int .i64 a] 150 (0,0))
theorem aU.lt{w:World}{r:Nat}{s:ByteArray}{a:Nat}(h:aU w r s a):r<w.heap.size:=bGJ h
theorem aU.cell0{w:World}{r:Nat}{s:ByteArray}{a:Nat}(h:aU w r s a):w.cell? ⟨r,0,none⟩=some (.string s):=by
 unfold aU at h;simp[World.cell?,h]
theorem aU.cell1{w:World}{r:Nat}{s:ByteArray}{a:Nat}(h:aU w r s a):w.cell? ⟨r,1,none⟩=some (.int .i64 a):=by
 unfold aU at h;simp[World.cell?,h]
theorem aU.frozen{w:World}{r:Nat}{s:ByteArray}{a:Nat}(h:aU w r s a)(o:Nat):w.frozen? ⟨r,o,none⟩=false:=by
 unfold aU at h;simp[World.frozen?,h]
theorem aU.below{w w':World}{r:Nat}{s:ByteArray}{a:Nat}(h:aU w r s a)(hb:Below w.heap.size w w'):aU w' r s a:=by
 unfold aU at *;rw[hb.block r (bGJ h)];exact h
theorem aU.belowB{B:Nat}{w w':World}{r:Nat}{s:ByteArray}{a:Nat}(h:aU w r s a)(hb:Below B w w')(hB:r<B):aU w' r s a:=by
 unfold aU at *;rw[hb.block r hB];exact h
theorem aU.set{w:World}{r:Nat}{s:ByteArray}{a b:Nat}(h:aU w r s a):aU (w.setCell ⟨r,1,none⟩ (.int .i64 b)) r s b:=by
 unfold aU at *
 have hlt:=bGJ h;have h':w.heap[r]=.cells #[.string s,.int .i64 a] 150 (0,0):=q20;exact q399
theorem aA(w:World)(o:Go.Obj)(b:Nat)(h:b=w.heap.size):(w.alloc o).heap[b]?=some o:=by subst h;exact bGP w o
theorem aD{w:World}{b:Nat}{t:TypeId}{v0 v1 v2 v3 v4 v5:Value}(h:w.heap[b]?=some (.cells #[v0,v1,v2,v3,v4,v5] t (0,0))) :
 w.cell? ⟨b,0,none⟩=some v0/\w.cell? ⟨b,1,none⟩=some v1/\w.cell? ⟨b,2,none⟩=some v2/\w.cell? ⟨b,3,none⟩=some v3/\w.cell? ⟨b,4,none⟩=some v4/\w.cell? ⟨b,5,none⟩=some v5/\∀o,w.frozen? ⟨b,o,none⟩=false:=by
 exact q374
theorem cY{w:World}{B sz n:Nat}{e:TypeId}{v:Value}{xs:List Value}(h:w.ownsRow B e sz v n xs):∃p c,v=.slice p n c:=by
 rcases h.2 with⟨h1,h2⟩|⟨g,cap,cur,h1,_⟩
 ·exact⟨none,0,by rw[h1,h2]⟩
 ·exact⟨_,_,h1⟩
theorem aI.shape{S:Nat->Prop}{d:Nat}{w:World}{cs:List Value}{o:Ob}(h:aI S d w cs o):∃p1 n1 c1 p2 n2 c2,cs=aB o.kind o.n o.g o.s (.slice p1 n1 c1) (.slice p2 n2 c2):=by
 exact q352
theorem Tryz.infoOb:(prog.info? 31).map (fun i=>(i.zero,i.size,i.bytes))=some (some (.agg #[.int .i64 0,.int .i64 0,.int .i64 0,.string ⟨#[]⟩,.slice none 0 0,.slice none 0 0]),6,88):=kR
theorem aI.grow{S S':Nat->Prop}{w w':World}{d:Nat}{cs:List Value}{o:Ob}(h:aI S d w cs o)
 (hk:∀b,S b->b<w.heap.size->S' b/\w'.heap[b]?=w.heap[b]?):aI S' d w' cs o :=
 (aI.kept (S:=fun b=>S' b/\w'.heap[b]?=w.heap[b]?) (fun b hb=>hb.2) d (h.weaken (fun b h1 h2=>hk b h1 h2) d)).weaken (fun b h _=>h.1) d
def bJ(S:Nat->Prop)(d:Nat)(w:World)(css:List (List Value))(acc:List Ob):Prop :=
 css.length=acc.length/\∀(i:Nat) (cs:List Value) (o:Ob),css[i]?=some cs->acc[i]?=some o->cs.length=6/\aI S d w cs o
theorem bJ.nil{S:Nat->Prop}{d:Nat}{w:World}:bJ S d w [] []:=⟨rfl,fun i cs o h=>q21⟩
theorem bJ.grow{S S':Nat->Prop}{w w':World}{d:Nat}{css:List (List Value)}{acc:List Ob}(h:bJ S d w css acc)
 (hk:∀b,S b->b<w.heap.size->S' b/\w'.heap[b]?=w.heap[b]?):bJ S' d w' css acc :=
 ⟨h.1,fun i cs o h1 h2=>⟨(h.2 i cs o h1 h2).1,(h.2 i cs o h1 h2).2.grow hk⟩⟩
theorem bJ.push{S:Nat->Prop}{w:World}{d:Nat}{css:List (List Value)}{acc:List Ob}{cs:List Value}{o:Ob}(h:bJ S d w css acc)
 (hl:cs.length=6) (ho:aI S d w cs o):bJ S d w (css++[cs]) (acc++[o]):=by
 refine⟨by simp[h.1],fun i c x h1 h2=>?_⟩;by_cases hi:i<css.length
 ·rw[List.getElem?_append_left hi] at h1;rw[List.getElem?_append_left (by rw[<-h.1];exact hi)] at h2;exact h.2 i c x h1 h2
 ·rw[List.getElem?_append_right oM] at h1;rw[List.getElem?_append_right (by rw[<-h.1];omega)] at h2;have h0:i-css.length=0:=by
   have:=(List.getElem?_eq_some_iff.1 h1).1;simp at this;omega
  rw[h0] at h1;rw[<-h.1,h0] at h2;simp at h1 h2;subst h1;subst h2;exact⟨hl,ho⟩
theorem aTL{css:List (List Value)}(h:∀cs∈css,cs.length=6):css.flatten.length=6*css.length:=by
 induction css with
 |nil=>rfl
 |cons c css ih =>
  rw[List.flatten_cons,bGR,h c sI,ih (fun x hx=>h x (by simp[hx])),bHA];omega
theorem oG{css:List (List Value)}(h:∀cs∈css,cs.length=6){i j:Nat}{cs:List Value}(hi:css[i]?=some cs)(hj:j<6):css.flatten[6*i+j]?=cs[j]?:=by
 induction css generalizing i with
 |nil=>simp at hi
 |cons c css ih =>
  rw[List.flatten_cons];have hc:c.length=6:=h c sI;cases i with
  |zero =>
   simp at hi;subst hi;rw[List.getElem?_append_left oM];simp
  |succ i =>
   simp at hi;rw[List.getElem?_append_right oM,hc,show 6*(i+1)+j-6=6*i+j from oM];exact ih (fun x hx=>h x (by simp[hx])) hi
theorem bJ.six{S:Nat->Prop}{w:World}{d:Nat}{css:List (List Value)}{acc:List Ob}(h:bJ S d w css acc):∀cs∈css,cs.length=6:=by
 intro cs hcs;obtain⟨i,hi,rfl⟩:=List.mem_iff_getElem.1 hcs;have hi2:i<acc.length:=by rw[<-h.1];exact hi
 exact(h.2 i _ acc[i] (bGE hi) (bGE hi2)).1
theorem uM{S S':Nat->Prop}{w:World}{B d:Nat}{v:Value}{css:List (List Value)}{acc:List Ob}(h:w.ownsRow B 31 6 v acc.length css.flatten)(hk:bJ S d w css acc)
 (hS:∀b,S b->S' b) (hB:∀b,B<=b->S' b) :
 (acc=[]/\∃p c,v=.slice p 0 c)\/∃b off c,v=.slice (some ⟨b,off,none⟩) acc.length c/\S' b /\
  ∀i (h:i<acc.length),∃ks:List Value,ks.length=6/\(∀j (hj:j<ks.length),w.cell? ⟨b,off+6*i+j,none⟩=some ks[j])/\aI S' d w ks acc[i]:=by
 rcases h.2 with⟨h1,h2⟩|⟨g,cap,cur,h1,h2,h3⟩
 ·exact q551
 ·refine .inr ⟨g,0,cap,h1,hB g h2,fun i hi=>?_⟩;have hi':i<css.length:=by rw[hk.1];exact hi
  have hks:=hk.2 i css[i] acc[i] (bGE hi') (bGE hi);refine⟨css[i],hks.1,fun j hj=>?_,hks.2.weaken (fun b hb _=>hS b hb) d⟩;have hlen:6*i+j<acc.length*6:=by have:=hks.1;omega
  have hcell:=World.ownsRow.cellAt (g:=g) (cap:=cap) (by rw[<-h1];exact h) (6*i+j) hlen;rw[show 0+6*i+j=6*i+j from oM,hcell,oG hk.six (bGE hi') (by have:=hks.1;omega)];exact bGE hj
theorem qB(o:Ob)(p1:Option Addr)(n1 c1:Nat)(p2:Option Addr)(n2 c2:Nat):∀u∈aB o.kind o.n o.g o.s (.slice p1 n1 c1) (.slice p2 n2 c2),u.oneCell'=true:=by
 exact q519
theorem eF{a w:World}{b:Nat}(h:a.grownBy w (some b))(o:Nat)(v:Value):a.grownBy (w.setCell ⟨b,o,none⟩ v) (some b) :=
 ⟨h.os,h.tape,h.output,q19,fun k h1 h2=>(bGK _ _ _ _ (fun hk=>h2 (by rw[hk]))).trans (h.block k h1 h2)⟩
theorem bA(w:World)(b o0 o1 o2 o3 o4 o5:Nat)(v0 v1 v2 v3 v4 v5:Value) :
 w.grownBy ((((((w.setCell ⟨b,o0,none⟩ v0).setCell ⟨b,o1,none⟩ v1).setCell ⟨b,o2,none⟩ v2).setCell ⟨b,o3,none⟩ v3).setCell ⟨b,o4,none⟩ v4).setCell ⟨b,o5,none⟩ v5) (some b) :=
 eF (eF (eF (eF (eF (eF ⟨rfl,rfl,rfl,bGB _,fun _ _ _=>rfl⟩ _ _) _ _) _ _) _ _) _ _) _ _
theorem aTM{css:List (List Value)}{i:Nat}{u0 u1 u2 u3 u4 u5:Value}(h:∀cs∈css,cs.length=6)(hi:i<css.length) :
 ((((((css.flatten.set (6*i) u0).set (6*i+1) u1).set (6*i+2) u2).set (6*i+3) u3).set (6*i+4) u4).set (6*i+5) u5)=(css.set i [u0,u1,u2,u3,u4,u5]).flatten:=by
 induction css generalizing i with
 |nil=>simp at hi
 |cons c css ih =>
  have hc:c.length=6:=h c sI;cases i with
  |zero =>
   obtain⟨a0,a1,a2,a3,a4,a5,rfl⟩:∃a0 a1 a2 a3 a4 a5,c=[a0,a1,a2,a3,a4,a5]:=by
    match c,hc with
    |[a0,a1,a2,a3,a4,a5],_=>exact⟨_,_,_,_,_,_,rfl⟩
   simp
  |succ i =>
   have:=ih (i:=i) (fun x hx=>h x (by simp[hx])) q22;rw[List.set_cons_succ,List.flatten_cons,List.flatten_cons,<-this];have key:∀(l:List Value) (j:Nat) (u:Value),(c++l).set (6*(i+1)+j) u=c++l.set (6*i+j) u:=fun l j u=>by
    rw[List.set_append_right _ _ oM,hc,show 6*(i+1)+j-6=6*i+j from oM]
   have key0:∀(l:List Value) (u:Value),(c++l).set (6*(i+1)) u=c++l.set (6*i) u:=fun l u=>key l 0 u
   rw[key0,key,key,key,key,key]
theorem aNR{css:List (List Value)}{i:Nat}{u0 u1 u2 u3 u4 u5:Value}(h:∀cs∈css,cs.length=6)(hi:i<css.length) :
 ((((((css.flatten.set (i*6) u0).set (i*6+1) u1).set (i*6+2) u2).set (i*6+3) u3).set (i*6+4) u4).set (i*6+5) u5)=(css.set i [u0,u1,u2,u3,u4,u5]).flatten:=by
 have:=aTM (u0:=u0) (u1:=u1) (u2:=u2) (u3:=u3) (u4:=u4) (u5:=u5) h hi;rw[bHL 6 i] at this;exact this
theorem cL{w:World}{b:Nat}{t:TypeId}{a0 a1 a2 a3 a4 a5 v0 v1 v2 v3 v4 v5:Value}(h:w.heap[b]?=some (.cells #[a0,a1,a2,a3,a4,a5] t (0,0))) :
 ((((((w.setCell ⟨b,0,none⟩ v0).setCell ⟨b,1,none⟩ v1).setCell ⟨b,2,none⟩ v2).setCell ⟨b,3,none⟩ v3).setCell ⟨b,4,none⟩ v4).setCell ⟨b,5,none⟩ v5).heap[b]?=some (.cells #[v0,v1,v2,v3,v4,v5] t (0,0)):=by
 have hlt:=bGJ h;have h':w.heap[b]=.cells #[a0,a1,a2,a3,a4,a5] t (0,0):=q20;exact q399
theorem sA{w:World}{b:Nat}{t:TypeId}{v0 v1 v2 v3 v4 v5 v:Value}(h:w.heap[b]?=some (.cells #[v0,v1,v2,v3,v4,v5] t (0,0))) :
 (w.setCell ⟨b,5,none⟩ v).heap[b]?=some (.cells #[v0,v1,v2,v3,v4,v] t (0,0)):=by
 exact q589
theorem vC{w:World}{b:Nat}{t:TypeId}{v0 v1 v2 v3 v4 v5 v:Value}(h:w.heap[b]?=some (.cells #[v0,v1,v2,v3,v4,v5] t (0,0))) :
 (w.setCell ⟨b,4,none⟩ v).heap[b]?=some (.cells #[v0,v1,v2,v3,v,v5] t (0,0)):=by
 exact q589
theorem aC{w:World}{b o:Nat}{t:TypeId}{cur:Array Value}{v:Value}(h:w.heap[b]?=some (.cells cur t (0,0))) :
 (w.setCell ⟨b,o,none⟩ v).heap[b]?=some (.cells (cur.setIfInBounds o v) t (0,0)):=by
 exact q443
theorem cM{α:Type}{E:Enc α}{t:TypeId}{w:World}{B:Nat}{v:Value}{xs:List α}(h:aG E t w B v xs):∀k,v.ownBlock=some k->k<w.heap.size:=by
 intro k hk;unfold aG at h;rcases h.2 with⟨rfl,_⟩|⟨g,cap,cur,rfl,h2,h3,_⟩
 ·simp[Value.ownBlock] at hk
 ·simp[Value.ownBlock] at hk;subst hk;exact bGJ (by first|exact h3|exact h3.1)
theorem fB{α:Type}{E:Enc α}{t:TypeId}{w w':World}{B:Nat}{v:Value}{xs:List α}(h:aG E t w B v xs)(hk:∀k,v.ownBlock=some k->w'.heap[k]?=w.heap[k]?):aG E t w' B v xs:=by
 refine⟨h.1,?_⟩;rcases h.2 with h0|⟨g,cap,cur,rfl,h2,h3,h4⟩
 ·exact .inl h0
 ·exact .inr ⟨g,cap,cur,rfl,h2,(hk g rfl).trans h3,h4⟩
structure eS (X:Nat) (w w':World):Prop where
 os:w'.os=w.os
 tape:w'.tape=w.tape
 output:w'.output=w.output
 size:w'.heap.size=w.heap.size
 block:∀k,k≠X->w'.heap[k]?=w.heap[k]?
theorem eS.refl(X:Nat)(w:World):eS X w w:=⟨rfl,rfl,rfl,rfl,fun _ _=>rfl⟩
theorem eS.set{X:Nat}{w w':World}(h:eS X w w')(o:Nat)(v:Value):eS X w (w'.setCell ⟨X,o,none⟩ v) :=
 ⟨h.os,h.tape,h.output,by rw[<-h.size];simp[World.setCell],fun k hk=>(bGK _ _ _ _ hk).trans (h.block k hk)⟩
end Go.Proofs.YtdjpkgccakgkbaaGreatDoor
