/- Parts of the proof: Ch ChP ShelfE ChQ ChV TdC Same ChS ChM. -/
import Derived.Test.YtdjpkgccakgkbaaGreatDoorPee
import Derived.Test.YtdjpkgccakgkbaaGreatDoorPea
import Derived.Shelf.SlSortCmp.WholeK
import Derived.Shelf.SlSortCmp.NoneTotal
import Derived.Test.YtdjpkgccakgkbaaGreatDoorPef
import Derived.Test.YtdjpkgccakgkbaaGreatDoorPeh
import Derived.Lib.SlKeysI
import Derived.Sort.MapsRangeIn
import Derived.RangeFuncMany
import Derived.Test.YtdjpkgccakgkbaaGreatDoorPed
import Derived.BigQuiet
import Derived.Deep.QuietTactic
import Derived.Deep.RegionHeld3
set_option linter.all false
set_option maxRecDepth 100000
set_option maxHeartbeats 8000000
section
variable{p:Prop}
theorem q119(h:p:=by obtain⟨x,hx,_⟩:=Maps.keyOf_i64 underlying3 hk;exact⟨x,hx⟩):p:=h
theorem q120(h:p:=by obtain⟨x,rfl,_⟩:=yL hv;exact⟨x,rfl⟩):p:=h
theorem q121(h:p:=by simp[aB]):p:=h
theorem q122(h:p:=by rw[alloc_eq_grow,alloc_eq_grow,grow_grow];rfl):p:=h
theorem q343(h:p:=by
 have hh:=has_true_of_atKey hat;rw[HD.out.1.has x] at hh;obtain⟨z,hz2⟩:=Option.isSome_iff_exists.1 hh;have h1:=HD.out.1.at' x z hz2 (slD z);rw[hat,hz] at h1;obtain rfl:=aMA h1;exact yO hz2):p:=h
theorem q404(h:p:=by
 have h:=lS c;rw[hv] at h;exact congrArg (fun z:DataW Unit×List MemPlace=>z.1) (Option.some.inj h)):p:=h
theorem q470(h:p:=by
 by_cases hx:x.num=n
 ·rw[bGV hx,bGV hx];cases bR n acc<;>rfl
 ·rw[bGU hx,bGU hx];cases bR n acc<;>rfl):p:=h
theorem q525(h:p:=by
 go_wp2;go_ret
 exact⟨rfl,0,_,q122⟩):p:=h
end
namespace Fo
def bR(n:Int)(l:List Sl):Option Sl:=l.find? fun x=>x.num==n
def sE:List Sl->Sl->List Sl
 |[],x=>[x]
 |y::l,x=>if y.num<x.num then y::sE l x else if y.num=x.num then y::l else x::y::l
def pN(l:List Sl):List Sl:=l.foldl sE []
def upS(l:List Sl):Prop:=l.Pairwise fun a b=>a.num<b.num
theorem aVM{l:List Sl}{x y:Sl}(h:y∈sE l x):y∈l\/y=x:=by
 induction l with
 |nil=>simpa[sE] using h
 |cons z l ih =>
  unfold sE at h;split at h
  ·rcases List.mem_cons.1 h with rfl|h
   ·exact .inl sI
   ·rcases ih h with h|h
    ·exact .inl (by simp[h])
    ·exact .inr h
  ·split at h
   ·exact .inl h
   ·rcases List.mem_cons.1 h with rfl|h
    ·exact .inr rfl
    ·exact .inl h
theorem bAU{l:List Sl}{x:Sl}(h:upS l):upS (sE l x):=by
 induction l with
 |nil=>exact List.pairwise_singleton _ _
 |cons y l ih =>
  obtain⟨h1,h2⟩:=List.pairwise_cons.1 h;unfold sE;split
  ·rename_i hy
   refine List.pairwise_cons.2 ⟨fun z hz=>?_,ih h2⟩;rcases aVM hz with hz|rfl
   ·exact h1 z hz
   ·exact hy
  ·split
   ·exact h
   ·rename_i hy1 hy2
    refine List.pairwise_cons.2 ⟨fun z hz=>?_,h⟩;rcases List.mem_cons.1 hz with rfl|hz
    ·omega
    ·have:=h1 z hz;omega
theorem bH(n:Int)(x:Sl)(l:List Sl):bR n (x::l)=if x.num=n then some x else bR n l:=by
 unfold bR;rw[List.find?_cons];by_cases h:x.num=n
 ·simp[h]
 ·rw[show(x.num==n)=false by simpa using h,bGU h]
theorem iO{n:Int}{l:List Sl}(h:∀x∈l,n<x.num):bR n l=none:=by
 unfold bR;rw[List.find?_eq_none];exact q537
theorem aVN{l:List Sl}(h:upS l)(x:Sl)(n:Int):bR n (sE l x)=(bR n l).or (if x.num=n then some x else none):=by
 induction l with
 |nil=>rw[sE,bH];rfl
 |cons y l ih =>
  obtain⟨h1,h2⟩:=List.pairwise_cons.1 h;unfold sE;split
  ·rw[bH,bH,ih h2];split<;>rfl
  ·split
   ·rename_i hy1 hy2
    rw[bH];by_cases hn:y.num=n
    ·rw[bGV hn];rfl
    ·rw[bGU hn,bGU oM];simp
   ·rename_i hy1 hy2
    rw[bH,bH];by_cases hx:x.num=n
    ·rw[bGV hx,bGV hx,bGU oM,iO (fun z hz=>by have:=h1 z hz;omega)];rfl
    ·rw[bGU hx,bGU hx,Option.or_none]
theorem yN(l:List Sl):upS (pN l)/\∀n,bR n (pN l)=bR n l:=by
 have key:∀(l acc:List Sl),upS acc->upS (l.foldl sE acc)/\∀n,bR n (l.foldl sE acc)=(bR n acc).or (bR n l):=by
  intro l;induction l with
  |nil=>intro acc h;exact⟨h,fun n=>by simp[bR]⟩
  |cons x l ih =>
   intro acc h;obtain⟨g1,g2⟩:=ih (sE acc x) (bAU h);refine⟨g1,fun n=>?_⟩;rw[List.foldl_cons,g2,aVN h,bH];exact q470
 obtain⟨h1,h2⟩:=key l [] .nil;exact⟨h1,fun n=>by unfold pN;rw[h2];rfl⟩
theorem aAO:∀{a b:List Sl},upS a->upS b->(∀n,bR n a=bR n b)->a=b
 |[],[],_,_,_=>rfl
 |[],y::b,_,_,h=>by have:=h y.num;rw[bH,bGV rfl] at this;cases this
 |x::a,[],_,_,h=>by have:=h x.num;rw[bH,bGV rfl] at this;cases this
 |x::a,y::b,ha,hb,h=>by
  obtain⟨a1,a2⟩:=List.pairwise_cons.1 ha;obtain⟨b1,b2⟩:=List.pairwise_cons.1 hb;have hxy:x=y:=by
   have e1:=h x.num;have e2:=h y.num;rw[bH,bGV rfl,bH] at e1;rw[bH,bH,bGV rfl] at e2;by_cases hn:y.num=x.num
   ·rw[bGV hn] at e1;cases e1;rfl
   ·rw[bGU hn] at e1;rw[bGU (fun e=>hn e.symm)] at e2;have m1:=List.mem_of_find?_eq_some e1.symm;have m2:=List.mem_of_find?_eq_some e2;have:=b1 x m1;have:=a1 y m2;omega
  subst hxy;congr 1
  refine aAO a2 b2 fun n=>?_
  have e:=h n;rw[bH,bH] at e;by_cases hn:x.num=n
  ·rw[iO (fun z hz=>by have:=a1 z hz;omega),iO (fun z hz=>by have:=b1 z hz;omega)]
  ·rw[bGU hn,bGU hn] at e;exact e
theorem aDX(n:Int)(a b:List Sl):bR n (a++b)=(bR n a).or (bR n b):=by unfold bR;rw[List.find?_append]
structure Sec where
 at':Int
 slots:List Sl
 trail:Ob
 prev:Int
 hyb:Int
 own:Int
instance instInhabitedSl:Inhabited Sl:=⟨⟨0,0,0,0⟩⟩
def nE(l:List Sec):List Sl:=l.flatMap (·.slots)
def jY(ps:List Sl)(x:Sl):List Sl:=if(bR x.num ps).isSome then ps else ps++[x]
def dK(l:List Sl):List Sl:=l.foldl jY []
def pO(ps:List Sl):Prop:=ps.Pairwise fun a b=>a.num≠b.num
theorem yO{n:Int}{l:List Sl}{x:Sl}(h:bR n l=some x):x∈l/\x.num=n:=by
 unfold bR at h;exact⟨List.mem_of_find?_eq_some h,by simpa using List.find?_some h⟩
theorem sF{n:Int}{l:List Sl}:bR n l=none↔∀x∈l,x.num≠n:=by
 unfold bR;rw[List.find?_eq_none];simp
theorem aVO(ps:List Sl)(x:Sl)(n:Int):bR n (jY ps x)=(bR n ps).or (if x.num=n then some x else none):=by
 unfold jY;by_cases h:(bR x.num ps).isSome=true
 ·rw[bGV h];by_cases hn:x.num=n
  ·subst hn;obtain⟨y,hy⟩:=Option.isSome_iff_exists.1 h;rw[hy];rfl
  ·rw[bGU hn,Option.or_none]
 ·rw[bGU h,aDX,bH];rfl
theorem aVP{ps:List Sl}(h:pO ps)(x:Sl):pO (jY ps x):=by
 unfold jY;by_cases hx:(bR x.num ps).isSome=true
 ·rw[bGV hx];exact h
 ·rw[bGU hx];refine List.pairwise_append.2 ⟨h,List.pairwise_singleton _ _,fun a ha b hb=>?_⟩;simp only[List.mem_singleton] at hb;subst hb;have:bR b.num ps=none:=by simpa using hx
  exact sF.1 this a ha
theorem aDY:∀(l acc:List Sl),pO acc->pO (l.foldl jY acc)/\∀n,bR n (l.foldl jY acc)=(bR n acc).or (bR n l)
 |[],acc,h=>⟨h,fun n=>by simp[bR]⟩
 |x::l,acc,h=>by
  obtain⟨g1,g2⟩:=aDY l (jY acc x) (aVP h x);refine⟨g1,fun n=>?_⟩;rw[List.foldl_cons,g2,aVO,bH];exact q470
theorem vP(l:List Sl):pO (dK l)/\∀n,bR n (dK l)=bR n l:=by
 obtain⟨h1,h2⟩:=aDY l [] .nil;exact⟨h1,fun n=>by unfold dK;rw[h2];rfl⟩
theorem aVQ(ps:List Sl)(x:Sl):(jY ps x).length<=ps.length+1:=by
 unfold jY;split
 ·omega
 ·simp
theorem yP:∀(l acc:List Sl),(l.foldl jY acc).length<=acc.length+l.length
 |[],acc=>bGB _
 |x::l,acc=>by
  have h1:=yP l (jY acc x);have h2:=aVQ acc x;simp only[List.foldl_cons,bHA];omega
theorem aDZ(l:List Sl):(dK l).length<=l.length:=by have:=yP l [];simpa[dK] using this
theorem aAP{ps:List Sl}(h:pO ps){x:Sl}(hx:x∈ps):bR x.num ps=some x:=by
 induction ps with
 |nil=>cases hx
 |cons y l ih =>
  obtain⟨h1,h2⟩:=List.pairwise_cons.1 h;rw[bH];rcases List.mem_cons.1 hx with rfl|hx
  ·rw[bGV rfl]
  ·rw[bGU (h1 x hx)];exact ih h2 hx
theorem vQ{ps qs:List Sl}(h:pO ps)(hp:ps.Perm qs):pO qs:=hp.pairwise h (fun h=>fun e=>h e.symm)
theorem vR{ps qs:List Sl}(h:pO ps)(hp:ps.Perm qs)(n:Int):bR n qs=bR n ps:=by
 cases e:bR n ps with
 |none =>
  rw[sF] at e ⊢;exact fun x hx=>e x (hp.mem_iff.2 hx)
 |some x =>
  obtain⟨h1,rfl⟩:=yO e;exact aAP (vQ h hp) (hp.mem_iff.1 h1)
theorem aAQ{l d:List Sl}(hp:d.Perm (dK l))(hs:d.Pairwise fun a b=>¬b.num<a.num):d=pN l:=by
 obtain⟨f1,f2⟩:=vP l;have hd:=vQ f1 hp.symm;have hup:upS d:=(hs.and hd).imp fun {a b} h=>by have:=h.1;have:=h.2;omega
 refine aAO hup (yN l).1 fun n=>?_
 rw[vR f1 hp.symm,f2,(yN l).2]
/-! ### As the document does it -/
/-! ### Sections of a list -/
end Fo
namespace Go.Proofs
open Go.Proofs.Tryz
open Go.Shelf
def Tryz.sortSl_ren:Go.Shelf.Ren:=⟨fun|6=>42|15=>76|14=>75|28=>113|29=>114|20=>105|21=>106|22=>107|23=>108|24=>109|25=>110|26=>111|27=>112|46=>155|47=>156|48=>157|49=>158|50=>159|57=>208|n=>n,fun|22=>27|24=>39|25=>61|3=>3|39=>132|0=>0|53=>184|55=>186|4=>4|46=>177|45=>176|50=>181|5=>5|9=>9|66=>224|70=>228|76=>268|77=>77|n=>n,fun|n=>n⟩
theorem Tryz.sortSl:Go.Proofs.SlLaysF0.n6 prog Tryz.sortSl_ren:={
 mixed:=kR
 f6:=⟨Tryz.f42.name,dC,func42.trans (congrArg some kR)⟩
 f14:=⟨Tryz.f75.name,dC,func75.trans (congrArg some kR)⟩
 f15:=func76.trans (congrArg some kR)
 f20:=⟨Tryz.f105.name,dC,func105.trans (congrArg some kR)⟩
 f21:=⟨Tryz.f106.name,dC,func106.trans (congrArg some kR)⟩
 f22:=⟨Tryz.f107.name,dC,func107.trans (congrArg some kR)⟩
 f23:=⟨Tryz.f108.name,dC,func108.trans (congrArg some kR)⟩
 f24:=⟨Tryz.f109.name,dC,func109.trans (congrArg some kR)⟩
 f25:=⟨Tryz.f110.name,dC,func110.trans (congrArg some kR)⟩
 f26:=⟨Tryz.f111.name,dC,func111.trans (congrArg some kR)⟩
 f27:=⟨Tryz.f112.name,dC,func112.trans (congrArg some kR)⟩
 f28:=func113.trans (congrArg some kR)
 f29:=func114.trans (congrArg some kR)
 f46:=⟨Tryz.f155.name,dC,func155.trans (congrArg some kR)⟩
 f47:=func156.trans (congrArg some kR)
 f48:=func157.trans (congrArg some kR)
 f49:=⟨Tryz.f158.name,dC,func158.trans (congrArg some kR)⟩
 f50:=⟨Tryz.f159.name,dC,func159.trans (congrArg some kR)⟩
 f57:=⟨Tryz.f208.name,dC,func208.trans (congrArg some kR)⟩
 t0:=underlying0
 a0:=isAgg0
 z0:=sizeOf0
 v0:=zeroValue0
 t3:=underlying3
 a3:=isAgg3
 z3:=sizeOf3
 v3:=zeroValue3
 t4:=underlying4
 a4:=isAgg4
 z4:=sizeOf4
 v4:=zeroValue4
 t5:=underlying5
 a5:=isAgg5
 z5:=sizeOf5
 v5:=zeroValue5
 t9:=underlying9
 a9:=isAgg9
 z9:=sizeOf9
 v9:=zeroValue9
 t22:=underlying27
 a22:=isAgg27
 z22:=sizeOf27
 v22:=zeroValue27
 t25:=underlying61
 a25:=isAgg61
 z25:=sizeOf61
 v25:=zeroValue61
 t39:=underlying132
 a39:=isAgg132
 z39:=sizeOf132
 v39:=zeroValue132
 t45:=underlying176
 a45:=isAgg176
 z45:=sizeOf176
 v45:=zeroValue176
 t46:=underlying177
 a46:=isAgg177
 z46:=sizeOf177
 v46:=zeroValue177
 t50:=underlying181
 a50:=isAgg181
 z50:=sizeOf181
 v50:=zeroValue181
 t53:=underlying184
 a53:=isAgg184
 z53:=sizeOf184
 v53:=zeroValue184
 t55:=underlying186
 a55:=isAgg186
 z55:=sizeOf186
 v55:=zeroValue186
 t66:=underlying224
 a66:=isAgg224
 z66:=sizeOf224
 v66:=zeroValue224
 t70:=underlying228
 a70:=isAgg228
 z70:=sizeOf228
 v70:=zeroValue228
 t76:=underlying268
 a76:=isAgg268
 z76:=sizeOf268
 v76:=zeroValue268
 t77:=underlying77
 a77:=isAgg77
 z77:=sizeOf77
 v77:=zeroValue77 }
end Go.Proofs
namespace Go.Proofs.YtdjpkgccakgkbaaGreatDoor
open Go.Proofs.Tryz
open Go.RowKit Go.Shelf Go.Sort Fo
section
variable {α : Type} [Inhabited α] {E : Enc α} {t : TypeId} {w : World} {B g cap n : Nat} {os : Array Obj} {cur : Array Value} {xs ys : List α}
theorem aMB(E:Enc α)(xs:List α)(i:Nat)(hi:i<xs.length*E.k):(flatK E.cells E.k xs.toArray)[i]?=(E.row xs)[i]?/\((E.row xs)[i]?).isSome:=by
 have hk0:0<E.k:=by
  rcases Nat.eq_zero_or_pos E.k with h|h
  ·rw[h] at hi;omega
  ·exact h
 have hq:i/E.k<xs.length:=Nat.div_lt_of_lt_mul (by rw[bHL];exact hi);have hm:=Nat.mod_lt i hk0;have hr:=E.row_at xs (i/E.k) hq (i % E.k) hm;rw[bHL,Nat.div_add_mod] at hr;have hc:i % E.k<(E.cells xs[i/E.k]).length:=by rw[E.len];exact hm
 rw[hr];have hs:i<(flatK E.cells E.k xs.toArray).size:=q22;have g:=get_flatK E.cells E.k xs.toArray i q22;have hqa:i/E.k<xs.toArray.size:=by simpa using hq
 have e1:xs.toArray[i/E.k]! =xs[i/E.k]:=by rw[getElem!_pos xs.toArray (i/E.k) hqa];simp
 have e2:(E.cells xs[i/E.k])[i % E.k]! =(E.cells xs[i/E.k])[i % E.k]:=getElem!_pos (E.cells xs[i/E.k]) (i % E.k) hc;rw[e1,e2,getElem!_pos _ i hs] at g;rw[Array.getElem?_eq_getElem hs,g,bGE hc];exact⟨rfl,rfl⟩
theorem aPC(hb:w.heap[g]?=some (.cells cur t (0,0)))(ht:cur.toList.take (xs.length*E.k)=E.row xs):HoldsK E.cells E.k w g 0 xs.toArray:=by
 intro j hj;have hj':j<xs.length*E.k:=q14;obtain⟨h1,h2⟩:=aMB E xs j hj';refine⟨?_,by simp[World.frozen?,hb]⟩;have h3:cur[j]?=(E.row xs)[j]?:=by
  rw[<-ht,List.getElem?_take_of_lt hj',Array.getElem?_toList]
 simp only[World.cell?,hb,Nat.zero_add];simp only[Option.isSome_none,Bool.false_eq_true,if_false];rw[h3,<-h1];rw[getElem!_pos _ j hj,Array.getElem?_eq_getElem hj];rfl
theorem aAR(hb:w.heap[g]?=some (.cells cur t (0,0))):(sortWorldK E.cells E.k w g 0 n ys.toArray os).heap[g]?=some (.cells (putCells id 0 (flatK E.cells E.k ys.toArray) cur) t (0,0)):=by
 have hg:g<w.heap.size:=bGJ hb;unfold sortWorldK putRowK;rw[heap_grow_old _ _ (by simpa using hg)];simp[putRow,mapBlock,Sort.ahead,Array.getElem?_modify,hb,onCells]
theorem uD:w.grownBy (sortWorldK E.cells E.k w g 0 n ys.toArray os) (some g):=by
 unfold sortWorldK putRowK;refine⟨rfl,rfl,rfl,sI,fun k hk hne=>?_⟩;rw[heap_grow_old _ _ q93];have:g≠k:=fun e=>hne (by rw[e])
 simp[putRow,mapBlock,Sort.ahead,Array.getElem?_modify,this]
theorem aAS(hl:ys.length=xs.length)(hB:B<=g)(hb:w.heap[g]?=some (.cells cur t (0,0)))(h1:xs.length<=cap)(h2:cap<=maxLen)(h3:cur.size=cap*E.k) :
 aG E t (sortWorldK E.cells E.k w g 0 n ys.toArray os) B (.slice (some ⟨g,0,none⟩) xs.length cap) ys:=by
 refine⟨E.row_length ys,.inr ⟨g,cap,_,by rw[hl],hB,aAR hb,oM,h2,by simp[putCells,h3],?_⟩⟩;have hle:ys.length*E.k<=cur.size:=by rw[h3,hl];exact Nat.mul_le_mul_right _ h1
 refine List.ext_getElem? fun j=>?_
 by_cases hj:j<ys.length*E.k
 ·obtain⟨g1,g2⟩:=aMB E ys j hj;have hs:j<(flatK E.cells E.k ys.toArray).size:=q14;rw[List.getElem?_take_of_lt hj,Array.getElem?_toList,<-g1,Array.getElem?_eq_getElem hs];have hjc:j<cur.size:=oM;have h4:j<(putCells id 0 (flatK E.cells E.k ys.toArray) cur).size:=by simpa[putCells] using hjc
  rw[Array.getElem?_eq_getElem h4];congr 1
  simp only[putCells,Array.getElem_mapIdx];rw[bGV ⟨bGF _,by rw[Nat.zero_add];exact hs⟩,Nat.sub_zero,getElem!_pos _ j hs];rfl
 ·rw[List.getElem?_take_eq_none oM,bGZ (by rw[E.row_length];omega)]
theorem bAV{d':Array α}(h:PermIn 0 xs.toArray.size xs.toArray d'):d'.toList.Perm xs:=by
 obtain⟨h1,_,h3⟩:=h;have e1:d'.extract 0 xs.toArray.size=d':=by rw[<-h1,Array.extract_size]
 have e2:xs.toArray.extract 0 xs.toArray.size=xs.toArray:=Array.extract_size;rw[e1,e2] at h3;exact h3
theorem aPD{lt:α->α->Bool}{d':Array α}(hs:d'.size=xs.length)(h:SortedIn lt 0 xs.length d'):d'.toList.Pairwise fun a b=>lt b a=false:=by
 rw[List.pairwise_iff_getElem];intro i j hi hj hij;have hi':i<d'.size:=q22;have hj':j<d'.size:=q14;have:=h i j (bGF _) hij oM;rw[getElem!_pos d' j hj',getElem!_pos d' i hi'] at this;simpa using this
end
section
variable {α : Type} [Inhabited α]
theorem pP(E:Enc α)(hE:E.k=4)(cf:α->α->Int)(hO:SWO (ltOf cf))(g:Nat)(eg:∀args w,(callFunc g args).run prog w=.ok (.enter g args) w)
 (hcmp:∀x y W,Calls prog g #[.agg (E.cells x).toArray,.agg (E.cells y).toArray] W fun e w'=>e=.returned (.int .i64 (cf x y))/\∃q os',w'=grow (W.drewN q) os')
 (B:Nat) (v:Value) (xs:List α) (w:World) (h:aG E 39 w B v xs) (hlen:xs.length<=1000000000) (hB:B<=w.heap.size) :
 Calls prog 42 #[v,.func (.func g) #[] #[]] w fun e w'=>e=.returned (.tuple #[])/\∃ys,ys.Perm xs/\ys.Pairwise (fun a b=>ltOf cf b a=false)/\aG E 39 w' B v ys/\Below B w w'/\w.grownBy w' v.ownBlock:=by
 rcases h.2 with⟨rfl,h0⟩|⟨blk,cap,cur,rfl,h2,h3,h4,h5,h6,h7⟩
 ·have hx:xs=[]:=bHI h0;subst hx;have hc:=AnyF.slices_SortFunc_none (P:=prog) (ρ:=Tryz.sortSl_ren) Tryz.sortSl none 0 (.func (.func g) #[] #[]) w;refine(show Calls prog 42 _ _ _ from hc).mono ?_;rintro e w' ⟨rfl,rfl⟩;exact⟨rfl,[],.nil,.nil,bF _ _,bGL _ _,⟨rfl,rfl,rfl,bGB _,fun k hk _=>rfl⟩⟩
 ·have hc := AnyQ.slices_SortFunc (P := prog) (ρ := Tryz.sortSl_ren) Tryz.sortSl E.k isAgg39 (by rw[hE]; exact sizeOf39) E.cells E.len E.one cf hO g #[] blk 0 cap xs.toArray w eg
   (fun m os dk _ x y=>hcmp x y _) (aPC h3 h7) (bGJ h3) sO
  refine(show Calls prog 42 _ _ _ from hc).mono ?_;rintro e w' ⟨rfl,d',n,os,hp,hs,rfl⟩;have hsz:d'.size=xs.length:=by simpa using hp.1
  have hrow:=aAS (E:=E) (t:=39) (B:=B) (w:=w) (g:=blk) (cap:=cap) (n:=n) (os:=os) (cur:=cur) (xs:=xs) (ys:=d'.toList) (by simpa using hsz) h2 h3 h4 h5 h6;have hg:w.grownBy (sortWorldK E.cells E.k w blk 0 n d' os) (some blk):=by
   have:=uD (E:=E) (w:=w) (g:=blk) (n:=n) (os:=os) (ys:=d'.toList);simpa using this
  refine⟨rfl,d'.toList,bAV hp,aPD hsz (by simpa using hs),by simpa using hrow,(bGL B w).grown hg hB (fun k e=>by cases e;exact h2),hg⟩
end
open Go.RowKit Go.Shelf Go.Maps Go.Sort Fo
attribute [local go_sem] Oper.semAt_some
theorem Tryz.infoSlt:(prog.info? 39).map (fun i=>(i.zero,i.size,i.bytes))=some (some (slV ⟨0,0,0,0⟩),4,32):=kR
def aMC(x:Sl):Array Value:=#[.agg (slE.cells x).toArray]
theorem bFF(w:World)(o:Obj)(b:Nat)(h:b=w.heap.size):(w.alloc o).heap[b]?=some o:=by subst h;exact bGP w o
theorem aHY{ps:List Sl}(h:pO ps):ps.Nodup:=h.imp fun {a b} h e=>h (by rw[e])
theorem aEA{D:DataW Unit}{ps xs:List Sl}{left:Lit->Bool}(hD:aAM D ps)(hn:pO ps)(hC:CollectedI D left (xs.map (·.num)))(hx:∀x∈xs,x∈ps)(hl:∀kl,left kl=false):xs.Perm ps:=by
 have hnx:xs.Nodup:=by
  have h:=hC.1;rw[List.nodup_iff_pairwise_ne,List.pairwise_map] at h;exact h.imp fun {a b} h e=>h (by rw[e])
 refine(List.perm_ext_iff_of_nodup hnx (aHY hn)).2 fun x=>⟨hx x,fun hp=>?_⟩
 have hf:=aAP hn hp;have hh:=hD.has x.num;rw[show ps.find? (fun y=>y.num==x.num)=some x from hf] at hh;have hm:=(hC.2 x.num).2 ⟨hh,hl _⟩;obtain⟨y,hy,e⟩:=List.mem_map.1 hm;have hy2:=aAP hn (hx y hy);rw[e,hf] at hy2;cases hy2;exact hy
theorem vS(mb:Option Nat)(w:World) :
 Calls prog 16 #[.map mb] w fun e w'=>e=.returned (.func (.func 43) #[] #[.pointer (some ⟨w.heap.size,0,none⟩)]) /\
  w'=w.alloc (.cells #[.map mb] 56):=by
 have hmf:∀(fn:Fn) (first cap:Array Value) (w:World),(Instr.makeFunc fn first cap).run prog w=.ok (.func fn first cap) w:=fun _ _ _ _=>rfl
 go_enter func16,ntmps16
 go_wp2;exact q393
theorem aEB(Bm b nn:Nat)(D:DataW Unit)(ps:List Sl)(w0:World)(hBm:Bm<w0.heap.size)(hm:w0.cell? ⟨Bm,0,none⟩=some (.map (some b)))(hown:w0.ownsMap prog 3 jJ b nn D)(hD:aAM D ps)(hnod:pO ps) :
 SeqStopsK Fence.wide 5 prog 43 #[.pointer (some ⟨Bm,0,none⟩)] aMC KeepsWalks (fun xs=>xs.Perm ps) (fun _=>True) (Maps.size D) w0:=by
 intro l J Jx W hW hAJ hAJx hY hJ0;have hro:Fence.wide.round=none:=rfl;have hmW:=(hW.cell (p:=⟨Bm,0,none⟩) hBm).trans hm;have hown':W.ownsMap prog 3 jJ b nn D:=by
  have hbl:=hown.lt;obtain⟨es,clock,hb,Ft,hs,hD⟩:=hown;exact⟨es,clock,(hW.block b hbl).trans hb,Ft,hs,hD⟩
 have HD:=Lh (bGQ hD hnod);have HY:=Lh hY;clear hm hown hD hnod hW hY;refine callsIn_of_wp func43 rfl trivial ?_ hro;simp only[ntmps43,List.size_toArray,bHA,List.length_nil,Nat.reduceAdd,Nat.reduceSub,Array.replicate_succ,Array.replicate_zero,List.push_toArray,List.append_toArray,List.nil_append,List.cons_append];gi_wp2_with (first
  |(gi_at_range;refine wpListIn_range_own _ rfl _ 56 rfl 3 39 (int_keyed underlying3) underlying56 jJ b nn _ rfl hown' ?_;intro w1 hrg0 hg0 hs0)
  |gi_in)
 go_frame
 gi_loopw [4] (fun _ wr=>∃(left:Lit->Bool) (cnt:Nat) (xs:List Sl),wr.ranges prog 3 jJ b W.heap.size nn D left cnt/\xs.length+cnt<=Maps.size D/\CollectedI D left (xs.map (·.num))/\Hid (∀x∈xs,x∈ps)/\J xs wr)
  (fun _ wr=>wr.rangeLeft b W.heap.size)
 case atStart=>exact⟨_,_,[],hrg0,sI,CollectedI.start D,Lh sI,hAJ [] W w1 none hJ0 hg0 (fun r e=>by cases e)⟩
 case round =>
  obtain⟨left,cnt,xs,hrg,hcs,hC,hV,hJs⟩:=hrel;gi_wp2_with (first
   |(gi_at_next;refine wpListIn_next_ranges _ rfl _ rfl 3 (int_keyed underlying3) jJ encZ slV (fun key kl hk=>q119) (fun v y hv=>q120) b W.heap.size nn _ _ _ rfl hrg ?_ ?_)
   |gi_in)
  ·intro hc0 hl0;gi_wp2
   go_end0
   exact⟨⟨_,rfl⟩,.inl ⟨xs,aEA HD.out.1 HD.out.2 hC hV.out hl0,hJs⟩⟩
  ·intro x c kl yd yp w2 cnt2 hkey hlk hv hat hrg2 hlt hg2 hs2 hen;obtain⟨x',ex,rfl,_⟩:=Maps.keyOf_i64 underlying3 hkey;obtain rfl:x=x':=encZ_inj ex;have hz:yd=slD c:=by
    exact q404
   have hcp:c∈ps/\c.num=x:=by
    exact q343
   obtain⟨cn,ck,ca,cg⟩:=c;obtain⟨hcp,rfl⟩:=hcp;have hJ2:J xs w2:=hAJ xs wr w2 (some W.heap.size) hJs hg2 (fun r e=>by cases e;exact⟨bGB _,hrg.iter_walk⟩);have hJ3:J xs (w2.alloc (.cells #[.int .i64 cn,.int .i64 ck,.int .i64 ca,.int .i64 cg] 39)):=hAJ xs w2 _ none hJ2 ((show w2.grownBy (w2.alloc _) none from⟨rfl,rfl,rfl,sI,fun k hk _=>bGM _ _ _ hk⟩)) (fun r e=>by cases e);obtain⟨fn,tmps,assign,body,hy,hR⟩:=HY.out xs ⟨cn,ck,ca,cg⟩ _ hJ3 oM;dsimp only[aMC,slE] at hy;dsimp only[slV] at hen;have HV2:=Lh (show∀y∈xs++[(⟨cn,ck,ca,cg⟩:Sl)],y∈ps from fun y hy=>(List.mem_append.1 hy).elim (hV.out y) (fun e=>by simp at e;subst e;exact hcp));have HC2:=Lh (show CollectedI D (fun z=>left z&&!z.sameKey (.int .i64 cn)) ((xs++[(⟨cn,ck,ca,cg⟩:Sl)]).map (·.num)) by simpa using hC.step hlk hat);clear hs2 hv hz hkey ex hat hlk hcp;gi_wp2
   refine hR.mono ?_;rintro e W3 (⟨rfl,hJ4,hk3⟩|⟨rfl,hJx3⟩)
   ·gi_wp2
    have hrg3:=(hrg2.of_walks (KeepsWalks.alloc _ _)).of_walks hk3;go_roundw
    case rel=>exact⟨_,cnt2,_,hrg3,sO,HC2.out,HV2,hJ4⟩
    case measure=>rw[hrg3.left_eq,hrg.left_eq];exact hlt
   ·gi_wp2
    refine bGN (results_none rfl _ _ _) rfl ?_;exact⟨⟨_,rfl⟩,.inr ⟨_,trivial,hJx3⟩⟩
theorem mK{W:World}{base:Nat}{e:TypeId}{size:Nat}{v:Value}{k:Nat}{xs:List Value}(h:W.ownsRow base e size v k xs):∀(j:Nat) (o:Obj),v.ownBlock=some j->W.heap[j]?=some o->o.isWalk=false:=by
 intro j o hj ho;rcases h.2 with⟨rfl,_⟩|⟨g,cap,cur,rfl,_,hgb,_⟩
 ·simp[Value.ownBlock] at hj
 ·have:g=j:=by simpa[Value.ownBlock] using hj
  subst this;rw[hgb] at ho;cases ho;rfl
theorem aEC{A B:World}{row:Option Nat}{b:Nat}{c:Array Value}{t:TypeId}{fr:Nat×Nat}(h:A.heap[b]?=some (.cells c t fr))(hg:A.grownBy B row)(hrow:∀r,row=some r->∃o:Obj,A.heap[r]?=some o/\o.isCells=false):B.heap[b]?=some (.cells c t fr) :=
 (grownBy_keeps_cells hg hrow h rfl).trans h
theorem aPE(pre:List Sl)(x:Sl):slE.row (pre++[x])=slE.row pre++slE.cells x:=by rw[slE.row_append];simp[Enc.row]
theorem aAT(gf:Nat)(lb:Array Value)(eg:∀args w,(callFunc gf args).run prog w=.ok (.enter gf args) w)(ps:List Sl)(N:Nat)(hN:N<=100000000)(w:World)
 (hseq:SeqStopsK Fence.wide 5 prog gf lb aMC KeepsWalks (fun xs=>xs.Perm ps) (fun _=>True) N w) :
 CallsIn Fence.wide 6 prog 74 #[.slice none 0 0,.func (.func gf) #[] lb] w fun e w'=>∃v xs,e=.returned v/\xs.Perm ps/\aG slE 39 w' w.heap.size v xs/\Below w.heap.size w w':=by
 obtain⟨i0,hi,hz0,hz1,hz2⟩:=info_parts Tryz.infoSlt;have hro:Fence.wide.round=none:=rfl;obtain⟨sv,hsv⟩:=eX (Value.func (.func gf) #[] lb);have HSV:=Lh hsv;rw[hsv];clear hsv;refine callsIn_of_wp_marks func74 rfl trivial ?_ hro;simp only[ntmps74,List.size_toArray,bHA,List.length_nil,Nat.reduceAdd,Nat.reduceSub,Array.replicate_succ,Array.replicate_zero,List.push_toArray,List.append_toArray,List.nil_append,List.cons_append];gi_wp2
 obtain⟨H,hH⟩:=eX (w.heap.size);have bO:=Boxed.new w 27 (.slice none 0 0);have hB0:Below w.heap.size w (w.alloc (.cells #[.slice none 0 0] 27)):=(bGL _ w).alloc (bGB _) _;have hsw:(w.alloc (.cells #[.slice none 0 0] 27)).heap.size=H+1:=sO;obtain⟨W0,hW0⟩:=eX (w.alloc (.cells #[.slice none 0 0] 27));rw[hW0] at bO hB0 hsw ⊢;have hb0:=hB0;rw[hH] at bO hB0;simp only[hH];clear hW0;refine wpIn_rangeFunc_ownH hro oM (gf:=gf) (lb:=lb) HSV.out.symm trivial eg
  hseq walksK_t walksK_b hb0 (fun _=>rfl)
  (fun pre W=>(∃v,Boxed W H 27 v/\W.ownsRow H 39 4 v pre.length (slE.row pre)/\True)/\Below H w W)
  (fun _ _ _=>False)
  (OwnFrom.and (Own.from (holdsRow_own H H 27 39 4 (fun pre:List Sl=>pre.length) (fun pre=>slE.row pre) (fun _ _=>True)) _) (ownFrom_below oM oM))
  (fun _ _ _ _ _ hs _ _=>hs)
  ⟨⟨_,bO,World.ownsRow_nil _ _ _ _,trivial⟩,hB0⟩
  (fun x a' W=>∃Bx,H<Bx/\W.heap[Bx]?=some (.cells (slE.cells x).toArray 39 (0,0))/\a'={ tmps:=#[.slice none 0 0,sv,.pointer (some ⟨H,0,none⟩),undef,.slice none 0 0,.pointer (some ⟨Bx,0,none⟩),sv,.agg (slE.cells x).toArray,undef,undef,undef,undef,undef],defers:=[] })
  (fun x a' _ X Y row hs hg hr=>by obtain⟨Bx,h1,h2,h3⟩:=hs;exact⟨Bx,h1,aEC h2 hg (fun r e=>(hr r e).2),h3⟩)
  ?assign ?body ?done ?stop
 case assign =>
  rintro l pre ⟨cn,ck,ca,cg⟩ W K ⟨⟨v,hv,hrow,_⟩,hB⟩ hK;have hz:=hB.size;have hlt:=hv.lt;dsimp only[aMC,slE] at hK ⊢;gi_wp2
  exact hK _ _ ((KeepsOthers.alloc _ _).from _) (KeepsWalks.alloc _ _) ⟨⟨v,hv.alloc _,World.ownsRow.alloc hrow _,trivial⟩,hB.alloc oM _⟩ ⟨W.heap.size,hlt,bFF _ _ _ rfl,rfl⟩
 case body =>
  rintro l pre ⟨cn,ck,ca,cg⟩ a' W hl ⟨r,hr⟩ ⟨⟨v,hv,hrow,_⟩,hB⟩ ⟨Bx,hBx,bX,rfl⟩ hlt;have hc:=hv.cell;have hzz:=hB.size;dsimp only[slE] at bX ⊢;have v0:W.cell? ⟨Bx,0,none⟩=some (.int .i64 cn):=by simp[World.cell?,bX]
  have v1:W.cell? ⟨Bx,1,none⟩=some (.int .i64 ck):=by simp[World.cell?,bX]
  have v2:W.cell? ⟨Bx,2,none⟩=some (.int .i64 ca):=by simp[World.cell?,bX]
  have v3:W.cell? ⟨Bx,3,none⟩=some (.int .i64 cg):=by simp[World.cell?,bX]
  clear bX;gi_wp2_with (gi_at_builtin;refine wpListIn_append_own_at _ rfl _ _ 27 rfl H 39 i0 (slV ⟨0,0,0,0⟩) 4 32 underlying27 hi hz0 hz1 hz2 rfl dC _ _ _ rfl (hrow.alloc _) ⟨W.heap.size,0,none⟩ 1 1 (slE.cells ⟨cn,ck,ca,cg⟩) rfl rfl (World.news_of_block (cs:=(slE.cells ⟨cn,ck,ca,cg⟩).toArray) (t:=39) (fr:=(0,0)) (bGP W _)) (slE.one _) q26 oM sO ?_;intro v' w1 hown' hgrow _ hob;obtain⟨g',cap',rfl⟩:=ownsRow_succ hown';obtain⟨hv1,hv2,hr2,hk2,hb2⟩:=hv.appended dC hrow (hH▸hB.size) (bGB _) hown' hgrow;have hc1:=hv1.cell;have hf1:=hv1.frozen)
  have hkw:KeepsWalks W (w1.setCell ⟨H,0,none⟩ (.slice (some ⟨g',0,none⟩) (pre.length+1) cap')):=((KeepsWalks.alloc _ _).trans (KeepsWalks.of_grownBy hgrow (mK (World.ownsRow.alloc hrow _)))).trans (KeepsWalks.setCell _ _ _);refine⟨hk2.from _,hkw,⟨_,hv2,?_,trivial⟩,hB.trans hb2⟩;show World.ownsRow _ H 39 4 _ (pre++[_]).length (slE.row (pre++[(⟨cn,ck,ca,cg⟩:Sl)]))
  rw[aPE,bGR];exact hr2
 case done =>
  rintro D ys W hD hys ⟨⟨v,hv,hrow,_⟩,hB⟩ hK;have hc:=hv.cell;gi_wp2
  refine⟨sI,.inl ⟨_,_,rfl,run_takeDeferred hK,?_⟩⟩;exact⟨_,results_tmp rfl _ _ _,v,ys,rfl,hys,by rw[hH];exact ownsRow_putObj hrow _ hK rfl,by rw[hH];exact hB.trans (belowK_b (w:=w) oM W D _ _ oM hK rfl rfl)⟩
 case stop =>
  rintro D c pre W _ _ h _;exact h.elim
theorem xO(cf:Sl->Sl->Int)(hO:Go.Sort.SWO (ltOf cf))(g:Nat)(eg:∀args w,(callFunc g args).run prog w=.ok (.enter g args) w)
 (hcmp:∀x y W,Calls prog g #[.agg (slE.cells x).toArray,.agg (slE.cells y).toArray] W fun e w'=>e=.returned (.int .i64 (cf x y))/\∃q os',w'=grow (W.drewN q) os')
 (Bm b nn:Nat) (ps:List Sl) (w:World) (hBm:Bm<w.heap.size) (hm:w.cell? ⟨Bm,0,none⟩=some (.map (some b))) (hM:MpS w b nn ps) (hnod:pO ps) (hnn:nn<=100000000) (hpn:ps.length<=100000000) :
 Calls prog 15 #[.func (.func 43) #[] #[.pointer (some ⟨Bm,0,none⟩)],.func (.func g) #[] #[]] w fun e w' =>
  ∃v ys,e=.returned v/\ys.Perm ps/\ys.Pairwise (fun a b=>ltOf cf b a=false)/\aG slE 39 w' w.heap.size v ys/\Below w.heap.size w w':=by
 obtain⟨D,hown,hD⟩:=hM;have hsz:=hown.size_le;have HCL:=Lh (show Calls prog 41 #[.func (.func 43) #[] #[.pointer (some ⟨Bm,0,none⟩)]] w (fun e w'=>∃v xs,e=.returned v/\xs.Perm ps/\aG slE 39 w' w.heap.size v xs/\Below w.heap.size w w') from by
  have hA:=Lh (callsIn_wide.1 (aAT 43 #[.pointer (some ⟨Bm,0,none⟩)] (enters_of func43 kR rfl) ps (Maps.size D) oM w (aEB Bm b nn D ps w hBm hm hown hD hnod)));clear hm hown hD;go_enter func41,ntmps41
  go_wp2_with fail;refine hA.out.mono ?_;rintro e w' ⟨v,xs,rfl,hp,hr,hb⟩;go_wp2;go_ret
  exact⟨v,xs,rfl,hp,hr,hb⟩)
 have HPL:=Lh (fun(xs:List Sl) (hp:xs.Perm ps)=>show xs.length<=100000000 by have:=hp.length_eq;omega);clear hm hown hD hsz;go_enter func15,ntmps15
 go_wp2_with fail;refine HCL.out.mono ?_;rintro e w1 ⟨v,xs,rfl,hp,hr,hb⟩;have HS:=Lh (pP slE rfl cf hO g eg hcmp w.heap.size v xs w1 hr (by have:=HPL.out xs hp;omega) hb.size);go_wp2_with fail;refine HS.out.mono ?_;rintro e w2 ⟨rfl,ys,hp2,hs2,hr2,hb2,_⟩;go_wp2;go_ret
 exact⟨v,ys,rfl,hp2.trans hp,hs2,hr2,hb.trans hb2⟩
structure uE (acc ps:List Sl):Prop where
 perm:ps.Perm acc
 nod:pO ps
 up:upS acc
 num:∀x∈ps,0<=x.num/\x.num<=8191
theorem uE.nil:uE [] []:=⟨.nil,.nil,.nil,fun x h=>q96⟩
theorem aMD:∀{acc:List Sl} {x:Sl} {acc1:List Sl},upS acc->xN acc x=some acc1->(∀y∈acc,y.num≠x.num)/\acc1.Perm (acc++[x])/\upS acc1/\(∀y∈acc1,y∈acc\/y=x)
 |[],x,acc1,_,h=>by
  cases h;exact⟨fun y hy=>(by cases hy),.refl _,List.pairwise_singleton _ _,fun y hy=>.inr (by simpa using hy)⟩
 |z::acc,x,acc1,hu,h=>by
  obtain⟨u1,u2⟩:=List.pairwise_cons.1 hu;unfold xN at h;by_cases h1:z.num<x.num
  ·rw[bGV h1] at h;cases h2:xN acc x with
   |none=>rw[h2] at h;cases h
   |some r =>
    rw[h2] at h;cases h;obtain⟨g1,g2,g3,g4⟩:=aMD u2 h2;refine⟨fun y hy=>?_,(List.Perm.cons z g2),List.pairwise_cons.2 ⟨fun y hy=>?_,g3⟩,fun y hy=>?_⟩
    ·rcases List.mem_cons.1 hy with rfl|hy
     ·omega
     ·exact g1 y hy
    ·rcases g4 y hy with hy|rfl
     ·exact u1 y hy
     ·exact h1
    ·rcases List.mem_cons.1 hy with rfl|hy
     ·exact .inl sI
     ·rcases g4 y hy with hy|hy
      ·exact .inl (by simp[hy])
      ·exact .inr hy
  ·rw[bGU h1] at h;by_cases h2:z.num=x.num
   ·rw[bGV h2] at h;cases h
   ·rw[bGU h2] at h;cases h;refine⟨fun y hy=>?_,?_,List.pairwise_cons.2 ⟨fun y hy=>?_,hu⟩,fun y hy=>?_⟩
    ·rcases List.mem_cons.1 hy with rfl|hy
     ·exact h2
     ·have:=u1 y hy;omega
    ·exact(List.perm_append_singleton x (z::acc)).symm
    ·rcases List.mem_cons.1 hy with rfl|hy
     ·omega
     ·have:=u1 y hy;omega
    ·rcases List.mem_cons.1 hy with rfl|hy
     ·exact .inr rfl
     ·exact .inl hy
theorem uE.push{acc ps acc1:List Sl}{x:Sl}(h:uE acc ps)(hl:xN acc x=some acc1)(hx:0<=x.num/\x.num<=8191):uE acc1 (ps++[x])/\ps.find? (fun y=>y.num==x.num)=none:=by
 obtain⟨g1,g2,g3,_⟩:=aMD h.up hl;refine⟨⟨(h.perm.append_right _).trans g2.symm,?_,g3,fun y hy=>?_⟩,?_⟩
 ·refine List.pairwise_append.2 ⟨h.nod,List.pairwise_singleton _ _,fun a ha b hb=>?_⟩;simp only[List.mem_singleton] at hb;subst hb;exact g1 a (h.perm.mem_iff.1 ha)
 ·rcases List.mem_append.1 hy with hy|hy
  ·exact h.num y hy
  ·simp only[List.mem_singleton] at hy;subst hy;exact hx
 ·rw[List.find?_eq_none];intro y hy;have:=g1 y (h.perm.mem_iff.1 hy);simpa using this
theorem aVR{f:Nat}{l:L}{acc PS:List Sl}{L2 l1:L}(h:lR f l acc=some (PS,L2))(hw:mY l mJ=some l1):PS=acc/\L2=l1:=by
 cases f with
 |zero=>cases h
 |succ f=>unfold lR at h;rw[hw] at h;cases h;exact⟨rfl,rfl⟩
theorem aPF{f:Nat}{l:L}{acc PS:List Sl}{L2:L}(h:lR f l acc=some (PS,L2))(hw:mY l mJ=none) :
 ∃first l1 count l2 acc1 l3 f',uC l 0 8191=some (first,l1)/\uC l1 0 (8192-first)=some (count,l2)/\fF count.toNat first l2 acc=some (acc1,l3)/\lR f' l3 acc1=some (PS,L2):=by
 cases f with
 |zero=>cases h
 |succ f =>
  unfold lR at h;rw[hw] at h;dsimp only at h;cases h1:uC l 0 8191 with
  |none=>rw[h1] at h;cases h
  |some y =>
   obtain⟨first,l1⟩:=y;rw[h1] at h;dsimp only at h;cases h2:uC l1 0 (8192-first) with
   |none=>rw[h2] at h;cases h
   |some y =>
    obtain⟨count,l2⟩:=y;rw[h2] at h;dsimp only at h;cases h3:fF count.toNat first l2 acc with
    |none=>rw[h3] at h;cases h
    |some y =>
     obtain⟨acc1,l3⟩:=y;rw[h3] at h;exact⟨first,l1,count,l2,acc1,l3,f,rfl,h2,h3,h⟩
theorem aAU{n:Nat}{num:Int}{l:L}{acc acc1:List Sl}{l3:L}(h:fF (n+1) num l acc=some (acc1,l3)) :
 ∃x l1 acc2,nO num l=some (x,l1)/\xN acc x=some acc2/\fF n (num+1) l1 acc2=some (acc1,l3):=by
 unfold fF at h;cases h1:nO num l with
 |none=>rw[h1] at h;cases h
 |some y =>
  obtain⟨x,l1⟩:=y;rw[h1] at h;dsimp only at h;cases h2:xN acc x with
  |none=>rw[h2] at h;cases h
  |some acc2=>rw[h2] at h;exact⟨x,l1,acc2,rfl,h2,h⟩
theorem aPG{num:Int}{l r:L}{x:Sl}(h:nO num l=some (x,r)):x.num=num:=by
 unfold nO at h;split at h
 ·cases h
 ·split at h
  ·cases h
  ·split at h
   ·cases h;rfl
   ·split at h
    ·cases h;rfl
    ·cases h
def cE:Nat->Ob->Prop
 |0,_=>False
 |d+1,o=>o.keys.length<=140737488355328/\o.kids.length<=140737488355328/\o.s.length<=140737488355328/\(∀x∈o.keys,x.length<=140737488355328)/\∀k∈o.kids,cE d k
theorem yQ:∀(d:Nat) (o:Ob),okO d o->cE d o
 |0,_,h=>h.elim
 |d+1,o,h=>by
  obtain⟨h1,h2,h3,h4,h5,h6,h7⟩:=h;have hlo:gO o.kind<=1048576:=by unfold gO;split<;>(try split)<;>omega
  suffices h:o.keys.length<=140737488355328/\∀x∈o.keys,x.length<=140737488355328 from⟨h.1,oM,oM,h.2,fun k hk=>yQ d k (h7 k hk)⟩
  by_cases hk:o.kind=7
  ·unfold bV at h6;rw[bGU oM,bGU oM] at h6;simp only[Bool.and_eq_true,beq_iff_eq] at h6;refine⟨oM,fun x hx=>?_⟩;obtain⟨i,hi,rfl⟩:=List.mem_iff_getElem.1 hx;have h8:=List.all_eq_true.1 h6.2 i (List.mem_range.2 hi);unfold jH at h8;simp only[Bool.and_eq_true] at h8;have h9:=h8.1.1.1;simp only[bGX,bGE hi,Option.getD_some,gC,Bool.and_eq_true,decide_eq_true_eq] at h9;omega
  ·have:o.keys=[] := by
    unfold eT at h1;by_cases e0:o.kind=0
    ·rw[bGV e0] at h1;simp[eB] at h1;simp_all
    rw[bGU e0] at h1;by_cases e1:o.kind=1\/o.kind=2\/o.kind=3
    ·rw[bGV e1] at h1;simp[eB] at h1;simp_all
    rw[bGU e1] at h1;by_cases e2:o.kind=4\/o.kind=5
    ·rw[bGV e2] at h1;simp[eB] at h1;simp_all
    rw[bGU e2] at h1;by_cases e3:o.kind=6
    ·rw[bGV e3] at h1;simp at h1;simp_all
    rw[bGU e3,bGU hk] at h1;by_cases e4:o.kind=8
    ·rw[bGV e4] at h1;simp[eB] at h1;simp_all
    rw[bGU e4,bGU h2] at h1;cases h1
   simp[this]
def cF(S:Nat->Prop)(d:Nat)(w:World)(v:Value)(kids:List Ob):Prop :=
 (kids=[]/\∃p c,v=.slice p 0 c) \/
 ∃b off c,v=.slice (some ⟨b,off,none⟩) kids.length c/\S b /\
  ∀i (h:i<kids.length),∃ks:List Value,ks.length=6/\(∀j (hj:j<ks.length),w.cell? ⟨b,off+6*i+j,none⟩=some ks[j])/\aI S d w ks kids[i]
theorem cF.kept{S:Nat->Prop}{w w':World}{d:Nat}{v:Value}{kids:List Ob}(h:cF S d w v kids)(hk:∀b,S b->w'.heap[b]?=w.heap[b]?):cF S d w' v kids:=by
 rcases h with h|⟨b,off,c,h1,h2,h3⟩
 ·exact .inl h
 ·refine .inr ⟨b,off,c,h1,h2,fun i hi=>?_⟩;obtain⟨ks,g1,g2,g3⟩:=h3 i hi;exact⟨ks,g1,fun j hj=>(bGO (hk b h2)).trans (g2 j hj),aI.kept hk d g3⟩
theorem aI.grow2{S S':Nat->Prop}{w w':World}{d:Nat}{cs:List Value}{o:Ob}(h:aI S d w cs o)
 (hk:∀b,S b->b<w.heap.size->S' b/\w'.heap[b]?=w.heap[b]?):aI S' d w' cs o :=
 (aI.kept (S:=fun b=>S' b/\w'.heap[b]?=w.heap[b]?) (fun b hb=>hb.2) d (h.weaken (fun b h1 h2=>hk b h1 h2) d)).weaken (fun b h _=>h.1) d
theorem cF.grow{S S':Nat->Prop}{w w':World}{d:Nat}{v:Value}{kids:List Ob}(h:cF S d w v kids)
 (hk:∀b,S b->b<w.heap.size->S' b/\w'.heap[b]?=w.heap[b]?):cF S' d w' v kids:=by
 rcases h with h|⟨b,off,c,h1,h2,h3⟩
 ·exact .inl h
 ·by_cases he:kids=[]
  ·exact .inl ⟨he,_,_,by rw[h1,he];rfl⟩
  ·obtain⟨ks,g1,g2,_⟩:=h3 0 (List.length_pos_iff.2 he);have h0:=g2 0 oM;have hlt:b<w.heap.size:=by
    exact q408
   refine .inr ⟨b,off,c,h1,(hk b h2 hlt).1,fun i hi=>?_⟩;obtain⟨ks,g1,g2,g3⟩:=h3 i hi;exact⟨ks,g1,fun j hj=>(bGO (hk b h2 hlt).2).trans (g2 j hj),g3.grow2 hk⟩
theorem aI.form{S:Nat->Prop}{d:Nat}{w:World}{cs:List Value}{o:Ob}(h:aI S d w cs o):∃p1 n1 c1 p2 n2 c2,cs=aB o.kind o.n o.g o.s (.slice p1 n1 c1) (.slice p2 n2 c2):=by
 exact q352
theorem eN{S:Nat->Prop}{d:Nat}{w:World}{b off n c:Nat}{os:List Ob}(h:cF S d w (.slice (some ⟨b,off,none⟩) n c) os)(hn:os.length=n)(k:Nat)(hk:k<n) :
 ∃(o:Ob) (p1:Option Addr) (n1 c1:Nat) (p2:Option Addr) (n2 c2:Nat),os.getD k .zero=o/\o∈os/\S b/\aI S d w (aB o.kind o.n o.g o.s (.slice p1 n1 c1) (.slice p2 n2 c2)) o /\
  w.cell? ⟨b,off+k*6,none⟩=some (.int .i64 o.kind)/\w.cell? ⟨b,off+k*6+1,none⟩=some (.int .i64 o.n)/\w.cell? ⟨b,off+k*6+2,none⟩=some (.int .i64 o.g) /\
  w.cell? ⟨b,off+k*6+3,none⟩=some (.string ⟨o.s.toArray⟩)/\w.cell? ⟨b,off+k*6+4,none⟩=some (.slice p1 n1 c1)/\w.cell? ⟨b,off+k*6+5,none⟩=some (.slice p2 n2 c2):=by
 rcases h with⟨rfl,p,c',h1⟩|⟨b',off',c',h1,h2,h3⟩
 ·simp at hn;omega
 ·cases h1;have hk':k<os.length:=oM;obtain⟨ks,g1,g2,g3⟩:=h3 k hk';obtain⟨p1,n1,c1,p2,n2,c2,rfl⟩:=g3.form;refine⟨os[k],p1,n1,c1,p2,n2,c2,by simp[List.getD,hk'],bGG hk',h2,g3,?_⟩;have e:off+6*k=off+k*6:=oM;rw[e] at g2;exact⟨g2 0 q121,g2 1 q121,g2 2 q121,g2 3 q121,g2 4 q121,g2 5 q121⟩
structure bN where
 at':Int
 sp:Option Addr
 sn:Nat
 sc:Nat
 k:Int
 n:Int
 g:Int
 s:ByteArray
 p1:Option Addr
 n1:Nat
 c1:Nat
 p2:Option Addr
 n2:Nat
 c2:Nat
 prev:Int
 hyb:Int
 own:Int
def aO:Enc bN where
 k:=11
 cells x:=[.int .i64 x.at',.slice x.sp x.sn x.sc,.int .i64 x.k,.int .i64 x.n,.int .i64 x.g,.string x.s,.slice x.p1 x.n1 x.c1,.slice x.p2 x.n2 x.c2,.int .i64 x.prev,.int .i64 x.hyb,.int .i64 x.own]
 len _:=rfl
 one x u hu:=by
  simp only[List.mem_cons,List.not_mem_nil,or_false] at hu
  rcases hu with rfl|rfl|rfl|rfl|rfl|rfl|rfl|rfl|rfl|rfl|rfl<;>rfl
structure aED (S:Nat->Prop) (d:Nat) (w:World) (x:bN) (s:Sec):Prop where
 at':x.at'=s.at'
 prev:x.prev=s.prev
 hyb:x.hyb=s.hyb
 own:x.own=s.own
 len:x.sn=s.slots.length
 slots:bC slE w (.slice x.sp x.sn x.sc) s.slots
 trail:aI S d w [.int .i64 x.k,.int .i64 x.n,.int .i64 x.g,.string x.s,.slice x.p1 x.n1 x.c1,.slice x.p2 x.n2 x.c2] s.trail
theorem aED.below{S:Nat->Prop}{d:Nat}{w w':World}{x:bN}{s:Sec}(h:aED S d w x s)(hS:∀b,S b->b<w.heap.size)(hb:Below w.heap.size w w'):aED S d w' x s :=
 ⟨h.at',h.prev,h.hyb,h.own,h.len,h.slots.below hb,h.trail.kept (fun b hs=>hb.block b (hS b hs)) d⟩
def pQ(S:Nat->Prop)(d:Nat)(w:World)(vs:List bN)(l:List Sec):Prop:=vs.length=l.length/\∀(i:Nat) (v:bN) (s:Sec),vs[i]?=some v->l[i]?=some s->aED S d w v s
theorem pQ.below{S:Nat->Prop}{d:Nat}{w w':World}{vs:List bN}{l:List Sec}(h:pQ S d w vs l)(hS:∀b,S b->b<w.heap.size)(hb:Below w.heap.size w w'):pQ S d w' vs l :=
 ⟨h.1,fun i v s hv hs=>(h.2 i v s hv hs).below hS hb⟩
theorem vT{w:World}{p:Option Addr}{n c:Nat}{vs:List bN}(h:bC aO w (.slice p n c) vs)(k:Nat)(x:bN)(hx:vs[k]?=some x) :
 ∃g off,p=some ⟨g,off,none⟩/\g<w.heap.size/\w.cell? ⟨g,off+k*11,none⟩=some (.int .i64 x.at')/\w.cell? ⟨g,off+k*11+1,none⟩=some (.slice x.sp x.sn x.sc) /\
  w.cell? ⟨g,off+k*11+2,none⟩=some (.int .i64 x.k)/\w.cell? ⟨g,off+k*11+3,none⟩=some (.int .i64 x.n)/\w.cell? ⟨g,off+k*11+4,none⟩=some (.int .i64 x.g) /\
  w.cell? ⟨g,off+k*11+5,none⟩=some (.string x.s)/\w.cell? ⟨g,off+k*11+6,none⟩=some (.slice x.p1 x.n1 x.c1)/\w.cell? ⟨g,off+k*11+7,none⟩=some (.slice x.p2 x.n2 x.c2) /\
  w.cell? ⟨g,off+k*11+8,none⟩=some (.int .i64 x.prev)/\w.cell? ⟨g,off+k*11+9,none⟩=some (.int .i64 x.hyb)/\w.cell? ⟨g,off+k*11+10,none⟩=some (.int .i64 x.own):=by
 obtain⟨p',c',e,h⟩:=h;cases e;obtain⟨hk,rfl⟩:=List.getElem?_eq_some_iff.1 hx;obtain⟨g,off,h1,h2,h3⟩:=h k hk;exact⟨g,off,h1,h2,h3 0 _ rfl,h3 1 _ rfl,h3 2 _ rfl,h3 3 _ rfl,h3 4 _ rfl,h3 5 _ rfl,h3 6 _ rfl,h3 7 _ rfl,h3 8 _ rfl,h3 9 _ rfl,h3 10 _ rfl⟩
theorem fG{α:Type}{E:Enc α}{w:World}{p:Option Addr}{n c:Nat}{xs:List α}(h:bC E w (.slice p n c) xs):n=xs.length:=by
 obtain⟨p',c',e,_⟩:=h;cases e;rfl
theorem bC.take{α:Type}{E:Enc α}{w:World}{p:Option Addr}{n c:Nat}{xs:List α}(h:bC E w (.slice p n c) xs)(q:Nat)(hq:q<=n)(c':Nat):bC E w (.slice p q c') (xs.take q):=by
 have hn:=fG h;obtain⟨p',c0,e,h⟩:=h;cases e;refine⟨p,c',by rw[bGT,Nat.min_eq_left oM],fun j hj=>?_⟩;rw[bGT] at hj;obtain⟨g,off,h1,h2,h3⟩:=h j oM;refine⟨g,off,h1,h2,fun i u hu=>h3 i u ?_⟩;rw[List.getElem_take] at hu;exact hu
theorem bC.drop{α:Type}{E:Enc α}{w:World}{b off n c:Nat}{xs:List α}(h:bC E w (.slice (some ⟨b,off,none⟩) n c) xs)(q:Nat)(hq:q<=n)(c':Nat):bC E w (.slice (some ⟨b,off+q*E.k,none⟩) (n-q) c') (xs.drop q):=by
 have hn:=fG h;obtain⟨p',c0,e,h⟩:=h;cases e;refine⟨_,c',by rw[bGS],fun j hj=>?_⟩;rw[bGS] at hj;obtain⟨g,o,h1,h2,h3⟩:=h (q+j) oM;cases h1;refine⟨b,off+q*E.k,rfl,h2,fun i u hu=>?_⟩;rw[List.getElem_drop] at hu;have:=h3 i u hu;rw[Nat.add_mul] at this;rw[<-this];congr 2
 omega
def aPH(x y:Sl):Int:=if x.num<y.num then -1 else 1
theorem uS(x y:Sl):ltOf aPH x y=decide (x.num<y.num):=by
 unfold ltOf aPH;by_cases h:x.num<y.num
 ·simp[h]
 ·simp[h]
theorem aVS:Go.Sort.SWO (ltOf aPH) where
 irrefl x:=by rw[uS];simp
 trans x y z h1 h2:=by rw[uS] at *;simp at *;omega
 ntrans x y z h1 h2:=by rw[uS] at *;simp at *;omega
theorem bAW(x y:Sl)(W:World):Calls prog 17 #[.agg (slE.cells x).toArray,.agg (slE.cells y).toArray] W fun e w'=>e=.returned (.int .i64 (aPH x y))/\∃q os',w'=grow (W.drewN q) os':=by
 obtain⟨x0,x1,x2,x3⟩:=x;obtain⟨y0,y1,y2,y3⟩:=y;unfold aPH;dsimp only[slE];by_cases h:x0<y0
 ·rw[bGV h];go_enter func17,ntmps17
  exact q525
 ·rw[bGU h];go_enter func17,ntmps17
  exact q525
theorem vU{w:World}{b:Nat}{t:TypeId}{v0 v1 v2 v3:Value}(h:w.heap[b]?=some (.cells #[v0,v1,v2,v3] t (0,0))) :
 w.cell? ⟨b,0,none⟩=some v0/\w.cell? ⟨b,1,none⟩=some v1/\w.cell? ⟨b,2,none⟩=some v2/\w.cell? ⟨b,3,none⟩=some v3:=by
 simp[World.cell?,h]
theorem aPI{l:List Sec}{k:Nat}(h:k<l.length):nE (l.take (k+1))=nE (l.take k)++l[k].slots:=by
 unfold nE;rw[List.take_succ_eq_append_getElem h,List.flatMap_append];simp
theorem aEE{l:List Sec}{k:Nat}(h:k<l.length):dK (nE (l.take (k+1)))=(l[k].slots).foldl jY (dK (nE (l.take k))):=by
 rw[aPI h];unfold dK;rw[List.foldl_append]
theorem aPJ{l:List Sl}{P:List Sl}{j:Nat}(h:j<l.length):(l.take (j+1)).foldl jY P=jY ((l.take j).foldl jY P) l[j]:=by
 rw[List.take_succ_eq_append_getElem h,List.foldl_append];rfl
theorem aVT(S:Nat->Prop)(d:Nat)(w:World)(p:Option Addr)(n c:Nat)(vs:List bN)(l:List Sec)(hR:bC aO w (.slice p n c) vs)(hI:pQ S d w vs l)(hS:∀b,S b->b<w.heap.size)
 (hn:n<=1000) (hsl:∀s∈l,s.slots.length<=8192) (hwf:∀s∈l,∀x∈s.slots,(Lit.int .i64 x.num).wf=true) :
 Calls prog 7 #[.slice p n c] w fun e w'=>∃v,e=.returned v/\aG slE 39 w' w.heap.size v (pN (nE l))/\Below w.heap.size w w':=by
 have hvl:vs.length=n:=(fG hR).symm;have hll:l.length=n:=by rw[<-hI.1];exact hvl
 have HR:=Lh hR;have HI:=Lh hI;have HS:=Lh hS;have HL:=Lh (bGQ hsl (bGQ hwf hll));have HVL:=Lh hvl;clear hR hI hS hsl hwf hvl hll;have hmk:∀w,(Instr.makeMap 56 none).run prog w=.ok (.map (some w.heap.size)) (w.alloc (.map #[] 0)):=fun _=>kR
 go_enter func7,ntmps7
 go_wp2;go_loopw [13] (fun i wr=>∃(k:Nat),k<=n/\i=.int .i64 k/\Below w.heap.size w wr/\w.heap.size<wr.heap.size/\MpS wr w.heap.size (k*8192) (dK (nE (l.take k)))) (fun i _=>n-(intOf i).toNat)
 case atStart=>exact⟨0,bGF _,rfl,bel,sI,by have h:=MpS.made w;simpa[nE,dK] using h⟩
 case round =>
  obtain⟨k,hk,rfl,hbr,hzr,HM⟩:=hrel;by_cases hlk:k<n
  ·have hRr:=HR.out.below hbr;obtain⟨x,hx⟩:∃x,vs[k]?=some x:=⟨_,bGE (by rw[HVL.out];exact hlk)⟩
   obtain⟨g,off,rfl,hg,a0,a1,a2,a3,a4,a5,a6,a7,a8,a9,a10⟩:=vT hRr k x hx;have hkl:k<l.length:=by rw[HL.out.2.2];exact hlk
   have hSec:=HI.out.2 k x l[k] hx (bGE hkl);have hsn:=hSec.len;have hsm:x.sn<=8192:=by rw[hsn];exact HL.out.1 _ (bGG hkl)
   have HF0:=Lh (aEE hkl);have HWF:=Lh (HL.out.2.1 _ (bGG hkl));have HSL:=Lh (bGQ hsn hSec.slots);obtain⟨P,hP⟩:=eX (dK (nE (l.take k)));rw[hP] at HF0 HM;obtain⟨ss,hss⟩:=eX (l[k].slots);rw[hss] at HF0 HWF HSL;have hgne:¬g=wr.heap.size:=oM;clear hRr hSec hsn hP hss hx;obtain⟨A0,sp,sn,sc,K,N,G,st,p1,n1,c1,p2,n2,c2,pv,hy,ow⟩:=x;dsimp only at *
   obtain⟨W1,rfl⟩:∃W1,W1=wr:=⟨_,rfl⟩
   go_wp2;go_loopw [20] (fun j wr=>∃(q:Nat),q<=sn/\j=.int .i64 q/\Below w.heap.size w wr/\w.heap.size<wr.heap.size/\MpS wr w.heap.size (k*8192+q) ((ss.take q).foldl jY P)) (fun j _=>sn-(intOf j).toNat)
   case atStart=>exact⟨0,bGF _,rfl,hbr.alloc hbr.size _,sO,HM.below bel⟩
   case round =>
    obtain⟨q,hq,rfl,hb2,hz2,HM2⟩:=hrel;by_cases hlq:q<sn
    ·have hqs:q<ss.length:=by rw[<-HSL.out.1];exact hlq
     have hvr:=HSL.out.2.below hb2;obtain⟨g2,off2,rfl,hg2,e0,e1,e2,e3⟩:=uQ hvr q hqs;have hwf:=HWF.out _ (bGG hqs);have HFT:=Lh (aPJ (P:=P) hqs);obtain⟨y,hy0⟩:=eX (ss[q]);rw[hy0] at e0 e1 e2 e3 hwf HFT;obtain⟨x0,x1,x2,x3⟩:=y;dsimp only at e0 e1 e2 e3 hwf;obtain⟨Q,hQ⟩:=eX ((ss.take q).foldl jY P);rw[hQ] at HM2 HFT;have hg2ne:¬g2=wr.heap.size:=oM;have HM3:MpS (wr.alloc (.cells #[.int .i64 x0,.int .i64 x1,.int .i64 x2,.int .i64 x3] 39)) w.heap.size (k*8192+q) Q:=HM2.below bel;obtain⟨⟨y0,y1,y2,y3⟩,hlook,_⟩:=HM3.lookW x0 hwf;simp only[slV] at hlook;have HM4:MpS ((wr.alloc (.cells #[.int .i64 x0,.int .i64 x1,.int .i64 x2,.int .i64 x3] 39)).alloc (.cells #[.int .i64 y0,.int .i64 y1,.int .i64 y2,.int .i64 y3] 39)) w.heap.size (k*8192+q) Q:=HM3.below bel;cases hth:(Q.find? (fun y=>y.num==x0)).isSome
     ·rw[hth] at hlook;have HAD:=Lh (show jY Q ⟨x0,x1,x2,x3⟩=Q++[⟨x0,x1,x2,x3⟩] by unfold jY;rw[bGU];show¬(Q.find? _).isSome=true;rw[hth];decide);obtain⟨D,hown,hD⟩:=HM4;have HPS:=Lh (hD.push ⟨x0,x1,x2,x3⟩ (by simpa using hth));obtain⟨w6,hrun6,hown6,hg6⟩:=hown.update (int_keyed underlying3) underlying56 q26 (keyOf_int_mk underlying3 hwf) (lS ⟨x0,x1,x2,x3⟩);simp only[slV] at hrun6;have HM6:MpS w6 w.heap.size (k*8192+(q+1)) (Q++[⟨x0,x1,x2,x3⟩]):=⟨_,hown6,HPS.out⟩;have hb6:Below w.heap.size w w6:=((hb2.alloc hb2.size _).alloc sO _).grown hg6 sO (fun j hj=>by cases hj;exact bGB _);have hz6:w.heap.size<w6.heap.size:=by have:=hg6.size;simp at this;omega
      clear hown hD hown6 hg6 HM3 HM2 hvr hy0 hQ hth;go_wp2;go_roundw
      case rel=>exact⟨q+1,oM,q12,hb6,hz6,by rw[HFT.out,HAD.out];exact HM6⟩
      case measure=>exact q339
     ·rw[hth] at hlook;have HAD:=Lh (show jY Q ⟨x0,x1,x2,x3⟩=Q by unfold jY;rw[bGV];exact hth);have HM6:MpS ((wr.alloc (.cells #[.int .i64 x0,.int .i64 x1,.int .i64 x2,.int .i64 x3] 39)).alloc (.cells #[.int .i64 y0,.int .i64 y1,.int .i64 y2,.int .i64 y3] 39)) w.heap.size (k*8192+(q+1)) Q:=by
       obtain⟨D,hown,hD⟩:=HM4;exact⟨D,hown.mono oM,hD⟩
      clear hvr hy0 hQ hth HM3 HM2 HM4;go_wp2;go_roundw
      case rel=>exact⟨q+1,oM,q12,(hb2.alloc hb2.size _).alloc sO _,sO,by rw[HFT.out,HAD.out];exact HM6⟩
      case measure=>exact q339
    ·have hqn:q=sn:=oM;subst hqn;have HM6:MpS wr w.heap.size ((k+1)*8192) (dK (nE (l.take (k+1)))):=by
      rw[HF0.out];rw[bHC (by rw[<-HSL.out.1];exact bGB _)] at HM2;obtain⟨D,hown,hD⟩:=HM2;exact⟨D,hown.mono oM,hD⟩
     clear HM2;go_wp2;go_roundw
     case rel=>exact⟨k+1,oM,q12,hb2,hz2,HM6⟩
     case measure=>exact q339
  ·have hkn:k=n:=oM;subst hkn;have hM:MpS wr w.heap.size (k*8192) (dK (nE l)):=by
    rw[bHC (by rw[HL.out.2.2];exact bGB _)] at HM;exact HM
   have hlen:(nE l).length<=k*8192:=by
    have key:∀l:List Sec,(∀s∈l,s.slots.length<=8192)->(nE l).length<=l.length*8192:=by
     intro l;induction l with
     |nil=>intro _;exact bGF _
     |cons s l ih =>
      intro h;have h1:=h s sI;have h2:=ih fun t ht=>h t (by simp[ht])
      show(s.slots++nE l).length<=_
      rw[bGR,bHA];omega
    have:=key l HL.out.1;rw[HL.out.2.2] at this;exact this
   have hfl:=aDZ (nE l);have hbv:Below wr.heap.size wr (wr.alloc (.cells #[.map (some w.heap.size)] 56)):=bel;have HSF:=Lh (xO aPH aVS 17 (enters_of func17 kR rfl) bAW wr.heap.size w.heap.size (k*8192) (dK (nE l)) (wr.alloc (.cells #[.map (some w.heap.size)] 56)) sI
    (by simp[World.cell?_alloc_at]) (hM.below hbv) (vP _).1 oM oM)
   clear HM hM hlen hfl;go_wp2_with fail;go_wp2_with(first|(go_at_call 16;refine(vS _ _).mono ?_;rintro e w5 ⟨rfl,rfl⟩)|(go_at_call 15;refine HSF.out.mono ?_;rintro e w6 ⟨v,ys,rfl,hp,hs,hr,hb6⟩))
   go_ret
   have hys:ys=pN (nE l):=aAQ hp (hs.imp fun {a b} h=>by rw[uS] at h;simpa using h);rw[<-hys];exact⟨v,rfl,hr.low sO,hbr.trans ((hbv.mono (bGY hzr)).trans (hb6.mono sO))⟩
end Go.Proofs.YtdjpkgccakgkbaaGreatDoor
