/- Parts of the proof: TdD DictA DictB DictC DictD Dict. -/
import Derived.Test.YtdjpkgccakgkbaaGreatDoorPei
import Derived.Deep.CutBlock
import Derived.Deep.DeepCutAuto
import Derived.Maps.RangeWalk
import Derived.Test.YtdjpkgccakgkbaaGreatDoorPeg
import Derived.Test.YtdjpkgccakgkbaaGreatDoorPed
import Derived.Test.YtdjpkgccakgkbaaGreatDoorPea
import Derived.Sort.KeysCollected
import Derived.Sort.OwnSorted
set_option linter.all false
set_option maxRecDepth 100000
set_option maxHeartbeats 8000000
section
variable{p:Prop}
theorem q124(h:p:=by simp[Lit.wf,IntKind.min,IntKind.max,IntKind.bits,IntKind.signed];omega):p:=h
theorem q125(h:p:=by cases e;exact bGB _):p:=h
theorem q127(h:p:=by rw[<-hw3];exact aA _ _ _ rfl):p:=h
theorem q129(h:p:=by show t.s.length<=maxLen;unfold maxLen;omega):p:=h
theorem q130(h:p:=by rw[hI.hmi.size];have:=congrArg List.length hI.hkeys;simp at this;omega):p:=h
theorem q131(h:p:=by rw[HX.out];exact⟨rfl,(hI.hbes.trans hbw).trans (.of_below bel)⟩):p:=h
theorem q132(h:p:=by simp[Value.ownBlock]):p:=h
theorem q307(h:p:=by
 go_wp2_with fail;refine HN.out.mono ?_;rintro e w1 ⟨rfl,hr1,hs1⟩;go_wp2_with fail;refine(gD _ _ _ _ _ _ _ false HW.out _).mono ?_;rintro e w2 ⟨rfl,hb2⟩;have hlt1:=hs1.size;have hlt2:w1.heap.size+1<=w2.heap.size:=q99;have k2:=(hb2.block w1.heap.size sI).trans (aA w1 _ _ rfl);obtain⟨tt,htt⟩:=eX (w1.heap.size);rw[htt] at k2 hlt2;rw[htt];obtain⟨c0,c1,c2,c3,c4,cf⟩:=eM k2;have ltt:wr.heap.size<=tt:=oM;have httw:tt<w2.heap.size:=oM;have hbw:Bes r wr w2:=hs1.trans (q95);have hr2:aU w2 r s q:=hr1.below (w':=w2) bel;have hown2:=jK hI.hown hbw oM;obtain⟨v0,ps0,hrun0,hv0⟩:=hown2.look_ok Tryz.keyed underlying274 (aAW w2) (oL _) (Go.WideMaps.keyOf_string_mk (s:=⟨t.s.toArray⟩) underlying9 q129);obtain⟨x0,rfl,_⟩:=qQ hv0;rw[show Maps.has D (.string (⟨t.s.toArray⟩:ByteArray).data.toList)=_ from((hI.hmi.has t.s).trans (nR hI.hkeys t.s)).trans HBT.out] at hrun0;unfold Obv.val at hrun0;have hsz:(Maps.size D:Int)=acc.length:=q130;have HSZ:=Lh hsz;clear hv0 hsz;go_wp2;exact⟨rfl,q131⟩):p:=h
theorem q510(h:p:=by
 rw[jL h hw,bGU oM,bGU (by simp[ha]),bGU hl,h2];dsimp only;rw[h3]):p:=h
theorem q552(h:p:=by obtain⟨rfl,h2⟩:=iY h;show r.length<=_;omega):p:=h
end
namespace Go.Proofs.YtdjpkgccakgkbaaGreatDoor
open Go.Proofs.Tryz
open Go.RowKit Fo Go.Maps Go.Sort
theorem RdT.pos{w:World}{r:Nat}{s:ByteArray}{a:Nat}(h:RdT w r s a):tE w r=a:=by
 unfold tE;rw[h.cell1];simp
structure pR (s:ByteArray) (m:Int) (r:Nat) (w wr:World) (a:Nat) (acc ps:List Sl):Prop where
 ha:a<=s.size
 hr:RdT wr r s a
 map:MpS wr w.heap.size ps.length ps
 inv:uE acc ps
 len:ps.length<=a
 bes:Bes r w wr
 lt:w.heap.size<wr.heap.size
 hm:aF wr m
theorem pR.step{s:ByteArray}{m:Int}{r:Nat}{w wr w':World}{a b:Nat}{acc ps:List Sl}(h:pR s m r w wr a acc ps)(hs:Bes r wr w')(hr:RdT w' r s b)(hb:b<=s.size)(hab:a<=b)(hlt:r<w.heap.size)(hrm:r≠1):pR s m r w w' b acc ps :=
 ⟨hb,hr,h.map.kept (hs.block _ h.lt oM),h.inv,bGC h.len hab,h.bes.trans hs,bGA h.lt hs.size,h.hm.bes hs hrm⟩
theorem pR.below{s:ByteArray}{m:Int}{r:Nat}{w wr w':World}{a:Nat}{acc ps:List Sl}(h:pR s m r w wr a acc ps)(hb:Below wr.heap.size wr w')(hlt:r<w.heap.size)(hrm:r≠1):pR s m r w w' a acc ps :=
 h.step (Bes.of_below hb) (h.hr.below hb) h.ha (bGB _) hlt hrm
theorem Bes.grown{r b:Nat}{a w w':World}(h:Bes r a w)(hg:w.grownBy w' (some b))(hb:a.heap.size<=b):Bes r a w' :=
 ⟨hg.os.trans h.os,hg.tape.trans h.tape,hg.output.trans h.output,bGC h.size hg.size,fun k hk hr=>(hg.block k (bGA hk h.size) (fun e=>q123)).trans (h.block k hk hr)⟩
theorem pR.put{s:ByteArray}{m:Int}{r:Nat}{w wr w':World}{a b:Nat}{acc ps acc2:List Sl}{x:Sl}(h:pR s m r w wr b acc ps)(hg:wr.grownBy w' (some w.heap.size))(hM:MpS w' w.heap.size (ps.length+1) (ps++[x]))(hi:uE acc2 (ps++[x]))(hab:ps.length<b)
 (hlt:r<w.heap.size) (hrm:r≠1):pR s m r w w' b acc2 (ps++[x]):=by
 have hr1:=h.hr.lt;have hk:∀k,k<wr.heap.size->k≠w.heap.size->w'.heap[k]?=wr.heap[k]?:=fun k h1 h2=>hg.block k h1 (fun e=>by cases e;exact h2 rfl)
 refine⟨h.ha,?_,by simpa using hM,hi,sO,h.bes.grown hg (bGB _),bGA h.lt hg.size,?_⟩
 ·have:=h.hr;unfold RdT at *
  rw[hk r hr1 oM];exact this
 ·have h1:=h.hm;have h2:=aF.lt h1;by_cases hc:1=w.heap.size
  ·obtain⟨D,⟨es,clock,hb,_⟩,_⟩:=h.map;unfold aF World.cell? at h1;rw[<-hc] at hb;simp[hb] at h1
  ·unfold aF at *
   rw[bGO (a:=⟨1,0,none⟩) (hk _ h2 hc)];exact h1
theorem aEF{c:Int}(h0:0<=c)(h1:c<=1000000):(Lit.int .i64 c).wf=true:=q124
theorem aVU{s:ByteArray}{a f:Nat}{acc PS:List Sl}{L2:L}(ha:a<=s.size)(h:lR f (s.data.toList.drop a) acc=some (PS,L2)) :
 (∃l n p,lU s a ⟨5,l,n,mJ⟩ p/\PS=acc/\L2=s.data.toList.drop (p+l)) \/
 (∃(F C:Nat) (l1:Nat) (x1:L) (p1 l2:Nat) (x2:L) (p2 f':Nat) (acc1:List Sl) (l3:L),lU s a ⟨1,l1,F,x1⟩ p1/\lU s (p1+l1) ⟨1,l2,C,x2⟩ p2/\F+C<=8192/\F<=8191 /\
  fF C F (s.data.toList.drop (p2+l2)) acc=some (acc1,l3)/\lR f' l3 acc1=some (PS,L2)):=by
 cases hw:mY (s.data.toList.drop a) mJ with
 |some l1 =>
  obtain⟨rfl,rfl⟩:=aVR h hw;obtain⟨l,n,p,hT,rfl⟩:=qO ha hw;exact .inl ⟨l,n,p,hT,rfl,rfl⟩
 |none =>
  obtain⟨first,l1,count,l2,acc1,l3,f',h1,h2,h3,h4⟩:=aPF h hw;obtain⟨k1,x1,p1,T1,b1,b2,rfl⟩:=uR ha h1;obtain⟨k2,x2,p2,T2,b3,b4,rfl⟩:=uR T1.2.2 h2;obtain⟨F,rfl⟩:∃F:Nat,first=F:=⟨first.toNat,oM⟩
  obtain⟨C,rfl⟩:∃C:Nat,count=C:=⟨count.toNat,oM⟩
  exact .inr ⟨F,C,k1,x1,p1,k2,x2,p2,f',acc1,l3,T1,T2,oM,oM,by simpa using h3,h4⟩
abbrev SlR:={ x:Sl // 0<=x.num/\x.num<=8191 }
instance instInhabitedSlR:Inhabited SlR:=⟨⟨⟨0,0,0,0⟩,by decide,by decide⟩⟩
def aAV:Enc SlR:=⟨4,fun x=>slE.cells x.1,fun _=>rfl,fun x u hu=>slE.one x.1 u hu⟩
theorem aVV(xs:List SlR):aAV.row xs=slE.row (xs.map (·.1)):=by
 induction xs with
 |nil=>rfl
 |cons x xs ih =>
  show aAV.cells x++aAV.row xs=slE.cells x.1++slE.row (xs.map (·.1))
  rw[ih];rfl
theorem bAX{w:World}{B:Nat}{v:Value}{xs:List SlR}:aG aAV 39 w B v xs↔aG slE 39 w B v (xs.map (·.1)):=by
 unfold aG;rw[aVV,List.length_map];exact Iff.rfl
def aHZ(x y:SlR):Int:=x.1.num-y.1.num
theorem uT(x y:SlR):ltOf aHZ x y=decide (x.1.num<y.1.num):=by
 unfold ltOf aHZ;by_cases h:x.1.num<y.1.num
 ·simp[h];omega
 ·simp[h];omega
theorem aEG:SWO (ltOf aHZ) where
 irrefl x:=by rw[uT];simp
 trans x y z h1 h2:=by rw[uT] at *;simp at *;omega
 ntrans x y z h1 h2:=by rw[uT] at *;simp at *;omega
theorem aME(x y:SlR)(W:World):Calls prog 84 #[.agg (aAV.cells x).toArray,.agg (aAV.cells y).toArray] W fun e w'=>e=.returned (.int .i64 (aHZ x y))/\∃q os',w'=grow (W.drewN q) os':=by
 obtain⟨⟨x0,x1,x2,x3⟩,hx0,hx1⟩:=x;obtain⟨⟨y0,y1,y2,y3⟩,hy0,hy1⟩:=y;dsimp only at hx0 hx1 hy0 hy1;unfold aHZ;dsimp only[aAV,slE];have hw:IntKind.i64.wrap (x0-y0)=x0-y0:=IntWalk.i64_in _ oM;clear hx0 hx1 hy0 hy1;go_enter func84,ntmps84
 exact q525
theorem aPK{ys ps PS:List Sl}(h1:ys.Perm ps)(h2:ps.Perm PS)(hn:pO ps)(hu:upS PS)(hs:ys.Pairwise fun a b=>¬b.num<a.num):ys=PS:=by
 have hy:=vQ hn h1.symm;have hup:upS ys:=(hs.and hy).imp fun {a b} h=>by have:=h.1;have:=h.2;omega
 refine aAO hup hu fun n=>?_
 rw[vR hn h1.symm,vR hn h2]
theorem aEH(r:Nat)(s:ByteArray)(a0 f0:Nat)(PS:List Sl)(L2:L)(h:lR f0 (s.data.toList.drop a0) []=some (PS,L2))(ha0:a0<=s.size)(hs:s.size<=100000000)(m:Int)(w:World)(hm0:aF w m)(hr0:RdT w r s a0)(hrm:r≠1) :
 Calls prog 51 #[.pointer (some ⟨r,0,none⟩)] w fun e w'=>(∃v,e=.returned v/\aG slE 39 w' (w.heap.size+1) v PS)/\(∃b,b<=s.size/\L2=s.data.toList.drop b/\RdT w' r s b)/\Bes r w w':=by
 have hlt:=hr0.lt;have HH:=Lh h;have hmk:∀w,(Instr.makeMap 56 none).run prog w=.ok (.map (some w.heap.size)) (w.alloc (.map #[] 0)):=fun _=>kR
 clear h;go_enter func51,ntmps51
 go_upto_block 0 with fail
 go_cut [] (fun wx=>∃(a:Nat) (ps:List Sl),pR s m r w wx a PS ps/\L2=s.data.toList.drop a)
 case first =>
  go_wp2_with fail;go_loopw [] (fun wr=>∃(a f:Nat) (acc ps:List Sl),pR s m r w wr a acc ps/\Hid (lR f (s.data.toList.drop a) acc=some (PS,L2))) (fun wr=>s.size-tE wr r)
  case atStart=>exact⟨a0,f0,[],[],⟨ha0,hr0.below bel,MpS.made w,uE.nil,bGF _,q95,sI,hm0.below bel⟩,HH⟩
  case round =>
   obtain⟨a,f,acc,ps,hI,H⟩:=hrel;clear HH;rcases aVU hI.ha H.out with⟨l,n,p,hT,hPS,hL2⟩|⟨F,C,l1,x1,p1,l2,x2,p2,f',acc1,l3,T1,T2,hFC,hF,hE,hS⟩
   ·have HX:=Lh (bGQ hPS hL2);have HN:=Lh (eH r s a p l 5 n mJ hT hI.ha oM m wr hI.hm hI.hr);have hI0:=Lh hI;have hpl:=hT.2.2;have hap:=iU hT dC hI.ha;clear hPS hL2 hT H hI;go_wp2_with fail;refine HN.out.mono ?_;rintro e w1 ⟨rfl,hr1,hs1⟩;go_wp2;go_meet
    case rel =>
     rw[HX.out.1];exact⟨p+l,ps,(hI0.out.step hs1 hr1 hpl oM hlt hrm).below bel hlt hrm,HX.out.2⟩
   ·have HT:=Lh (bGQ T1 T2);have HES:=Lh (bGQ hE hS);have hap:=iU T1 dC hI.ha;have hp1:=T1.2.2;have hp2:=T2.2.2;have hap2:=iU T2 dC T1.2.2;have HPOS:=Lh hI.hr.pos;have hI0:=Lh hI;have HN1:=Lh (eH r s a p1 l1 1 F x1 T1 hI.ha oM m wr hI.hm hI.hr);obtain⟨W0,rfl⟩:∃W0,W0=wr:=⟨_,rfl⟩
    clear T1 T2 hE hS H hI;have hw:IntKind.i64.wrap ((F:Int)+(C:Int))=(F:Int)+C:=IntWalk.i64_in _ oM;have hw2:decide ((F:Int)+(C:Int)<=8192)=true:=by rw[decide_eq_true_eq];omega
    go_wp2_with fail;refine HN1.out.mono ?_;rintro e w1 ⟨rfl,hr1,hs1⟩;have I1:=(hI0.out.step hs1 hr1 hp1 oM hlt hrm);have hz1:=hs1.size;clear HN1 hr1 hs1;go_wp2_with fail;refine(fV (F:Int) 8191 p1 (p1+l1) _ oM oM _).mono ?_;rintro e w2 ⟨rfl,hb2⟩;have I2:=Lh (I1.below (show Below w1.heap.size w1 w2 from bel) hlt hrm);clear hb2;go_wp2_with fail;refine(eH r s (p1+l1) p2 l2 1 C x2 HT.out.2 hp1 oM m _ I2.out.hm I2.out.hr).mono ?_;rintro e w3 ⟨rfl,hr3,hs3⟩;have I3:=I2.out.step hs3 hr3 hp2 oM hlt hrm;clear hr3 hs3;go_wp2_with fail;refine(fV (C:Int) 8192 p2 (p2+l2) _ oM oM _).mono ?_;rintro e w4 ⟨rfl,hb4⟩;have I4:=Lh (I3.below (show Below w3.heap.size w3 w4 from bel) hlt hrm);clear hb4 I3 I1;go_wp2_with(go_at_call 49;refine(bD _).mono ?_;rintro e w9 ⟨rfl,rfl⟩)
    go_loopw [36] (fun i wr=>∃(k b:Nat) (acc ps:List Sl),k<=C/\i=.int .i64 k/\pR s m r w wr b acc ps/\p2+l2<=b/\Hid (fF (C-k) ((F:Int)+k) (s.data.toList.drop b) acc=some (acc1,l3))) (fun i _=>C-(intOf i).toNat)
    case atStart=>exact⟨0,p2+l2,acc,ps,bGF _,rfl,I4.out,bGB _,Lh (by simpa using HES.out.1)⟩
    case round =>
     clear I4 I2;obtain⟨k,b,acc,ps,hk,rfl,hI,hpb,HE⟩:=hrel;by_cases hlk:k<C
     ·obtain⟨x,lx,acc2,hx,hl,hrest⟩:=aAU (n:=C-(k+1)) (by have:=HE.out;rwa [show C-k=C-(k+1)+1 from oM] at this);have hnum:=aPG hx;obtain⟨hinv,hfind⟩:=hI.inv.push hl (by rw[hnum];omega);have HX:=Lh (bGQ hinv hrest);have hw3:IntKind.i64.wrap ((F:Int)+(k:Int))=(F:Int)+k:=IntWalk.i64_in _ oM;have hwf:(Lit.int .i64 ((F:Int)+k)).wf=true:=aEF oM oM;obtain⟨⟨y0,y1,y2,y3⟩,hlook,_⟩:=hI.map.lookW ((F:Int)+k) hwf;rw[<-hnum,hfind,hnum] at hlook;simp only[slV,Option.isSome_none] at hlook;have HEN:=Lh (fun W hb=>aDU r s b ((F:Int)+k) x lx hx hI.ha oM m W (hI.hm.below hb) (hI.hr.below hb) hrm);obtain⟨x0,x1',x2',x3⟩:=x;dsimp only at hnum;subst hnum;simp only[slV] at HEN;have hI0:=Lh hI;have HNO:=Lh hfind;clear hx hl hrest hinv hfind HE hI;go_wp2_with fail;refine(HEN.out _ bel).mono ?_;rintro e w5 ⟨rfl,⟨b5,hbb5,hb5,rfl,hr5⟩,hs5⟩;have I5:=(hI0.out.below (show Below wr.heap.size wr (wr.alloc (.cells #[.int .i64 y0,.int .i64 y1,.int .i64 y2,.int .i64 y3] 39)) from bel) hlt hrm).step hs5 hr5 hb5 oM hlt hrm;have I6:=I5.below (show Below w5.heap.size w5 (w5.alloc (.cells #[.int .i64 ((F:Int)+k),.int .i64 x1',.int .i64 x2',.int .i64 x3] 39)) from bel) hlt hrm;have hlen5:ps.length<b5:=by have:=hI0.out.len;omega
      obtain⟨D,hown,hD⟩:=I6.map;have HPS:=Lh (hD.push ⟨(F:Int)+k,x1',x2',x3⟩ HNO.out);obtain⟨w6,hrun6,hown6,hg6⟩:=hown.update (int_keyed underlying3) underlying56 q26 (keyOf_int_mk underlying3 hwf) (lS ⟨(F:Int)+k,x1',x2',x3⟩);simp only[slV] at hrun6;have I7:=Lh (I6.put (a:=b5) hg6 ⟨_,hown6,HPS.out⟩ HX.out.1 hlen5 hlt hrm);clear hown hD hown6 hg6 I5 I6 hr5 hs5 hlook;go_wp2_with(go_at_call 49;refine(bD _).mono ?_;rintro e w9 ⟨rfl,h9⟩;obtain rfl:=h9.symm)
      go_roundw
      case rel=>exact⟨k+1,b5,acc2,_,oM,q12,I7.out,oM,Lh (by have:=HX.out.2;rw[show((k+1:Nat):Int)=(k:Int)+1 by omega,<-Int.add_assoc];exact this)⟩
      case measure=>exact q339
     ·have hkC:k=C:=oM;subst hkC;have HE2:=HE.out;rw[Nat.sub_self] at HE2;obtain⟨rfl,rfl⟩:acc1=acc/\l3=s.data.toList.drop b:=by unfold fF at HE2;cases HE2;exact⟨rfl,rfl⟩
      have HI:=Lh hI;clear HE HE2 hI;go_wp2;go_roundw
      case rel=>exact⟨b,f',acc1,ps,HI.out,Lh HES.out.2⟩
      case measure=>rw[HI.out.hr.pos,HPOS.out];have:=HI.out.ha;omega
 case rest =>
  obtain⟨a,ps,hI,hL2⟩:=hcut;obtain⟨W1,rfl⟩:∃W1,W1=wc:=⟨_,rfl⟩
  have HL2:=Lh hL2;have HI:=Lh hI;obtain⟨D,hown,hD⟩:=hI.map;have HD:=Lh (bGQ hD hI.inv);have hsz:=hown.size_le;have hpl:ps.length<=100000000:=by have:=hI.len;have:=hI.ha;omega
  clear hI hL2 HH hmk hD;go_wp2_with(at_range;refine wpList_range_own _ rfl _ 56 rfl 3 39 (int_keyed underlying3) underlying56 jJ w.heap.size ps.length D rfl hown ?_;intro w0 hrg0 hg0 hs0)
  go_frame
  go_loopw [11] (fun v wr=>∃(left:Lit->Bool) (cnt:Nat) (xs:List Sl),wr.ranges prog 3 jJ w.heap.size W1.heap.size ps.length D left cnt/\xs.length+cnt<=Maps.size D/\CollectedI D left (xs.map (·.num))/\Hid (∀x∈xs,x∈ps)/\aG slE 39 wr W1.heap.size v xs/\Below W1.heap.size W1 wr) (fun _ wr=>wr.rangeLeft w.heap.size W1.heap.size)
  case atStart=>exact⟨_,_,[],hrg0,sI,CollectedI.start D,Lh sI,bF _ _,(bGL _ W1).grown hg0 (bGB _) (fun k e=>by cases e)⟩
  case round =>
   clear hrg0 hg0 hs0 hown;obtain⟨left,cnt,xs,hrg,hcs,hC,hV,hrow,hbr⟩:=hrel;have hzr:=hbr.size;obtain⟨vp,vc,rfl⟩:=aH hrow;go_wp2_with(at_next;refine wpList_next_ranges _ rfl _ rfl 3 (int_keyed underlying3) jJ encZ slV (fun key kl hk=>q119) (fun v y hv=>q120) w.heap.size W1.heap.size ps.length D left cnt rfl hrg ?_ ?_)
   ·intro hc0 hl0;have hperm:=aEA HD.out.1 HD.out.2.nod hC hV.out hl0;have hnum:∀x∈xs,0<=x.num/\x.num<=8191:=fun x hx=>HD.out.2.num x (hV.out x hx)
    obtain⟨xr,hxr⟩:∃xr:List SlR,xr.map (·.1)=xs:=⟨xs.pmap (fun x h=>⟨x,h⟩) hnum,by rw[List.map_pmap];simp⟩
    have hlx:xr.length=xs.length:=by rw[<-hxr];simp
    have HSO:=Lh (pP aAV rfl aHZ aEG 84 (enters_of func84 kR rfl) aME W1.heap.size (.slice vp xs.length vc) xr wr (bAX.2 (by rw[hxr];exact hrow)) oM hzr);have HPX:=Lh (bGQ hperm hxr);clear hrow hC hV hperm hnum hxr hrg hl0 hlx;go_wp2_with fail;refine HSO.out.mono ?_;rintro e w6 ⟨rfl,ys,hp,hsd,hr6,hb6,_⟩;have hys:ys.map (·.1)=PS:=by
     refine aPK ((hp.map _).trans (by rw[HPX.out.2];exact HPX.out.1)) HD.out.2.perm HD.out.2.nod HD.out.2.up ?_;rw[List.pairwise_map];exact hsd.imp fun {a b} h=>by rw[uT] at h;simpa using h
    have hr7:aG slE 39 w6 W1.heap.size (.slice vp xs.length vc) PS:=by rw[<-hys];exact bAX.1 hr6
    have hbw:Below W1.heap.size W1 w6:=hbr.trans hb6;have HR7:=Lh (hr7.low (show w.heap.size+1<=W1.heap.size from HI.out.lt));clear hr6 hr7 hb6 hys hp hsd HSO;go_wp2;go_ret
    exact⟨⟨_,rfl,HR7.out⟩,⟨a,HI.out.ha,HL2.out,HI.out.hr.below hbw⟩,HI.out.bes.trans (Bes.of_below hbw)⟩
   ·intro x c kl yd yp w2 cnt2 hkey hlk hv hat hrg2 hlt2 hg2 hs2 hen;obtain⟨x',ex,rfl,_⟩:=Maps.keyOf_i64 underlying3 hkey;obtain rfl:x=x':=encZ_inj ex;have hz:yd=slD c:=by
     exact q404
    have hcp:c∈ps/\c.num=x:=by
     exact q343
    obtain⟨cn,ck,ca,cg⟩:=c;obtain⟨hcp,rfl⟩:=hcp;dsimp only[slV] at hen;have HV2:=Lh (show∀y∈xs++[(⟨cn,ck,ca,cg⟩:Sl)],y∈ps from fun y hy=>(List.mem_append.1 hy).elim (hV.out y) (fun e=>by simp at e;subst e;exact hcp));have HC2:=Lh (show CollectedI D (fun z=>left z&&!z.sameKey (.int .i64 cn)) ((xs++[(⟨cn,ck,ca,cg⟩:Sl)]).map (·.num)) by simpa using hC.step hlk hat);have HME:=Lh hrg.left_eq;have hb2:Below W1.heap.size W1 w2:=hbr.grown hg2 hzr (fun k e=>q125);have hrow2:aG slE 39 w2 W1.heap.size (.slice vp xs.length vc) xs:=World.ownsRow.kept hrow hg2 (by
     rcases(show wr.ownsRow W1.heap.size 39 4 _ _ _ from hrow).2 with⟨e,_⟩|⟨g,cap,cur,e,_,hgb,_⟩
     ·exact .inl (by rw[e];rfl)
     ·refine .inr fun e'=>?_
      obtain⟨_,_,_,_,_,_,_,_,_,hit,_⟩:=hrg;rw[e] at e';have:g=W1.heap.size:=by simpa[Value.ownBlock] using e'
      rw[this] at hgb;rw[hgb] at hit;cases hit)
    have hz2:=hb2.size;have hxl:xs.length<=1000000000:=oM;clear hs2 hv hz hkey ex hat hlk hcp hrow hrg;go_upto_region 19 with fail
    obtain⟨w3,hw3⟩:=eX (w2.alloc (.cells #[.int .i64 cn,.int .i64 ck,.int .i64 ca,.int .i64 cg] 39));have hb23:Below w2.heap.size w2 w3:=q126;have hk23:KeepsWalks w2 w3:=by rw[<-hw3];exact KeepsWalks.alloc _ _
    have hX3:w3.heap[w2.heap.size]?=some (.cells #[.int .i64 cn,.int .i64 ck,.int .i64 ca,.int .i64 cg] 39 (0,0)):=q127;have hz3:w2.heap.size<w3.heap.size:=by rw[<-hw3];simp
    rw[hw3];clear hw3;have hrow3:=hrow2.below hb23;have hrg3:=hrg2.of_walks hk23;have hzB3:W1.heap.size<=w3.heap.size:=oM;obtain⟨x0,x1,x2,x3⟩:=vU hX3;clear hrow2 hX3;go_wp2_with(at_builtin;(refine eE (E:=slE) rfl _ _ rfl underlying27 Tryz.infoSlt rfl dC dC W1.heap.size _ xs ⟨cn,ck,ca,cg⟩ hrow3 rfl rfl oM hzB3 ?_;intro g3 q3 w6 hr6 hb6 hz6 hg6 hor6))
    have hrg6:=hrg3.of_walks ((KeepsWalks.alloc _ _).trans (KeepsWalks.of_grownBy hg6 (mK (World.ownsRow.alloc hrow3 _))));go_roundw
    case rel=>exact⟨_,cnt2,xs++[⟨cn,ck,ca,cg⟩],hrg6,sO,HC2.out,HV2,by simpa using hr6,hb2.trans ((hb23.mono hz2).trans hb6)⟩
    case measure=>rw[hrg6.left_eq,HME.out];exact hlt2
theorem aEI{r:L}{t:Tok}(h:eR r=.good t):t.s.length<=32767:=by
 unfold eR at h;split at h
 ·split at h
  ·cases h
  ·cases h;simp
 ·split at h
  ·split at h
   ·cases h;simp
   ·cases h
   ·exact q552
  ·exact q552
theorem aIA{l:L}{t:Tok}(h:rW l=.good t):t.s.length<=32767:=by
 cases l with
 |nil=>cases h
 |cons c l =>
  unfold rW at h;dsimp only at h;split at h
  ·cases h;simp
  ·split at h
   ·split at h
    ·cases h;simp
    ·obtain⟨x,m,h1,rfl,h2⟩:=fT h;exact h2
   ·split at h
    ·exact q557
    ·split at h
     ·obtain⟨x,h1,rfl,h2⟩:=kD h;show x.length<=_;omega
     ·split at h
      ·obtain⟨x,m,h1,rfl,h2⟩:=fT h;exact h2
      ·split at h
       ·cases h
       ·exact aEI h
theorem aEJ{l:L}{t:Tok}(h:(aM l).2=.good t):t.s.length<=32767:=by
 unfold aM at h;simp only at h;split at h
 ·cases h;simp
 ·exact aIA h
def bDU(v:Value):List Value->Option (DataW Value×List MemPlace)
 |[.int .i64 _,.int .i64 _,.int .i64 _,.string _,.slice _ _ _,.slice _ _ _]=>some (.held v,[])
 |_=>none
def obR:Value->Option (DataW Value×List MemPlace)
 |.agg cs=>bDU (.agg cs) cs.toList
 |_=>none
structure Obv where
 k:Int
 n:Int
 g:Int
 s:L
 p1:Option Addr
 n1:Nat
 c1:Nat
 p2:Option Addr
 n2:Nat
 c2:Nat
def Obv.val(x:Obv):Value:=.agg #[.int .i64 x.k,.int .i64 x.n,.int .i64 x.g,.string ⟨x.s.toArray⟩,.slice x.p1 x.n1 x.c1,.slice x.p2 x.n2 x.c2]
theorem oL(x:Obv):obR x.val=some (.held x.val,[]):=rfl
theorem aVW{v:Value}{cs:List Value}{y:DataW Value×List MemPlace}(h:bDU v cs=some y):∃x:Obv,.agg cs.toArray=x.val/\y=(.held v,[]):=by
 unfold bDU at h;split at h
 ·rename_i k n g s p1 n1 c1 p2 n2 c2
  cases h;exact⟨⟨k,n,g,s.data.toList,p1,n1,c1,p2,n2,c2⟩,rfl,rfl⟩
 ·cases h
theorem qQ{v:Value}{y:DataW Value×List MemPlace}(h:obR v=some y):∃x:Obv,v=x.val/\y=(.held x.val,[]):=by
 cases v<;>simp only[obR] at h<;>try (cases h;done)
 obtain⟨x,h1,h2⟩:=aVW h;rw[Array.toArray_toList] at h1;exact⟨x,h1,by rw[<-h1];exact h2⟩
theorem Tryz.keyed:Keyed prog 9:=string_keyed underlying9
structure pC (D:DataW Value) (vals:List (L×Obv)):Prop where
 tidy:Tidy D
 has:∀x,Maps.has D (.string x)=vals.any (fun p=>p.1==x)
 size:Maps.size D=vals.length
 at':∀p∈vals,∀z,D.atKey (.string p.1) z=.held p.2.val
 nodup:(vals.map (·.1)).Nodup
theorem pC.nil:pC (.map []) []:=⟨tidy_empty,fun x=>rfl,rfl,fun p hp=>by simp at hp,List.nodup_nil⟩
theorem pC.push{D:DataW Value}{vals:List (L×Obv)}(h:pC D vals)(x:L)(v:Obv)(hx:vals.any (fun p=>p.1==x)=false)(hk:WideAt.IsKeyLit (.string x)) :
 pC (D.put (.string x) (.held v.val)) (vals++[(x,v)]):=by
 have hne:∀p∈vals,p.1≠x:=fun p hp he=>by
  have:vals.any (fun p=>p.1==x)=true:=List.any_eq_true.2 ⟨p,hp,by simpa using he⟩;rw[hx] at this;cases this
 refine⟨h.tidy.put hk _,fun y=>?_,?_,fun p hp z=>?_,?_⟩
 ·by_cases hy:y=x
  ·subst hy;rw[has_put_same h.tidy.isMap hk];simp
  ·rw[has_put_other (by simpa using hy),h.has y,List.any_append];have:¬x=y:=fun h=>hy h.symm
   simp[this]
 ·rw[size_put h.tidy,h.has,hx];simp[h.size]
 ·rw[List.mem_append] at hp;rcases hp with hp|hp
  ·rw[atKey_put_other (by simpa using hne p hp)];exact h.at' p hp z
  ·simp only[List.mem_singleton] at hp;subst hp;exact atKey_put_same h.tidy.isMap hk _ _
 ·rw[List.map_append,List.nodup_append];refine⟨h.nodup,sI,fun a ha b hb=>?_⟩;obtain⟨p,hp,rfl⟩:=List.mem_map.1 ha;simp only[List.map_cons,List.map_nil,List.mem_singleton] at hb;subst hb;exact hne p hp
theorem aPL(x:L):WideAt.IsKeyLit (.string x):=trivial
structure aPM (s:ByteArray) (m:Int) (d r:Nat) (w:World) (T:Res (List (L×Ob)×L)) (wr:World) (a fuel:Nat) (acc:List (L×Ob)) (vals:List (L×Obv)) (D:DataW Value):Prop where
 ha:a<=s.size
 hr:aU wr r s a
 hB0:wr.heap[w.heap.size]?=some (.cells #[.int .i64 0,.int .i64 0,.int .i64 0,.string ⟨#[]⟩,.slice none 0 0,.slice none 0 0] 31 (0,0))
 hown:wr.ownsMap prog 9 obR (w.heap.size+1) acc.length D
 hmi:pC D vals
 hkeys:vals.map (·.1)=acc.map (·.1)
 hkids:bJ (fun b=>w.heap.size+2<=b) (d+1) wr (vals.map fun p=>aB p.2.k p.2.n p.2.g p.2.s (.slice p.2.p1 p.2.n1 p.2.c1) (.slice p.2.p2 p.2.n2 p.2.c2)) (acc.map (·.2))
 hbes:Bes r w wr
 hm:aF wr m
 hlen:acc.length<=8191
 hfu:s.size-a<fuel
 H:cQ (dM d) fuel (s.data.toList.drop a) acc=T
theorem jK{w w':World}{P:Program}{k:TypeId}{R:Value->Option (DataW Value×List MemPlace)}{b n r:Nat}{D:DataW Value}(h:w.ownsMap P k R b n D)(hs:Bes r w w')(hr:b≠r):w'.ownsMap P k R b n D :=
 h.kept (row:=some r) ⟨hs.os,hs.tape,hs.output,hs.size,fun k h1 h2=>hs.block k h1 q107⟩ (by simpa using hr)
structure bDV (s:ByteArray) (m:Int) (d r:Nat) (w:World) (wr:World) (a:Nat) (acc:List (L×Ob)) (vals:List (L×Obv)) (D:DataW Value):Prop where
 ha:a<=s.size
 hr:aU wr r s a
 hB0:wr.heap[w.heap.size]?=some (.cells #[.int .i64 0,.int .i64 0,.int .i64 0,.string ⟨#[]⟩,.slice none 0 0,.slice none 0 0] 31 (0,0))
 hown:wr.ownsMap prog 9 obR (w.heap.size+1) acc.length D
 hmi:pC D vals
 hkeys:vals.map (·.1)=acc.map (·.1)
 hkids:bJ (fun b=>w.heap.size+2<=b) (d+1) wr (vals.map fun p=>aB p.2.k p.2.n p.2.g p.2.s (.slice p.2.p1 p.2.n1 p.2.c1) (.slice p.2.p2 p.2.n2 p.2.c2)) (acc.map (·.2))
 hbes:Bes r w wr
 hm:aF wr m
 hlen:acc.length<=8191
theorem aPM.ended{s:ByteArray}{m:Int}{d r:Nat}{w:World}{T:Res (List (L×Ob)×L)}{wr:World}{a fuel:Nat}{acc:List (L×Ob)}{vals:List (L×Obv)}{D:DataW Value}
 (h:aPM s m d r w T wr a fuel acc vals D) (hrw:r<w.heap.size) {w1:World} {q:Nat} (hs1:Bes r wr w1) (hR:aU w1 r s q) (hq:q<=s.size):bDV s m d r w w1 q acc vals D:=by
 have l0:=h.hbes.size;have lm:=h.hown.lt;refine⟨hq,hR,?_,jK h.hown hs1 oM,h.hmi,h.hkeys,?_,h.hbes.trans hs1,h.hm.bes hs1 (h.hm.ne h.hr),h.hlen⟩
 ·rw[hs1.block _ oM oM];exact h.hB0
 ·exact h.hkids.grow (fun b h1 h2=>⟨h1,hs1.block b h2 oM⟩)
theorem nR{α β:Type}{l:List (L×α)}{l':List (L×β)}(h:l.map (·.1)=l'.map (·.1))(x:L):l.any (fun p=>p.1==x)=l'.any (fun p=>p.1==x):=by
 have e1:l.any (fun p=>p.1==x)=(l.map (·.1)).any (·==x):=by rw[List.any_map];rfl
 have e2:l'.any (fun p=>p.1==x)=(l'.map (·.1)).any (·==x):=by rw[List.any_map];rfl
 rw[e1,e2,h]
section
variable {f:Tok->L->Res (Ob×L)} {n:Nat} {l r r2 r3:L} {acc:List (L×Ob)} {t t2:Tok} {k:Int} {o:Ob}
theorem aPN(h:bE l=.bad k):cQ f (n+1) l acc=.bad k:=by rw[cQ,h]
theorem aPO(h:bE l=.good (t,r))(hw:(t.kind==6&&t.s==[62,62])=true):cQ f (n+1) l acc=.good (acc,r):=by
 rw[cQ,h];simp only[Bool.and_eq_true,beq_iff_eq] at hw;simp[hw]
theorem jL(h:bE l=.good (t,r))(hw:(t.kind==6&&t.s==[62,62])=false):cQ f (n+1) l acc =
 (if t.kind≠4 then .bad 3 else if(acc.any fun p=>p.1==t.s)=true then .bad 9 else if 8191<=acc.length then .bad 6 else
  match bE r with
  |.bad e=>.bad e
  |.good (t2,r2) =>
   match f t2 r2 with
   |.bad e=>.bad e
   |.good (o,r3)=>cQ f n r3 (acc++[(t.s,o)])):=by
 rw[cQ,h];have:¬(t.kind=6/\t.s=[62,62]):=q106;dsimp only;rw[bGU this];rfl
theorem aIB(h:bE l=.good (t,r))(hw:(t.kind==6&&t.s==[62,62])=false)(hk:t.kind≠4):cQ f (n+1) l acc=.bad 3:=by rw[jL h hw,bGV hk]
theorem aEK(h:bE l=.good (t,r))(hw:(t.kind==6&&t.s==[62,62])=false)(hk:t.kind=4)(ha:(acc.any fun p=>p.1==t.s)=true):cQ f (n+1) l acc=.bad 9:=by
 rw[jL h hw,bGU oM,bGV ha]
theorem aIC(h:bE l=.good (t,r))(hw:(t.kind==6&&t.s==[62,62])=false)(hk:t.kind=4)(ha:(acc.any fun p=>p.1==t.s)=false)(hl:8191<=acc.length):cQ f (n+1) l acc=.bad 6:=by
 rw[jL h hw,bGU oM,bGU (by simp[ha]),bGV hl]
theorem aID(h:bE l=.good (t,r))(hw:(t.kind==6&&t.s==[62,62])=false)(hk:t.kind=4)(ha:(acc.any fun p=>p.1==t.s)=false)(hl:¬8191<=acc.length)(h2:bE r=.bad k):cQ f (n+1) l acc=.bad k:=by
 rw[jL h hw,bGU oM,bGU (by simp[ha]),bGU hl,h2]
theorem aIE(h:bE l=.good (t,r))(hw:(t.kind==6&&t.s==[62,62])=false)(hk:t.kind=4)(ha:(acc.any fun p=>p.1==t.s)=false)(hl:¬8191<=acc.length)(h2:bE r=.good (t2,r2))(h3:f t2 r2=.bad k):cQ f (n+1) l acc=.bad k:=by
 exact q510
theorem aIF(h:bE l=.good (t,r))(hw:(t.kind==6&&t.s==[62,62])=false)(hk:t.kind=4)(ha:(acc.any fun p=>p.1==t.s)=false)(hl:¬8191<=acc.length)(h2:bE r=.good (t2,r2))(h3:f t2 r2=.good (o,r3)) :
 cQ f (n+1) l acc=cQ f n r3 (acc++[(t.s,o)]):=by
 exact q510
end
def yR(s:ByteArray)(d fuel r q:Nat)(x:L)(acc:List (L×Ob))(T:Res (List (L×Ob)×L))(w:World)(e:Ending)(w':World):Prop :=
 (∃k,e=.panicked [{ v:=.iface 233 (.int .i64 k),recovered:=false }]/\Hid (T=.bad k)/\Bes r w w') \/
 (∃(o:Ob) (p1:Option Addr) (n1 c1:Nat) (p2:Option Addr) (n2 c2 z:Nat),e=.returned (.agg #[.int .i64 o.kind,.int .i64 o.n,.int .i64 o.g,.string ⟨o.s.toArray⟩,.slice p1 n1 c1,.slice p2 n2 c2])/\z<=s.size/\q<=z /\
  Hid (cQ (dM d) fuel (s.data.toList.drop z) (acc++[(x,o)])=T)/\aI (fun b=>w.heap.size<=b) (d+1) w' (aB o.kind o.n o.g o.s (.slice p1 n1 c1) (.slice p2 n2 c2)) o/\aU w' r s z/\Bes r w w')
theorem aPP(s:ByteArray)(m:Int)(d fuel r a p q q0:Nat)(acc:List (L×Ob))(T:Res (List (L×Ob)×L))(HC:aDN s m d)(t t2:Tok)(hn:bE (s.data.toList.drop a)=.good (t,s.data.toList.drop q0))(hw:(t.kind==6&&t.s==[62,62])=false)
 (hk4:t.kind=4) (hany:(acc.any fun p=>p.1==t.s)=false) (hl:¬8191<=acc.length) (h2:bE (s.data.toList.drop q0)=.good (t2,s.data.toList.drop q))
 (hT:Hid (cQ (dM d) (fuel+1) (s.data.toList.drop a) acc=T)) (hq:q<=s.size) (hpq:p+t2.len=q) (hk:t2.kind≠0) (h6:t2.kind<=6) (h0:0<=t2.kind)
 (w:World) (hm:aF w m) (hr:aU w r s q) :
 Calls prog 123 #[.pointer (some ⟨r,0,none⟩),.agg #[.int .i64 t2.kind,.int .i64 p,.int .i64 q,.int .i64 t2.n,.string ⟨t2.s.toArray⟩],.int .i64 (24-(d:Int))] w (yR s d fuel r q t.s acc T w):=by
 refine(HC r q p t2 w hq hm hr hpq hk h6 h0).mono ?_;intro e w' h;unfold lC at h;cases hf:dM d t2 (s.data.toList.drop q) with
 |bad k =>
  rw[hf] at h;exact .inl ⟨k,h.1,Lh (hT.out.symm.trans (aIE hn hw hk4 hany hl h2 hf)),h.2⟩
 |good R =>
  obtain⟨o,aP⟩:=R;rw[hf] at h;obtain⟨cs,z,rfl,hz1,rfl,hO,hR,hB⟩:=h;obtain⟨p1,n1,c1,p2,n2,c2,rfl⟩:=hO.shape;have hsh:=dI _ _ _ _ _ hf;simp only[bGS,Array.length_toList,show s.data.size=s.size from rfl] at hsh;exact .inr ⟨o,p1,n1,c1,p2,n2,c2,z,rfl,hz1,oM,Lh ((aIF hn hw hk4 hany hl h2 hf).symm.trans hT.out),hO,hR,hB⟩
def aPQ(s:ByteArray)(m:Int)(d fuel r q:Nat)(x:L)(acc:List (L×Ob))(T:Res (List (L×Ob)×L))(w:World)(e:Ending)(w':World):Prop :=
 (∃k,e=.panicked [{ v:=.iface 233 (.int .i64 k),recovered:=false }]/\Hid (T=.bad k)/\Bes r w w') \/
 (∃(t2:Tok) (p2 q2:Nat),e=.returned (.agg #[.int .i64 t2.kind,.int .i64 p2,.int .i64 q2,.int .i64 t2.n,.string ⟨t2.s.toArray⟩])/\q<q2/\aU w' r s q2/\Bes r w w' /\
  Hid (∀W,aF W m->aU W r s q2->Calls prog 123 #[.pointer (some ⟨r,0,none⟩),.agg #[.int .i64 t2.kind,.int .i64 p2,.int .i64 q2,.int .i64 t2.n,.string ⟨t2.s.toArray⟩],.int .i64 (24-(d:Int))] W (yR s d fuel r q2 x acc T W)))
theorem aPR(s:ByteArray)(hs:s.size<=140737488355327)(m:Int)(d fuel r a q:Nat)(acc:List (L×Ob))(T:Res (List (L×Ob)×L))(HC:aDN s m d)(t:Tok)(hn:bE (s.data.toList.drop a)=.good (t,s.data.toList.drop q))(hw:(t.kind==6&&t.s==[62,62])=false)
 (hk4:t.kind=4) (hany:(acc.any fun p=>p.1==t.s)=false) (hl:¬8191<=acc.length) (hT:Hid (cQ (dM d) (fuel+1) (s.data.toList.drop a) acc=T)) (hq:q<=s.size)
 (w:World) (hm:aF w m) (hr:aU w r s q) :
 Calls prog 124 #[.pointer (some ⟨r,0,none⟩)] w (aPQ s m d fuel r q t.s acc T w):=by
 cases h2:bE (s.data.toList.drop q) with
 |bad k =>
  refine(oI r s q k hq hs m w hm hr h2).mono ?_;rintro e w' ⟨h1,h3⟩;exact .inl ⟨k,h1,Lh (hT.out.symm.trans (aID hn hw hk4 hany hl h2)),h3⟩
 |good tr =>
  obtain⟨t2,aP⟩:=tr;obtain⟨h1,hk,hrest⟩:=gS h2;obtain⟨g1,g2,g3,_⟩:=cW h1;obtain⟨g5,g6⟩:=bQ h2;obtain⟨p,hp⟩:=eX (q+(aM (s.data.toList.drop q)).1);refine(mH r s q p t2 hq hs m w hm hr h1 hk hp).mono ?_;rintro e w' ⟨e1,e2,e3⟩;simp only[bGS,Array.length_toList,show s.data.size=s.size from rfl] at g1;have hq2:p+t2.len<=s.size:=oM;rw[List.drop_drop,<-bHM,hp] at hrest;subst hrest;have hqa:q<p+t2.len:=q109;exact .inr ⟨t2,p,p+t2.len,e1,hqa,e2,e3,Lh (fun W hW hR=>aPP s m d fuel r a p (p+t2.len) q acc T HC t t2 hn hw hk4 hany hl h2 hT hq2 rfl hk g3 g2 W hW hR)⟩
theorem aPM.step{s:ByteArray}{m:Int}{d r:Nat}{w:World}{T:Res (List (L×Ob)×L)}{wr:World}{a fuel:Nat}{acc:List (L×Ob)}{vals:List (L×Obv)}{D:DataW Value}
 (h:aPM s m d r w T wr a (fuel+1) acc vals D) (hrw:r<w.heap.size) {w1 w4 w5:World} {x:L} {o:Ob} {p1:Option Addr} {n1 c1:Nat} {p2:Option Addr} {n2 c2 z:Nat}
 (hs1:Bes r wr w1) (hs4:Bes r w1 w4) (hO:aI (fun b=>w1.heap.size<=b) (d+1) w4 (aB o.kind o.n o.g o.s (.slice p1 n1 c1) (.slice p2 n2 c2)) o) (hR4:aU w4 r s z) (hz:z<=s.size) (haz:a<z) (hl9:¬8191<=acc.length)
 (hany:(acc.any fun p=>p.1==x)=false) (hown5:w5.ownsMap prog 9 obR (w.heap.size+1) (acc.length+1) (D.put (.string x) (.held (Obv.val ⟨o.kind,o.n,o.g,o.s,p1,n1,c1,p2,n2,c2⟩))))
 (hg:w4.grownBy w5 (some (w.heap.size+1))) (HX:cQ (dM d) fuel (s.data.toList.drop z) (acc++[(x,o)])=T) :
 aPM s m d r w T w5 z fuel (acc++[(x,o)]) (vals++[(x,⟨o.kind,o.n,o.g,o.s,p1,n1,c1,p2,n2,c2⟩)]) (D.put (.string x) (.held (Obv.val ⟨o.kind,o.n,o.g,o.s,p1,n1,c1,p2,n2,c2⟩))):=by
 have l0:=h.hbes.size;have l1:=hs1.size;have l4:=hs4.size;have lm:=h.hown.lt;have hne:r≠w.heap.size+1:=oM;have keep:∀b,b<w4.heap.size->b≠w.heap.size+1->w5.heap[b]?=w4.heap[b]?:=fun b hb hb2=>hg.block b hb (by simpa using hb2)
 have hmx:aF w4 m:=(h.hm.bes hs1 (h.hm.ne h.hr)).bes hs4 (h.hm.ne h.hr);refine⟨hz,?_,?_,by simpa using hown5,?_,?_,?_,?_,?_,sO,?_,HX⟩
 ·show w5.heap[r]?=_
  rw[keep r oM hne];exact hR4
 ·rw[keep _ oM oM,hs4.block _ oM oM,hs1.block _ oM oM];exact h.hB0
 ·exact h.hmi.push x _ ((nR h.hkeys x).trans hany) (aPL x)
 ·simp[h.hkeys]
 ·rw[List.map_append,List.map_append];refine bJ.push ?_ rfl ?_
  ·refine h.hkids.grow (fun b h1 h2=>⟨h1,?_⟩);rw[keep b oM oM,hs4.block b oM oM,hs1.block b h2 oM]
  ·exact hO.grow (fun b h1 h2=>⟨oM,keep b h2 oM⟩)
 ·have h4:=(h.hbes.trans hs1).trans hs4;exact⟨hg.os.trans h4.os,hg.tape.trans h4.tape,hg.output.trans h4.output,by have:=hg.size;omega,fun b h1 h2=>(keep b oM oM).trans (h4.block b h1 h2)⟩
 ·have:=aF.lt hmx;unfold aF at *
  rw[bGO (a:=⟨1,0,none⟩) (keep 1 this oM)];exact hmx
 ·have:=h.hfu;omega
open Go.RowKit Fo Go.Maps
theorem Tryz.infoStr:(prog.info? 9).map (fun i=>(i.zero,i.size,i.bytes))=some (some (.string ⟨#[]⟩),1,16):=kR
def nS(w:World)(B:Nat)(v:Value)(ss:List L):Prop:=w.ownsRow B 9 1 v ss.length (ss.map encStr)
theorem aVX(w:World)(B:Nat):nS w B (.slice none 0 0) []:=⟨sI,.inl ⟨rfl,rfl⟩⟩
theorem aIG{w:World}{B:Nat}{v:Value}{ss:List L}(h:nS w B v ss)(o:Go.Obj):nS (w.alloc o) B v ss:=World.ownsRow.alloc h o
theorem bAY{ops:Array Oper}{aP:List Oper}{o:Oper}{a:Act}{Q:Exit->Act->World->Prop}{w:World}(hgd:o.guard=none)(s x:Operand)
 (ho:o.op=.call { callee:=.builtin .append,args:=#[s,x],argTypes:=#[28,28] })
 (B:Nat) (v:Value) (ss:List L) (y:L) (hown:nS w B v ss) (hs:a.eval s=v)
 (gx:Nat) (hx:a.eval x=.slice (some ⟨gx,0,none⟩) 1 1) (hgx:w.heap.size=gx) (hlen:ss.length<=100000) (hB:B<=w.heap.size)
 (h:∀p c w',nS w' B (.slice p (ss.length+1) c) (ss++[y])->Below B w w'->w.heap.size<w'.heap.size->wpList prog ops Q aP (a.put o.dst (.slice p (ss.length+1) c)) w') :
 wpList prog ops Q (o::aP) a (w.alloc (.cells #[.string ⟨y.toArray⟩] 9)):=by
 subst hgx;obtain⟨i0,hi,hz0,hz1,hz2⟩:=info_parts Tryz.infoStr;refine wpList_append_own _ hgd s x 28 ho B 9 i0 (.string ⟨#[]⟩) 1 16 underlying28 hi hz0 hz1 hz2 rfl dC v ss.length _ hs (hown.alloc _) ⟨w.heap.size,0,none⟩ 1 1 [.string ⟨y.toArray⟩] hx rfl ?_ ?_ ?_ ?_ ?_ ?_
 ·exact q398
 ·intro u hu;simp at hu;subst hu;rfl
 ·exact q542
 ·omega
 ·simp;omega
 ·intro v' w' hown' hg _;obtain⟨p,c,rfl⟩:=cY hown';refine h p c w' ?_ (((bGL B w).alloc hB _).trans ((bGL B _).grown hg sO (aK hown))) q13;unfold nS;simpa using hown'
def fH(vals:List (L×Obv))(x:L):Bool:=vals.any fun p=>p.1==x&&p.2.k !=0
theorem aVY{D:DataW Value}{vals:List (L×Obv)}(h:pC D vals){x:L}{c:Obv}(hh:Maps.has D (.string x)=true)(hat:∀z,D.atKey (.string x) z=.held c.val):fH vals x=(c.k !=0)/\(x,c)∈vals:=by
 rw[h.has] at hh;obtain⟨p,hp,hpx⟩:=List.any_eq_true.1 hh;have hpx':p.1=x:=by simpa using hpx
 have h1:=h.at' p hp .nil;rw[hpx',hat] at h1;have h2:c.val=p.2.val:=q37;have h3:c=p.2:=by
  unfold Obv.val at h2;cases c;cases hpp:p.2;rw[hpp] at h2;simp at h2 ⊢;obtain⟨a1,a2,a3,a4,⟨a5,a6,a7⟩,a8,a9,a10⟩:=h2;exact⟨a1,a2,a3,a4,a5,a6,a7,a8,a9,a10⟩
 refine⟨?_,by rw[h3,<-hpx'];exact hp⟩;unfold fH;cases hk:(c.k !=0)
 ·rw[List.any_eq_false];intro q hq;by_cases hqx:q.1=x
  ·have:q=p := by
    have hn:=h.nodup;obtain⟨i,hi,rfl⟩:=List.mem_iff_getElem.1 hq;obtain⟨j,hj,rfl⟩:=List.mem_iff_getElem.1 hp;by_cases hij:i=j
    ·subst hij;rfl
    ·exfalso
     have hne:=List.pairwise_iff_getElem.1 hn;rcases Nat.lt_or_gt_of_ne hij with h|h
     ·exact hne i j q22 q14 h (by simp[hqx,hpx'])
     ·exact hne j i q14 q22 h (by simp[hqx,hpx'])
   subst this;rw[<-h3];simp[hk]
  ·simp[hqx]
 ·exact List.any_eq_true.2 ⟨p,hp,by rw[<-h3];simp[hpx',hk]⟩
theorem aPS{P:Program}{k:TypeId}{R:Value->Option (DataW Value×List MemPlace)}{w w':World}{b r n:Nat}{D:DataW Value}{left:Lit->Bool}{cnt:Nat}(h:w.ranges P k R b r n D left cnt)
 (hb:w'.heap[b]?=w.heap[b]?) (hr:w'.heap[r]?=w.heap[r]?):w'.ranges P k R b r n D left cnt:=by
 obtain⟨es,clock,since,seen,c0,h1,F,hs,hD,h2,aP⟩:=h;exact⟨es,clock,since,seen,c0,hb.trans h1,F,hs,hD,hr.trans h2,aP⟩
structure aEL (wc:World) (bm n:Nat) (vals:List (L×Obv)) (D:DataW Value) (wr:World) (left:Lit->Bool) (cnt:Nat) (sa:List L) (v:Value):Prop where
 hbm:bm<wc.heap.size
 hrg:wr.ranges prog 9 obR bm (wc.heap.size+1) n D left cnt
 hC:Collected D left sa
 hob:wr.heap[wc.heap.size]?=some (.cells #[.int .i64 7,.int .i64 0,.int .i64 0,.string ⟨#[]⟩,v,.slice none 0 0] 31 (0,0))
 hown:nS wr (wc.heap.size+2) v (sa.filter (fH vals))
 hb:Below wc.heap.size wc wr
 hcnt:sa.length+cnt<=Maps.size D
theorem aEL.skip{wc:World}{bm n:Nat}{vals:List (L×Obv)}{D:DataW Value}{wr w2:World}{left:Lit->Bool}{cnt cnt2:Nat}{sa:List L}{v:Value}{x:L}{c:Obv}(h:aEL wc bm n vals D wr left cnt sa v)
 (hlk:left (.string x)=true) (hat:∀zd,D.atKey (.string x) zd=.held c.val) (hrg2:w2.ranges prog 9 obR bm (wc.heap.size+1) n D (fun z=>left z&&!z.sameKey (.string x)) cnt2) (hlt:cnt2<cnt) (hg2:wr.grownBy w2 (some (wc.heap.size+1)))
 (hk:fH vals x=false) (o:Go.Obj):aEL wc bm n vals D (w2.alloc o) (fun z=>left z&&!z.sameKey (.string x)) cnt2 (sa++[x]) v:=by
 have l1:=h.hrg.lt;have l2:=hg2.size;have hbk:∀k,k<wc.heap.size+1->w2.heap[k]?=wr.heap[k]?:=fun k hk=>hg2.block k oM sO
 refine⟨h.hbm,hrg2.alloc o,h.hC.step hlk hat,?_,?_,?_,by have:=h.hcnt;simp;omega⟩
 ·rw[bGM _ _ _ oM,hbk _ oM];exact h.hob
 ·rw[List.filter_append];have:[x].filter (fH vals)=[]:=q102;rw[this,List.append_nil];have hne:=aK h.hown;exact(World.ownsRow.kept h.hown hg2 (.inr (by intro h;have:=hne _ h;omega))).alloc o
 ·have hs:=h.hb.size;exact⟨hg2.os.trans h.hb.os,hg2.tape.trans h.hb.tape,hg2.output.trans h.hb.output,sO,fun k hk=>by
   rw[bGM _ _ _ oM,hbk k oM];exact h.hb.block k hk⟩
theorem aEL.push{wc:World}{bm n:Nat}{vals:List (L×Obv)}{D:DataW Value}{wr w2 wz:World}{left:Lit->Bool}{cnt cnt2:Nat}{sa:List L}{v v':Value}{x:L}{c:Obv}(h:aEL wc bm n vals D wr left cnt sa v)
 (hlk:left (.string x)=true) (hat:∀zd,D.atKey (.string x) zd=.held c.val) (hrg2:w2.ranges prog 9 obR bm (wc.heap.size+1) n D (fun z=>left z&&!z.sameKey (.string x)) cnt2) (hlt:cnt2<cnt) (hg2:wr.grownBy w2 (some (wc.heap.size+1)))
 (hk:fH vals x=true) (o:Go.Obj) (hbz:Below (wc.heap.size+2) (w2.alloc o) wz) (hown:nS wz (wc.heap.size+2) v' (sa.filter (fH vals)++[x])) :
 aEL wc bm n vals D (wz.setCell ⟨wc.heap.size,4,none⟩ v') (fun z=>left z&&!z.sameKey (.string x)) cnt2 (sa++[x]) v':=by
 have l1:=h.hrg.lt;have l2:=hg2.size;have l3:=hbz.size;simp at l3;have hbk:∀k,k<wc.heap.size+1->w2.heap[k]?=wr.heap[k]?:=fun k hk=>hg2.block k oM sO
 have hbk2:∀k,k<wc.heap.size+2->wz.heap[k]?=w2.heap[k]?:=fun k hk=>(hbz.block k hk).trans (bGM _ _ _ oM)
 have hset:∀k,k≠wc.heap.size->(wz.setCell ⟨wc.heap.size,4,none⟩ v').heap[k]?=wz.heap[k]?:=fun k hk=>bGK _ _ _ _ hk
 have hbm:=h.hbm;refine⟨hbm,aPS hrg2 ?_ ?_,h.hC.step hlk hat,?_,?_,?_,by have:=h.hcnt;simp;omega⟩
 ·rw[hset _ oM,hbk2 _ oM]
 ·rw[hset _ oM,hbk2 _ oM]
 ·refine vC (v4:=v) ?_;rw[hbk2 _ oM,hbk _ oM];exact h.hob
 ·rw[List.filter_append];have:[x].filter (fH vals)=[x]:=q102;rw[this];have hne:=aK hown;refine World.ownsRow.kept hown (row:=some wc.heap.size) ⟨rfl,rfl,rfl,q18,fun k h1 h2=>hset k q107⟩ (.inr (by intro h;have:=hne _ h;omega))
 ·have hs:=h.hb.size;exact⟨hbz.os.trans (hg2.os.trans h.hb.os),hbz.tape.trans (hg2.tape.trans h.hb.tape),hbz.output.trans (hg2.output.trans h.hb.output),q128,fun k hk=>by
   rw[hset k oM,hbk2 k oM,hbk k oM];exact h.hb.block k hk⟩
theorem mL(l:List L):(mX l).length=l.length:=(gT l).length_eq
theorem bAZ(B:Nat)(v:Value)(ss:List L)(w:World)(h:nS w B v ss)(hB:B<=w.heap.size)(hl:ss.length<=100000) :
 Calls prog 213 #[v] w fun e w'=>e=.returned (.tuple #[])/\nS w' B v (mX ss)/\Below B w w':=by
 rcases h.2 with⟨h1,h2⟩|⟨g,cap,cur,rfl,hbase,hb,h1,h2,h3,h4⟩
 ·have:ss=[]:=bHI h2;subst this;subst h1;refine(Tryz.slices_Sort_string_none none 0 w).mono ?_;rintro e w' ⟨rfl,rfl⟩;exact⟨rfl,h,bGL _ _⟩
 ·refine(Tryz.slices_Sort_string g 0 cap ss w (holds_of_block hb (by simpa using h4)) (Array.getElem?_eq_some_iff.1 hb).1 oM).mono ?_;rintro e w' ⟨rfl,n,os,rfl⟩;refine⟨rfl,?_,(bGL B w).grown (grownBy_sorted _) hB (by intro k hk;cases hk;exact hbase)⟩;have hm:ss.mergeSort (fun x y=>decide (x<=y))=mX ss:=aDJ ss ss (List.Perm.refl _);rw[hm];have:=ownsRow_sorted (n:=n) (os:=os) (mL ss) hbase hb h1 h2 h3;unfold nS;rw[mL];exact this
theorem bBA{ops:Array Oper}{aP:List Oper}{o:Oper}{a:Act}{Q:Exit->Act->World->Prop}{w:World}(hgd:o.guard=none)(s x:Operand)
 (ho:o.op=.call { callee:=.builtin .append,args:=#[s,x],argTypes:=#[29,29] })
 (B n:Nat) (v:Value) (xs:List Value) (c:Obv) (hown:w.ownsRow B 31 6 v n xs) (hs:a.eval s=v)
 (gx:Nat) (hx:a.eval x=.slice (some ⟨gx,0,none⟩) 1 1) (hgx:w.heap.size=gx) (hlen:n<=100000) (hB:B<=w.heap.size)
 (h:∀g cap w',w'.ownsRow B 31 6 (.slice (some ⟨g,0,none⟩) (n+1) cap) (n+1) (xs++aB c.k c.n c.g c.s (.slice c.p1 c.n1 c.c1) (.slice c.p2 c.n2 c.c2)) ->
  (w.alloc (.cells #[.int .i64 c.k,.int .i64 c.n,.int .i64 c.g,.string ⟨c.s.toArray⟩,.slice c.p1 c.n1 c.c1,.slice c.p2 c.n2 c.c2] 31)).grownBy w' v.ownBlock->(v.ownBlock=some g\/g=w.heap.size+1)->g<w'.heap.size ->
  wpList prog ops Q aP (a.put o.dst (.slice (some ⟨g,0,none⟩) (n+1) cap)) w') :
 wpList prog ops Q (o::aP) a (w.alloc (.cells #[.int .i64 c.k,.int .i64 c.n,.int .i64 c.g,.string ⟨c.s.toArray⟩,.slice c.p1 c.n1 c.c1,.slice c.p2 c.n2 c.c2] 31)):=by
 subst hgx;obtain⟨i0,hi,hz0,hz1,hz2⟩:=info_parts Tryz.infoOb;refine wpList_append_lies _ hgd s x 29 ho B 31 i0 _ 6 88 underlying29 hi hz0 hz1 hz2 rfl oM v n xs hs (hown.alloc _) ⟨w.heap.size,0,none⟩ 1 1
  (aB c.k c.n c.g c.s (.slice c.p1 c.n1 c.c1) (.slice c.p2 c.n2 c.c2)) hx rfl (World.news_of_block (cs:=#[.int .i64 c.k,.int .i64 c.n,.int .i64 c.g,.string ⟨c.s.toArray⟩,.slice c.p1 c.n1 c.c1,.slice c.p2 c.n2 c.c2]) (t:=31) (fr:=(0,0)) (bGP w _))
  ?_ oM q26 oM sO (w.heap.size+1) sI h
 exact q519
def gU(c:Obv):List Value:=aB c.k c.n c.g c.s (.slice c.p1 c.n1 c.c1) (.slice c.p2 c.n2 c.c2)
def bFG:Obv:=⟨0,0,0,[],none,0,0,none,0,0⟩
def nT(vals:List (L×Obv))(x:L):Obv:=((vals.find? fun p=>p.1==x).map (·.2)).getD bFG
theorem oN{vals:List (L×Obv)}(h:(vals.map (·.1)).Nodup){x:L}{c:Obv}(hm:(x,c)∈vals):nT vals x=c:=by
 induction vals with
 |nil=>cases hm
 |cons y ps ih =>
  rw[List.map_cons,List.nodup_cons] at h;rcases List.mem_cons.1 hm with rfl|hm'
  ·simp[nT]
  ·have:y.1≠x := by
    intro he;apply h.1;rw[he];exact List.mem_map.2 ⟨(x,c),hm',rfl⟩
   have:=ih h.2 hm';unfold nT at *
   rw[List.find?_cons_of_neg (by simpa using ‹y.1≠x›)];exact this
structure aPT (wo:World) (bm n:Nat) (vals:List (L×Obv)) (D:DataW Value) (ks:List L) (v:Value) (wr:World) (k:Nat) (kv:Value):Prop where
 hbm:bm<wo.heap.size
 hk:k<=ks.length
 hown:wr.ownsMap prog 9 obR bm n D
 hob:wr.heap[wo.heap.size]?=some (.cells #[.int .i64 7,.int .i64 0,.int .i64 0,.string ⟨#[]⟩,v,kv] 31 (0,0))
 hkeys:nS wr (wo.heap.size+2) v ks
 hrow:wr.ownsRow (wo.heap.size+2) 31 6 kv k (((ks.take k).map fun x=>gU (nT vals x)).flatten)
 hne:∀b,v.ownBlock=some b->kv.ownBlock≠some b
 hb:Below wo.heap.size wo wr
theorem aPT.step{wo:World}{bm n:Nat}{vals:List (L×Obv)}{D:DataW Value}{ks:List L}{v:Value}{wr:World}{k:Nat}{kv:Value}(h:aPT wo bm n vals D ks v wr k kv)(hk:k<ks.length){wz:World}{g cap:Nat}{o:Go.Obj}{c:Obv}
 (hc:nT vals (ks.getD k [])=c)
 (hown:wz.ownsRow (wo.heap.size+2) 31 6 (.slice (some ⟨g,0,none⟩) (k+1) cap) (k+1) (((ks.take k).map fun x=>gU (nT vals x)).flatten++gU c))
 (hg:(wr.alloc o).grownBy wz kv.ownBlock) (hat:kv.ownBlock=some g\/g=wr.heap.size+1) :
 aPT wo bm n vals D ks v (wz.setCell ⟨wo.heap.size,5,none⟩ (.slice (some ⟨g,0,none⟩) (k+1) cap)) (k+1) (.slice (some ⟨g,0,none⟩) (k+1) cap):=by
 have hlo:=aK h.hrow;have hlt:wo.heap.size<wr.heap.size:=bGJ h.hob;have hgs:=hg.size;simp at hgs;have keep:∀b,b<wr.heap.size->kv.ownBlock≠some b->wz.heap[b]?=wr.heap[b]?:=fun b h1 h2=>(hg.block b sO (Ne.symm h2)).trans (bGM _ _ _ h1)
 have nlow:∀b,b<wo.heap.size+2->kv.ownBlock≠some b:=fun b h1 h2=>by have:=hlo b h2;omega
 have hset:∀b,b≠wo.heap.size->(wz.setCell ⟨wo.heap.size,5,none⟩ (.slice (some ⟨g,0,none⟩) (k+1) cap)).heap[b]?=wz.heap[b]?:=fun b hb=>bGK _ _ _ _ hb
 have hgb:wz.grownBy (wz.setCell ⟨wo.heap.size,5,none⟩ (.slice (some ⟨g,0,none⟩) (k+1) cap)) (some wo.heap.size):=⟨rfl,rfl,rfl,q18,fun b h1 h2=>hset b q107⟩;have hbm:=h.hbm;have hloK:=aK h.hkeys;refine⟨hbm,hk,?_,?_,?_,?_,?_,?_⟩
 ·obtain⟨es,clock,h1,F,h2,h3⟩:=h.hown;exact⟨es,clock,by rw[hset _ oM,keep _ oM (nlow _ oM)];exact h1,F,h2,h3⟩
 ·refine sA (v5:=kv) ?_;rw[keep _ oM (nlow _ oM)];exact h.hob
 ·have h1:nS wz (wo.heap.size+2) v ks := by
   refine World.ownsRow.kept (World.ownsRow.alloc h.hkeys o) hg ?_;cases hv:v.ownBlock with
   |none=>exact .inl rfl
   |some b=>exact .inr (fun e=>h.hne b hv e.symm)
  exact World.ownsRow.kept h1 hgb (.inr (by intro e;have:=hloK _ e;omega))
 ·have hgl:=aK hown;have:(ks.take (k+1)).map (fun x=>gU (nT vals x))=(ks.take k).map (fun x=>gU (nT vals x))++[gU c]:=by
   rw[List.take_succ_eq_append_getElem hk,List.map_append,<-hc];simp[List.getD,hk]
  rw[this,List.flatten_append];have h2:=World.ownsRow.kept hown hgb (.inr (by intro e;have:=hgl _ e;omega));simpa using h2
 ·intro b hv;rcases hat with h1|h1
  ·intro e;simp[Value.ownBlock] at e;exact h.hne b hv (by rw[h1,e])
  ·intro e;simp[Value.ownBlock] at e;have:=(World.ownsRow.lt h.hkeys b hv).2;omega
 ·have hs:=h.hb.size;exact⟨hg.os.trans h.hb.os,hg.tape.trans h.hb.tape,hg.output.trans h.hb.output,q128,fun b hb=>by
   rw[hset b oM,keep b oM (nlow b oM)];exact h.hb.block b hb⟩
theorem aVZ{c:Obv}{o:Ob}{S:Nat->Prop}{d:Nat}{w:World}(h:aI S d w (gU c) o):c.k=o.kind:=by
 obtain⟨p1,n1,c1,p2,n2,c2,e⟩:=h.shape;unfold gU aB at e;simp at e;exact e.1
theorem tF{S:Nat->Prop}{d:Nat}{w:World}{vals:List (L×Obv)}{acc:List (L×Ob)}(hkeys:vals.map (·.1)=acc.map (·.1))(hkids:bJ S d w (vals.map fun p=>gU p.2) (acc.map (·.2))){x:L}{o:Ob}(hm:(x,o)∈acc) :
 ∃c,(x,c)∈vals/\aI S d w (gU c) o:=by
 obtain⟨i,hi,he⟩:=List.mem_iff_getElem.1 hm;have hl:vals.length=acc.length:=by have:=congrArg List.length hkeys;simpa using this
 have hi2:i<vals.length:=oM;have hk:vals[i].1=x:=by
  have h1:(vals.map (·.1))[i]?=(acc.map (·.1))[i]?:=by rw[hkeys]
  simp[hi,hi2,he] at h1;exact h1
 refine⟨vals[i].2,?_,?_⟩
 ·rw[<-hk];exact bGG hi2
 ·exact(hkids.2 i (gU vals[i].2) o (by simp[hi2]) (by simp[hi,he])).2
theorem aPU{vals:List (L×Obv)}(hn:(vals.map (·.1)).Nodup){x:L}{c:Obv}(hm:(x,c)∈vals):fH vals x=(c.k !=0):=by
 unfold fH;cases hk:(c.k !=0)
 ·rw[List.any_eq_false];intro q hq;by_cases hqx:q.1=x
  ·have h1:=oN hn hm;have h2:=oN hn (x:=x) (c:=q.2) (by rw[<-hqx];exact hq);rw[h1] at h2;rw[<-h2];simp[hk]
  ·simp[hqx]
 ·exact List.any_eq_true.2 ⟨(x,c),hm,q102⟩
theorem aPV{S:Nat->Prop}{d:Nat}{w:World}{vals:List (L×Obv)}{acc:List (L×Ob)}{D:DataW Value}{n b:Nat}(hown:w.ownsMap prog 9 obR b n D)(hmi:pC D vals)(hkeys:vals.map (·.1)=acc.map (·.1))
 (hkids:bJ S d w (vals.map fun p=>gU p.2) (acc.map (·.2))) {sa:List L} (hP:sa.Perm (strKeys D)):(sa.filter (fH vals)).Perm ((acc.filter fun p=>p.2.kind !=0).map (·.1)):=by
 obtain⟨es,hD,hpw,_⟩:=hown.entries Tryz.keyed;obtain⟨es',hD',hko⟩:=hown.keysOf;obtain rfl:es=es':=by rw[hD] at hD';simpa using hD'
 have h1:(acc.map (·.1)).Perm (strKeys D):=by
  rw[hD];refine perm_strKeys hpw (fun p hp=>by obtain⟨v,hv⟩:=hko p hp;obtain⟨x,_,hx,_⟩:=Maps.keyOf_str underlying9 hv;exact⟨x,hx⟩) (hkeys▸hmi.nodup) (fun x=>?_);rw[<-hD,hmi.has,nR hkeys,List.any_eq_true,List.mem_map];exact⟨fun⟨p,h1,h2⟩=>⟨p,h1,q97⟩,fun⟨p,h1,h2⟩=>⟨p,h1,q97⟩⟩
 have h2:=(hP.trans h1.symm).filter (fH vals);rw[List.filter_map] at h2;refine h2.trans ?_;have h3:acc.filter (fH vals∘(·.1))=acc.filter fun p=>p.2.kind !=0:=by
  apply List.filter_congr
  intro p hp;obtain⟨c,hc,hO⟩:=tF hkeys hkids (x:=p.1) (o:=p.2) hp;show fH vals p.1=_
  rw[aPU hmi.nodup hc,aVZ hO]
 rw[h3]
theorem aIH{S:Nat->Prop}{w:World}{B:Nat}{v:Value}{ks:List L}(h:nS w B v ks)(hS:∀b,B<=b->S b):cU S w v ks:=by
 rcases h.2 with⟨h1,h2⟩|⟨g,cap,cur,h1,h2,h3⟩
 ·exact q551
 ·refine .inr ⟨g,0,cap,h1,hS g h2,fun i hi=>?_⟩;have:=World.ownsRow.cellAt (g:=g) (cap:=cap) (by rw[<-h1];exact h) i oM;rw[show 0+i=i from oM,this];simp[hi]
theorem aWA{s:ByteArray}{m:Int}{d r:Nat}{w wo wr:World}{a n:Nat}{acc:List (L×Ob)}{vals:List (L×Obv)}{D:DataW Value}(hE:bDV s m d r w wo a acc vals D){sa ks:List L}{v kv:Value}(hP:sa.Perm (strKeys D))(hks:mX (sa.filter (fH vals))=ks)
 (hI:aPT wo (w.heap.size+1) n vals D ks v wr ks.length kv):aI (fun b=>w.heap.size+1<=b) (d+2) wr (aB 7 0 0 [] v kv) (pJ acc):=by
 have hw:=hE.hown.lt;have hkeq:mX ((acc.filter fun p=>p.2.kind !=0).map (·.1))=ks:=by
  rw[<-hks];have hp:=aPV (d:=d+1) hE.hown hE.hmi hE.hkeys hE.hkids hP;exact(pB (hp.symm.trans (gT _).symm) (mI _)).symm
 have hnda:(acc.map (·.1)).Nodup:=hE.hkeys▸hE.hmi.nodup;have hmem:∀x∈ks,∃o,(x,o)∈acc:=by
  intro x hx;rw[<-hkeq] at hx;have:=(gT _).mem_iff.1 hx;obtain⟨p,hp,rfl⟩:=List.mem_map.1 this;exact⟨p.2,(List.mem_filter.1 hp).1⟩
 have hkids:bJ (fun b=>w.heap.size+1<=b/\b<wo.heap.size) (d+1) wr (ks.map fun x=>gU (nT vals x)) (ks.map fun k=>((acc.find? fun p=>p.1==k).map (·.2)).getD .zero):=by
  refine⟨sI,fun i cs o h1 h2=>?_⟩;rw[List.getElem?_map] at h1 h2;cases hx:ks[i]? with
  |none=>rw[hx] at h1;cases h1
  |some x =>
   rw[hx] at h1 h2;simp only[Option.map_some,Option.some.injEq] at h1 h2;obtain⟨o',ho⟩:=hmem x (bHG hx);obtain⟨c,hc,hO⟩:=tF hE.hkeys hE.hkids ho;have e1:nT vals x=c:=oN hE.hmi.nodup hc;have e2:acc.find? (fun p=>p.1==x)=some (x,o'):=yJ hnda ho;rw[e2] at h2;rw[e1] at h1;simp at h2;subst h1;subst h2;refine⟨rfl,hO.grow (fun b hb1 hb2=>⟨⟨oM,hb2⟩,hI.hb.block b hb2⟩)⟩
 have hrow:=hI.hrow;rw[bHC (bGB _)] at hrow;have hlen:(ks.map fun k=>((acc.find? fun p=>p.1==k).map (·.2)).getD Ob.zero).length=ks.length:=sI;rw[<-hlen] at hrow;have hk2:=uM (S':=fun b=>w.heap.size+1<=b) hrow hkids (fun b hb=>hb.1) (fun b hb=>oM);unfold pJ;rw[hkeq];exact⟨_,_,rfl,aIH hI.hkeys (fun b hb=>oM),hk2⟩
theorem aAW(w:World):(zeroValue 31).run prog w=.ok (Obv.val ⟨0,0,0,[],none,0,0,none,0,0⟩) w:=kR
theorem bBB(s:ByteArray)(m:Int)(d:Nat)(hs:s.size<=140737488355327)(hd:d<=24)(HO:aDN s m d):aVD s m d:=by
 intro r a0 w ha0 hm0 hr0;have hlt:=hr0.lt;obtain⟨T,hT⟩:=eX (cQ (dM d) ((s.data.toList.drop a0).length+1) (s.data.toList.drop a0) []);rw[hT];have HT:=Lh hT;clear hT;have HC:=Lh HO;clear HO;have hmm:=@run_makeMap prog;go_enter func172,ntmps172
 go_upto_block 0 with fail
 go_cut [] (fun wx=>∃(a:Nat) (acc:List (L×Ob)) (vals:List (L×Obv)) (D:DataW Value),bDV s m d r w wx a acc vals D/\Hid (T=.good (acc,s.data.toList.drop a)))
 case first =>
  go_wp2_with fail;go_loopw [6] (fun _ wr=>∃(a fuel:Nat) (acc:List (L×Ob)) (vals:List (L×Obv)) (D:DataW Value),aPM s m d r w T wr a fuel acc vals D) (fun _ wr=>s.size-tE wr r)
  case atStart =>
   refine⟨a0,_,[],[],.map [],ha0,hr0.below bel,(bGM _ _ _ sI).trans (aA _ _ _ rfl),?_,pC.nil,rfl,bJ.nil,q95,hm0.below bel,sI,?_,HT.out⟩
   ·have:=World.ownsMap_made (H:=Value) (w.alloc (.cells #[.int .i64 0,.int .i64 0,.int .i64 0,.string ⟨#[]⟩,.slice none 0 0,.slice none 0 0] 31)) prog 9 obR;simpa using this
   ·simp
  case round =>
   obtain⟨a,fuel,acc,vals,D,hI⟩:=hrel;clear HT;have ha:=hI.ha;have hr:=hI.hr;have hm:=hI.hm;have ltr:=hr.lt;have HPOS:=hr.pos;have ltB:w.heap.size+1<wr.heap.size:=hI.hown.lt;obtain⟨fuel,rfl⟩:∃f,fuel=f+1:=⟨fuel-1,by have:=hI.hfu;omega⟩
   cases hn:bE (s.data.toList.drop a) with
   |bad k =>
    have HX:=Lh (hI.H.symm.trans (aPN hn));have HN:=Lh (oI r s a k ha hs m wr hm hr hn);have hbes:=hI.hbes;clear hn;exact q441
   |good tr =>
    obtain⟨t,aP⟩:=tr;obtain⟨h1,hk,hrest⟩:=gS hn;obtain⟨g1,g2,g3,_⟩:=cW h1;obtain⟨g5,g6⟩:=bQ hn;obtain⟨p,hp⟩:=eX (a+(aM (s.data.toList.drop a)).1);have HN:=Lh (mH r s a p t ha hs m wr hm hr h1 hk hp);simp only[bGS,Array.length_toList,show s.data.size=s.size from rfl] at g1;have hq:p+t.len<=s.size:=oM;rw[List.drop_drop,<-bHM,hp] at hrest;subst hrest;have hqa:a<p+t.len:=q109;obtain⟨q,hq'⟩:=eX (p+t.len);rw[hq'] at hq hqa hn;unfold tkV at HN;rw[hq'] at HN;have hsh:=aEJ h1;clear g1 g5 h1 hp;have neB0:w.heap.size≠r:=oM;have neB1:w.heap.size+1≠r:=oM;cases hw:(t.kind==6&&t.s==[62,62]) with
    |true =>
     have HX:=Lh (hI.H.symm.trans (aPO hn hw));have HW:=Lh hw;clear hn hw;go_wp2_with fail;refine HN.out.mono ?_;rintro e w1 ⟨rfl,hr1,hs1⟩;go_wp2_with fail;refine(gD _ _ _ _ _ _ _ true HW.out _).mono ?_;rintro e w2 ⟨rfl,hb2⟩;have hbw:Bes r wr w2:=hs1.trans (q95);have hr2:aU w2 r s q:=hr1.below (w':=w2) bel;go_wp2;go_meet
     case rel=>exact⟨q,acc,vals,D,hI.ended hlt hbw hr2 hq,HX⟩
    |false =>
     have HW:=Lh hw;obtain⟨bt,hbt⟩:=eX (acc.any (fun p=>p.1==t.s));have HBT:=Lh hbt;by_cases hk4:t.kind=4
     ·have e4:(t.kind !=4)=false:=by simpa using hk4
      cases bt with
      |true =>
       have HX:=Lh (hI.H.symm.trans (aEK hn hw hk4 hbt));clear hn hw hbt hk4;exact q307
      |false =>
       by_cases h9:8191<=acc.length
       ·have HX:=Lh (hI.H.symm.trans (aIC hn hw hk4 hbt h9));have e9:decide ((acc.length:Int)≥8191)=true:=sO;clear hn hw hbt hk4;go_wp2_with fail;refine HN.out.mono ?_;rintro e w1 ⟨rfl,hr1,hs1⟩;go_wp2_with fail;refine(gD _ _ _ _ _ _ _ false HW.out _).mono ?_;rintro e w2 ⟨rfl,hb2⟩;have hlt1:=hs1.size;have hlt2:w1.heap.size+1<=w2.heap.size:=q99;have k2:=(hb2.block w1.heap.size sI).trans (aA w1 _ _ rfl);obtain⟨tt,htt⟩:=eX (w1.heap.size);rw[htt] at k2 hlt2;rw[htt];obtain⟨c0,c1,c2,c3,c4,cf⟩:=eM k2;have ltt:wr.heap.size<=tt:=oM;have httw:tt<w2.heap.size:=oM;have hbw:Bes r wr w2:=hs1.trans (q95);have hr2:aU w2 r s q:=hr1.below (w':=w2) bel;have hown2:=jK hI.hown hbw oM;obtain⟨v0,ps0,hrun0,hv0⟩:=hown2.look_ok Tryz.keyed underlying274 (aAW w2) (oL _) (Go.WideMaps.keyOf_string_mk (s:=⟨t.s.toArray⟩) underlying9 q129);obtain⟨x0,rfl,_⟩:=qQ hv0;rw[show Maps.has D (.string (⟨t.s.toArray⟩:ByteArray).data.toList)=_ from((hI.hmi.has t.s).trans (nR hI.hkeys t.s)).trans HBT.out] at hrun0;unfold Obv.val at hrun0;have hsz:(Maps.size D:Int)=acc.length:=q130;have HSZ:=Lh hsz;clear hv0 hsz;go_wp2_with(at_len;refine wpList_len_own _ rfl _ 274 rfl 9 31 underlying274 obR (w.heap.size+1) acc.length D rfl (hown2.alloc _) ?_;rw[HSZ.out])
        exact⟨rfl,q131⟩
       ·have e9:decide ((acc.length:Int)≥8191)=false:=sO;have hHid:=Lh hI.H;have HNX:=Lh (fun W hW hR=>aPR s hs m d fuel r a q acc T HC.out t hn hw hk4 hbt h9 hHid hq W hW hR);clear hn hw hk4 hHid hbt;go_wp2_with fail;refine HN.out.mono ?_;rintro e w1 ⟨rfl,hr1,hs1⟩;go_wp2_with fail;refine(gD _ _ _ _ _ _ _ false HW.out _).mono ?_;rintro e w2 ⟨rfl,hb2⟩;have hlt1:=hs1.size;have hlt2:w1.heap.size+1<=w2.heap.size:=q99;have k2:=(hb2.block w1.heap.size sI).trans (aA w1 _ _ rfl);obtain⟨tt,htt⟩:=eX (w1.heap.size);rw[htt] at k2 hlt2;rw[htt];obtain⟨c0,c1,c2,c3,c4,cf⟩:=eM k2;have ltt:wr.heap.size<=tt:=oM;have httw:tt<w2.heap.size:=oM;have hbw:Bes r wr w2:=hs1.trans (q95);have hr2:aU w2 r s q:=hr1.below (w':=w2) bel;have hown2:=jK hI.hown hbw oM;obtain⟨v0,ps0,hrun0,hv0⟩:=hown2.look_ok Tryz.keyed underlying274 (aAW w2) (oL _) (Go.WideMaps.keyOf_string_mk (s:=⟨t.s.toArray⟩) underlying9 q129);obtain⟨x0,rfl,_⟩:=qQ hv0;rw[show Maps.has D (.string (⟨t.s.toArray⟩:ByteArray).data.toList)=_ from((hI.hmi.has t.s).trans (nR hI.hkeys t.s)).trans HBT.out] at hrun0;unfold Obv.val at hrun0;have hsz:(Maps.size D:Int)=acc.length:=q130;have HSZ:=Lh hsz;clear hv0 hsz;go_wp2_with(at_len;refine wpList_len_own _ rfl _ 274 rfl 9 31 underlying274 obR (w.heap.size+1) acc.length D rfl (hown2.alloc _) ?_;rw[HSZ.out])
        obtain⟨w3,hw3⟩:=eX (w2.alloc (.cells #[.int .i64 x0.k,.int .i64 x0.n,.int .i64 x0.g,.string ⟨x0.s.toArray⟩,.slice x0.p1 x0.n1 x0.c1,.slice x0.p2 x0.n2 x0.c2] 31));rw[hw3];have hb3:Below w2.heap.size w2 w3:=hw3▸bel;have hs3:Bes r wr w3.drew:=(hbw.trans (.of_below hb3)).drew;have hr3:aU w3.drew r s q:=aU.below (w':=w3) hr2 hb3;have hm3:aF w3.drew m:=hm.bes hs3 (hm.ne hr);have HNC:=HNX.out _ hm3 hr3;have d4:w3.drew.cell? ⟨tt,4,none⟩=some (.string ⟨t.s.toArray⟩):=(hb3.cell (p:=⟨tt,4,none⟩) httw).trans c4;have htt3:tt<w3.drew.heap.size:=bGA httw hb3.size;clear hw3 hb3 c0 c1 c2 c3 c4 cf hrun0 k2 hb2 htt hr1 hs1 hr2 hown2 hbw;go_region_law (first
         |(go_simp;go_at_call 124;refine HNC.mono ?_;rintro e w4 (⟨k,rfl,HX,hs4⟩|⟨t2,p2,q2,rfl,hq2,hR4,hs4,HF⟩);exact⟨rfl,by rw[HX.out];exact⟨rfl,(hI.hbes.trans hs3).trans hs4⟩⟩;have hm4:aF w4 m:=hm3.bes hs4 (hm3.ne hr3);have HOb:=HF.out _ hm4 hR4;have d44:w4.cell? ⟨tt,4,none⟩=some (.string ⟨t.s.toArray⟩):=(bGO (hs4.block _ htt3 (by show tt≠r;omega))).trans d4;have htt4:tt<w4.heap.size:=bGA htt3 hs4.size)
         | (go_simp; go_at_call 123; refine HOb.mono ?_; rintro e w5 (⟨k, rfl, HX, hs5⟩ | ⟨o, p1, n1, c1, p2, n2, c2, z, rfl, hz1, hz2, HX, hO, hR5, hs5⟩); exact ⟨rfl, by rw [HX.out]; exact ⟨rfl, ((hI.hbes.trans hs3).trans hs4).trans hs5⟩⟩; have d45 : w5.cell? ⟨tt, 4, none⟩ = some (.string ⟨t.s.toArray⟩) := (World.cell?_of_block (hs5.block _ htt4 (by show tt ≠ r; omega))).trans d44; have hs05 := (hs3.trans hs4).trans hs5
            obtain⟨w6,hrun6,hown6,hg6⟩:=(jK hI.hown hs05 oM).update Tryz.keyed underlying274 q26 (Go.WideMaps.keyOf_string_mk (s:=⟨t.s.toArray⟩) underlying9 q129) (oL ⟨o.kind,o.n,o.g,o.s,p1,n1,c1,p2,n2,c2⟩);have HST:=Lh (hI.step hlt (hs3.trans hs4) hs5 hO hR5 hz1 oM h9 HBT.out hown6 hg6 HX.out);unfold Obv.val at hrun6))
        all_goals go_wp2_with fail
        all_goals (go_roundw;(case rel=>exact⟨z,fuel,_,_,_,HST.out⟩);(case measure=>(rw[HPOS,HST.out.hr.pos];omega)))
     ·have HX:=Lh (hI.H.symm.trans (aIB hn hw hk4));have e4:(t.kind !=4)=true:=by simpa using hk4
      clear hn hw hbt;exact q307
 case rest =>
  obtain⟨a,acc,vals,D,hE,HT2⟩:=hcut;obtain⟨wo,rfl⟩:∃wo:World,wo=wc:=⟨_,rfl⟩
  have hbm:=hE.hown.lt;have hownX:=hE.hown.alloc (.cells #[.int .i64 7,.int .i64 0,.int .i64 0,.string ⟨#[]⟩,.slice none 0 0,.slice none 0 0] 31);go_upto_block 3 with(at_range;refine wpList_range_own _ rfl _ 274 rfl 9 31 Tryz.keyed underlying274 obR (w.heap.size+1) acc.length D rfl hownX ?_;intro w0 hrg0 hg0 hs0)
  go_frame
  have hri:w0.ranges prog 9 obR (w.heap.size+1) (wo.heap.size+1) acc.length D (Maps.has D) (Maps.size D):=by simpa using hrg0
  have hR0:aEL wo (w.heap.size+1) acc.length vals D w0 (Maps.has D) (Maps.size D) [] (.slice none 0 0):=by
   refine⟨hbm,hri,Collected.start D,?_,aVX _ _,?_,sI⟩
   ·rw[hg0.block _ sI sI];exact aA _ _ _ rfl
   ·exact(show Below wo.heap.size wo (wo.alloc _) from bel).grown hg0 sI sI
  clear hrg0 hg0 hs0 hownX hri;rw[show(wo.alloc (.cells #[.int .i64 7,.int .i64 0,.int .i64 0,.string ⟨#[]⟩,.slice none 0 0,.slice none 0 0] 31)).heap.size=wo.heap.size+1 by simp];have hDs:Maps.size D<=8191:=by rw[hE.hmi.size];have:=congrArg List.length hE.hkeys;simp at this;have:=hE.hlen;omega
  go_cut [] (fun wx=>∃(sa:List L) (v:Value),Below wo.heap.size wo wx/\wo.heap.size+2<=wx.heap.size/\wx.heap[wo.heap.size]?=some (.cells #[.int .i64 7,.int .i64 0,.int .i64 0,.string ⟨#[]⟩,v,.slice none 0 0] 31 (0,0))/\nS wx (wo.heap.size+2) v (sa.filter (fH vals))/\Hid (sa.Perm (strKeys D)))
  case first =>
   go_wp2_with fail;go_loopw [] (fun wr=>∃(left:Lit->Bool) (cnt:Nat) (sa:List L) (v:Value),aEL wo (w.heap.size+1) acc.length vals D wr left cnt sa v) (fun wr=>wr.rangeLeft (w.heap.size+1) (wo.heap.size+1))
   case atStart=>exact⟨_,_,_,_,hR0⟩
   case round =>
    obtain⟨left,cnt,sa,v,hI⟩:=hrel;have hrg:=hI.hrg;go_wp2_with(at_next;refine wpList_next_ranges _ rfl _ rfl 9 Tryz.keyed obR encStr Obv.val (fun key kl hk=>by obtain⟨x,hx,_⟩:=Maps.keyOf_str underlying9 hk;exact⟨x,hx⟩) (fun v y hv=>by obtain⟨c,hc,_⟩:=qQ hv;exact⟨c,hc⟩) (w.heap.size+1) (wo.heap.size+1) acc.length D left cnt rfl hrg ?_ ?_)
    ·intro hc0 hl0;go_wp2;go_meet
     case rel=>exact⟨sa,v,hI.hb,hI.hrg.lt,hI.hob,hI.hown,Lh (hI.hC.perm hI.hrg.owns Tryz.keyed underlying9 hl0)⟩
    ·intro x c kl yd yp w2 cnt2 hkey hlk hv hat hrg2 hlt2 hg2 hs2 hen;obtain⟨x',ex,rfl,_⟩:=Maps.keyOf_str underlying9 hkey;obtain rfl:x=x':=encStr_inj ex;have hat':∀zd,D.atKey (.string x) zd=.held c.val:=fun zd=>by
      rw[hat zd];rw[oL] at hv;simp at hv;exact hv.1.symm
     have hkp:=(aVY hE.hmi (has_true_of_atKey hat) hat').1;have hl1:=hrg2.lt;have hnz:wo.heap.size<w2.heap.size:=oM;have hl2:sa.length<=8191:=by have:=hI.hcnt;omega
     have hfl:(sa.filter (fH vals)).length<=100000:=bGC (List.length_filter_le _ _) oM;have HME:=Lh (bGQ hrg.left_eq hrg2.left_eq);have c4:w2.heap[wo.heap.size]?=some (.cells #[.int .i64 7,.int .i64 0,.int .i64 0,.string ⟨#[]⟩,v,.slice none 0 0] 31 (0,0)):=by
      rw[hg2.block _ (by have:=hI.hrg.lt;omega) sI];exact hI.hob
     have hown2:nS w2 (wo.heap.size+2) v (sa.filter (fH vals)):=World.ownsRow.kept hI.hown hg2 (.inr (by intro h;have:=aK hI.hown _ h;omega));obtain⟨q0,q1,q2,q3,q4,q5,qf⟩:=aD c4;have HHAT:=Lh hat';have HC4:=Lh c4;unfold Obv.val at hen;unfold Obv.val;clear hs2 hat hv hkey hat' c4;cases hk0:(c.k !=0) with
     |false =>
      have HI2:=Lh (fun o=>hI.skip hlk HHAT.out hrg2 hlt2 hg2 (hkp.trans hk0) o);clear hkp;go_wp2;go_roundw
      case rel=>exact⟨_,_,_,_,HI2.out _⟩
      case measure=>rw[HME.out.1,(HI2.out _).hrg.left_eq];omega
     |true =>
      have hkp2:=hkp.trans hk0;clear hkp;go_wp2_with(at_builtin;go_must (refine bAY rfl _ _ rfl (wo.heap.size+2) v (sa.filter (fH vals)) x (aIG hown2 _) rfl (w2.heap.size+1) rfl sI hfl sO ?_);intro pz cz wz hown' hbz hlz;have c4z:wz.heap[wo.heap.size]?=some (.cells #[.int .i64 7,.int .i64 0,.int .i64 0,.string ⟨#[]⟩,v,.slice none 0 0] 31 (0,0)):=(hbz.block _ oM).trans ((bGM _ _ _ hnz).trans HC4.out);obtain⟨z0,z1,z2,z3,z4,z5,zf⟩:=aD c4z)
      go_roundw
      case rel=>exact⟨_,_,_,_,hI.push hlk HHAT.out hrg2 hlt2 hg2 hkp2 _ hbz hown'⟩
      case measure=>rw[HME.out.1,(hI.push hlk HHAT.out hrg2 hlt2 hg2 hkp2 _ hbz hown').hrg.left_eq];omega
  case rest =>
   obtain⟨sa,v,hbx,hls,hob,hown,HP⟩:=hcut;obtain⟨ss,hss⟩:=eX (sa.filter (fH vals));have HSS:=Lh hss;rw[hss] at hown;have hsl:ss.length<=8191:=by
    rw[<-hss];have h1:=List.length_filter_le (fH vals) sa;have h2:=HP.out.length_eq;have h3:(strKeys D).length=Maps.size D:=by
     obtain⟨es,he⟩:=hE.hmi.tidy.isMap;rw[he];simp[strKeys,Maps.size]
    omega
   have lox:wo.heap.size<wc.heap.size:=bGJ hob;obtain⟨x0,x1,x2,x3,x4,x5,xf⟩:=aD hob;have HSO:=Lh (bAZ (wo.heap.size+2) v ss wc hown hls oM);clear hss hown;go_wp2_with fail;refine HSO.out.mono ?_;rintro e w1 ⟨rfl,hown1,hb1⟩;have hob1:=(hb1.block wo.heap.size oM).trans hob;obtain⟨y0,y1,y2,y3,y4,y5,yf⟩:=aD hob1;obtain⟨ks,hks⟩:=eX (mX ss);rw[hks] at hown1;have hkl:ks.length<=8191:=by rw[<-hks,mL];exact hsl
   obtain⟨nk,hnk⟩:=eX (ks.length);obtain⟨pk,ck,hvk⟩:=cY hown1;rw[hnk] at hvk hkl;subst hvk;have HNK:=Lh hnk;have hmem:∀x∈ks,∃c,(x,c)∈vals/\nT vals x=c/\Maps.has D (.string x)=true/\x.length<=maxLen:=by
    intro x hx;have h1:x∈ss:=by rw[<-hks] at hx;exact(gT ss).mem_iff.1 hx
    rw[<-HSS.out] at h1;obtain⟨h2,h3⟩:=List.mem_filter.1 h1;obtain⟨p,hp,hpx⟩:=List.any_eq_true.1 h3;simp only[Bool.and_eq_true,beq_iff_eq] at hpx;have h4:(x,p.2)∈vals:=by rw[<-hpx.1];exact hp
    exact⟨p.2,h4,oN hE.hmi.nodup h4,by rw[hE.hmi.has];exact List.any_eq_true.2 ⟨p,hp,by simpa using hpx.1⟩,strKeys_le hE.hown underlying9 x (HP.out.mem_iff.1 h2)⟩
   have HMEM:=Lh hmem;have HKS:=Lh hks;have hK0:aPT wo (w.heap.size+1) acc.length vals D ks (.slice pk nk ck) w1 0 (.slice none 0 0):=by
    refine⟨hbm,oM,?_,hob1,hown1,⟨sI,.inl ⟨rfl,rfl⟩⟩,fun b _=>q132,hbx.trans (hb1.mono oM)⟩;obtain⟨es,clock,h1,F,h2,h3⟩:=hE.hown;exact⟨es,clock,by rw[hb1.block _ oM,hbx.block _ hbm];exact h1,F,h2,h3⟩
   clear hks x0 x1 x2 x3 x4 x5 xf hmem hnk;go_upto_block 5 with fail
   clear y0 y1 y2 y3 y4 y5 yf;go_wp2_with fail;go_loopw [70] (fun i wr=>∃(k:Nat) (kv:Value),k<=nk/\i=.int .i64 k/\aPT wo (w.heap.size+1) acc.length vals D ks (.slice pk nk ck) wr k kv) (fun i _=>nk-(intOf i).toNat)
   case atStart=>exact⟨0,_,bGF _,rfl,hK0⟩
   case round =>
    obtain⟨k,kv,hk,rfl,hI⟩:=hrel;obtain⟨y0,y1,y2,y3,y4,y5,yf⟩:=aD hI.hob;by_cases hlt2:k<nk
    ·obtain⟨x,hx⟩:=eX (ks.getD k []);have hkk:k<ks.length:=by rw[HNK.out];exact hlt2
     have hxm:x∈ks:=by rw[<-hx];simp[List.getD,hkk]
     obtain⟨c,hc1,hc2,hc3,hc4⟩:=HMEM.out x hxm;obtain⟨gk,rfl⟩:∃gk,pk=some ⟨gk,0,none⟩:=by
      rcases hI.hkeys.2 with⟨h1,h2⟩|⟨g,cap,cur,h1,_⟩
      ·omega
      ·cases h1;exact⟨_,rfl⟩
     have hcell:wr.cell? ⟨gk,k,none⟩=some (.string ⟨x.toArray⟩):=by
      have:=World.ownsRow.cellAt (g:=gk) (cap:=ck) (by have h:=hI.hkeys;unfold nS at h;rw[HNK.out] at h;exact h) k oM;rw[this];simp[List.getD,hkk] at hx;simp[hkk,hx]
     obtain⟨vl,pl,hrun,hvl⟩:=hI.hown.lookup Tryz.keyed underlying274 (aAW wr) (oL _) (Go.WideMaps.keyOf_string_mk (s:=⟨x.toArray⟩) underlying9 (by show x.length<=maxLen;exact hc4));have hvc:vl=c.val:=by
      obtain⟨y,hy,hy2⟩:=qQ hvl;have:=hE.hmi.at' _ hc1 (.held (Obv.val ⟨0,0,0,[],none,0,0,none,0,0⟩));simp at hy2;rw[hy2.1] at this;rw[hy];simpa using this
     subst hvc;unfold Obv.val at hrun;have HST:=Lh (fun wz g cap o h1 h2 h3=>hI.step (wz:=wz) (g:=g) (cap:=cap) (o:=o) (c:=c) hkk (by rw[hx];exact hc2) h1 h2 h3);have hrow:=hI.hrow;have hlow:wo.heap.size<wr.heap.size:=bGJ hI.hob;have hgk:gk<wr.heap.size:=(World.ownsRow.lt hI.hkeys gk rfl).2;have hls2:wo.heap.size+2<=wr.heap.size:=by have:=(World.ownsRow.lt hI.hkeys gk rfl).1;omega
     have hlok:=aK hI.hrow;have HOB:=Lh hI.hob;clear hvl hx hxm hc1 hc2 hc3 hc4;go_wp2_with(at_builtin;go_must (refine bBA rfl _ _ rfl (wo.heap.size+2) k kv _ c hrow rfl wr.heap.size rfl rfl oM hls2 ?_);intro gz cz wz hownz hgz hatz hltz;have c4z:wz.heap[wo.heap.size]?=some (.cells #[.int .i64 7,.int .i64 0,.int .i64 0,.string ⟨#[]⟩,.slice (some ⟨gk,0,none⟩) nk ck,kv] 31 (0,0)):=(hgz.block _ sO (by intro h;have:=hlok _ h.symm;omega)).trans ((bGM _ _ _ hlow).trans HOB.out);obtain⟨z0,z1,z2,z3,z4,z5,zf⟩:=aD c4z)
     go_roundw
     case rel=>exact⟨k+1,_,oM,q12,HST.out _ _ _ _ hownz hgz hatz⟩
     case measure=>exact q339
    ·obtain⟨pv,cv,hkv⟩:=cY hI.hrow;subst hkv;have hkn:k=ks.length:=by rw[HNK.out];omega
     have hbw:Below wo.heap.size wo wr:=hI.hb;have HO:=Lh (show aI (fun b=>w.heap.size+1<=b) (d+2) wr (aB 7 0 0 [] (.slice pk nk ck) (.slice pv k cv)) (pJ acc) from aWA hE HP.out (HSS.out.symm▸HKS.out) (by rw[<-hkn];exact hI));obtain⟨b0,b1,b2,b3,b4,b5,bf⟩:=aD ((hbw.block _ oM).trans hE.hB0);clear hkn;go_wp2;refine bGN (v:=.agg #[.int .i64 7,.int .i64 0,.int .i64 0,.string ⟨#[]⟩,.slice pk nk ck,.slice pv k cv]) (by simp[results,results172,go_sem,b0,b1,b2,b3,b4,b5,bf]) rfl ?_;rw[HT2.out];have hrw:aU wr r s a:=hE.hr.below hbw;have hs3:Bes r w wr:=hE.hbes.trans (.of_below hbw);refine⟨_,a,rfl,hE.ha,rfl,oK HO.out oM ?_,hrw.belowB (B:=r+1) xK oM,?_⟩
     ·exact q407
     ·(repeat' (first|(with_reducible exact hs3)|(with_reducible refine Bes.setCell_new ?_ ?_ _)|(show _<=_;simp;done)|(show _<=_;simp;omega)|omega))
end Go.Proofs.YtdjpkgccakgkbaaGreatDoor
