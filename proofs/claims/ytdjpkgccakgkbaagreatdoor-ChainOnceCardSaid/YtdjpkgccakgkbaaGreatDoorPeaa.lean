/- Parts of the proof: TnA TnB RgQ. -/
import Derived.Test.YtdjpkgccakgkbaaGreatDoorPeTdE
import Derived.Test.YtdjpkgccakgkbaaGreatDoorPea
import Derived.RegionTactic
import Derived.Orders
set_option linter.all false
set_option maxRecDepth 100000
set_option maxHeartbeats 8000000
section
variable{p:Prop}
theorem q364(h:p:=by
 go_enter func82,ntmps82
 go_wp2_with(go_at_call 49;(with_reducible refine(dL _).mono ?_);rintro e w9 ⟨rfl,h9⟩;obtain rfl:=h9.symm)
 exact⟨rfl,bel,.inr rfl⟩):p:=h
theorem q442(h:p:=by
 intro h;rw[Sem.run_bind] at h;cases hx:X.run P w with
 |ok v w2=>rw[hx] at h;simp[Result.andThen] at h
 |halt x w2=>rw[hx] at h;simp[Result.andThen] at h):p:=h
theorem q449(h:p:=by
 go_wp2_with(go_at_call 49;(with_reducible refine(dL _).mono ?_);rintro e w9 ⟨rfl,h9⟩;obtain rfl:=h9.symm)
 exact⟨rfl,q118,.inr rfl⟩):p:=h
theorem q514(h:p:=by
 go_wp2;exact⟨rfl,I2.out.bes.trans (Bes.of_below hb3),.inr rfl⟩):p:=h
end
namespace Go.Proofs.YtdjpkgccakgkbaaGreatDoor
open Go.Proofs.Tryz
open Go.RowKit Fo
theorem dL(w:World):Calls prog 49 #[.bool false] w fun e w'=>e=.panicked [{ v:=.iface 145 (.agg #[]),recovered:=false }]/\w'=w:=by
 go_enter func49,ntmps49
 exact q598
theorem aQO(r:Nat)(s:ByteArray)(a:Nat)(k:Int)(ha:a<=s.size)(hs:s.size<=140737488355327)(m:Int)(w:World)(hm:aF w m)(hr:RdT w r s a)
 (h:(aM (s.data.toList.drop a)).2=.bad k) :
 Calls prog 50 #[.pointer (some ⟨r,0,none⟩)] w fun e w'=>e=.panicked [{ v:=.iface 145 (.agg #[]),recovered:=false }]/\Bes r w w':=by
 have HN:=Lh (fun W hW=>kE s a k h ha hs m W hW);have hk1:(k==0)=false:=by have:=lP h;simp;omega
 have hc0:=hr.cell0;have hc1:=hr.cell1;have hf0:=hr.frozen 1;have hlt:=hr.lt;have hA:∀W,Below w.heap.size w W->aF W m:=fun W hb=>hm.below hb
 have HA:=Lh hA;clear h hA;go_enter func50,ntmps50
 go_upto_region 1 with fail
 go_cut [3,4] (fun s3 s4 wx=>∃g:Nat,s3=.pointer (some ⟨g,0,none⟩)/\s4=.int .i64 k/\Below (w.heap.size+1) (w.alloc (.cells #[.int .i64 0,.int .i64 0,.int .i64 0,.int .i64 0,.string ⟨#[]⟩] 81)) wx)
 case first =>
  exact q329
 case rest =>
  obtain⟨g,rfl,rfl,hb⟩:=hcut;go_wp2_with(go_at_call 49;(with_reducible refine(dL _).mono ?_);rintro e w9 ⟨rfl,h9⟩;obtain rfl:=h9.symm)
  exact⟨rfl,rfl,q95⟩
def TNx(w:World)(r:Nat)(s:ByteArray)(a:Nat)(e:Ending)(w':World):Prop :=
 Bes r w w'/\((∃(k:Int) (l:Nat) (n:Int) (x:L) (p:Nat),lU s a ⟨k,l,n,x⟩ p/\e=.returned (.agg #[.int .i64 k,.int .i64 p,.int .i64 (p+l:Nat),.int .i64 n,.string ⟨x.toArray⟩])/\RdT w' r s (p+l))\/e=.panicked [{ v:=.iface 145 (.agg #[]),recovered:=false }])
theorem jB(r:Nat)(s:ByteArray)(a:Nat)(ha:a<=s.size)(hs:s.size<=140737488355327)(m:Int)(w:World)(hm:aF w m)(hr:RdT w r s a) :
 Calls prog 50 #[.pointer (some ⟨r,0,none⟩)] w (TNx w r s a):=by
 cases h:(aM (s.data.toList.drop a)).2 with
 |bad k =>
  refine(aQO r s a k ha hs m w hm hr h).mono ?_;rintro e w' ⟨rfl,hb⟩;exact⟨hb,.inr rfl⟩
 |good t =>
  obtain⟨k,l,n,x⟩:=t;have hT:=vO ha h;refine(eH r s a _ l k n x hT ha hs m w hm hr).mono ?_;rintro e w' ⟨rfl,hr',hb⟩;exact⟨hb,.inl ⟨k,l,n,x,_,hT,rfl,hr'⟩⟩
theorem jN(k n most:Int)(p q:Int)(x:ByteArray)(w:World) :
 Calls prog 82 #[.agg #[.int .i64 k,.int .i64 p,.int .i64 q,.int .i64 n,.string x],.int .i64 most] w fun e w'=>Below w.heap.size w w'/\((k=1/\0<=n/\n<=most/\e=.returned (.int .i64 n))\/e=.panicked [{ v:=.iface 145 (.agg #[]),recovered:=false }]):=by
 by_cases hk:k=1
 ·subst hk;by_cases h0:0<=n
  ·have d0:decide (0<=n)=true:=bGI h0;by_cases h1:n<=most
   ·have d1:decide (n<=most)=true:=bGI h1;have HH:=Lh (bGQ h0 h1);clear h0 h1;go_enter func82,ntmps82
    go_wp2_with(go_at_call 49;(with_reducible refine(bD _).mono ?_);rintro e w9 ⟨rfl,h9⟩;obtain rfl:=h9.symm)
    go_ret
    exact⟨bel,.inl ⟨by trivial,HH.out.1,HH.out.2,rfl⟩⟩
   ·have d1:decide (n<=most)=false:=bGH h1;clear h0 h1;exact q364
  ·have d0:decide (0<=n)=false:=bGH h0;clear h0;exact q364
 ·have d0:(k==1)=false:=q93;clear hk;exact q364
def TEn(w:World)(r:Nat)(s:ByteArray)(a:Nat)(num:Int)(e:Ending)(w':World):Prop :=
 Bes r w w'/\((∃(x:Sl) (b:Nat),x.num=num/\e=.returned (slV x)/\a<b/\b<=s.size/\RdT w' r s b)\/e=.panicked [{ v:=.iface 145 (.agg #[]),recovered:=false }])
theorem aJB(r:Nat)(s:ByteArray)(a:Nat)(num:Int)(ha:a<=s.size)(hs:s.size<=140737488355327)(m:Int)(w:World)(hm:aF w m)(hr:RdT w r s a)(hrm:r≠1) :
 Calls prog 83 #[.pointer (some ⟨r,0,none⟩),.int .i64 num] w (TEn w r s a num):=by
 have hlt0:=hr.lt;go_enter func83,ntmps83
 go_wp2_with fail;refine(jB r s a ha hs m _ (hm.below bel) (hr.below bel)).mono ?_;rintro e w1 ⟨hs1,⟨k1,l1,n1,x1,p1,T1,rfl,hr1⟩|rfl⟩;rotate_left
 ·go_wp2;exact⟨rfl,(Bes.of_below (r:=r) (show Below w.heap.size w (w.alloc (.cells #[.int .i64 0,.int .i64 0,.int .i64 0,.int .i64 0] 39)) from bel)).trans hs1,.inr rfl⟩
 have hm1:aF w1 m:=aF.bes (hm.below (w':=w.alloc (.cells #[.int .i64 0,.int .i64 0,.int .i64 0,.int .i64 0] 39)) bel) hs1 hrm;have hz1:=hs1.size;simp at hz1;have hs01:Bes r w w1:=(Bes.of_below (r:=r) (show Below w.heap.size w (w.alloc (.cells #[.int .i64 0,.int .i64 0,.int .i64 0,.int .i64 0] 39)) from bel)).trans hs1;go_wp2_with fail;refine(jN k1 n1 2147483647 p1 (p1+l1:Nat) _ _).mono ?_;rintro e w2 ⟨hb2,⟨rfl,b1,b2,rfl⟩|rfl⟩;rotate_left
 ·go_wp2;exact⟨rfl,hs01.trans (Bes.of_below hb2),.inr rfl⟩
 have hz2:=hb2.size;go_wp2_with fail;refine(jB r s (p1+l1) T1.2.2 hs m _ (hm1.below hb2) (hr1.below hb2)).mono ?_;rintro e w3 ⟨hs3,⟨k2,l2,n2,x2,p2,T2,rfl,hr3⟩|rfl⟩;rotate_left
 ·go_wp2;exact⟨rfl,(hs01.trans (Bes.of_below hb2)).trans hs3,.inr rfl⟩
 have hm3:=aF.bes (hm1.below hb2) hs3 hrm;have hz3:=hs3.size;go_wp2_with fail;refine(jN k2 n2 65535 p2 (p2+l2:Nat) _ _).mono ?_;rintro e w4 ⟨hb4,⟨rfl,b3,b4,rfl⟩|rfl⟩;rotate_left
 ·go_wp2;exact⟨rfl,((hs01.trans (Bes.of_below hb2)).trans hs3).trans (Bes.of_below hb4),.inr rfl⟩
 have hz4:=hb4.size;have hs14:Bes r w w4:=((hs01.trans (Bes.of_below hb2)).trans hs3).trans (Bes.of_below hb4);have hr4:=hr3.below hb4;have hm4:=hm3.below hb4;have X0:w4.heap[w.heap.size]?=some (.cells #[.int .i64 0,.int .i64 0,.int .i64 0,.int .i64 0] 39 (0,0)):=by
  exact q416
 have hA1:=iU T1 dC ha;have hA2:=iU T2 dC T1.2.2;have hp2:=T2.2.2;clear hs1 hb2 hs3 hb4 hm1 hm3 hr1 hr3 hm hr hs01 T1;go_upto_region 2 with fail
 obtain⟨w5,hw5⟩:=eX (w4.alloc (.cells #[.int .i64 num,.int .i64 0,.int .i64 n1,.int .i64 n2] 39));have hb5:Below w4.heap.size w4 w5:=by rw[<-hw5];exact bel
 have X1:w5.heap[w4.heap.size]?=some (.cells #[.int .i64 num,.int .i64 0,.int .i64 n1,.int .i64 n2] 39 (0,0)):=q114;have hz5:w5.heap.size=w4.heap.size+1:=by rw[<-hw5];simp
 rw[hw5];clear hw5;go_wp2_with fail;refine(jB r s (p2+l2) hp2 hs m _ (hm4.below hb5) (hr4.below hb5)).mono ?_;rintro e w6 ⟨hs6,⟨k3,l3,n3,x3,p3,T3,rfl,hr6⟩|rfl⟩;rotate_left
 ·go_wp2;exact⟨rfl,(hs14.trans (Bes.of_below hb5)).trans hs6,.inr rfl⟩
 have hz6:=hs6.size;have Y0:=(hs6.block w.heap.size oM oM).trans ((hb5.block _ oM).trans X0);have Y1:=(hs6.block w4.heap.size oM oM).trans X1;have hs16:Bes r w w6:=(hs14.trans (Bes.of_below hb5)).trans hs6;have hl6:=hr6.lt;have hp3:=T3.2.2;have hg3:p2+l2<=p3:=by have:=T3.2.1;omega
 clear hs6 hb5 X0 X1 hs14 hr4 hm4 T2 T3;go_upto_region 3 with fail
 obtain⟨XB,hXB⟩:∃XB:ByteArray,⟨x3.toArray⟩=XB:=⟨_,rfl⟩
 obtain⟨w7,hw7⟩:=eX (w6.alloc (.cells #[.int .i64 k3,.int .i64 p3,.int .i64 (p3+l3:Nat),.int .i64 n3,.string ⟨x3.toArray⟩] 81));have hb7:Below w6.heap.size w6 w7:=by rw[<-hw7];exact bel
 have X7:w7.heap[w6.heap.size]?=some (.cells #[.int .i64 k3,.int .i64 p3,.int .i64 (p3+l3:Nat),.int .i64 n3,.string ⟨x3.toArray⟩] 81 (0,0)):=q115;simp only[Int.natCast_add] at hw7 X7 ⊢;rw[hw7];replace Y0:=(hb7.block _ oM).trans Y0;replace Y1:=(hb7.block _ oM).trans Y1;have hs17:=hs16.trans (Bes.of_below hb7);have hr7:=hr6.below hb7;clear hw7 hb7 hs16 hr6 hXB;obtain⟨z0,z1,z2,z3⟩:w7.cell? ⟨w.heap.size,0,none⟩=some (.int .i64 0)/\w7.cell? ⟨w.heap.size,1,none⟩=some (.int .i64 0)/\w7.cell? ⟨w.heap.size,2,none⟩=some (.int .i64 0)/\w7.cell? ⟨w.heap.size,3,none⟩=some (.int .i64 0):=by simp[World.cell?,Y0]
 obtain⟨y0,y1,y2,y3⟩:w7.cell? ⟨w4.heap.size,0,none⟩=some (.int .i64 num)/\w7.cell? ⟨w4.heap.size,1,none⟩=some (.int .i64 0)/\w7.cell? ⟨w4.heap.size,2,none⟩=some (.int .i64 n1)/\w7.cell? ⟨w4.heap.size,3,none⟩=some (.int .i64 n2):=by simp[World.cell?,Y1]
 have t0:w7.cell? ⟨w6.heap.size,0,none⟩=some (.int .i64 k3):=q116;have t4:w7.cell? ⟨w6.heap.size,4,none⟩=some (.string ⟨x3.toArray⟩):=q116;have zf:∀o,w7.frozen? ⟨w.heap.size,o,none⟩=false:=fun o=>by simp[World.frozen?,Y0]
 have yf:∀o,w7.frozen? ⟨w4.heap.size,o,none⟩=false:=fun o=>by simp[World.frozen?,Y1]
 have ne1:¬w.heap.size=w4.heap.size:=oM;have ne2:¬w4.heap.size=w.heap.size:=oM;clear Y0 Y1 X7;by_cases h5:k3=5
 ·subst h5;by_cases hn:x3=[110]
  ·subst hn;go_wp2_with(go_at_call 49;(with_reducible refine(bD _).mono ?_);rintro e w9 ⟨rfl,h9⟩;obtain rfl:=h9.symm)
   refine bGN (v:=.agg #[.int .i64 num,.int .i64 1,.int .i64 n1,.int .i64 n2]) q117 rfl ⟨?_,.inl ⟨⟨num,1,n1,n2⟩,p3+l3,rfl,rfl,oM,hp3,?_⟩⟩
   ·exact q118
   ·exact q506
  ·by_cases hf:x3=[102]
   ·subst hf;go_wp2_with(go_at_call 49;(with_reducible refine(bD _).mono ?_);rintro e w9 ⟨rfl,h9⟩;obtain rfl:=h9.symm)
    refine bGN (v:=.agg #[.int .i64 num,.int .i64 0,.int .i64 n1,.int .i64 n2]) q117 rfl ⟨?_,.inl ⟨⟨num,0,n1,n2⟩,p3+l3,rfl,rfl,oM,hp3,?_⟩⟩
    ·exact q118
    ·exact q506
   ·have d1:(x3==[110])=false:=by simpa using hn
    have d2:(x3==[102])=false:=by simpa using hf
    clear hn hf;exact q449
 ·have d5:(k3==5)=false:=q136;clear h5;exact q449
open Go.Maps Go.Sort
theorem zA:∀{acc:List Sl} {x:Sl},(∀y∈acc,y.num≠x.num)->∃acc1,xN acc x=some acc1
 |[],x,_=>⟨[x],rfl⟩
 |z::acc,x,h=>by
  unfold xN;by_cases h1:z.num<x.num
  ·obtain⟨r,hr⟩:=zA (acc:=acc) (x:=x) (fun y hy=>h y (List.mem_cons_of_mem _ hy));rw[bGV h1,hr];exact⟨_,rfl⟩
  ·rw[bGU h1,bGU (h z (List.mem_cons_self ..))];exact⟨_,rfl⟩
theorem uE.add{acc ps:List Sl}{x:Sl}(h:uE acc ps)(hx:0<=x.num/\x.num<=8191)(hn:ps.find? (fun y=>y.num==x.num)=none):∃acc1,uE acc1 (ps++[x]):=by
 obtain⟨acc1,h1⟩:=zA (acc:=acc) (x:=x) (fun y hy e=>by
  have:=List.find?_eq_none.1 hn y (h.perm.mem_iff.2 hy);simp[e] at this)
 exact⟨acc1,(h.push h1 hx).1⟩
def TSl(w:World)(r:Nat)(s:ByteArray)(e:Ending)(w':World):Prop :=
 Bes r w w'/\((∃v ys b,e=.returned v/\aG slE 39 w' (w.heap.size+1) v ys/\b<=s.size/\RdT w' r s b)\/e=.panicked [{ v:=.iface 145 (.agg #[]),recovered:=false }])
theorem aJC(r:Nat)(s:ByteArray)(a0:Nat)(ha0:a0<=s.size)(hs:s.size<=100000000)(m:Int)(w:World)(hm0:aF w m)(hr0:RdT w r s a0)(hrm:r≠1) :
 Calls prog 51 #[.pointer (some ⟨r,0,none⟩)] w (TSl w r s):=by
 have hlt:=hr0.lt;have hmk:∀w,(Instr.makeMap 56 none).run prog w=.ok (.map (some w.heap.size)) (w.alloc (.map #[] 0)):=fun _=>kR
 go_enter func51,ntmps51
 go_upto_block 0 with fail
 go_cut [] (fun wx=>∃(a:Nat) (acc ps:List Sl),pR s m r w wx a acc ps)
 case first =>
  go_wp2_with fail;go_loopw [] (fun wr=>∃(a:Nat) (acc ps:List Sl),pR s m r w wr a acc ps) (fun wr=>s.size-tE wr r)
  case atStart=>exact⟨a0,[],[],⟨ha0,hr0.below bel,MpS.made w,uE.nil,bGF _,q95,sI,hm0.below bel⟩⟩
  case round =>
   obtain⟨a,acc,ps,hI⟩:=hrel;obtain⟨W0,rfl⟩:∃W0,W0=wr:=⟨_,rfl⟩
   have HPOS:=Lh hI.hr.pos;have HN:=Lh (jB r s a hI.ha oM m W0 hI.hm hI.hr);have hI0:=Lh hI;have haS:=hI.ha;clear hI;go_wp2_with fail;refine HN.out.mono ?_;rintro e w1 ⟨hs1,⟨k1,l1,n1,x1,p1,T1,rfl,hr1⟩|rfl⟩;rotate_left
   ·go_wp2;exact⟨rfl,hI0.out.bes.trans hs1,.inr rfl⟩
   have hp1:=T1.2.2;have hg1:a<=p1:=by have:=T1.2.1;omega
   have HT1:=Lh T1;have I1:=Lh (hI0.out.step hs1 hr1 hp1 oM hlt hrm);clear HN hs1 hr1 T1 hI0;by_cases hk5:k1=5/\x1=mJ
   ·obtain⟨rfl,rfl⟩:=hk5;unfold mJ;go_wp2;go_meet
    case rel=>exact⟨p1+l1,acc,ps,I1.out.below bel hlt hrm⟩
   ·have hd:(k1==5)=false\/((k1==5)=true/\(x1==[116,114,97,105,108,101,114])=false) := by
     by_cases h5:k1=5
     ·exact .inr ⟨q136,by simpa[mJ] using fun h=>hk5 ⟨h5,h⟩⟩
     ·exact .inl q136
    clear hk5;obtain⟨w2,hw2⟩:=eX (w1.alloc (.cells #[.int .i64 k1,.int .i64 p1,.int .i64 (p1+l1:Nat),.int .i64 n1,.string ⟨x1.toArray⟩] 81));have hb2:Below w1.heap.size w1 w2:=q171;have T2:w2.heap[w1.heap.size]?=some (.cells #[.int .i64 k1,.int .i64 p1,.int .i64 (p1+l1:Nat),.int .i64 n1,.string ⟨x1.toArray⟩] 81 (0,0)):=q176;simp only[Int.natCast_add] at hw2 T2 ⊢;go_upto_region 3 with fail
    try rw[hw2]
    have I2:=Lh (I1.out.below hb2 hlt hrm);dsimp only at hp1;obtain⟨t0,t1,t2,t3,t4,tf⟩:=eM T2;clear hw2 hb2 I1 T2;rcases hd with hd|⟨hd,hd2⟩
    rotate_left
    ·go_wp2_with fail;refine(jN k1 n1 8191 p1 ((p1:Int)+l1) _ _).mono ?_;rintro e w3 ⟨hb3,⟨rfl,h0,h1,rfl⟩|rfl⟩
     ·exact absurd hd dC
     ·exact q514
    go_wp2_with fail;refine(jN k1 n1 8191 p1 ((p1:Int)+l1) _ _).mono ?_;rintro e w3 ⟨hb3,⟨rfl,h0,h1,rfl⟩|rfl⟩;rotate_left
    ·exact q514
    obtain⟨F,rfl⟩:∃F:Nat,n1=F:=⟨n1.toNat,oM⟩
    have hap:=iU HT1.out dC haS;have I3:=Lh (I2.out.below hb3 hlt hrm);clear hb3 I2 HT1 t0 t1 t2 t3 t4 tf hd;go_wp2_with fail;refine(jB r s (p1+l1) hp1 oM m _ I3.out.hm I3.out.hr).mono ?_;rintro e w4 ⟨hs4,⟨k2,l2,n2,x2,p2,T2,rfl,hr4⟩|rfl⟩;rotate_left
    ·go_wp2;exact⟨rfl,I3.out.bes.trans hs4,.inr rfl⟩
    have hp2:=T2.2.2;have hg2:p1+l1<=p2:=by have:=T2.2.1;omega
    dsimp only at hp2;have I4:=Lh (I3.out.step hs4 hr4 hp2 oM hlt hrm);clear hs4 hr4 I3 T2;go_wp2_with fail;refine(jN k2 n2 8192 p2 (p2+l2:Nat) _ _).mono ?_;rintro e w5 ⟨hb5,⟨rfl,h2,h3,rfl⟩|rfl⟩;rotate_left
    ·go_wp2;exact⟨rfl,I4.out.bes.trans (Bes.of_below hb5),.inr rfl⟩
    obtain⟨C,rfl⟩:∃C:Nat,n2=C:=⟨n2.toNat,oM⟩
    have I5:=Lh (I4.out.below hb5 hlt hrm);clear hb5 I4;have hw:IntKind.i64.wrap ((F:Int)+(C:Int))=(F:Int)+C:=IntWalk.i64_in _ oM;by_cases hFC:F+C<=8192
    rotate_left
    ·have hw2:decide ((F:Int)+(C:Int)<=8192)=false:=bGH oM;go_wp2_with(go_at_call 49;(with_reducible refine(dL _).mono ?_);rintro e w9 ⟨rfl,h9⟩;obtain rfl:=h9.symm)
     exact⟨rfl,I5.out.bes,.inr rfl⟩
    have hw2:decide ((F:Int)+(C:Int)<=8192)=true:=bGI oM;go_wp2_with(go_at_call 49;(with_reducible refine(bD _).mono ?_);rintro e w9 ⟨rfl,h9⟩;obtain rfl:=h9.symm)
    go_loopw [36] (fun i wr=>∃(k b:Nat) (acc ps:List Sl),k<=C/\i=.int .i64 k/\pR s m r w wr b acc ps/\p2+l2<=b) (fun i _=>C-(intOf i).toNat)
    case atStart=>exact⟨0,p2+l2,acc,ps,bGF _,rfl,I5.out,bGB _⟩
    case round =>
     clear I5;obtain⟨k,b,acc,ps,hk,rfl,hI,hpb⟩:=hrel;by_cases hlk:k<C
     ·have hw3:IntKind.i64.wrap ((F:Int)+(k:Int))=(F:Int)+k:=IntWalk.i64_in _ oM;have hwf:(Lit.int .i64 ((F:Int)+k)).wf=true:=aEF oM oM;obtain⟨⟨y0,y1,y2,y3⟩,hlook,_⟩:=hI.map.lookW ((F:Int)+k) hwf;obtain⟨TH,hTH⟩:=eX ((ps.find? (fun y=>y.num==(F:Int)+k)).isSome);rw[hTH] at hlook;simp only[slV] at hlook;have HTH:=Lh hTH;have HEN:=Lh (fun W hb=>aJB r s b ((F:Int)+k) hI.ha oM m W (hI.hm.below hb) (hI.hr.below hb) hrm);have hI0:=Lh hI;clear hTH hI;go_wp2_with fail;refine(HEN.out _ bel).mono ?_;rintro e w6 ⟨hs6,⟨⟨x0,x1',x2',x3⟩,b6,hnum,rfl,hbb6,hb6,hr6⟩|rfl⟩;rotate_left
      ·go_wp2;exact⟨rfl,(hI0.out.bes.trans (Bes.of_below (show Below wr.heap.size wr (wr.alloc (.cells #[.int .i64 y0,.int .i64 y1,.int .i64 y2,.int .i64 y3] 39)) from bel))).trans hs6,.inr rfl⟩
      dsimp only at hnum;subst hnum;unfold slV;dsimp only;have I6:=(hI0.out.below (show Below wr.heap.size wr (wr.alloc (.cells #[.int .i64 y0,.int .i64 y1,.int .i64 y2,.int .i64 y3] 39)) from bel) hlt hrm).step hs6 hr6 hb6 oM hlt hrm;have I7:=I6.below (show Below w6.heap.size w6 (w6.alloc (.cells #[.int .i64 ((F:Int)+k),.int .i64 x1',.int .i64 x2',.int .i64 x3] 39)) from bel) hlt hrm;cases TH with
      |true =>
       have I7:=Lh I7;clear I6 hr6 hs6 hlook;go_wp2_with(go_at_call 49;(with_reducible refine(dL _).mono ?_);rintro e w9 ⟨rfl,h9⟩;obtain rfl:=h9.symm)
       exact⟨rfl,I7.out.bes,.inr rfl⟩
      |false =>
       have hnone:ps.find? (fun y=>y.num==(F:Int)+k)=none:=by
        have:=HTH.out;cases hf:ps.find? (fun y=>y.num==(F:Int)+k) with
        |none=>rfl
        |some z=>rw[hf] at this;cases this
       obtain⟨acc2,hinv⟩:=hI0.out.inv.add (x:=⟨(F:Int)+k,x1',x2',x3⟩) ⟨by show 0<=(F:Int)+k;omega,by show(F:Int)+k<=8191;omega⟩ hnone;have hlen6:ps.length<b6:=by have:=hI0.out.len;omega
       obtain⟨D,hown,hD⟩:=I7.map;have HPS:=Lh (hD.push ⟨(F:Int)+k,x1',x2',x3⟩ hnone);obtain⟨w7,hrun7,hown7,hg7⟩:=hown.update (int_keyed underlying3) underlying56 q26 (keyOf_int_mk underlying3 hwf) (lS ⟨(F:Int)+k,x1',x2',x3⟩);simp only[slV] at hrun7;have I8:=Lh (I7.put (a:=b6) hg7 ⟨_,hown7,HPS.out⟩ hinv hlen6 hlt hrm);clear hown hD hown7 hg7 I6 I7 hr6 hs6 hlook hnone hinv;go_wp2_with(go_at_call 49;(with_reducible refine(bD _).mono ?_);rintro e w9 ⟨rfl,h9⟩;obtain rfl:=h9.symm)
       go_roundw
       case rel=>exact⟨k+1,b6,acc2,_,oM,q12,I8.out,oM⟩
       case measure=>exact q339
     ·have hkC:k=C:=oM;subst hkC;have HI:=Lh hI;clear hI;go_wp2;go_roundw
      case rel=>exact⟨b,acc,ps,HI.out⟩
      case measure=>rw[HI.out.hr.pos,HPOS.out];have:=HI.out.ha;omega
 case rest =>
  obtain⟨a,acc,ps,hI⟩:=hcut;obtain⟨W1,rfl⟩:∃W1,W1=wc:=⟨_,rfl⟩
  have HI:=Lh hI;obtain⟨D,hown,hD⟩:=hI.map;have HD:=Lh (bGQ hD hI.inv);have hsz:=hown.size_le;have hpl:ps.length<=100000000:=by have:=hI.len;have:=hI.ha;omega
  clear hI hmk hD;go_wp2_with(at_range;refine wpList_range_own _ rfl _ 56 rfl 3 39 (int_keyed underlying3) underlying56 jJ w.heap.size ps.length D rfl hown ?_;intro w0 hrg0 hg0 hs0)
  go_frame
  go_loopw [11] (fun v wr=>∃(left:Lit->Bool) (cnt:Nat) (xs:List Sl),wr.ranges prog 3 jJ w.heap.size W1.heap.size ps.length D left cnt/\xs.length+cnt<=Maps.size D/\Hid (∀x∈xs,x∈ps)/\aG slE 39 wr W1.heap.size v xs/\Below W1.heap.size W1 wr) (fun _ wr=>wr.rangeLeft w.heap.size W1.heap.size)
  case atStart=>exact⟨_,_,[],hrg0,sI,Lh sI,bF _ _,(bGL _ W1).grown hg0 (bGB _) (fun k e=>by cases e)⟩
  case round =>
   clear hrg0 hg0 hs0 hown;obtain⟨left,cnt,xs,hrg,hcs,hV,hrow,hbr⟩:=hrel;have hzr:=hbr.size;obtain⟨vp,vc,rfl⟩:=aH hrow;go_wp2_with(at_next;refine wpList_next_ranges _ rfl _ rfl 3 (int_keyed underlying3) jJ encZ slV (fun key kl hk=>q119) (fun v y hv=>q120) w.heap.size W1.heap.size ps.length D left cnt rfl hrg ?_ ?_)
   ·intro hc0 hl0;have hnum:∀x∈xs,0<=x.num/\x.num<=8191:=fun x hx=>HD.out.2.num x (hV.out x hx)
    obtain⟨xr,hxr⟩:∃xr:List SlR,xr.map (·.1)=xs:=⟨xs.pmap (fun x h=>⟨x,h⟩) hnum,by rw[List.map_pmap];simp⟩
    have hlx:xr.length=xs.length:=by rw[<-hxr];simp
    have HSO:=Lh (pP aAV rfl aHZ aEG 84 (enters_of func84 kR rfl) aME W1.heap.size (.slice vp xs.length vc) xr wr (bAX.2 (by rw[hxr];exact hrow)) oM hzr);clear hrow hV hnum hxr hrg hl0 hlx;go_wp2_with fail;refine HSO.out.mono ?_;rintro e w6 ⟨rfl,ys,hp,hsd,hr6,hb6,_⟩;have hbw:Below W1.heap.size W1 w6:=hbr.trans hb6;have HR7:=Lh ((bAX.1 hr6).low (show w.heap.size+1<=W1.heap.size from HI.out.lt));clear hr6 hb6 hp hsd HSO;go_wp2;go_ret
    exact⟨HI.out.bes.trans (Bes.of_below hbw),.inl ⟨_,_,a,rfl,HR7.out,HI.out.ha,HI.out.hr.below hbw⟩⟩
   ·intro x c kl yd yp w2 cnt2 hkey hlk hv hat hrg2 hlt2 hg2 hs2 hen;obtain⟨x',ex,rfl,_⟩:=Maps.keyOf_i64 underlying3 hkey;obtain rfl:x=x':=encZ_inj ex;have hz:yd=slD c:=by
     exact q404
    have hcp:c∈ps/\c.num=x:=by
     exact q343
    obtain⟨cn,ck,ca,cg⟩:=c;obtain⟨hcp,rfl⟩:=hcp;dsimp only[slV] at hen;have HV2:=Lh (show∀y∈xs++[(⟨cn,ck,ca,cg⟩:Sl)],y∈ps from fun y hy=>(List.mem_append.1 hy).elim (hV.out y) (fun e=>by simp at e;subst e;exact hcp));have HME:=Lh hrg.left_eq;have hb2:Below W1.heap.size W1 w2:=hbr.grown hg2 hzr (fun k e=>q125);have hrow2:aG slE 39 w2 W1.heap.size (.slice vp xs.length vc) xs:=World.ownsRow.kept hrow hg2 (by
     rcases(show wr.ownsRow W1.heap.size 39 4 _ _ _ from hrow).2 with⟨e,_⟩|⟨g,cap,cur,e,_,hgb,_⟩
     ·exact .inl (by rw[e];rfl)
     ·refine .inr fun e'=>?_
      obtain⟨_,_,_,_,_,_,_,_,_,hit,_⟩:=hrg;rw[e] at e';have:g=W1.heap.size:=by simpa[Value.ownBlock] using e'
      rw[this] at hgb;rw[hgb] at hit;cases hit)
    have hz2:=hb2.size;have hxl:xs.length<=1000000000:=oM;clear hs2 hv hz hkey ex hat hlk hcp hrow hrg;go_upto_region 19 with fail
    obtain⟨w3,hw3⟩:=eX (w2.alloc (.cells #[.int .i64 cn,.int .i64 ck,.int .i64 ca,.int .i64 cg] 39));have hb23:Below w2.heap.size w2 w3:=q126;have hk23:KeepsWalks w2 w3:=by rw[<-hw3];exact KeepsWalks.alloc _ _
    have hX3:w3.heap[w2.heap.size]?=some (.cells #[.int .i64 cn,.int .i64 ck,.int .i64 ca,.int .i64 cg] 39 (0,0)):=q127;have hz3:w2.heap.size<w3.heap.size:=by rw[<-hw3];simp
    rw[hw3];clear hw3;have hrow3:=hrow2.below hb23;have hrg3:=hrg2.of_walks hk23;have hzB3:W1.heap.size<=w3.heap.size:=oM;obtain⟨x0,x1,x2,x3⟩:=vU hX3;clear hrow2 hX3;go_wp2_with(at_builtin;(refine eE (E:=slE) rfl _ _ rfl underlying27 Tryz.infoSlt rfl dC dC W1.heap.size _ xs ⟨cn,ck,ca,cg⟩ hrow3 rfl rfl oM hzB3 ?_;intro g3 q3 w6 hr6 hb6 hz6 hg6 hor6))
    have hrg6:=hrg3.of_walks ((KeepsWalks.alloc _ _).trans (KeepsWalks.of_grownBy hg6 (mK (World.ownsRow.alloc hrow3 _))));go_roundw
    case rel=>exact⟨_,cnt2,xs++[⟨cn,ck,ca,cg⟩],hrg6,sO,HV2,by simpa using hr6,hb2.trans ((hb23.mono hz2).trans hb6)⟩
    case measure=>rw[hrg6.left_eq,HME.out];exact hlt2
open Go
def aWZ(PAN:List PanicEntry->World->Prop)(Q:Exit->Act->World->Prop):Exit->Act->World->Prop
 |.panic c,_,w=>PAN c w
 |e,a,w=>Q e a w
theorem tO{PAN:List PanicEntry->World->Prop}{Q:Exit->Act->World->Prop}(h:LetsOut (aWZ PAN Q)):LetsOut Q:=h
theorem aJD{P:Program}{o:Oper}{a:Act}{w:World}{K K':Act->World->Prop}{PAN:List PanicEntry->World->Prop}{Q:Exit->Act->World->Prop}{Inv:Act->Prop}
 (hi:Inv a) (hput:∀v,Inv (a.put o.dst v))
 (hP:∀c w,PAN c w->Q (.panic c) a w) (hnodef:∀w d w',(execOp a.eval o).run P w≠.ok (.defer d) w')
 (h:∀a w,Inv a->K a w->K' a w) (hh:o.wp P a w K (aWZ PAN Q)):o.wp P a w K' Q:=by
 unfold Oper.wp at *
 have hnd2:=hnodef w;generalize (execOp a.eval o).run P w=r at *
 cases r with
 |ok n w' =>
  cases n with
  |value v=>exact h _ _ (hput v) hh
  |skip=>exact h _ _ (hput _) hh
  |defer d=>exact absurd rfl (hnd2 d w')
  |enter f args=>exact Calls.mono hh (fun e w'' he=>by
   cases e with
   |returned v=>exact h _ _ (hput v) he
   |panicked ch=>exact hP _ _ he
   |outgrown=>exact tO he)
  |row r args=>exact Rows.mono hh (fun v w'' he=>h _ _ (hput v) he)
  |_=>exact hh.elim
 |halt x w' =>
  cases x with
  |panic v=>exact hP _ _ hh
  |_=>exact hh.elim
theorem oS{P:Program}{md:Region.Mode}{ops:Array Oper}{PAN:List PanicEntry->World->Prop}{Q:Exit->Act->World->Prop}{Inv:Act->Prop}
 (hput:∀(o:Oper),o∈ops->∀a v,Inv a->Inv (a.put o.dst v)) (hnodef:∀(o:Oper),o∈ops->∀(a:Act) w d w',(execOp a.eval o).run P w≠.ok (.defer d) w')
 (hP:∀c a w,Inv a->PAN c w->Q (.panic c) a w):∀(fuel:Nat) (listed:Array Bool) (a:Act) (w:World),Inv a->wpAny P md ops (aWZ PAN Q) fuel listed a w->wpAny P md ops Q fuel listed a w
 |0,_,_,_,_,h=>⟨h.1,h.2⟩
 |fuel+1,listed,a,w,hi,h=>by
  refine⟨h.1,fun i hri=>?_⟩;have h2:=h.2 i hri;unfold wpOp at *
  split
  ·rename_i ho
   rw[ho] at h2;exact oS hput hnodef hP fuel _ a w hi h2
  ·rename_i o ho
   rw[ho] at h2;have hm:o∈ops:=Array.mem_of_getElem? ho;dsimp only at h2;split
   ·rename_i hw
    rw[bGV hw] at h2;rcases h2 with h2|h2
    ·exact .inl (aJD (Inv:=Inv) hi (fun v=>hput o hm a v hi) (fun c w hp=>hP c a w hi hp) (fun w d w'=>hnodef o hm a w d w') (fun a w hi h=>oS hput hnodef hP fuel _ a w hi h) h2)
    ·exact .inr ⟨h2.1,tO h2.2⟩
   ·rename_i hw
    rw[bGU hw] at h2;exact oS hput hnodef hP fuel _ _ w (hput o hm a _ hi) h2
theorem kJ{P:Program}(X:Sem Value)(w:World)(d:Deferred)(w':World):(do let x <-X;pure (Next.value x):Sem Next).run P w≠.ok (.defer d) w':=by
 exact q442
theorem sL{P:Program}(X:Sem Unit)(w:World)(d:Deferred)(w':World):(do X;pure Next.skip:Sem Next).run P w≠.ok (.defer d) w':=by
 exact q442
theorem aBM{P:Program}{o:Oper}{t:TypeId}{x:Operand}(h:o.op=.load t x)(ρ:Operand->Value)(w:World)(d:Deferred)(w':World):(execOp ρ o).run P w≠.ok (.defer d) w':=by
 unfold execOp;rw[h];exact kJ _ _ _ _
theorem xT{P:Program}{o:Oper}{t:TypeId}{x:Operand}{f:Nat}(h:o.op=.fieldAddr t x f)(ρ:Operand->Value)(w:World)(d:Deferred)(w':World):(execOp ρ o).run P w≠.ok (.defer d) w':=by
 unfold execOp;rw[h];exact kJ _ _ _ _
theorem xU{P:Program}{o:Oper}{t:TypeId}{x y:Operand}(h:o.op=.store t x y)(ρ:Operand->Value)(w:World)(d:Deferred)(w':World):(execOp ρ o).run P w≠.ok (.defer d) w':=by
 unfold execOp;rw[h];exact sL _ _ _ _
theorem aBN{P:Program}{o:Oper}{k:Nat}{args:Array Operand}{tys:Array TypeId}(h:o.op=.call { callee := .value (.func k),args := args,argTypes := tys })(he:∀args w,(callFunc k args).run P w=.ok (.enter k args) w)(a:Act)(w:World)(d:Deferred)(w':World) :
 (execOp a.eval o).run P w≠.ok (.defer d) w':=by
 unfold execOp;rw[h];simp[resolve,go_sem,invoke,he]
theorem nX{P:Program}{ops:Array Oper}{Q:Exit->Act->World->Prop}(keep:List Nat){id:Nat}{a:Act}{w:World}(hm:P.follows .mixedOrders=true)
 (hk:(ops.all fun o=>match o.dst with|none=>true|some t=>!keep.contains t)=true) (hnodef:∀(o:Oper),o∈ops->∀(a:Act) w d w',(execOp a.eval o).run P w≠.ok (.defer d) w')
 (h:wpAny P .any ops (aWZ (fun c W=>∀a':Act,a'.defers=a.defers->(∀i∈keep,a'.tmps[i]?=a.tmps[i]?)->Q (.panic c) a' W) Q) ops.size (Array.replicate ops.size false) a w.drew):(Code.region id ops true).wp P Q a w:=by
 refine wp_region_any hm (oS (Inv:=fun a'=>a'.defers=a.defers/\∀i∈keep,a'.tmps[i]?=a.tmps[i]?) (fun o ho a' v hi=>?_) hnodef (fun c a' w hi hp=>hp a' hi.1 hi.2) _ _ _ _ ⟨rfl,fun _ _=>rfl⟩ h);have ho2:=Array.all_eq_true_iff_forall_mem.1 hk o ho;unfold Act.put;cases hd:o.dst with
 |none=>exact hi
 |some t =>
  rw[hd] at ho2;refine⟨hi.1,fun i hik=>?_⟩;rw[<-hi.2 i hik];have hne:t≠i:=fun e=>by subst e;simp at ho2;exact ho2 hik
  simp[Array.getElem?_setIfInBounds,hne]
end Go.Proofs.YtdjpkgccakgkbaaGreatDoor
