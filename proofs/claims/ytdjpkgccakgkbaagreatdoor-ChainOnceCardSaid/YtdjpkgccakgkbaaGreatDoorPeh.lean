/- Parts of the proof: TdB Keep. -/
import Derived.Test.YtdjpkgccakgkbaaGreatDoorPef
import Derived.Test.YtdjpkgccakgkbaaGreatDoorPeg
import Derived.Test.YtdjpkgccakgkbaaGreatDoorPea
import Derived.RangeFuncNested
import Derived.RangeFuncBound
import Derived.RangeFuncCalls
import Derived.RangeFuncLeaves
import Derived.RangeFuncBox
import Derived.Shelf.Abstract
import Derived.Shelf.RegionOpen
import Derived.OwnWalkIn
import Derived.TacticsInMore
import Derived.LoopNIn
import Derived.LoopIn
import Derived.Maps.AppendAt
import Derived.Maps.OwnIn
set_option linter.all false
set_option maxRecDepth 100000
set_option maxHeartbeats 8000000
section
variable{p:Prop}
theorem q114(h:p:=by rw[<-hw5];exact aA _ _ _ rfl):p:=h
theorem q115(h:p:=by rw[<-hw7];exact aA _ _ _ rfl):p:=h
theorem q116(h:p:=by simp[World.cell?,X7]):p:=h
theorem q117(h:p:=by simp[results,results83,go_sem,z0,z1,z2,z3,zf,y0,y1,y2,y3,yf]):p:=h
theorem q118(h:p:=by repeat' (first|exact hs17|(with_reducible refine Bes.setCell_new ?_ ?_ _)|(show w.heap.size<=w4.heap.size;omega)|(show _<=_;simp;done)|omega)):p:=h
theorem q416(h:p:=by
 rw[hb4.block _ oM,hs3.block _ oM oM,hb2.block _ oM,hs1.block _ sI oM];exact aA _ _ _ rfl):p:=h
theorem q506(h:p:=by exact hr7.belowB (B:=r+1) xK oM):p:=h
end
namespace Go.Proofs.YtdjpkgccakgkbaaGreatDoor
open Go.Proofs.Tryz
open Go.RowKit Fo
def lU(s:ByteArray)(a:Nat)(t:Tok)(p:Nat):Prop:=(aM (s.data.toList.drop a)).2=.good t/\a+(aM (s.data.toList.drop a)).1=p/\p+t.len<=s.size
theorem vO{s:ByteArray}{a:Nat}{t:Tok}(ha:a<=s.size)(h:(aM (s.data.toList.drop a)).2=.good t):lU s a t (a+(aM (s.data.toList.drop a)).1):=by
 refine⟨h,rfl,?_⟩;have:=(cW h).1;simp only[bGS,Array.length_toList,show s.data.size=s.size from rfl] at this;omega
theorem uR{s:ByteArray}{a:Nat}{lo hi n:Int}{r:L}(ha:a<=s.size)(h:uC (s.data.toList.drop a) lo hi=some (n,r)) :
 ∃(l:Nat) (x:L) (p:Nat),lU s a ⟨1,l,n,x⟩ p/\lo<=n/\n<=hi/\r=s.data.toList.drop (p+l):=by
 unfold uC at h;cases ht:(aM (s.data.toList.drop a)).2 with
 |bad e=>rw[ht] at h;cases h
 |good t =>
  rw[ht] at h;dsimp only at h;split at h
  ·rename_i hc
   cases h;obtain⟨k,l,n,x⟩:=t;obtain⟨hk,h1,h2⟩:=hc;dsimp only at hk;subst hk;exact⟨l,x,_,vO ha ht,h1,h2,by rw[List.drop_drop,bHM]⟩
  ·cases h
theorem qO{s:ByteArray}{a:Nat}{w r:L}(ha:a<=s.size)(h:mY (s.data.toList.drop a) w=some r) :
 ∃(l:Nat) (n:Int) (p:Nat),lU s a ⟨5,l,n,w⟩ p/\r=s.data.toList.drop (p+l):=by
 unfold mY at h;cases ht:(aM (s.data.toList.drop a)).2 with
 |bad e=>rw[ht] at h;cases h
 |good t =>
  rw[ht] at h;dsimp only at h;split at h
  ·rename_i hc
   cases h;obtain⟨k,l,n,x⟩:=t;obtain⟨hk,h1⟩:=hc;dsimp only at hk h1;subst hk;subst h1;exact⟨l,n,_,vO ha ht,by rw[List.drop_drop,bHM]⟩
  ·cases h
theorem aPB{s:ByteArray}{a:Nat}{num:Int}{x:Sl}{r:L}(ha:a<=s.size)(h:nO num (s.data.toList.drop a)=some (x,r)) :
 ∃(A G:Int) (l1:Nat) (x1:L) (p1 l2:Nat) (x2:L) (p2 l3:Nat) (n3:Int) (p3:Nat) (yes:Bool),lU s a ⟨1,l1,A,x1⟩ p1/\lU s (p1+l1) ⟨1,l2,G,x2⟩ p2/\lU s (p2+l2) ⟨5,l3,n3,if yes then[110] else[102]⟩ p3 /\
  0<=A/\A<=2147483647/\0<=G/\G<=65535/\x=⟨num,if yes then 1 else 0,A,G⟩/\r=s.data.toList.drop (p3+l3):=by
 unfold nO at h;cases h1:uC (s.data.toList.drop a) 0 2147483647 with
 |none=>rw[h1] at h;cases h
 |some y =>
  obtain⟨A,r1⟩:=y;rw[h1] at h;dsimp only at h;obtain⟨l1,x1,p1,T1,b1,b2,rfl⟩:=uR ha h1;have ha1:p1+l1<=s.size:=T1.2.2;cases h2:uC (s.data.toList.drop (p1+l1)) 0 65535 with
  |none=>rw[h2] at h;cases h
  |some y =>
   obtain⟨G,r2⟩:=y;rw[h2] at h;dsimp only at h;obtain⟨l2,x2,p2,T2,b3,b4,rfl⟩:=uR ha1 h2;have ha2:p2+l2<=s.size:=T2.2.2;cases h3:mY (s.data.toList.drop (p2+l2)) [110] with
   |some l3 =>
    rw[h3] at h;cases h;obtain⟨l3,n3,p3,T3,rfl⟩:=qO ha2 h3;exact⟨A,G,l1,x1,p1,l2,x2,p2,l3,n3,p3,true,T1,T2,T3,b1,b2,b3,b4,rfl,rfl⟩
   |none =>
    rw[h3] at h;dsimp only at h;cases h4:mY (s.data.toList.drop (p2+l2)) [102] with
    |none=>rw[h4] at h;cases h
    |some l3 =>
     rw[h4] at h;cases h;obtain⟨l3,n3,p3,T3,rfl⟩:=qO ha2 h4;exact⟨A,G,l1,x1,p1,l2,x2,p2,l3,n3,p3,false,T1,T2,T3,b1,b2,b3,b4,rfl,rfl⟩
theorem iU{s:ByteArray}{a l p:Nat}{k n:Int}{x:L}(h:lU s a ⟨k,l,n,x⟩ p)(hk:k≠0)(ha:a<=s.size):a<p+l:=by
 have hn:bE (s.data.toList.drop a)=.good (⟨k,l,n,x⟩,(s.data.toList.drop a).drop ((aM (s.data.toList.drop a)).1+l)):=by
  unfold bE;rw[h.1];dsimp only;rw[bGU hk]
 have h1:=(bQ hn).1;have h2:=h.2.1;simp only[bGS,Array.length_toList,show s.data.size=s.size from rfl] at h1;omega
theorem eH(r:Nat)(s:ByteArray)(a p l:Nat)(k n:Int)(x:L)(hT:lU s a ⟨k,l,n,x⟩ p)(ha:a<=s.size)(hs:s.size<=140737488355327)(m:Int)(w:World)(hm:aF w m)(hr:RdT w r s a) :
 Calls prog 50 #[.pointer (some ⟨r,0,none⟩)] w fun e w'=>e=.returned (.agg #[.int .i64 k,.int .i64 p,.int .i64 (p+l:Nat),.int .i64 n,.string ⟨x.toArray⟩])/\RdT w' r s (p+l)/\Bes r w w' :=
 aHS r s a p ⟨k,l,n,x⟩ ha hs m w hm hr hT.1 hT.2.1
theorem aDU(r:Nat)(s:ByteArray)(a:Nat)(num:Int)(x:Sl)(aP:L)(h:nO num (s.data.toList.drop a)=some (x,aP))(ha:a<=s.size)(hs:s.size<=140737488355327)(m:Int)(w:World)(hm:aF w m)(hr:RdT w r s a)(hrm:r≠1) :
 Calls prog 83 #[.pointer (some ⟨r,0,none⟩),.int .i64 num] w fun e w'=>e=.returned (slV x)/\(∃b,a<b/\b<=s.size/\aP=s.data.toList.drop b/\RdT w' r s b)/\Bes r w w':=by
 obtain⟨A,G,l1,x1,p1,l2,x2,p2,l3,n3,p3,yes,T1,T2,T3,b1,b2,b3,b4,rfl,rfl⟩:=aPB ha h;have hp3:=T3.2.2;have hab:a<p3+l3:=by
  have h1:=iU T1 dC ha;have h2:=iU T2 dC T1.2.2;have h3:=iU T3 dC T2.2.2;omega
 clear h;have hlt0:=hr.lt;cases yes
 ·have HT:=Lh (bGQ T1 (bGQ T2 T3));simp only[Bool.false_eq_true,if_false] at HT ⊢;clear T1 T2 T3;go_enter func83,ntmps83
  go_wp2_with fail;refine(eH r s a p1 l1 1 A x1 HT.out.1 ha hs m _ (hm.below bel) (hr.below bel)).mono ?_;rintro e w1 ⟨rfl,hr1,hs1⟩;have hm1:aF w1 m:=aF.bes (hm.below (w':=w.alloc (.cells #[.int .i64 0,.int .i64 0,.int .i64 0,.int .i64 0] 39)) bel) hs1 hrm;have hz1:=hs1.size;simp at hz1;go_wp2_with fail;refine(fV A 2147483647 p1 (p1+l1) _ b1 b2 _).mono ?_;rintro e w2 ⟨rfl,hb2⟩;have hz2:=hb2.size;go_wp2_with fail;refine(eH r s (p1+l1) p2 l2 1 G x2 HT.out.2.1 HT.out.1.2.2 hs m _ (hm1.below hb2) (hr1.below hb2)).mono ?_;rintro e w3 ⟨rfl,hr3,hs3⟩;have hm3:=aF.bes (hm1.below hb2) hs3 hrm;have hz3:=hs3.size;go_wp2_with fail;refine(fV G 65535 p2 (p2+l2) _ b3 b4 _).mono ?_;rintro e w4 ⟨rfl,hb4⟩;have hz4:=hb4.size;have hs14:Bes r w w4:=(((Bes.of_below (r:=r) (show Below w.heap.size w (w.alloc (.cells #[.int .i64 0,.int .i64 0,.int .i64 0,.int .i64 0] 39)) from bel)).trans hs1).trans (Bes.of_below hb2)).trans (hs3.trans (Bes.of_below hb4));have hr4:=hr3.below hb4;have hm4:=hm3.below hb4;have hlt:=hr.lt;have X0:w4.heap[w.heap.size]?=some (.cells #[.int .i64 0,.int .i64 0,.int .i64 0,.int .i64 0] 39 (0,0)):=by
   exact q416
  clear hs1 hb2 hs3 hb4 hm1 hm3 hr1 hr3 hm hr;go_upto_region 2 with fail
  obtain⟨w5,hw5⟩:=eX (w4.alloc (.cells #[.int .i64 num,.int .i64 0,.int .i64 A,.int .i64 G] 39));have hb5:Below w4.heap.size w4 w5:=by rw[<-hw5];exact bel
  have X1:w5.heap[w4.heap.size]?=some (.cells #[.int .i64 num,.int .i64 0,.int .i64 A,.int .i64 G] 39 (0,0)):=q114;have hz5:w5.heap.size=w4.heap.size+1:=by rw[<-hw5];simp
  rw[hw5];clear hw5;go_wp2_with fail;refine(eH r s (p2+l2) p3 l3 5 n3 _ HT.out.2.2 HT.out.2.1.2.2 hs m _ (hm4.below hb5) (hr4.below hb5)).mono ?_;rintro e w6 ⟨rfl,hr6,hs6⟩;have hz6:=hs6.size;have Y0:=(hs6.block w.heap.size oM oM).trans ((hb5.block _ oM).trans X0);have Y1:=(hs6.block w4.heap.size oM oM).trans X1;have hs16:Bes r w w6:=(hs14.trans (Bes.of_below hb5)).trans hs6;have hl6:=hr6.lt;clear hs6 hb5 X0 X1 hs14 hr4 hm4;go_upto_region 3 with fail
  obtain⟨w7,hw7⟩:=eX (w6.alloc (.cells #[.int .i64 5,.int .i64 p3,.int .i64 (p3+l3:Nat),.int .i64 n3,.string ⟨([102]:L).toArray⟩] 81));have hb7:Below w6.heap.size w6 w7:=by rw[<-hw7];exact bel
  have X7:w7.heap[w6.heap.size]?=some (.cells #[.int .i64 5,.int .i64 p3,.int .i64 (p3+l3:Nat),.int .i64 n3,.string ⟨([102]:L).toArray⟩] 81 (0,0)):=q115;simp only[Int.natCast_add,List.toArray] at hw7 X7 ⊢;rw[hw7];replace Y0:=(hb7.block _ oM).trans Y0;replace Y1:=(hb7.block _ oM).trans Y1;have hs17:=hs16.trans (Bes.of_below hb7);have hr7:=hr6.below hb7;clear hw7 hb7 hs16 hr6;obtain⟨z0,z1,z2,z3⟩:w7.cell? ⟨w.heap.size,0,none⟩=some (.int .i64 0)/\w7.cell? ⟨w.heap.size,1,none⟩=some (.int .i64 0)/\w7.cell? ⟨w.heap.size,2,none⟩=some (.int .i64 0)/\w7.cell? ⟨w.heap.size,3,none⟩=some (.int .i64 0):=by simp[World.cell?,Y0]
  obtain⟨y0,y1,y2,y3⟩:w7.cell? ⟨w4.heap.size,0,none⟩=some (.int .i64 num)/\w7.cell? ⟨w4.heap.size,1,none⟩=some (.int .i64 0)/\w7.cell? ⟨w4.heap.size,2,none⟩=some (.int .i64 A)/\w7.cell? ⟨w4.heap.size,3,none⟩=some (.int .i64 G):=by simp[World.cell?,Y1]
  have t0:w7.cell? ⟨w6.heap.size,0,none⟩=some (.int .i64 5):=q116;have t4:w7.cell? ⟨w6.heap.size,4,none⟩=some (.string ⟨([102]:L).toArray⟩):=q116;have zf:∀o,w7.frozen? ⟨w.heap.size,o,none⟩=false:=fun o=>by simp[World.frozen?,Y0]
  have yf:∀o,w7.frozen? ⟨w4.heap.size,o,none⟩=false:=fun o=>by simp[World.frozen?,Y1]
  have ne1:¬w.heap.size=w4.heap.size:=oM;have ne2:¬w4.heap.size=w.heap.size:=oM;clear Y0 Y1 X7;go_wp2_with(go_at_call 49;refine(bD _).mono ?_;rintro e w9 ⟨rfl,rfl⟩)
  refine bGN (v:=.agg #[.int .i64 num,.int .i64 0,.int .i64 A,.int .i64 G]) q117 rfl ⟨rfl,⟨p3+l3,hab,hp3,rfl,?_⟩,?_⟩
  ·exact q506
  ·exact q118
 ·have HT:=Lh (bGQ T1 (bGQ T2 T3));simp only[if_true] at HT ⊢;clear T1 T2 T3;go_enter func83,ntmps83
  go_wp2_with fail;refine(eH r s a p1 l1 1 A x1 HT.out.1 ha hs m _ (hm.below bel) (hr.below bel)).mono ?_;rintro e w1 ⟨rfl,hr1,hs1⟩;have hm1:aF w1 m:=aF.bes (hm.below (w':=w.alloc (.cells #[.int .i64 0,.int .i64 0,.int .i64 0,.int .i64 0] 39)) bel) hs1 hrm;have hz1:=hs1.size;simp at hz1;go_wp2_with fail;refine(fV A 2147483647 p1 (p1+l1) _ b1 b2 _).mono ?_;rintro e w2 ⟨rfl,hb2⟩;have hz2:=hb2.size;go_wp2_with fail;refine(eH r s (p1+l1) p2 l2 1 G x2 HT.out.2.1 HT.out.1.2.2 hs m _ (hm1.below hb2) (hr1.below hb2)).mono ?_;rintro e w3 ⟨rfl,hr3,hs3⟩;have hm3:=aF.bes (hm1.below hb2) hs3 hrm;have hz3:=hs3.size;go_wp2_with fail;refine(fV G 65535 p2 (p2+l2) _ b3 b4 _).mono ?_;rintro e w4 ⟨rfl,hb4⟩;have hz4:=hb4.size;have hs14:Bes r w w4:=(((Bes.of_below (r:=r) (show Below w.heap.size w (w.alloc (.cells #[.int .i64 0,.int .i64 0,.int .i64 0,.int .i64 0] 39)) from bel)).trans hs1).trans (Bes.of_below hb2)).trans (hs3.trans (Bes.of_below hb4));have hr4:=hr3.below hb4;have hm4:=hm3.below hb4;have hlt:=hr.lt;have X0:w4.heap[w.heap.size]?=some (.cells #[.int .i64 0,.int .i64 0,.int .i64 0,.int .i64 0] 39 (0,0)):=by
   exact q416
  clear hs1 hb2 hs3 hb4 hm1 hm3 hr1 hr3 hm hr;go_upto_region 2 with fail
  obtain⟨w5,hw5⟩:=eX (w4.alloc (.cells #[.int .i64 num,.int .i64 0,.int .i64 A,.int .i64 G] 39));have hb5:Below w4.heap.size w4 w5:=by rw[<-hw5];exact bel
  have X1:w5.heap[w4.heap.size]?=some (.cells #[.int .i64 num,.int .i64 0,.int .i64 A,.int .i64 G] 39 (0,0)):=q114;have hz5:w5.heap.size=w4.heap.size+1:=by rw[<-hw5];simp
  rw[hw5];clear hw5;go_wp2_with fail;refine(eH r s (p2+l2) p3 l3 5 n3 _ HT.out.2.2 HT.out.2.1.2.2 hs m _ (hm4.below hb5) (hr4.below hb5)).mono ?_;rintro e w6 ⟨rfl,hr6,hs6⟩;have hz6:=hs6.size;have Y0:=(hs6.block w.heap.size oM oM).trans ((hb5.block _ oM).trans X0);have Y1:=(hs6.block w4.heap.size oM oM).trans X1;have hs16:Bes r w w6:=(hs14.trans (Bes.of_below hb5)).trans hs6;have hl6:=hr6.lt;clear hs6 hb5 X0 X1 hs14 hr4 hm4;go_upto_region 3 with fail
  obtain⟨w7,hw7⟩:=eX (w6.alloc (.cells #[.int .i64 5,.int .i64 p3,.int .i64 (p3+l3:Nat),.int .i64 n3,.string ⟨([110]:L).toArray⟩] 81));have hb7:Below w6.heap.size w6 w7:=by rw[<-hw7];exact bel
  have X7:w7.heap[w6.heap.size]?=some (.cells #[.int .i64 5,.int .i64 p3,.int .i64 (p3+l3:Nat),.int .i64 n3,.string ⟨([110]:L).toArray⟩] 81 (0,0)):=q115;simp only[Int.natCast_add,List.toArray] at hw7 X7 ⊢;rw[hw7];replace Y0:=(hb7.block _ oM).trans Y0;replace Y1:=(hb7.block _ oM).trans Y1;have hs17:=hs16.trans (Bes.of_below hb7);have hr7:=hr6.below hb7;clear hw7 hb7 hs16 hr6;obtain⟨z0,z1,z2,z3⟩:w7.cell? ⟨w.heap.size,0,none⟩=some (.int .i64 0)/\w7.cell? ⟨w.heap.size,1,none⟩=some (.int .i64 0)/\w7.cell? ⟨w.heap.size,2,none⟩=some (.int .i64 0)/\w7.cell? ⟨w.heap.size,3,none⟩=some (.int .i64 0):=by simp[World.cell?,Y0]
  obtain⟨y0,y1,y2,y3⟩:w7.cell? ⟨w4.heap.size,0,none⟩=some (.int .i64 num)/\w7.cell? ⟨w4.heap.size,1,none⟩=some (.int .i64 0)/\w7.cell? ⟨w4.heap.size,2,none⟩=some (.int .i64 A)/\w7.cell? ⟨w4.heap.size,3,none⟩=some (.int .i64 G):=by simp[World.cell?,Y1]
  have t0:w7.cell? ⟨w6.heap.size,0,none⟩=some (.int .i64 5):=q116;have t4:w7.cell? ⟨w6.heap.size,4,none⟩=some (.string ⟨([110]:L).toArray⟩):=q116;have zf:∀o,w7.frozen? ⟨w.heap.size,o,none⟩=false:=fun o=>by simp[World.frozen?,Y0]
  have yf:∀o,w7.frozen? ⟨w4.heap.size,o,none⟩=false:=fun o=>by simp[World.frozen?,Y1]
  have ne1:¬w.heap.size=w4.heap.size:=oM;have ne2:¬w4.heap.size=w.heap.size:=oM;clear Y0 Y1 X7;go_wp2_with(go_at_call 49;refine(bD _).mono ?_;rintro e w9 ⟨rfl,rfl⟩)
  refine bGN (v:=.agg #[.int .i64 num,.int .i64 1,.int .i64 A,.int .i64 G]) q117 rfl ⟨rfl,⟨p3+l3,hab,hp3,rfl,?_⟩,?_⟩
  ·exact q506
  ·exact q118
open Go.Shelf
def nP(Bs:Nat)(W:World)(b:Nat):Prop:=∃v,W.cell? ⟨Bs,0,none⟩=some v/\v.ownBlock=some b
def aAN(Bs:Nat)(W:World):Prop:=∀b,nP Bs W b->b<W.heap.size
theorem nP.iff{Bs:Nat}{W W':World}(h:W'.heap[Bs]?=W.heap[Bs]?)(b:Nat):nP Bs W' b↔nP Bs W b:=by
 unfold nP;rw[bGO (a:=⟨Bs,0,none⟩) h]
theorem aAN.below{Bs:Nat}{W W':World}(h:aAN Bs W)(hB:Bs<W.heap.size)(hb:Below W.heap.size W W'):aAN Bs W':=fun b hbb =>
 bGA (h b ((nP.iff (hb.block Bs hB) b).1 hbb)) hb.size
structure qP (Bs:Nat) (W:World) (b:Nat) (cur:Array Value) (t:TypeId):Prop where
 at':W.heap[b]?=some (.cells cur t (0,0))
 ne:b≠Bs
 own:¬nP Bs W b
theorem qP.below{Bs:Nat}{W W':World}{b:Nat}{cur:Array Value}{t:TypeId}(h:qP Bs W b cur t)(hB:Bs<W.heap.size)(hb:Below W.heap.size W W'):qP Bs W' b cur t :=
 ⟨(hb.block b (bGJ h.at')).trans h.at',h.ne,fun x=>h.own ((nP.iff (hb.block Bs hB) b).1 x)⟩
theorem qP.new{Bs:Nat}{W W':World}{b:Nat}{cur:Array Value}{t:TypeId}(hs:aAN Bs W)(hB:Bs<W.heap.size)(hb:Below W.heap.size W W')(hn:W.heap.size<=b)(h:W'.heap[b]?=some (.cells cur t (0,0))):qP Bs W' b cur t :=
 ⟨h,oM,fun x=>by have:=hs b ((nP.iff (hb.block Bs hB) b).1 x);omega⟩
structure aDV (n₀ Bs:Nat) (W W':World):Prop where
 below:Below n₀ W W'
 other:∀(b:Nat) (cur:Array Value) (t:TypeId),qP Bs W b cur t->qP Bs W' b cur t
 safe:aAN Bs W->aAN Bs W'
theorem aDV.putObj{n₀ Bs:Nat}{W:World}{l:Nat}{o o':Obj}(hn:n₀<=l)(hB:Bs<l)(h:W.heap[l]?=some o)(hc:o.isCells=false):aDV n₀ Bs W (W.putObj l o'):=by
 have hB':(W.putObj l o').heap[Bs]?=W.heap[Bs]?:=World.putObj_heap_other oM;have hs:(W.putObj l o').heap.size=W.heap.size:=sI;refine⟨(bGL n₀ W).grown (grownBy_putObj' W l o') (by have:=bGJ h;omega) (fun k e=>by cases e;exact hn),fun b cur t x=>⟨?_,x.ne,fun y=>x.own ((nP.iff hB' b).1 y)⟩,fun x b y=>by rw[hs];exact x b ((nP.iff hB' b).1 y)⟩;refine(World.putObj_heap_other (fun e=>?_)).trans x.at';subst e;have:=x.at';rw[h] at this;cases this;cases hc
theorem nQ{Bs:Nat}{W:World}{t:TypeId}{v:Value}(h:Boxed W Bs t v)(b:Nat):nP Bs W b↔v.ownBlock=some b:=by
 unfold nP;rw[h.cell];constructor
 ·rintro⟨u,e,hu⟩;cases e;exact hu
 ·exact fun e=>⟨v,rfl,e⟩
theorem aDW{n₀ Bs:Nat}{W w1:World}{v v':Value}{tmp:Obj}{t:TypeId}(hv:Boxed W Bs t v)(hv2:Boxed (w1.setCell ⟨Bs,0,none⟩ v') Bs t v')(hg:(W.alloc tmp).grownBy w1 v.ownBlock)
 (ho:v'.ownBlock=v.ownBlock\/v'.ownBlock=some (W.heap.size+1)) (hlt:∀b,v'.ownBlock=some b->b<w1.heap.size) (hb:Below n₀ W (w1.setCell ⟨Bs,0,none⟩ v')):aDV n₀ Bs W (w1.setCell ⟨Bs,0,none⟩ v'):=by
 have hs:(w1.setCell ⟨Bs,0,none⟩ v').heap.size=w1.heap.size:=sI;refine⟨hb,fun b cur ty x=>?_,fun _ b hbb=>?_⟩
 ·have hx:=x.at';have hl:=bGJ hx;have hn:v.ownBlock≠some b:=fun e=>x.own ((nQ hv b).2 e)
  refine⟨?_,x.ne,fun y=>?_⟩
  ·rw[bGK _ _ _ b (fun e=>x.ne e),hg.block b sO (fun e=>hn e.symm),bGM _ _ b hl];exact hx
  ·rcases ho with e|e
   ·exact hn (e▸(nQ hv2 b).1 y)
   ·have:=(nQ hv2 b).1 y;rw[e] at this;cases this;omega
 ·rw[hs];exact hlt b ((nQ hv2 b).1 hbb)
end Go.Proofs.YtdjpkgccakgkbaaGreatDoor
