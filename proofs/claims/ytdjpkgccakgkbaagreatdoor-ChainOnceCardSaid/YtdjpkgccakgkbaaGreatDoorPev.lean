/- Parts of the proof: PrE PrF FiA FiB. -/
import Derived.Test.YtdjpkgccakgkbaaGreatDoorPeu
set_option linter.all false
set_option maxRecDepth 100000
set_option maxHeartbeats 8000000
section
variable{p:Prop}
theorem q214(h:p:=by rw[bHL];exact(Nat.mul_div_cancel' (Nat.dvd_of_mod_eq_zero hmd)).symm):p:=h
theorem q215(h:p:=by rw[HRE.out];rfl):p:=h
theorem q216(h:p:=by rw[<-hg];show(wr.setCell ⟨rb,0,none⟩ (.slice pv prev.length cv)).heap.size=_;simp[World.setCell]):p:=h
theorem q217(h:p:=by rw[aC (aC ((HBW.out.block rb hrl).trans HRB.out))];rfl):p:=h
theorem q218(h:p:=by show g≠rb;omega):p:=h
theorem q219(h:p:=by rw[hl];rfl):p:=h
theorem q220(h:p:=by rw[HRE.out];rw[<-HS.out];rfl):p:=h
theorem q296(h:p:=by
 rw[hXn,HY.out] at HMO;go_wp2_with fail;refine HMO.out.mono ?_;rintro e w6 ⟨rfl,hb6,hr6⟩;have hB6:=(hb6.block rb hrbW oM).trans HS.out.blk;obtain⟨y0,y1,y2,yf⟩:=aE hB6;have hWg:W2.heap.size≥g:=by have:=HS.out.row.1;omega
 have hrow6:aG dV 5 w6 (rb+1) u9 out:=fB HRow.out fun k hk=>by
  have h1:=cM HRow.out k hk;have h2:=aK HRow.out k hk;exact(hb6.block k oM oM).trans (HS.out.old k oM oM)
 have hown:∀k,u9.ownBlock=some k->k<g:=fun k hk=>by have:=cM HRow.out k hk;omega
 have HRow6:=Lh hrow6;have HR6:=Lh hr6;have HB6:=Lh hB6;have hz6:=hb6.size;have HBW:=Lh (show Below w.heap.size w w6 from HB.out.trans ((HS.out.below.mono hrw).trans ⟨hb6.os,hb6.tape,hb6.output,hb6.size,fun k hk=>hb6.block k oM oM⟩));have hra:=hr6.arg (c:=ce);rw[hYn] at hra;have HRA:=Lh hra;clear HMO x0 x1 x2 xf hr6 hrow6 hB6 hb6 hra HS;go_wp2_with(at_builtin;go_must (refine iI (E:=dV) rfl _ _ rfl underlying196 Tryz.infoU8 rfl dC dC (rb+1) _ (.slice (some ⟨g,0,none⟩) n ce) out Y HRow6.out (by rfl) (by rfl) HRA.out q192 oM oM ?_);intro p7 q7 w7 hr7 hb7 hg7)
 have HM1:=HM.out;have hll:(xx::l).length=l.length+1:=rfl;have htl:(xx::l).length=m*M:=by rw[<-HM1];exact HTM.out
 go_roundw
 case rel =>
  refine⟨fu,m-1,Y,(xx::l).drop M,out++Y,_,_,rfl,by rw[hYn] at hr7;exact hr7,(hb7.block rb (Nat.lt_succ_self rb)).trans HB6.out,?_,oM,?_,HBW.out.trans (hb7.mono oM),?_,?_,?_,HR3⟩
  ·have h:=(HR6.out.kept hg7.size (hg7.block g HR6.out.1 (fun e=>by have:=hown g e.symm;omega))).arg (c:=ce);rw[hYn] at h;exact h
  ·intro b o n c e;cases e;exact⟨by have:=hb7.size;have:=HR6.out.1;omega,oM⟩
  ·rw[bGS,htl,HM1,Nat.sub_mul];omega
  ·rw[bGS,bGR];omega
  ·rw[bGS];omega
 case measure=>rw[hMs];show((xx::l).drop M).length<_;rw[bGS];show l.length+1-M<_;omega):p:=h
theorem q334(h:p:=by
 subst hR;clear HRZ HMAY h10;go_enter func207,ntmps207
 go_wp2_with fail;with_reducible refine(HROW.out _).mono ?_
 rintro e w1 ⟨rfl,hb1⟩;have HB1:=Lh (show Below w.heap.size w w1 from bHE bel (hb1.mono sI));have hz1:=hb1.size;obtain⟨c0,c1,c2,cf⟩:=aE ((hb1.block w.heap.size sI).trans (aA w _ _ rfl));clear hb1;go_wp2_with fail;refine(HREF.out _).mono ?_;rintro e w2 ⟨rfl,hb2⟩;go_wp2_with fail;go_ret2
 exact⟨HB1.out.trans (hb2.mono HB1.out.size),rfl⟩):p:=h
theorem q337(h:p:=by
 have HRE:=Lh hR.symm;clear hR;go_enter func98,ntmps98
 go_wp2_with fail;go_ret2
 exact⟨rfl,q215⟩):p:=h
theorem q356(h:p:=by
 have HRE:=Lh hR.symm;clear hR;go_enter func98,ntmps98
 go_wp2_with fail;go_ret2
 exact⟨rfl,q220⟩):p:=h
theorem q419(h:p:=by
 have HRE:=Lh (show R=.good out from hR.symm);have hcv:=qA (fM.2 HRow.out);clear hR;go_wp2_with fail;go_ret2
 exact⟨HB.out,q215⟩):p:=h
theorem q457(h:p:=by
 rcases Nat.eq_zero_or_pos m with h|h
 ·have htm:=HTM.out;rw[h,Nat.zero_mul] at htm;cases htm
 ·exact h):p:=h
theorem q518(h:p:=by
 obtain rfl:=h2;go_wp2_with fail;go_ret2
 exact⟨HB2.out,rfl⟩):p:=h
theorem q561(h:p:=by
 go_wp2_with fail;go_ret2
 exact⟨HB1.out,q215⟩):p:=h
theorem q582(h:p:=by
 rw[hR] at HP ⊢;clear hR;go_enter func192,ntmps192
 exact q314):p:=h
end
namespace Go.Proofs.YtdjpkgccakgkbaaGreatDoor
open Go.Proofs.Tryz
open Go.RowKit Fo
def kT(tag colors:Nat)(above:L):Nat->L->L
 |0,row=>row
 |k+1,row=>(kT tag colors above k row).set k ((kT tag colors above k row).getD k 0+aYN tag colors above (kT tag colors above k row) k)
theorem mB(tag colors:Nat)(above:L):∀(k:Nat) (row:L),(kT tag colors above k row).length=row.length
 |0,_=>rfl
 |k+1,row=>by show(List.set _ _ _).length=_;rw[List.length_set,mB tag colors above k row]
def sU(w:World)(g:Nat)(l:L):Prop:=g<w.heap.size/\∀j (hj:j<l.length),w.cell? ⟨g,j,none⟩=some (.int .u8 l[j].toNat)/\w.frozen? ⟨g,j,none⟩=false
theorem sU.kept{w w':World}{g:Nat}{l:L}(h:sU w g l)(hz:w.heap.size<=w'.heap.size)(hk:w'.heap[g]?=w.heap[g]?):sU w' g l :=
 ⟨bGA h.1 hz,fun j hj=>⟨(bGO hk).trans (h.2 j hj).1,(World.frozen?_of_block hk).trans (h.2 j hj).2⟩⟩
theorem sU.arg{w:World}{g c:Nat}{l:L}(h:sU w g l):bC dV w (.slice (some ⟨g,0,none⟩) l.length c) l:=by
 refine⟨_,_,rfl,fun j hj=>⟨g,0,rfl,h.1,fun i u hu=>?_⟩⟩;have hi:i=0:=by
  exact q540
 subst hi;simp only[dV,Nat.mul_one,Nat.zero_add,Nat.add_zero] at hu ⊢;rw[(h.2 j hj).1,<-hu];rfl
theorem sU.set{w:World}{g k:Nat}{l:L}(h:sU w g l)(hk:k<l.length)(x:UInt8):sU (w.setCell ⟨g,k,none⟩ (.int .u8 x.toNat)) g (l.set k x):=by
 refine⟨by simpa[World.setCell] using h.1,fun j hj=>⟨?_,?_⟩⟩
 ·have hj2:j<l.length:=by rw[List.length_set] at hj;exact hj
  by_cases hjk:j=k
  ·subst hjk;rw[World.cell?_setCell_same' _ _ _ (by rw[(h.2 j hj2).1];rfl),List.getElem_set_self]
  ·rw[World.cell?_setCell_other _ _ _ _ (by intro e;cases e;exact hjk rfl),(h.2 j hj2).1,List.getElem_set_ne (fun e=>hjk e.symm)]
 ·have hj2:j<l.length:=by rw[List.length_set] at hj;exact hj
  rw[World.frozen?_setCell];exact(h.2 j hj2).2
theorem bC.kept'{w w':World}{v:Value}{l:L}{g:Nat}(h:bC dV w v l)(hg:∀b o n c,v=.slice (some ⟨b,o,none⟩) n c->b≠g)(hz:w.heap.size<=w'.heap.size)(hk:∀b,b<w.heap.size->b≠g->w'.heap[b]?=w.heap[b]?):bC dV w' v l:=by
 obtain⟨p,c,rfl,h⟩:=h;refine⟨p,c,rfl,fun j hj=>?_⟩;obtain⟨b,o,rfl,h2,h3⟩:=h j hj;exact⟨b,o,rfl,bGA h2 hz,fun i u hu=>(bGO (hk b h2 (hg b o _ c rfl))).trans (h3 i u hu)⟩
theorem aFY(w:World)(va:Value)(g cr:Nat)(above row:L)(tag colors:Nat)(ha:bC dV w va above)(hg:∀b o n c,va=.slice (some ⟨b,o,none⟩) n c->b≠g)(hr:sU w g row)(hal:above.length<=10000)(hrl:row.length<=10000)(hc:colors<=10000)(ht:tag<=4) :
 Calls prog 241 #[.agg #[va,.slice (some ⟨g,0,none⟩) row.length cr,.int .i64 colors],.int .i64 tag] w fun e w'=>e=.returned (.tuple #[])/\Bes g w w'/\sU w' g (kT tag colors above row.length row):=by
 obtain⟨N,hN⟩:=eX (row.length);have hgl:=hr.1;have HN:=Lh hN;have HR:=Lh hr;have HA:=Lh ha;obtain⟨w0,hw0⟩:=eX (w.alloc (.cells #[va,.slice (some ⟨g,0,none⟩) N cr,.int .i64 colors] 301));have hb0:Below w.heap.size w w0:=q150;have h0:w0.heap[w.heap.size]?=some (.cells #[va,.slice (some ⟨g,0,none⟩) N cr,.int .i64 colors] 301 (0,0)):=by rw[<-hw0];exact aA _ _ _ rfl
 have hz0:=bGJ h0;obtain⟨c0,c1,c2,cf⟩:=aE h0;obtain⟨pa,ca,rfl,_⟩:=id ha;have HH0:=Lh h0;have HB0:=Lh hb0;rw[hN];rw[hN] at hrl;clear hN hr ha h0 hb0;go_enter func241,ntmps241
 go_wp2_with fail
 (try rw[hw0])
 clear hw0;go_loopw [8] (fun i wr=>∃k:Nat,k<=N/\i=.int .i64 k/\sU wr g (kT tag colors above k row)/\Bes g w wr/\wr.heap[w.heap.size]?=some (.cells #[.slice pa above.length ca,.slice (some ⟨g,0,none⟩) N cr,.int .i64 colors] 301 (0,0))) (fun i _=>N-(intOf i).toNat)
 case atStart=>exact⟨0,bGF _,rfl,HR.out.kept HB0.out.size (HB0.out.block g hgl),⟨HB0.out.os,HB0.out.tape,HB0.out.output,HB0.out.size,fun j h1 _=>HB0.out.block j h1⟩,HH0.out⟩
 case round =>
  clear c0 c1 c2 cf;obtain⟨k,hk,rfl,hR,hB,hX⟩:=hrel;obtain⟨M,hM⟩:=eX (kT tag colors above k row);have hMl:M.length=N:=by rw[<-hM,mB,HN.out]
  rw[hM] at hR;have HRk:=Lh hR;have HBk:=Lh hB;have HXk:=Lh hX;have hxl:=bGJ hX;obtain⟨c0,c1,c2,cf⟩:=aE hX;by_cases hkN:k<N
  ·have hkM:k<M.length:=oM;obtain⟨e0,ef⟩:=hR.2 k hkM;have hsucc:kT tag colors above (k+1) row=M.set k (M.getD k 0+aYN tag colors above M k):=by show List.set _ _ _=_;rw[hM]
   have hgd:M.getD k 0=M[k]:=by rw[bGX,bGE hkM];rfl
   rw[hgd] at hsucc;obtain⟨x,hx⟩:=eX (M[k]);rw[hx] at e0 hsucc;have HXM:=Lh hx;have hgw:=hR.1;have HOF:=Lh (fun(W:World) (hW:Below wr.heap.size wr W)=>bER W (.slice pa above.length ca) (.slice (some ⟨g,0,none⟩) M.length cr) above M tag colors k ((HA.out.kept' hg hB.size (fun b h1 h2=>hB.block b h1 h2)).below hW) ((hR.arg).below hW) hal oM hc oM ht);rw[hMl] at HOF;obtain⟨o,ho⟩:=eX (aYN tag colors above M k);rw[ho] at HOF hsucc;have hadd:IntKind.u8.wrap ((x.toNat:Int)+o.toNat)=((x+o).toNat:Int):=by rw[UInt8.toNat_add,IntKind.wrap_u8];omega
   have HS:=Lh hsucc;have hkM2:=hkM;rw[hMl] at hkM2;clear hR hB hX ho hsucc hgd hx hM;go_upto_region 4 with fail
   go_region_law (first
    |(go_simp;go_at_call 252;(with_reducible refine(HOF.out _ ?_).mono ?_);(first|exact bGL _ _|exact Below.drew (bGL _ _)|exact cO _);rintro e w2 ⟨rfl,hb2⟩;(have HB2:=Lh (show Below wr.heap.size wr w2 from bHE q204 hb2));(have hR2:=HRk.out.kept HB2.out.size (HB2.out.block g hgw));(obtain⟨e0',ef'⟩:=hR2.2 k hkM);(rw[HXM.out] at e0');(obtain⟨c0',c1',c2',cf2'⟩:=aE ((HB2.out.block w.heap.size hxl).trans HXk.out));clear hb2))
   all_goals go_wp2
   all_goals go_roundw
   all_goals first
    |exact⟨k+1,oM,q12,by rw[HS.out];exact hR2.set hkM (x+o),HBk.out.trans ((Bes.trans (show Bes g wr w2 from⟨HB2.out.os,HB2.out.tape,HB2.out.output,HB2.out.size,fun j h1 _=>HB2.out.block j h1⟩) (Bes.refl _ _)).setCell _ _),(bGK _ _ _ _ (by show w.heap.size≠g;omega)).trans ((HB2.out.block w.heap.size hxl).trans HXk.out)⟩
    |(simp[intOf];omega)
  ·obtain rfl:k=N:=oM;go_wp2_with fail;go_end0
   exact⟨rfl,HBk.out,by rw[hM];exact HRk.out⟩
def wZ(n hd colors:Nat):Nat->L->L->L->Res L
 |0,_,_,_=>.bad 4
 |_+1,_,[],out=>.good out
 |f+1,prev,x::l,out =>
  if 5<=(if hd=1 then x.toNat else 1) then .bad 3
  else wZ n hd colors f (kT (if hd=1 then x.toNat else 1) colors prev n (((x::l).drop hd).take n)) ((x::l).drop (n+hd)) (out++kT (if hd=1 then x.toNat else 1) colors prev n (((x::l).drop hd).take n))
def jS(p:Pm):Nat:=max (aRT p) 1
def rJ(p:Pm):Nat:=if 10<=p.pred then 1 else 0
def aKA(p:Pm)(s:L):Res L :=
 if aFX p s.length (jS p+rJ p)≠0 then .bad (aFX p s.length (jS p+rJ p))
 else if p.pred=1 then .good s
 else wZ (jS p) (rJ p) p.colors.toNat (s.length+1) [] s []
theorem aRU{p:Pm}{n row:Nat}(h:aFX p n row=0):fY p=true/\n<=1048576/\(p.pred≠1->n % row=0):=by
 unfold aFX at h;split at h
 ·split at h
  ·cases h
  ·split at h
   ·cases h
   ·rename_i h1 h2 h3
    exact⟨h1,oM,fun hp=>by
     by_cases h4:n % row=0
     ·exact h4
     ·exact absurd ⟨hp,h4⟩ h3⟩
 ·cases h
theorem aRV(p:Pm):1<=jS p/\jS p<=8192:=by
 unfold jS aRT;split
 ·rename_i h
  obtain⟨h1,h2,h3,_⟩:=rH h;omega
 ·omega
theorem rK(w:World)(l:L):∃(W:World) (c:Nat),(Go.convert 9 196 (.string ⟨l.toArray⟩)).run prog w=.ok (.slice (some ⟨w.heap.size,0,none⟩) l.length c) W/\sU W w.heap.size l/\Below w.heap.size w W:=by
 have h:=Lib.run_convert_string_bytes (P:=prog) w 9 196 5 ⟨l.toArray⟩ underlying9 underlying196 underlying5;refine⟨_,_,h,⟨q209,fun j hj=>⟨?_,?_⟩⟩,rD w _⟩
 ·rw[Lib.bytesWorld_cell w 5 ⟨l.toArray⟩ j hj];simp[bGE hj]
 ·have h2:=Lib.bytesWorld_at_new w 5 ⟨l.toArray⟩;simp[World.frozen?,h2,Lib.bytesCells];intro h3;omega
theorem pW(n hd colors f:Nat)(prev:L)(x:UInt8)(l out:L):wZ n hd colors (f+1) prev (x::l) out =
 if 5<=(if hd=1 then x.toNat else 1) then .bad 3
 else wZ n hd colors f (kT (if hd=1 then x.toNat else 1) colors prev n (((x::l).drop hd).take n)) ((x::l).drop (n+hd)) (out++kT (if hd=1 then x.toNat else 1) colors prev n (((x::l).drop hd).take n)):=by rfl
structure aNA (wr W2:World) (rb g:Nat) (X:L) (vr:Value) (n cc C:Nat):Prop where
 blk:W2.heap[rb]?=some (.cells #[vr,.slice (some ⟨g,0,none⟩) n cc,.int .i64 C] 301 (0,0))
 row:sU W2 g X
 old:∀j,j<g->j≠rb->W2.heap[j]?=wr.heap[j]?
 below:Below rb wr W2
theorem aKB(w:World)(p:Pm)(s:L)(hs:s.length<=1000000000) :
 Calls prog 207 #[pmV p,.string ⟨s.toArray⟩] w (gL w (aKA p s)):=by
 obtain⟨R,hR⟩:=eX (aKA p s);rw[hR];unfold aKA at hR;have hwd:=aRV p;have HROW:=Lh (fun W=>bCS W p);have HREF:=Lh (fun W=>aJY W p s (jS p+rJ p) oM hs);have hmay:∀h:fY p=true,1<=p.colors/\p.colors<=8192:=fun h=>⟨(rH h).1,(rH h).2.2.2⟩
 have HMAY:=Lh hmay;have HRZ:=Lh (fun(h:aFX p s.length (jS p+rJ p)=0)=>aRU h);have hmax:max ((aRT p:Nat):Int) 1=(jS p:Nat):=by unfold jS;omega
 obtain⟨n,hn⟩:=eX (jS p);obtain⟨q,hq⟩:=eX (aRT p);rw[hn] at hR hwd HREF hmax HRZ;rw[hq] at HROW hmax;obtain⟨K,hK⟩:=eX (aFX p s.length (n+rJ p));rw[hK] at hR HREF HRZ;obtain⟨a,b,c⟩:=p;unfold rJ at hR HREF;unfold pmV at HROW HREF ⊢;dsimp only at hR HREF HROW HMAY HRZ ⊢;clear hmay hK hn hq;by_cases h10:10<=a
 ·rw[bGV h10] at hR HREF;have d10:decide (10<=a)=true:=bGI h10;have hnw:IntKind.i64.wrap ((n:Int)+1)=((n+1:Nat):Int):=q167;by_cases hk:K=0
  ·subst hk;rw[bGU (fun h=>h rfl),bGU oM] at hR;obtain⟨hm,hsl,hmod⟩:=HRZ.out rfl;have hmd:s.length % (n+1)=0:=by
    have h:=hmod (by show a≠1;omega);unfold rJ at h;rw[bGV (show(10:Int)<=a from h10)] at h;exact h
   have ha1:(a==1)=false:=sO;clear h10 hmod;obtain⟨C,rfl⟩:∃C:Nat,b=(C:Nat):=⟨b.toNat,by have:=(HMAY.out hm).1;omega⟩
   have hC2:C<=10000:=by have:=(HMAY.out hm).2;omega
   rw[Int.toNat_natCast] at hR;have HR:=Lh hR;clear HRZ HMAY hm hR;go_enter func207,ntmps207
   go_wp2_with fail;with_reducible refine(HROW.out _).mono ?_
   rintro e w1 ⟨rfl,hb1⟩;have HB1:=Lh (show Below w.heap.size w w1 from bHE bel (hb1.mono sI));have hz1:=hb1.size;have hA1:=(hb1.block w.heap.size sI).trans (aA w _ _ rfl);obtain⟨c0,c1,c2,cf⟩:=aE hA1;clear hb1;go_wp2_with fail;refine(HREF.out _).mono ?_;rintro e w2 ⟨rfl,hb2⟩;have HB2:=Lh (HB1.out.trans (hb2.mono HB1.out.size));have hA2:=(hb2.block w.heap.size (by simp at hz1;omega)).trans hA1;have hz2:=bGJ hA2;clear hb2 c0 c1 c2 cf hA1 HB1 HROW HREF;obtain⟨c0,c1,c2,cf⟩:=aE hA2;go_upto_region 11 with fail
   obtain⟨w3,hw3⟩:=eX (w2.alloc (.cells #[.slice none 0 0,.slice none 0 0,.int .i64 C] 301));obtain⟨rb,hrb⟩:=eX (w2.heap.size);have hb3:Below w2.heap.size w2 w3:=q126;have hR3:w3.heap[rb]?=some (.cells #[.slice none 0 0,.slice none 0 0,.int .i64 C] 301 (0,0)):=by rw[<-hw3];exact aA _ _ _ hrb.symm
   have HB3:=Lh (HB2.out.trans (hb3.mono HB2.out.size));have hrw:w.heap.size<=rb:=by rw[<-hrb];exact HB2.out.size
   rw[hw3];simp only[hrb];clear hw3 hb3 hA2 c0 c1 c2 cf HB2;go_wp2_with fail;go_loopw [1,9] (fun v1 v9 wr=>∃(fu m:Nat) (prev t out:L) (va vr:Value),v1=.string ⟨t.toArray⟩/\aG dV 5 wr (rb+1) v9 out/\wr.heap[rb]?=some (.cells #[va,vr,.int .i64 C] 301 (0,0))/\bC dV wr vr prev/\prev.length<=8192/\(∀b o n c,vr=.slice (some ⟨b,o,none⟩) n c->b<wr.heap.size/\b≠rb)/\Below w.heap.size w wr/\t.length=m*(n+1)/\t.length+out.length<=s.length/\t.length<fu/\Hid (wZ n 1 C fu prev t out=R)) (fun v1 _ _=>aRL v1)
   case atStart=>exact⟨s.length+1,s.length/(n+1),[],s,[],_,_,rfl,bF _ _,hR3,bC.nil _,sI,(by intro b o n c h;cases h),HB3.out,q214,sI,oM,HR⟩
   case round =>
    clear HR HB3 hR3 hmd;obtain⟨fu,m,prev,t,out,va,vr,rfl,hrow,hrb2,hpr,hpl,hvr,hb,htm,hsum,hfu,HR⟩:=hrel;obtain⟨fu,rfl⟩:∃g,fu=g+1:=⟨fu-1,oM⟩
    obtain⟨pv,cv,rfl,_⟩:=id hpr;have HB:=Lh hb;have HRow:=Lh hrow;have HRB:=Lh hrb2;have HPR:=Lh hpr;obtain⟨c0,c1,c2,cf⟩:=aE hrb2;have hrl:=bGJ hrb2;have hR:=HR.out;have HTM:=Lh htm;clear hb hrow hpr hrb2 HR htm;cases t with
    |nil =>
     exact q419
    |cons xx l =>
     rw[pW] at hR;have hix:=fun(W:World)=>uW xx l W
     have hMs:aRL (.string ⟨(xx::l).toArray⟩)=l.length+1:=by show(xx::l).length=_;rfl
     have hm1:0<m:=by
      exact q457
     have hnl:n+1<=l.length+1:=by
      have h1:(xx::l).length=l.length+1:=rfl;have h2:1*(n+1)<=m*(n+1):=Nat.mul_le_mul_right _ hm1;have h3:=HTM.out;omega
     obtain⟨T,hT⟩:=eX (xx.toNat);have hT256:T<256:=by rw[<-hT];exact UInt8.toNat_lt xx
     rw[bGV rfl,hT] at hR;simp only[hT] at hix;have hTw:IntKind.i64.wrap (T:Int)=T:=q167;clear hT;by_cases hT5:5<=T
     ·have dT:decide ((5:Int)<=T)=true:=sO;have dT2:decide (5<=T)=true:=sO;rw[bGV hT5] at hR;have HRE:=Lh hR.symm;clear hR hnw;go_wp2_with fail;go_ret2
      exact⟨HB.out,q215⟩
     ·have dT:decide ((5:Int)<=T)=false:=sO;have dT2:decide (5<=T)=false:=sO;rw[bGU hT5] at hR;have hT4:T<=4:=oM;clear hT5;have HR3:=Lh hR;have hdl:((xx::l).drop 1).length=l.length+1-1:=by rw[bGS];rfl
      obtain⟨X,hX⟩:=eX (((xx::l).drop 1).take n);have hXn:X.length=n:=by rw[<-hX,bGT,hdl];omega
      rw[hX] at HR3;obtain⟨W1,cc,hcv,hRB1,hbW⟩:=rK wr.drew X;rw[show wr.drew.heap.size=wr.heap.size from rfl] at hcv hRB1 hbW;obtain⟨M,hM⟩:=eX (n+1);skip
      have hex:(⟨(xx::l).toArray⟩:ByteArray).extract 1 M=⟨X.toArray⟩:=by rw[<-hX,jC,<-hM,Nat.add_comm n]
      have hex2:(⟨(xx::l).toArray⟩:ByteArray).extract M (l.length+1)=⟨((xx::l).drop M).toArray⟩:=jE (xx::l) M (by show M<=l.length+1;omega);rw[hM] at hnw HR3;have hnM:=hM;have hMl:M<=l.length+1:=oM;have hhM:1<=M:=oM;have hMl2:(M:Int)<=(l.length:Int)+1:=oM;have hhM2:(1:Int)<=M:=oM;rw[hXn] at hcv;obtain⟨b0,b1,b2,bf⟩:=aE ((hbW.block rb hrl).trans HRB.out);obtain⟨g,hg⟩:=eX (wr.heap.size);rw[hg] at hcv hRB1 hbW hrl;have hz1':=hbW.size;have HBW:=Lh hbW;obtain⟨W5,cc5,hcv5,hRB5,hbW5⟩:=rK (wr.setCell ⟨rb,0,none⟩ (.slice pv prev.length cv)).drew X;have hsz5:(wr.setCell ⟨rb,0,none⟩ (.slice pv prev.length cv)).drew.heap.size=g:=q216;rw[hsz5] at hcv5 hRB5 hbW5;rw[hXn] at hcv5;have hS0:(wr.setCell ⟨rb,0,none⟩ (.slice pv prev.length cv)).heap[rb]?=some (.cells #[.slice pv prev.length cv,.slice pv prev.length cv,.int .i64 C] 301 (0,0)):=by rw[aC HRB.out];rfl
      have hS5:=(hbW5.block rb hrl).trans hS0;obtain⟨d0,d1,d2,df⟩:=aE hS5;have HST1:=Lh (show aNA wr ((W1.setCell ⟨rb,0,none⟩ (.slice pv prev.length cv)).setCell ⟨rb,1,none⟩ (.slice (some ⟨g,0,none⟩) n cc)) rb g X (.slice pv prev.length cv) n cc C from by
       refine⟨q217,(hRB1.kept q18 ((bGK _ _ _ _ q218).trans (bGK _ _ _ _ q218))),fun j h1 h2=>(bGK _ _ _ _ h2).trans ((bGK _ _ _ _ h2).trans (HBW.out.block j h1)),((((bGL rb wr).drew).trans (HBW.out.mono oM)).setCell (p:=⟨rb,0,none⟩) (bGB rb) _).setCell (p:=⟨rb,1,none⟩) (bGB rb) _⟩)
      have HST5:=Lh (show aNA wr (W5.setCell ⟨rb,1,none⟩ (.slice (some ⟨g,0,none⟩) n cc5)) rb g X (.slice pv prev.length cv) n cc5 C from by
       refine⟨by rw[aC hS5];rfl,(hRB5.kept q18 (bGK _ _ _ _ q218)),fun j h1 h2=>(bGK _ _ _ _ h2).trans ((hbW5.block j h1).trans (bGK _ _ _ _ h2)),(bHE (((bGL rb wr).setCell (p:=⟨rb,0,none⟩) (bGB rb) (.slice pv prev.length cv)).drew) (hbW5.mono oM)).setCell (p:=⟨rb,1,none⟩) (bGB rb) _⟩)
      clear hR hX hdl hM hbW hRB1 hRB5 hbW5 hS0 hS5;have HM:=Lh hnM;obtain⟨Y,hY⟩:=eX (kT T C prev n X);have hYn:Y.length=n:=by rw[<-hY,mB];exact hXn
      rw[hY] at HR3;have HY:=Lh hY;clear hY hnM;go_upto_region 18 with fail
      go_region_law (fail)
      all_goals first
       |(obtain⟨W2,hW2⟩:∃W2,(W1.setCell ⟨rb,0,none⟩ (.slice pv prev.length cv)).setCell ⟨rb,1,none⟩ (.slice (some ⟨g,0,none⟩) n cc)=W2:=⟨_,rfl⟩;rw[hW2] at HST1 ⊢;obtain⟨ce,hce⟩:∃ce,cc=ce:=⟨_,rfl⟩;rw[hce] at HST1 ⊢;have HS:=Lh HST1.out;clear hW2 hce)
       |(obtain⟨W2,hW2⟩:∃W2,W5.setCell ⟨rb,1,none⟩ (.slice (some ⟨g,0,none⟩) n cc5)=W2:=⟨_,rfl⟩;rw[hW2] at HST5 ⊢;obtain⟨ce,hce⟩:∃ce,cc5=ce:=⟨_,rfl⟩;rw[hce] at HST5 ⊢;have HS:=Lh HST5.out;clear hW2 hce)
      all_goals
       clear HST1 HST5 hcv hcv5 hsz5 b0 b1 b2 bf d0 d1 d2 df c0 c1 c2 cf hix hex;obtain⟨x0,x1,x2,xf⟩:=aE HS.out.blk;have hrbW:=bGJ HS.out.blk;have HMO:=Lh (aFY W2 (.slice pv prev.length cv) g ce prev X T C (HPR.out.kept' (g:=rb) (fun b o n c e=>(hvr b o n c e).2) HS.out.below.size (fun b h1 h2=>HS.out.old b (by rw[<-hg];exact h1) h2)) (fun b o n c e=>by have:=(hvr b o n c e).1;omega) HS.out.row oM oM hC2 oM);exact q296
  ·have dk:(K !=0)=true:=q93;rw[bGV hk] at hR;exact q334
 ·rw[bGU h10] at hR HREF;have d10:decide (10<=a)=false:=bGH h10;have hnw:IntKind.i64.wrap ((n:Int)+0)=((n+0:Nat):Int):=q167;have hnw2:IntKind.i64.wrap (n:Int)=(n:Int):=q167;by_cases hk:K=0
  ·subst hk;obtain⟨hm,hsl,hmod⟩:=HRZ.out rfl;rw[bGU (fun h=>h rfl)] at hR;by_cases ha:a=1
   ·have ha1:(a==1)=true:=by simpa using ha
    rw[bGV ha] at hR;subst hR;clear HRZ HMAY h10 hmod ha;go_enter func207,ntmps207
    go_wp2_with fail;with_reducible refine(HROW.out _).mono ?_
    rintro e w1 ⟨rfl,hb1⟩;have HB1:=Lh (show Below w.heap.size w w1 from bHE bel (hb1.mono sI));have hz1:=hb1.size;have hA1:=(hb1.block w.heap.size sI).trans (aA w _ _ rfl);obtain⟨c0,c1,c2,cf⟩:=aE hA1;clear hb1;go_wp2_with fail;refine(HREF.out _).mono ?_;rintro e w2 ⟨rfl,hb2⟩;obtain⟨e0,e1,e2,ef⟩:=aE ((hb2.block w.heap.size (by simp at hz1;omega)).trans hA1);clear hA1;go_wp2_with fail;go_ret2
    exact⟨HB1.out.trans (hb2.mono HB1.out.size),rfl⟩
   ·have ha1:(a==1)=false:=by simpa using ha
    rw[bGU ha] at hR;have hmd:s.length % (n+0)=0:=by
     have h:=hmod ha;unfold rJ at h;rw[bGU h10] at h;exact h
    clear h10 hmod ha;obtain⟨C,rfl⟩:∃C:Nat,b=(C:Nat):=⟨b.toNat,by have:=(HMAY.out hm).1;omega⟩
    have hC2:C<=10000:=by have:=(HMAY.out hm).2;omega
    rw[Int.toNat_natCast] at hR;have HR:=Lh hR;clear HRZ HMAY hm hR;go_enter func207,ntmps207
    go_wp2_with fail;with_reducible refine(HROW.out _).mono ?_
    rintro e w1 ⟨rfl,hb1⟩;have HB1:=Lh (show Below w.heap.size w w1 from bHE bel (hb1.mono sI));have hz1:=hb1.size;have hA1:=(hb1.block w.heap.size sI).trans (aA w _ _ rfl);obtain⟨c0,c1,c2,cf⟩:=aE hA1;clear hb1;go_wp2_with fail;refine(HREF.out _).mono ?_;rintro e w2 ⟨rfl,hb2⟩;have HB2:=Lh (HB1.out.trans (hb2.mono HB1.out.size));have hA2:=(hb2.block w.heap.size (by simp at hz1;omega)).trans hA1;have hz2:=bGJ hA2;clear hb2 c0 c1 c2 cf hA1 HB1 HROW HREF;obtain⟨c0,c1,c2,cf⟩:=aE hA2;go_upto_region 11 with fail
    obtain⟨w3,hw3⟩:=eX (w2.alloc (.cells #[.slice none 0 0,.slice none 0 0,.int .i64 C] 301));obtain⟨rb,hrb⟩:=eX (w2.heap.size);have hb3:Below w2.heap.size w2 w3:=q126;have hR3:w3.heap[rb]?=some (.cells #[.slice none 0 0,.slice none 0 0,.int .i64 C] 301 (0,0)):=by rw[<-hw3];exact aA _ _ _ hrb.symm
    have HB3:=Lh (HB2.out.trans (hb3.mono HB2.out.size));have hrw:w.heap.size<=rb:=by rw[<-hrb];exact HB2.out.size
    rw[hw3];simp only[hrb];clear hw3 hb3 hA2 c0 c1 c2 cf HB2;go_wp2_with fail;go_loopw [1,9] (fun v1 v9 wr=>∃(fu m:Nat) (prev t out:L) (va vr:Value),v1=.string ⟨t.toArray⟩/\aG dV 5 wr (rb+1) v9 out/\wr.heap[rb]?=some (.cells #[va,vr,.int .i64 C] 301 (0,0))/\bC dV wr vr prev/\prev.length<=8192/\(∀b o n c,vr=.slice (some ⟨b,o,none⟩) n c->b<wr.heap.size/\b≠rb)/\Below w.heap.size w wr/\t.length=m*(n+0)/\t.length+out.length<=s.length/\t.length<fu/\Hid (wZ n 0 C fu prev t out=R)) (fun v1 _ _=>aRL v1)
    case atStart=>exact⟨s.length+1,s.length/(n+0),[],s,[],_,_,rfl,bF _ _,hR3,bC.nil _,sI,(by intro b o n c h;cases h),HB3.out,q214,sI,oM,HR⟩
    case round =>
     clear HR HB3 hR3 hmd;obtain⟨fu,m,prev,t,out,va,vr,rfl,hrow,hrb2,hpr,hpl,hvr,hb,htm,hsum,hfu,HR⟩:=hrel;obtain⟨fu,rfl⟩:∃g,fu=g+1:=⟨fu-1,oM⟩
     obtain⟨pv,cv,rfl,_⟩:=id hpr;have HB:=Lh hb;have HRow:=Lh hrow;have HRB:=Lh hrb2;have HPR:=Lh hpr;obtain⟨c0,c1,c2,cf⟩:=aE hrb2;have hrl:=bGJ hrb2;have hR:=HR.out;have HTM:=Lh htm;clear hb hrow hpr hrb2 HR htm;cases t with
     |nil =>
      exact q419
     |cons xx l =>
      rw[pW] at hR;have hix:=fun(W:World)=>uW xx l W
      have hMs:aRL (.string ⟨(xx::l).toArray⟩)=l.length+1:=by show(xx::l).length=_;rfl
      have hm1:0<m:=by
       exact q457
      have hnl:n+0<=l.length+1:=by
       have h1:(xx::l).length=l.length+1:=rfl;have h2:1*(n+0)<=m*(n+0):=Nat.mul_le_mul_right _ hm1;have h3:=HTM.out;omega
      rw[bGU (show¬(0:Nat)=1 by decide),bGU (show¬5<=1 by decide)] at hR;have HR3:=Lh hR;have hdl:((xx::l).drop 0).length=l.length+1-0:=by rw[bGS];rfl
      obtain⟨X,hX⟩:=eX (((xx::l).drop 0).take n);have hXn:X.length=n:=by rw[<-hX,bGT,hdl];omega
      rw[hX] at HR3;obtain⟨W1,cc,hcv,hRB1,hbW⟩:=rK wr.drew X;rw[show wr.drew.heap.size=wr.heap.size from rfl] at hcv hRB1 hbW;obtain⟨M,hM⟩:=eX (n+0)
      (have hnw3:IntKind.i64.wrap (n:Int)=(M:Int):=by rw[hnw2,<-hM];rfl);clear hnw2
      have hex:(⟨(xx::l).toArray⟩:ByteArray).extract 0 M=⟨X.toArray⟩:=by rw[<-hX,jC,<-hM,Nat.add_comm n]
      have hex2:(⟨(xx::l).toArray⟩:ByteArray).extract M (l.length+1)=⟨((xx::l).drop M).toArray⟩:=jE (xx::l) M (by show M<=l.length+1;omega);rw[hM] at hnw HR3;have hnM:=hM;have hMl:M<=l.length+1:=oM;have hhM:0<=M:=oM;have hMl2:(M:Int)<=(l.length:Int)+1:=oM;have hhM2:(1:Int)<=M:=oM;rw[hXn] at hcv;obtain⟨b0,b1,b2,bf⟩:=aE ((hbW.block rb hrl).trans HRB.out);obtain⟨g,hg⟩:=eX (wr.heap.size);rw[hg] at hcv hRB1 hbW hrl;have hz1':=hbW.size;have HBW:=Lh hbW;obtain⟨W5,cc5,hcv5,hRB5,hbW5⟩:=rK (wr.setCell ⟨rb,0,none⟩ (.slice pv prev.length cv)).drew X;have hsz5:(wr.setCell ⟨rb,0,none⟩ (.slice pv prev.length cv)).drew.heap.size=g:=q216;rw[hsz5] at hcv5 hRB5 hbW5;rw[hXn] at hcv5;have hS0:(wr.setCell ⟨rb,0,none⟩ (.slice pv prev.length cv)).heap[rb]?=some (.cells #[.slice pv prev.length cv,.slice pv prev.length cv,.int .i64 C] 301 (0,0)):=by rw[aC HRB.out];rfl
      have hS5:=(hbW5.block rb hrl).trans hS0;obtain⟨d0,d1,d2,df⟩:=aE hS5;have HST1:=Lh (show aNA wr ((W1.setCell ⟨rb,0,none⟩ (.slice pv prev.length cv)).setCell ⟨rb,1,none⟩ (.slice (some ⟨g,0,none⟩) n cc)) rb g X (.slice pv prev.length cv) n cc C from by
       refine⟨q217,(hRB1.kept q18 ((bGK _ _ _ _ q218).trans (bGK _ _ _ _ q218))),fun j h1 h2=>(bGK _ _ _ _ h2).trans ((bGK _ _ _ _ h2).trans (HBW.out.block j h1)),((((bGL rb wr).drew).trans (HBW.out.mono oM)).setCell (p:=⟨rb,0,none⟩) (bGB rb) _).setCell (p:=⟨rb,1,none⟩) (bGB rb) _⟩)
      have HST5:=Lh (show aNA wr (W5.setCell ⟨rb,1,none⟩ (.slice (some ⟨g,0,none⟩) n cc5)) rb g X (.slice pv prev.length cv) n cc5 C from by
       refine⟨by rw[aC hS5];rfl,(hRB5.kept q18 (bGK _ _ _ _ q218)),fun j h1 h2=>(bGK _ _ _ _ h2).trans ((hbW5.block j h1).trans (bGK _ _ _ _ h2)),(bHE (((bGL rb wr).setCell (p:=⟨rb,0,none⟩) (bGB rb) (.slice pv prev.length cv)).drew) (hbW5.mono oM)).setCell (p:=⟨rb,1,none⟩) (bGB rb) _⟩)
      clear hR hX hdl hM hbW hRB1 hRB5 hbW5 hS0 hS5;have HM:=Lh hnM;obtain⟨Y,hY⟩:=eX (kT 1 C prev n X);have hYn:Y.length=n:=by rw[<-hY,mB];exact hXn
      rw[hY] at HR3;have HY:=Lh hY;clear hY hnM;go_upto_region 18 with fail
      go_region_law (fail)
      all_goals first
       |(obtain⟨W2,hW2⟩:∃W2,(W1.setCell ⟨rb,0,none⟩ (.slice pv prev.length cv)).setCell ⟨rb,1,none⟩ (.slice (some ⟨g,0,none⟩) n cc)=W2:=⟨_,rfl⟩;rw[hW2] at HST1 ⊢;obtain⟨ce,hce⟩:∃ce,cc=ce:=⟨_,rfl⟩;rw[hce] at HST1 ⊢;have HS:=Lh HST1.out;clear hW2 hce)
       |(obtain⟨W2,hW2⟩:∃W2,W5.setCell ⟨rb,1,none⟩ (.slice (some ⟨g,0,none⟩) n cc5)=W2:=⟨_,rfl⟩;rw[hW2] at HST5 ⊢;obtain⟨ce,hce⟩:∃ce,cc5=ce:=⟨_,rfl⟩;rw[hce] at HST5 ⊢;have HS:=Lh HST5.out;clear hW2 hce)
      all_goals
       clear HST1 HST5 hcv hcv5 hsz5 b0 b1 b2 bf d0 d1 d2 df c0 c1 c2 cf hix hex;obtain⟨x0,x1,x2,xf⟩:=aE HS.out.blk;have hrbW:=bGJ HS.out.blk;have HMO:=Lh (aFY W2 (.slice pv prev.length cv) g ce prev X 1 C (HPR.out.kept' (g:=rb) (fun b o n c e=>(hvr b o n c e).2) HS.out.below.size (fun b h1 h2=>HS.out.old b (by rw[<-hg];exact h1) h2)) (fun b o n c e=>by have:=(hvr b o n c e).1;omega) HS.out.row oM oM hC2 oM);exact q296
  ·skip
   have dk:(K !=0)=true:=q93;rw[bGV hk] at hR;exact q334
def aNB:L:=[65,72,120]
def pF:L:=[65,83,67,73,73,72,101,120,68,101,99,111,100,101]
def aCG:L:=[65,56,53]
def lI:L:=[65,83,67,73,73,56,53,68,101,99,111,100,101]
def aNC:L:=[82,76]
def pG:L:=[82,117,110,76,101,110,103,116,104,68,101,99,111,100,101]
def bCT:L:=[70,108]
def aYO:L:=[70,108,97,116,101,68,101,99,111,100,101]
def iR(n:L):Option L :=
 if n==aNB then some pF else if n==pF then some n
 else if n==aCG then some lI else if n==lI then some n
 else if n==aNC then some pG else if n==pG then some n
 else if n==bCT then some aYO else if n==aYO then some n else none
def bCU(w:World)(R:Option L)(e:Ending)(w':World):Prop:=w'=w/\match R with
 |some f=>e=.returned (.tuple #[.string ⟨f.toArray⟩,.bool true])
 |none=>e=.returned (.tuple #[.string ⟨#[]⟩,.bool false])
theorem aND(w:World)(n:L):Calls prog 98 #[.string ⟨n.toArray⟩] w (bCU w (iR n)):=by
 obtain⟨R,hR⟩:=eX (iR n);rw[hR];unfold iR at hR;have hl:(⟨n.toArray⟩:ByteArray).toList=n:=by rw[ByteArray.toList_eq]
 have q0:((⟨n.toArray⟩:ByteArray).toList==([65,72,120]:L))=(n==aNB):=q219;have q1:((⟨n.toArray⟩:ByteArray).toList==([65,83,67,73,73,72,101,120,68,101,99,111,100,101]:L))=(n==pF):=q219;have q2:((⟨n.toArray⟩:ByteArray).toList==([65,56,53]:L))=(n==aCG):=q219;have q3:((⟨n.toArray⟩:ByteArray).toList==([65,83,67,73,73,56,53,68,101,99,111,100,101]:L))=(n==lI):=q219;have q4:((⟨n.toArray⟩:ByteArray).toList==([82,76]:L))=(n==aNC):=q219;have q5:((⟨n.toArray⟩:ByteArray).toList==([82,117,110,76,101,110,103,116,104,68,101,99,111,100,101]:L))=(n==pG):=q219;have q6:((⟨n.toArray⟩:ByteArray).toList==([70,108]:L))=(n==bCT):=q219;have q7:((⟨n.toArray⟩:ByteArray).toList==([70,108,97,116,101,68,101,99,111,100,101]:L))=(n==aYO):=q219;obtain⟨t0,e0⟩:∃t,(n==aNB)=t:=⟨_,rfl⟩
 obtain⟨t1,e1⟩:∃t,(n==pF)=t:=⟨_,rfl⟩
 obtain⟨t2,e2⟩:∃t,(n==aCG)=t:=⟨_,rfl⟩
 obtain⟨t3,e3⟩:∃t,(n==lI)=t:=⟨_,rfl⟩
 obtain⟨t4,e4⟩:∃t,(n==aNC)=t:=⟨_,rfl⟩
 obtain⟨t5,e5⟩:∃t,(n==pG)=t:=⟨_,rfl⟩
 obtain⟨t6,e6⟩:∃t,(n==bCT)=t:=⟨_,rfl⟩
 obtain⟨t7,e7⟩:∃t,(n==aYO)=t:=⟨_,rfl⟩
 rw[e0] at q0 hR;rw[e1] at q1 hR;rw[e2] at q2 hR;rw[e3] at q3 hR;rw[e4] at q4 hR;rw[e5] at q5 hR;rw[e6] at q6 hR;rw[e7] at q7 hR;obtain⟨S,hS⟩:∃S:ByteArray,(⟨n.toArray⟩:ByteArray)=S:=⟨_,rfl⟩
 have HS:=Lh hS;rw[hS] at q0 q1 q2 q3 q4 q5 q6 q7 ⊢;clear hS hl e0 e1 e2 e3 e4 e5 e6 e7;cases t0 with
 |true =>
  exact q337
 |false =>
  cases t1 with
  |true =>
   exact q356
  |false =>
   cases t2 with
   |true =>
    exact q337
   |false =>
    cases t3 with
    |true =>
     exact q356
    |false =>
     cases t4 with
     |true =>
      exact q337
     |false =>
      cases t5 with
      |true =>
       exact q356
      |false =>
       cases t6 with
       |true =>
        exact q337
       |false =>
        cases t7 with
        |true =>
         exact q356
        |false =>
         exact q337
theorem bFN(w:World)(s:L)(b:Nat)(hs:s.length<=1000000000)(hb:w.cell? ⟨b,0,none⟩=some (.func (.func 148) #[] #[])) :
 Calls prog 192 #[.string ⟨s.toArray⟩,.pointer (some ⟨b,0,none⟩)] w (gL w (lF s 1048576)):=by
 have HP:=Lh (aYI w s 1048576 hs);obtain⟨R,hR⟩:=eX (lF s 1048576);exact q582
theorem bFO(w:World)(s:L)(b:Nat)(hs:s.length<=1000000000)(hb:w.cell? ⟨b,0,none⟩=some (.func (.func 152) #[] #[])) :
 Calls prog 192 #[.string ⟨s.toArray⟩,.pointer (some ⟨b,0,none⟩)] w (gL w (lG s 1048576)):=by
 have HP:=Lh (aYJ w s 1048576 hs);obtain⟨R,hR⟩:=eX (lG s 1048576);exact q582
theorem bES(w:World)(s:L)(b:Nat)(hs:s.length<=1000000000)(hpow:kS w w.heap.size)(hb:w.cell? ⟨b,0,none⟩=some (.func (.func 150) #[] #[])) :
 Calls prog 192 #[.string ⟨s.toArray⟩,.pointer (some ⟨b,0,none⟩)] w (gL w (iD s 1048576)):=by
 have HP:=Lh (aRS w s 1048576 hs hpow);obtain⟨R,hR⟩:=eX (iD s 1048576);exact q582
def pX(p:Pm)(s:L):Res L :=
 match fS s 1048576 with
 |.bad k=>.bad k
 |.good t=>aKA p t
theorem tX{s:L}{most k:Int}(h:fS s most=.bad k):k≠0:=by
 unfold fS at h;split at h
 ·cases h;assumption
 ·cases hb:eK (s.drop 2) most with
  |bad j=>rw[hb] at h;cases h;exact rF hb
  |good x =>
   obtain⟨o,q⟩:=x;rw[hb] at h;dsimp only at h;exact q428
theorem aRW(w:World)(p:Pm)(s:L)(hs:s.length<=1000000000)(hrep:iK w w.heap.size)(hord:iQ w w.heap.size) :
 Calls prog 154 #[.agg #[.int .i64 p.pred,.int .i64 p.colors,.int .i64 p.columns],.string ⟨s.toArray⟩] w (gL w (pX p s)):=by
 have HU:=Lh (fun(W:World) (hW:Below w.heap.size w W)=>aRQ W s 1048576 hs (hrep.next hW) (hord.next hW));have HD:=Lh (fun(W:World) (t:L) (ht:t.length<=1000000000)=>aKB W p t ht);obtain⟨R,hR⟩:=eX (pX p s);rw[hR];unfold pX at hR;obtain⟨a,b,c⟩:=p;unfold pmV at HD;dsimp only at HD hR ⊢;have HR:=Lh hR;have HUL:=Lh (fun(t:L) (h:fS s 1048576=.good t)=>tV h);have HUE:=Lh (fun(k:Int) (h:fS s 1048576=.bad k)=>tX h);obtain⟨RU,hRU⟩:=eX (fS s 1048576);rw[hRU] at HU HR HUL HUE;clear hR hRU hs hrep hord;go_enter func154,ntmps154
 go_wp2_with fail;with_reducible refine(HU.out _ ?_).mono ?_
 ·exact bel
 rintro e w1 ⟨hb1,h1⟩;have HB1:=Lh (show Below w.heap.size w w1 from bHE bel (hb1.mono sI));have hA1:=(hb1.block w.heap.size sI).trans (aA w _ _ rfl);clear HU hb1;cases RU with
 |bad k =>
  obtain rfl:=h1;have hk:=HUE.out k rfl;have dk:(k !=0)=true:=q93;have HRE:=Lh (show R=.bad k from HR.out.symm);clear HR hA1 HUL HUE hk;exact q561
 |good t =>
  obtain rfl:=h1;have htl:=HUL.out t rfl;obtain⟨c0,c1,c2,cf⟩:=aE hA1;have HD2:=Lh (fun W=>HD.out W t oM);rw[show aKA ⟨a,b,c⟩ t=R from HR.out] at HD2;clear hA1 HD HUL HUE;go_wp2_with fail;refine(HD2.out _).mono ?_;rintro e w2 ⟨hb2,h2⟩;have HB2:=Lh (HB1.out.trans (hb2.mono HB1.out.size));cases R with
  |bad k =>
   exact q518
  |good u =>
   exact q518
end Go.Proofs.YtdjpkgccakgkbaaGreatDoor
