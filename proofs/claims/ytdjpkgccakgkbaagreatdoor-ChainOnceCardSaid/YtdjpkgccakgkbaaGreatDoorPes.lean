/- Parts of the proof: InE InF LnP RpA FxA LnQ InG BlP. -/
import Derived.Test.YtdjpkgccakgkbaaGreatDoorPer
import Derived.Test.YtdjpkgccakgkbaaGreatDoorPeq
import Derived.Test.YtdjpkgccakgkbaaGreatDoorPea
import Derived.Laws.CopyOwn
import Derived.Deep.RegionLaw
import Derived.BigRegion
set_option linter.all false
set_option maxRecDepth 100000
set_option maxHeartbeats 8000000
section
variable{p:Prop}
theorem q195(h:p:=by rw[HK.out];rfl):p:=h
theorem q196(h:p:=by rw[bGR];simp;omega):p:=h
theorem q197(h:p:=by rw[bGR,bHK];omega):p:=h
theorem q198(h:p:=by first|exact bGL _ _|exact Below.drew (bGL _ _)|exact Below.drew (Below.drew (bGL _ _))):p:=h
theorem q199(h:p:=by rintro e w9 ⟨hb9,rfl⟩;exact⟨rfl,HB2.out.trans (Bes.trans (by first|exact Bes.refl _ _|exact Bes.drew (Bes.refl _ _)|exact Bes.drew (Bes.drew (Bes.refl _ _))) hb9),by rw[HRE.out]⟩):p:=h
theorem q200(h:p:=by first|exact Bes.refl _ _|exact Bes.drew (Bes.refl _ _)|exact Bes.drew (Bes.drew (Bes.refl _ _))):p:=h
theorem q201(h:p:=by have h:(2:Nat) ^ Mq<=2 ^ 7:=Nat.pow_le_pow_right dC hMq;omega):p:=h
theorem q202(h:p:=by rw[bHK];omega):p:=h
theorem q370(h:p:=by
 have dk:decide ((W:Int)<=many)=false:=sO;have HRE:=Lh (show R=.bad 3 from by rw[<-HR3.out,bGV oM]);clear HR3;go_wp2_with(go_at_call 261;(with_reducible refine(dO _ _).mono ?_);rintro e w9 ⟨rfl,h9⟩;obtain rfl:=h9.symm)
 exact⟨rfl,HB3.out,q161⟩):p:=h
theorem q382(h:p:=by
 go_region_law (first
  |(go_simp;go_at_call 300;refine kN (fun HF=>?_) ((HBt.out _ q198).mono q199);refine(HF.out.elim:Calls prog 300 _ _ (fun e w'=>e=.returned (.int .i64 0)/\w'=w2)).mono ?_;rintro e w9 ⟨rfl,h9⟩;obtain rfl:=h9.symm))
 all_goals exact HF.out.elim):p:=h
theorem q439(h:p:=by
 rw[bGK _ _ _ _ (by show j≠f;omega)];exact(hg6.block j oM (fun e=>by have:=hC _ e.symm;omega)).trans ((hbx.block j oM).trans (hm j h1 h2))):p:=h
theorem q446(h:p:=by
 rw[hbt] at h2;have HRE:=Lh (show R=.bad k from q188);obtain rfl:=h2;clear HR2;go_wp2_with fail;exact⟨rfl,HW2.out,q161⟩):p:=h
theorem q485(h:p:=by
 obtain rfl:g6=g:=by simpa[Value.ownBlock] using hg
 rcases hor6 with h|h
 ·exact hC _ h
 ·omega):p:=h
theorem q499(h:p:=by rw[hb] at h;cases h):p:=h
end
namespace Go.Proofs.YtdjpkgccakgkbaaGreatDoor
open Go.Proofs.Tryz
open Go.RowKit Fo
def fR(s:L)(most:Nat)(far:List Nat)(aR p1:Nat)(out:L):Res (L×Nat) :=
 if 285<aR then .bad 13
 else match aS s p1 (jO aR) with
  |.bad k=>.bad k
  |.good (v,p2) =>
   match eJ s far p2 with
   |.bad k=>.bad k
   |.good (d,p3) =>
    if 29<d then .bad 13
    else match aS s p3 (kK d) with
     |.bad k=>.bad k
     |.good (w,p4) =>
      if out.length<qV d+w then .bad 14
      else if most<out.length+(kL aR+v) then .bad 5
      else .good (kM out (qV d+w) (kL aR+v),p4)
theorem sQ(b:Nat):∀(n:Nat) (out:L),(kM out b n).length=out.length+n
 |0,out=>rfl
 |n+1,out=>by
  show(kM _ b n).length=_
  rw[sQ b n,bGR];simp;omega
theorem wR(b:Nat):∀(n:Nat) (out:L),kM out b (n+1)=kM out b n++[(kM out b n).getD ((kM out b n).length-b) 0]
 |0,out=>rfl
 |n+1,out=>by
  show kM (out++[out.getD (out.length-b) 0]) b (n+1)=_
  rw[wR b n];rfl
def qZ(T T2:Nat)(vo:Value):Prop:=∀g,vo.ownBlock=some g->g<T\/T2<=g
theorem FlV.grow{w w':World}{f r:Nat}{s:L}{most p:Nat}{out:L}{vo:Value}(h:FlV w f r s most p out vo)(hb:Below (f+1) w w'):FlB w' f r vo most:=(hb.block f (Nat.lt_succ_self f)).trans h.blk
def bEJ(w:World)(f r:Nat)(s:L)(most T T2:Nat)(R:Res (L×Nat))(e:Ending)(w':World):Prop :=
 Below r w w'/\match R with
 |.good (out,p)=>e=.returned (.tuple #[])/\∃vo,FlV w' f r s most p out vo/\qZ T T2 vo/\∀k,T<=k->k<T2->w'.heap[k]?=w.heap[k]?
 |.bad k=>e=.panicked [{ v:=.iface 323 (.agg #[.int .i64 k]),recovered:=false }]
theorem fL.mid{w w':World}{t T T2:Nat}{l:List Nat}(h:fL w t l)(hT:T<=t)(h2:T2=w.heap.size)(hk:∀k,T<=k->k<T2->w'.heap[k]?=w.heap[k]?):fL w' t l:=by
 obtain⟨vl,vc,vo,h1,h3⟩:=h;have:=bGJ h1;refine⟨vl,vc,vo,(hk t hT oM).trans h1,fB h3 fun k hk'=>?_⟩;have h4:=aK h3 k hk';have h5:=cM h3 k hk';exact hk k oM oM
theorem lZ(s:L)(l:List Nat):∀(f p k C first:Nat) (e:Int),fW s l f p k C first=.bad e->e≠0
 |0,p,k,C,first,e,h=>by cases h;decide
 |f+1,p,k,C,first,e,h=>by
  unfold fW at h;split at h
  ·cases h;decide
  ·split at h
   ·dsimp only at h;split at h
    ·cases h
    ·exact lZ s l f _ _ _ _ e h
   ·cases h;decide
theorem zP(a m:Int)(W:World):(Instr.field 434 (.agg #[.int .i64 a,.int .i64 m]) 1).run prog W=.ok (.int .i64 m) W:=kR
theorem aRC{w wr W6 w6:World}{f r:Nat}{s:L}{most p4 T T2 K co g6 q6:Nat}{A:L}{x:UInt8}{po:Option Addr}(hV:FlV wr f r s most p4 A (.slice po K co))(hbx:Below wr.heap.size wr W6)
 (hr6:aG dV 5 w6 (f+1) (.slice (some ⟨g6,0,none⟩) (K+1) q6) (A++[x])) (hb6:Below (f+1) W6 w6) (hg6:W6.grownBy w6 (Value.slice po K co).ownBlock) (hor6:(Value.slice po K co).ownBlock=some g6\/g6=W6.heap.size)
 (hC:qZ T T2 (.slice po K co)) (hB:Below r w wr) (hm:∀j,T<=j->j<T2->wr.heap[j]?=w.heap[j]?) (hT2:T2<=w.heap.size) (hfT:f<T) :
 FlV (w6.setCell ⟨f,1,none⟩ (.slice (some ⟨g6,0,none⟩) (K+1) q6)) f r s most p4 (A++[x]) (.slice (some ⟨g6,0,none⟩) (K+1) q6)/\qZ T T2 (.slice (some ⟨g6,0,none⟩) (K+1) q6) /\
  Below r w (w6.setCell ⟨f,1,none⟩ (.slice (some ⟨g6,0,none⟩) (K+1) q6))/\∀j,T<=j->j<T2->(w6.setCell ⟨f,1,none⟩ (.slice (some ⟨g6,0,none⟩) (K+1) q6)).heap[j]?=w.heap[j]?:=by
 have hlt:=hV.lt;have hfl:=bGJ hV.blk;have hz1:=hB.size;have hz2:=hbx.size;refine⟨(hV.below hbx).put hr6 hb6,fun g hg=>?_,((hB.trans (hbx.mono oM)).trans (hb6.mono oM)).setCell (by show r<=f;omega) _,fun j h1 h2=>?_⟩
 ·exact q485
 ·exact q439
theorem bBY:∀i:Fin 30,1<=qV i.1:=q8
theorem aRD(w:World)(f r t T T2:Nat)(s:L)(most p:Nat)(out:L)(vo:Value)(far:List Nat)(aR:Nat)(h:FlV w f r s most p out vo)(hm:most<=1048576)(hl:out.length<=most)
 (hT:fL w t far) (hTt:T<=t) (hfT:f<T) (hT2:T2<=w.heap.size) (htT:∀W:World,Below r w W->(∀k,T<=k->k<T2->W.heap[k]?=w.heap[k]?)->fL W t far) (hC:qZ T T2 vo) (hfl:∀x∈far,x<=15) (hfn:far.length<=1000) (hs:256<aR) :
 Calls prog 342 #[.pointer (some ⟨f,0,none⟩),.int .i64 aR,.pointer (some ⟨t,0,none⟩)] w (bEJ w f r s most T T2 (fR s most far aR p out)):=by
 obtain⟨R,hR⟩:=eX (fR s most far aR p out);rw[hR];unfold fR at hR;have HR:=Lh hR;have H:=Lh h;have hrt:r<t:=by have:=h.lt;omega
 have hrl:r<w.heap.size:=q187;clear h hR;by_cases h285:285<aR
 ·have HRE:=Lh (show R=.bad 13 from by rw[<-HR.out,bGV h285]);have d1:decide ((aR:Int)<=285)=false:=sO;clear HR;go_enter func342,ntmps342
  go_wp2_with(go_at_call 261;(with_reducible refine(dO _ _).mono ?_);rintro e w9 ⟨rfl,h9⟩;obtain rfl:=h9.symm)
  exact⟨rfl,bGL _ _,q161⟩
 ·obtain⟨i,rfl⟩:∃i,aR=257+i:=⟨aR-257,oM⟩
  have hi:i<=28:=oM;have hR2:=HR.out;rw[bGU h285] at hR2;have HR2:=Lh hR2;have d1:decide (((257+i:Nat):Int)<=285)=true:=sO;have hsub:IntKind.i64.wrap (((257+i:Nat):Int)-257)=(i:Int):=q167;have HSZ:=Lh (fun(W:World)=>aMO W i hi);have HBS:=Lh (fun v hv (W:World)=>aJJ W i v hi hv);obtain⟨l1,l2⟩:=aFN ⟨i,oM⟩;dsimp only at l1 l2;obtain⟨M,hM⟩:=eX (jO (257+i));obtain⟨A,hA⟩:=eX (kL (257+i));rw[hM,hA] at HR2 HSZ HBS;rw[hM] at l2;rw[hA] at l1;have HBI:=Lh (fun(W:World) (hW:FlV W f r s most p out vo)=>cS W f r vo most s p M hW.blk hW.rd oM);obtain⟨q,hq⟩:=eX (257+i);rw[hq] at HBS d1 hsub;rw[hq];clear HR hR2 hM hA hq h285;go_enter func342,ntmps342
  go_wp2_with(go_at_call 261;(with_reducible refine(cI _ _).mono ?_);rintro e w9 ⟨rfl,h9⟩;obtain rfl:=h9.symm)
  refine(HSZ.out _).mono ?_;rintro e w1 ⟨rfl,hb1⟩;have H1:=Lh (H.out.below hb1);have hfe:=zP A M w1;go_wp2_with fail;clear hfe;refine(HBI.out _ H1.out).mono ?_;rintro e w2 ⟨hb2,h2⟩;have hrl1:r<w1.heap.size:=bGA hrl hb1.size;have HW2:=Lh (show Below r w w2 from(hb1.mono (bGY hrl)).trans (bM hb2 hrl1));clear HBI HSZ;cases hbt:aS s p M with
  |bad k =>
   exact q446
  |good x =>
   obtain⟨v,p2⟩:=x;rw[hbt] at h2;obtain⟨rfl,hr2⟩:=h2;have H2:=Lh (H1.out.bits hb2 hr2);obtain⟨hv,hp2,_⟩:=aX hbt;have HSV:=Lh (fun(W:World)=>HBS.out v hv W);have hR3:=HR2.out;rw[hbt] at hR3;dsimp only at hR3;have HR3:=Lh hR3;have hv64:v<=32:=by
    have h5:2 ^ M<=2 ^ 5:=Nat.pow_le_pow_right dC l2;exact bGC (bGY hv) h5
   have hmid2:∀k,T<=k->k<T2->w2.heap[k]?=w.heap[k]?:=fun k hk1 hk2 =>
    (hb2.block k (bGA (bGA hk2 hT2) hb1.size) (by have:=H.out.lt;omega)).trans (hb1.block k (bGA hk2 hT2))
   have hrl2:r<w2.heap.size:=bGA hrl1 hb2.size;have hwz2:w.heap.size<=w2.heap.size:=bGC hb1.size hb2.size;clear HBS HR2 hR3 hbt hb2 hb1 hr2 hv hp2 H1 hrl1 l2;go_wp2_with fail;refine(HSV.out _).mono ?_;rintro e w3 ⟨rfl,hb3⟩;obtain⟨n,hn⟩:=eX (A+v);rw[hn] at HR3 ⊢;have hn300:n<=290:=oM;have H3:=Lh (H2.out.below hb3);have HW3:=Lh (HW2.out.trans (hb3.mono (bGY hrl2)));have hmid3:∀k,T<=k->k<T2->w3.heap[k]?=w.heap[k]?:=fun k hk1 hk2=>(hb3.block k (bGA (bGA hk2 hT2) hwz2)).trans (hmid2 k hk1 hk2)
   have hrl3:r<w3.heap.size:=bGA hrl2 hb3.size;have hwz3:=bGC hwz2 hb3.size;obtain⟨c0,c1,c2,cf⟩:=aE H3.out.blk;have HSG:=Lh (aBT w3 t r far s p2 (htT w3 HW3.out hmid3) H3.out.rd hrt hfl hfn);clear HSV H2 HW2 hmid2 hrl2 hwz2 hb3 hn;go_wp2_with(first|(go_at_call 324;(with_reducible refine(dR _ _).mono ?_);rintro e w9 ⟨rfl,h9⟩;obtain rfl:=h9.symm))
   refine HSG.out.mono ?_;rintro e w4 ⟨hb4,h4⟩;have HW4:=Lh (HW3.out.trans (bM hb4 hrl3));clear HSG c0 c1 c2 cf;cases hsg:eJ s far p2 with
   |bad k =>
    rw[hsg] at h4;have HRE:=Lh (show R=.bad k from by rw[<-HR3.out,hsg]);obtain rfl:=h4;have hk0:k≠0:=lZ s far 16 p2 1 0 0 k hsg;clear HR3 hsg;go_wp2_with(go_at_call 324;(with_reducible refine(qX _ _ hk0 _).mono ?_);rintro e w9 ⟨rfl,h9⟩;obtain rfl:=h9.symm)
    exact⟨rfl,HW4.out,q161⟩
   |good x =>
    obtain⟨d,p3⟩:=x;rw[hsg] at h4;obtain⟨rfl,hr4⟩:=h4;have H4:=Lh (H3.out.bits hb4 hr4);have hR4:=HR3.out;rw[hsg] at hR4;dsimp only at hR4;have HR4:=Lh hR4;have hmid4:∀k,T<=k->k<T2->w4.heap[k]?=w.heap[k]?:=fun k hk1 hk2=>(hb4.block k (bGA (bGA hk2 hT2) hwz3) (by have:=H.out.lt;omega)).trans (hmid3 k hk1 hk2)
    have hrl4:r<w4.heap.size:=bGA hrl3 hb4.size;have hwz4:=bGC hwz3 hb4.size;clear HR3 hR4 hsg H3 HW3 hmid3 hrl3 hwz3 hb4 hr4;go_wp2_with(go_at_call 324;(with_reducible refine(dR _ _).mono ?_);rintro e w9 ⟨rfl,h9⟩;obtain rfl:=h9.symm)
    by_cases h29:29<d
    ·have HRE:=Lh (show R=.bad 13 from by rw[<-HR4.out,bGV h29]);have d2:decide ((d:Int)<=29)=false:=sO;clear HR4;rw[d2];refine(dO _ _).mono ?_;rintro e w9 ⟨rfl,h9⟩;obtain rfl:=h9.symm;exact⟨rfl,HW4.out,q161⟩
    ·have hd:d<=29:=oM;have hR5:=HR4.out;rw[bGU h29] at hR5;have HR5:=Lh hR5;have d2:decide ((d:Int)<=29)=true:=sO;have HFS:=Lh (fun(W:World)=>aXQ W d hd);have HBF:=Lh (fun v hv (W:World)=>aRB W d v hd hv);obtain⟨l3,l4⟩:=aMQ ⟨d,oM⟩;have l5:=bBY ⟨d,oM⟩;dsimp only at l3 l4 l5;obtain⟨M2,hM2⟩:∃M,kK d=M:=⟨_,rfl⟩
     obtain⟨A2,hA2⟩:∃A,qV d=A:=⟨_,rfl⟩
     rw[hM2,hA2] at HR5 HFS HBF;rw[hM2] at l4;rw[hA2] at l3 l5;have HBI:=Lh (fun(W:World) (hW:FlV W f r s most p3 out vo)=>cS W f r vo most s p3 M2 hW.blk hW.rd oM);clear HR4 hR5 hM2 hA2 h29;rw[d2];refine(cI _ _).mono ?_;rintro e w9 ⟨rfl,h9⟩;obtain rfl:=h9.symm;clear h9 d2;go_wp2_with fail;refine(HFS.out _).mono ?_;rintro e w5 ⟨rfl,hb5⟩;have H5:=Lh (H4.out.below hb5);have hfe:=zP A2 M2 w5;go_wp2_with fail;clear hfe;refine(HBI.out _ H5.out).mono ?_;rintro e w6 ⟨hb6,h6⟩;have hrl5:r<w5.heap.size:=bGA hrl4 hb5.size;have HW6:=Lh (show Below r w w6 from(HW4.out.trans (hb5.mono (bGY hrl4))).trans (bM hb6 hrl5));clear HBI HFS;cases hbt:aS s p3 M2 with
     |bad k =>
      rw[hbt] at h6;have HRE:=Lh (show R=.bad k from by rw[<-HR5.out,hbt]);obtain rfl:=h6;clear HR5;go_wp2_with fail;exact⟨rfl,HW6.out,q161⟩
     |good x =>
      obtain⟨v2,p4⟩:=x;rw[hbt] at h6;obtain⟨rfl,hr6⟩:=h6;have H6:=Lh (H5.out.bits hb6 hr6);obtain⟨hv2,hp4,_⟩:=aX hbt;have HSV:=Lh (fun(W:World)=>HBF.out v2 hv2 W);have hR6:=HR5.out;rw[hbt] at hR6;dsimp only at hR6;have HR6:=Lh hR6;have hv8:v2<=8192:=by
       have h5:2 ^ M2<=2 ^ 13:=Nat.pow_le_pow_right dC l4;exact bGC (bGY hv2) h5
      have hmid6:∀k,T<=k->k<T2->w6.heap[k]?=w.heap[k]?:=fun k hk1 hk2 =>
       (hb6.block k (bGA (bGA hk2 hT2) (bGC hwz4 hb5.size)) (by have:=H.out.lt;omega)).trans ((hb5.block k (bGA (bGA hk2 hT2) hwz4)).trans (hmid4 k hk1 hk2))
      have hrl6:r<w6.heap.size:=bGA hrl5 hb6.size;have hwz6:w.heap.size<=w6.heap.size:=bGC (bGC hwz4 hb5.size) hb6.size;clear HBF HR5 hR6 hbt hb6 hb5 hr6 hv2 hp4 H5 hrl5 l4 H4 HW4 hmid4 hrl4 hwz4;go_wp2_with fail;refine(HSV.out _).mono ?_;rintro e w7 ⟨rfl,hb7⟩;obtain⟨D,hD⟩:=eX (A2+v2);rw[hD] at HR6 ⊢;have hD3:D<=40000:=oM;have hD1:1<=D:=oM;have H7:=Lh (H6.out.below hb7);have HW7:=Lh (HW6.out.trans (hb7.mono (bGY hrl6)));have hmid7:∀k,T<=k->k<T2->w7.heap[k]?=w.heap[k]?:=fun k hk1 hk2=>(hb7.block k (bGA (bGA hk2 hT2) hwz6)).trans (hmid6 k hk1 hk2)
      have hrl7:r<w7.heap.size:=bGA hrl6 hb7.size;have hwz7:=bGC hwz6 hb7.size;obtain⟨p0,c0,rfl⟩:=aH H7.out.row;obtain⟨b0,b1,b2,bf⟩:=aE H7.out.blk;obtain⟨N,hN⟩:=eX (out.length);clear HSV H6 HW6 hmid6 hrl6 hwz6 hb7 hD;rw[hN] at b1;by_cases hDN:N<D
      ·have HRE:=Lh (show R=.bad 14 from by rw[<-HR6.out,bGV (by rw[hN];exact hDN)]);have d3:decide (D<=N)=false:=sO;clear HR6;go_wp2_with(first|(go_at_call 324;(with_reducible refine(dR _ _).mono ?_);rintro e w9 ⟨rfl,h9⟩;obtain rfl:=h9.symm)|(go_at_call 261;(with_reducible refine(dO _ _).mono ?_);rintro e w9 ⟨rfl,h9⟩;obtain rfl:=h9.symm))
       exact⟨rfl,HW7.out,q161⟩
      ·have d3:decide (D<=N)=true:=sO;have hR7:=HR6.out;rw[bGU (by rw[hN];exact hDN)] at hR7;have HR7:=Lh hR7;clear HR6 hR7;go_wp2_with(first|(go_at_call 324;(with_reducible refine(dR _ _).mono ?_);rintro e w9 ⟨rfl,h9⟩;obtain rfl:=h9.symm)|(go_at_call 261;(with_reducible refine(cI _ _).mono ?_);rintro e w9 ⟨rfl,h9⟩;obtain rfl:=h9.symm))
       clear d3;by_cases hroom:N+n<=most
       ·have HRE:=Lh (show R=.good (kM out D n,p4) from by rw[<-HR7.out,bGU (by rw[hN];omega)]);refine(wQ w7 f r s most p4 out _ n H7.out hm oM (by rw[hN];exact hroom)).mono ?_;rintro e w8 ⟨rfl,mm,h8⟩;have H8:=Lh (show FlV w8 f r s most p4 out _ from by rw[h8];exact H7.out.drewN mm);have HW8:=Lh (show Below r w w8 from by rw[h8];exact aN HW7.out mm);have hmid8:∀k,T<=k->k<T2->w8.heap[k]?=w.heap[k]?:=by rw[h8];exact hmid7
        clear HR7 H7 HW7 hmid7 h8 hrl7 hwz7 b0 b1 b2 bf hT l1 l3 l5 hv64 hv8 hs hsub d1 hi;go_wp2_with fail;go_loopw [57] (fun i wr=>∃(k:Nat) (vo:Value),k<=n/\i=.int .i64 k/\FlV wr f r s most p4 (kM out D k) vo/\qZ T T2 vo/\Below r w wr/\(∀j,T<=j->j<T2->wr.heap[j]?=w.heap[j]?)) (fun i _=>n-(intOf i).toNat)
        case atStart=>exact⟨0,_,bGF _,rfl,H8.out,hC,HW8.out,hmid8⟩
        case round =>
         clear H8 HW8 hmid8;obtain⟨k,vo,hk,rfl,hV,hCk,hBk,hmk⟩:=hrel;by_cases hkn:k<n
         ·have HS:=Lh (wR D k out);have hAl:=sQ D k out;obtain⟨A,hA⟩:=eX (kM out D k);rw[hA] at HS hV hAl;rw[hN] at hAl;obtain⟨K,hK⟩:=eX (A.length);obtain⟨po,co,rfl⟩:=aH hV.row;obtain⟨j,hj⟩:=eX (K-D);have hjl:j<A.length:=oM;obtain⟨g0,off,rfl,hg0,e0⟩:=aBV (aG.arg hV.row) j hjl;obtain⟨x,hx⟩:=eX (A[j]);rw[hx] at e0;have HS2:=Lh (show kM out D (k+1)=A++[x] from by
           rw[HS.out,hK,hj,bGX,bGE hjl,Option.getD_some,hx])
          obtain⟨b0,b1,b2,bf⟩:=aE hV.blk;have hfl:=bGJ hV.blk;have HK:=Lh hK;rw[hK] at b1 hV hCk;have HV:=Lh hV;have hsub2:IntKind.i64.wrap ((K:Int)-D)=(j:Int):=q167;have hjK:j<K:=oM;have hK2:K<=2000000:=oM;have hKn:K<=N+n:=oM;clear hV hA hx HS hK hAl hj;clear hjl;go_upto_region 9 with fail
          go_region_law (first
           |(refine aQZ (E:=dV) (by rfl) _ _ (by rfl) underlying196 Tryz.infoU8 rfl dC dC (f+1) _ (.slice (some ⟨wr.heap.size,0,none⟩) 1 1) A [x] (HV.out.below bel).row (by rfl) (by rfl) (by first|exact qY _ x|exact(qY wr x).below (Below.drew (bGL _ _))) sI (by rw[HK.out];simp;omega) sO ?_;intro g6 q6 w6 hr6 hb6 hg6 hor6 hlt6;(have hl6:A.length+[x].length=K+1:=q195);rw[hl6] at hr6 ⊢;(have hV6:=(HV.out.below bel).grow hb6);(have HST:=Lh (aRC HV.out bel hr6 hb6 hg6 hor6 hCk hBk hmk hT2 hfT));clear hr6 hb6 hg6 hor6;obtain⟨d0',d1',d2',df'⟩:=aE hV6))
          all_goals go_wp2_with fail
          all_goals go_roundw
          all_goals first
           |exact⟨k+1,_,oM,q12,by rw[HS2.out];exact HST.out.1,HST.out.2⟩
           |(simp[intOf];omega)
         ·obtain rfl:k=n:=oM;have dk:decide ((k:Int)<k)=false:=sI;go_wp2_with fail;go_end0
          refine⟨hBk,?_⟩;rw[HRE.out];exact⟨rfl,vo,hV,hCk,hmk⟩
       ·have HRE:=Lh (show R=.bad 5 from by rw[<-HR7.out,bGV (by rw[hN];omega)]);refine(aBU w7 f r s most p4 out _ n H7.out hm oM oM (by rw[hN];omega)).mono ?_;rintro e w8 ⟨rfl,hb8⟩;clear HR7;go_wp2_with fail;exact⟨rfl,HW7.out.trans (hb8.mono (bGY hrl7)),q161⟩
theorem nZ(s:L)(most:Nat)(near far:List Nat)(f p:Nat)(out:L):cX s most near far (f+1) p out =
 match eJ s near p with
 |.bad k=>.bad k
 |.good (aR,p1) =>
  if aR<256 then(if most<out.length+1 then .bad 5 else cX s most near far f p1 (out++[UInt8.ofNat aR]))
  else if aR=256 then .good (out,p1)
  else match fR s most far aR p1 out with
   |.bad k=>.bad k
   |.good (out',p4)=>cX s most near far f p4 out':=by
 conv=>lhs;unfold cX
 cases eJ s near p with
 |bad k=>rfl
 |good x =>
  obtain⟨aR,p1⟩:=x;dsimp only;by_cases h1:aR<256
  ·rw[bGV h1,bGV h1]
  ·rw[bGU h1,bGU h1];by_cases h2:aR=256
   ·rw[bGV h2,bGV h2]
   ·rw[bGU h2,bGU h2];unfold fR;by_cases h3:285<aR
    ·rw[bGV h3,bGV h3]
    ·rw[bGU h3,bGU h3];cases aS s p1 (jO aR) with
     |bad k=>rfl
     |good y =>
      obtain⟨v,p2⟩:=y;dsimp only;cases eJ s far p2 with
      |bad k=>rfl
      |good z =>
       obtain⟨d,p3⟩:=z;dsimp only;by_cases h4:29<d
       ·rw[bGV h4,bGV h4]
       ·rw[bGU h4,bGU h4];cases aS s p3 (kK d) with
        |bad k=>rfl
        |good u =>
         obtain⟨v2,p4⟩:=u;dsimp only;by_cases h5:out.length<qV d+v2
         ·rw[bGV h5,bGV h5]
         ·rw[bGU h5,bGU h5];by_cases h6:most<out.length+(kL aR+v)
          ·rw[bGV h6,bGV h6]
          ·rw[bGU h6,bGU h6]
theorem wS(s:L)(l:List Nat):∀(f p k C first x q:Nat),fW s l f p k C first=.good (x,q)->p<q/\q<=8*s.length
 |0,p,k,C,first,x,q,h=>q96
 |f+1,p,k,C,first,x,q,h=>by
  unfold fW at h;split at h
  ·cases h
  ·split at h
   ·dsimp only at h;split at h
    ·cases h;omega
    ·have:=wS s l f _ _ _ _ _ _ h;omega
   ·cases h
theorem mP{s:L}{l:List Nat}{p x q:Nat}(h:eJ s l p=.good (x,q)):p<q/\q<=8*s.length:=wS s l 16 p 1 0 0 x q h
theorem rA{s:L}{most:Nat}{far:List Nat}{aR p:Nat}{out out':L}{q:Nat}(h:fR s most far aR p out=.good (out',q)):p<=q/\out'.length<=most:=by
 unfold fR at h;split at h
 ·cases h
 ·cases hb:aS s p (jO aR) with
  |bad k=>exact q499
  |good y =>
   obtain⟨v,p2⟩:=y;rw[hb] at h;dsimp only at h;cases hg:eJ s far p2 with
   |bad k=>rw[hg] at h;cases h
   |good z =>
    obtain⟨d,p3⟩:=z;rw[hg] at h;dsimp only at h;split at h
    ·cases h
    ·cases hb2:aS s p3 (kK d) with
     |bad k=>rw[hb2] at h;cases h
     |good u =>
      obtain⟨v2,p4⟩:=u;rw[hb2] at h;dsimp only at h;split at h
      ·cases h
      ·split at h
       ·cases h
       ·cases h;obtain⟨_,e1,_⟩:=aX hb;obtain⟨e2,_⟩:=mP hg;obtain⟨_,e3,_⟩:=aX hb2;rw[sQ];omega
def sR(w:World)(r:Nat):Nat :=
 match w.cell? ⟨r,3,none⟩,w.cell? ⟨r,1,none⟩ with
 |some (.int _ a),some (.int _ b)=>8*a.toNat+b.toNat
 |_,_=>0
theorem RdW.place{w:World}{r:Nat}{s:L}{p:Nat}(h:RdW w r s p):sR w r=p/\p<=8*s.length:=by
 obtain⟨way,_,hB,h1,_⟩:=h;obtain⟨c0,c1,c2,c3,_⟩:=eL hB;refine⟨?_,h1⟩;unfold sR;rw[c3,c1];show 8*Int.toNat ((p/8:Nat):Int)+Int.toNat ((p % 8:Nat):Int)=p
 rw[Int.toNat_natCast,Int.toNat_natCast];omega
theorem aXR{w wr W6 w6:World}{f r:Nat}{s:L}{most p4 T T2 K co g6 q6:Nat}{A:L}{x:UInt8}{po:Option Addr}(hV:FlV wr f r s most p4 A (.slice po K co))(hbx:Below wr.heap.size wr W6)
 (hr6:aG dV 5 w6 (f+1) (.slice (some ⟨g6,0,none⟩) (K+1) q6) (A++[x])) (hb6:Below (f+1) wr w6) (hg6:W6.grownBy w6 (Value.slice po K co).ownBlock) (hor6:(Value.slice po K co).ownBlock=some g6\/wr.heap.size<=g6)
 (hC:qZ T T2 (.slice po K co)) (hB:Below r w wr) (hm:∀j,T<=j->j<T2->wr.heap[j]?=w.heap[j]?) (hT2:T2<=w.heap.size) (hfT:f<T) :
 FlV (w6.setCell ⟨f,1,none⟩ (.slice (some ⟨g6,0,none⟩) (K+1) q6)) f r s most p4 (A++[x]) (.slice (some ⟨g6,0,none⟩) (K+1) q6)/\qZ T T2 (.slice (some ⟨g6,0,none⟩) (K+1) q6) /\
  Below r w (w6.setCell ⟨f,1,none⟩ (.slice (some ⟨g6,0,none⟩) (K+1) q6))/\∀j,T<=j->j<T2->(w6.setCell ⟨f,1,none⟩ (.slice (some ⟨g6,0,none⟩) (K+1) q6)).heap[j]?=w.heap[j]?:=by
 have hlt:=hV.lt;have hfl:=bGJ hV.blk;have hz1:=hB.size;have hz2:=hbx.size;refine⟨hV.put hr6 hb6,fun g hg=>?_,(hB.trans (hb6.mono oM)).setCell (by show r<=f;omega) _,fun j h1 h2=>?_⟩
 ·exact q485
 ·exact q439
theorem aFO(w:World)(f r t1 t2 T:Nat)(s:L)(most p:Nat)(out:L)(vo:Value)(near far:List Nat)(h:FlV w f r s most p out vo)(hm:most<=1048576)(hl:out.length<=most)
 (hT1:fL w t1 near) (hT2:fL w t2 far) (hTt1:T<=t1) (hTt2:T<=t2) (hfT:f<T) (hC:qZ T w.heap.size vo) (hnl:∀x∈near,x<=15) (hnn:near.length<=1000) (hfl:∀x∈far,x<=15) (hfn:far.length<=1000) :
 Calls prog 330 #[.pointer (some ⟨f,0,none⟩),.pointer (some ⟨t1,0,none⟩),.pointer (some ⟨t2,0,none⟩)] w (wP w f r s most (cX s most near far (8*s.length+1) p out)):=by
 obtain⟨R,hR⟩:=eX (cX s most near far (8*s.length+1) p out);rw[hR];have HR:=Lh hR;have H:=Lh h;have hrl:r<w.heap.size:=q187;have hrt1:r<t1:=by have:=h.lt;omega
 clear h hR;go_enter func330,ntmps330
 go_wp2_with fail;go_loopw [] (fun wr=>∃(fu p:Nat) (out:L) (vo:Value),FlV wr f r s most p out vo/\out.length<=most/\qZ T w.heap.size vo/\Below r w wr/\(∀j,T<=j->j<w.heap.size->wr.heap[j]?=w.heap[j]?)/\Hid (cX s most near far fu p out=R)/\8*s.length<fu+p) (fun wr=>8*s.length+1-sR wr r)
 case atStart=>exact⟨8*s.length+1,p,out,vo,H.out,hl,hC,bGL _ _,fun _ _ _=>rfl,HR,oM⟩
 case round =>
  clear HR H hC hl;obtain⟨fu,p,out,vo,hV,hl,hC,hB,hmid,HR,hfu⟩:=hrel;have hpl:=hV.rd.place;obtain⟨fu,rfl⟩:∃g,fu=g+1:=⟨fu-1,oM⟩
  have hR:=HR.out;rw[nZ] at hR;have HR:=Lh hR;clear hR;obtain⟨c0,c1,c2,cf⟩:=aE hV.blk;have hrlw:r<wr.heap.size:=bGA hrl hB.size;have hwz:=hB.size;have HSG:=Lh (aBT wr t1 r near s p (fL.mid hT1 hTt1 rfl hmid) hV.rd hrt1 hnl hnn);have HV:=Lh hV;have hM1:sR wr r=p:=hpl.1;clear hV hpl;go_wp2_with fail;refine HSG.out.mono ?_;rintro e w1 ⟨hb1,h1⟩;have HW1:=Lh (hB.trans (bM hb1 hrlw));clear HSG c0 c1 c2 cf;cases hsg:eJ s near p with
  |bad k =>
   rw[hsg] at h1;have HRE:=Lh (show R=.bad k from by rw[<-HR.out,hsg]);obtain rfl:=h1;have hk0:k≠0:=lZ s near 16 p 1 0 0 k hsg;clear HR hsg;go_wp2_with(go_at_call 324;(with_reducible refine(qX _ _ hk0 _).mono ?_);rintro e w9 ⟨rfl,h9⟩;obtain rfl:=h9.symm)
   exact⟨rfl,HW1.out,q161⟩
  |good x =>
   obtain⟨sg,p1⟩:=x;rw[hsg] at h1;obtain⟨rfl,hr1⟩:=h1;have H1:=Lh (HV.out.bits hb1 hr1);obtain⟨hpp,hp1⟩:=mP hsg;have hR1:=HR.out;rw[hsg] at hR1;dsimp only at hR1;have HR1:=Lh hR1;have hmid1:∀j,T<=j->j<w.heap.size->w1.heap[j]?=w.heap[j]?:=fun j h1 h2=>(hb1.block j (bGA h2 hwz) (by have:=H1.out.lt;omega)).trans (hmid j h1 h2)
   have hrl1:r<w1.heap.size:=bGA hrlw hb1.size;have hwz1:w.heap.size<=w1.heap.size:=bGC hwz hb1.size;clear HR hR1 hsg hb1 hr1 HV;by_cases h256:sg<256
   ·have d1:decide ((sg:Int)<256)=true:=sO;obtain⟨x,hx⟩:=eX (UInt8.ofNat sg);have hcv:IntKind.u8.wrap (sg:Int)=(x.toNat:Int):=by
     rw[<-hx,bHJ];rw[IntKind.wrap_u8];omega
    have hR2:=HR1.out;rw[bGV h256,hx] at hR2;have HR2:=Lh hR2;clear HR1 hR2 hx h256;go_wp2_with(first|(go_at_call 324;(with_reducible refine(dR _ _).mono ?_);rintro e w9 ⟨rfl,h9⟩;obtain rfl:=h9.symm))
    obtain⟨p0,c0,rfl⟩:=aH H1.out.row;by_cases hroom:out.length+1<=most
    ·have hR3:=HR2.out;rw[bGU oM] at hR3;have HR3:=Lh hR3;refine(wQ w1 f r s most p1 out _ 1 H1.out hm dC hroom).mono ?_;rintro e w2 ⟨rfl,mm,h2⟩;have H2:=Lh (show FlV w2 f r s most p1 out _ from by rw[h2];exact H1.out.drewN mm);have HW2:=Lh (show Below r w w2 from by rw[h2];exact aN HW1.out mm);have hmid2:∀j,T<=j->j<w.heap.size->w2.heap[j]?=w.heap[j]?:=by rw[h2];exact hmid1
     have hwz2:w.heap.size<=w2.heap.size:=by rw[h2];exact hwz1
     clear HR2 hR3 h2 H1 HW1 hmid1 hrl1 hwz1;obtain⟨b0,b1,b2,bf⟩:=aE H2.out.blk;have hfl:=bGJ H2.out.blk;obtain⟨K,hK⟩:=eX (out.length);have HK:=Lh hK;have hV2:=H2.out;rw[hK] at b1 hV2 hC;have HV2:=Lh hV2;have hK2:K<=1048576:=oM;have hRT:T<=T:=bGB T;clear hV2 H2;have hK3:=HK.out;clear hK;go_wp2_with(at_builtin;go_must (refine eE (E:=dV) rfl _ _ rfl underlying196 Tryz.infoU8 rfl dC dC (f+1) _ out x HV2.out.row rfl rfl (by rw[hK3];omega) hfl ?_);intro g6 q6 w6 hr6 hb6 hz6 hg6 hor6;rw[hK3] at hr6 ⊢;(have hV6:=HV2.out.grow hb6);(have HST:=Lh (aXR HV2.out ((bGL _ _).alloc (bGB _) _) hr6 hb6 hg6 (hor6.imp id oM) hC HW2.out hmid2 (bGB _) hfT));clear hr6 hb6 hg6 hor6;obtain⟨d0',d1',d2',df'⟩:=aE hV6)
     all_goals go_roundw
     all_goals first
      |exact⟨fu,p1,out++[x],_,HST.out.1,by rw[bGR];exact hroom,HST.out.2.1,HST.out.2.2.1,HST.out.2.2.2,HR3,oM⟩
      |(rw[hM1,HST.out.1.rd.place.1];omega)
    ·have HRE:=Lh (show R=.bad 5 from by rw[<-HR2.out,bGV oM]);refine(aBU w1 f r s most p1 out _ 1 H1.out hm oM dC oM).mono ?_;rintro e w2 ⟨rfl,hb2⟩;clear HR2;go_wp2_with fail;exact⟨rfl,HW1.out.trans (hb2.mono (bGY hrl1)),q161⟩
   ·by_cases h256':sg=256
    ·subst h256';have HRE:=Lh (show R=.good (out,p1) from by rw[<-HR1.out,bGU oM,bGV rfl]);clear HR1;go_wp2_with(first|(go_at_call 324;(with_reducible refine(dR _ _).mono ?_);rintro e w9 ⟨rfl,h9⟩;obtain rfl:=h9.symm))
     go_end0
     refine⟨HW1.out,?_⟩;rw[HRE.out];exact⟨rfl,vo,H1.out⟩
    ·have d1:decide ((sg:Int)<256)=false:=sO;have d2:((sg:Int)==256)=false:=sO;have hR2:=HR1.out;rw[bGU h256,bGU h256'] at hR2;have HR2:=Lh hR2;have HC:=Lh (aRD w1 f r t2 T w.heap.size s most p1 out vo far sg H1.out hm hl (fL.mid hT2 hTt2 rfl hmid1) hTt2 hfT hwz1 (fun W hW hk=>fL.mid hT2 hTt2 rfl fun k h1 h2=>(hk k h1 h2).trans (hmid1 k h1 h2)) hC hfl hfn oM);clear HR1 hR2;go_wp2_with(first|(go_at_call 324;(with_reducible refine(dR _ _).mono ?_);rintro e w9 ⟨rfl,h9⟩;obtain rfl:=h9.symm))
     refine HC.out.mono ?_;rintro e w2 ⟨hb2,h2⟩;clear HC;cases hco:fR s most far sg p1 out with
     |bad k =>
      rw[hco] at h2;have HRE:=Lh (show R=.bad k from by rw[<-HR2.out,hco]);obtain rfl:=h2;clear HR2;go_wp2_with fail;exact⟨rfl,HW1.out.trans hb2,q161⟩
     |good x =>
      obtain⟨out2,p2⟩:=x;rw[hco] at h2;obtain⟨rfl,vo2,hV2,hC2,hk2⟩:=h2;have hR3:=HR2.out;rw[hco] at hR3;dsimp only at hR3;have HR3:=Lh hR3;obtain⟨e1,e2⟩:=rA hco;have hM2:=hV2.rd.place;clear HR2 hR3 hco;go_wp2_with fail;go_roundw
      case rel=>exact⟨fu,p2,out2,vo2,hV2,e2,hC2,HW1.out.trans hb2,fun j h1 h2=>(hk2 j h1 h2).trans (hmid1 j h1 h2),HR3,oM⟩
      case measure=>rw[hM1,hM2.1];omega
theorem pU(s:L)(code:List Nat)(many:Nat):∀(f p:Nat) (l l':List Nat) (q:Nat),(∀x∈l,x<=15)->l.length<=many->fK s code many f p l=.good (l',q)->(∀x∈l',x<=15)/\l'.length=many
 |0,p,l,l',q,_,_,h=>q96
 |f+1,p,l,l',q,hl,hm,h=>by
  unfold fK at h;split at h
  ·cases h;exact⟨hl,oM⟩
  ·cases hg:eJ s code p with
   |bad k=>rw[hg] at h;cases h
   |good x =>
    obtain⟨aR,p1⟩:=x;rw[hg] at h;dsimp only at h;split at h
    ·refine pU s code many f _ _ _ _ (fun x hx=>?_) q196 h;rcases List.mem_append.1 hx with hx|hx
     ·exact hl x hx
     ·obtain rfl:=List.mem_singleton.1 hx;omega
    ·split at h
     ·cases h
     ·cases hb:aS s p1 (if aR=18 then 7 else if aR=17 then 3 else 2) with
      |bad k=>exact q499
      |good y =>
       obtain⟨v,p2⟩:=y;rw[hb] at h;dsimp only at h;generalize (if aR=18 then 11 else 3)=least at h
       generalize hw:(if aR=16 then l.getLastD 0 else 0)=what at h
       split at h
       ·cases h
       ·refine pU s code many f _ _ _ _ (fun x hx=>?_) q197 h;rcases List.mem_append.1 hx with hx|hx
        ·exact hl x hx
        ·obtain⟨_,hx2⟩:=List.mem_replicate.1 hx;rw[hx2,<-hw];split
         ·cases l with
          |nil=>exact bGF _
          |cons a l =>
           exact hl _ (by rw[List.getLastD_cons];exact List.getLastD_mem_cons)
         ·exact bGF _
theorem wT(v:Value)(k:Int)(hk:k≠0)(w:World):Calls prog 331 #[v,.int .i64 k] w fun e w'=>e=.panicked [{ v:=.iface 323 (.agg #[.int .i64 k]),recovered:=false }]/\w'=w:=by
 have d:(k==0)=false:=q93;go_enter func331,ntmps331
 exact q400
def gJ(x m N:Nat):List Value:=List.replicate m (.int .i64 x)++List.replicate (N-m) (.int .i64 0)
theorem rB(x m N:Nat)(h:m<=N):(gJ x m N).length=N:=by simp[gJ];omega
theorem aRE(x N:Nat):madeCells #[Value.int .i64 0] N=(gJ x 0 N).toArray:=by
 apply Array.ext
 ·rw[size_madeCells];simp[gJ]
 ·intro i h1 h2;rw[size_madeCells] at h1;have h2:i % 1=0:=oM;simp[madeCells,gJ,h2]
theorem tQ(x m k N:Nat)(h:m+k<=N):splice (gJ x m N) m (List.replicate k (.int .i64 x))=gJ x (m+k) N:=by
 unfold splice gJ;rw[bHK,List.take_append_of_le_length sI,bHC sI,List.drop_append,bHK,List.drop_of_length_le sI,List.nil_append,List.drop_replicate,<-List.append_assoc,List.replicate_append_replicate];congr 2
 omega
theorem aXS{W:World}{G x m N k:Nat}(hW:W.heap[G]?=some (.cells (gJ x m N).toArray 3 (0,0)))(hk:k<=m):∀(j:Nat) (v:Value),(List.replicate k (Value.int .i64 (x:Int)))[j]?=some v->W.cell? ((⟨G,0,none⟩:Addr).add j)=some v:=by
 intro j v hv;have hjk:j<k:=by have:=(List.getElem?_eq_some_iff.1 hv).1;simpa using this
 have hv2:v=.int .i64 x:=by rw[List.getElem?_replicate,bGV hjk] at hv;exact(Option.some.inj hv).symm
 have h1:W.cell? ⟨G,j,none⟩=some v:=by
  rw[cell_of_row _ _ _ _ _ _ hW,hv2];simp only[List.getElem?_toArray];unfold gJ;rw[List.getElem?_append_left sO,List.getElem?_replicate,bGV oM]
 by_cases hj0:j=0<;>simpa[Addr.add,hj0] using h1
theorem aRF{B G x m N k:Nat}{w W:World}(hG:W.heap[G]?=some (.cells (gJ x m N).toArray 3 (0,0)))(hb:Below B w W)(hBG:B<=G)(hk:Nat.min m (N-m)=k)(hkm:k<=m)(hN:m+k<=N)(hmN:m<=N) :
 ∃W',Sem.run prog (Builtin.copy_ #[346,346] 3 #[.slice (some ⟨G,m,none⟩) (N-m) (N-m),.slice (some ⟨G,0,none⟩) m N]) W=.ok (goInt k) W' /\
  Hid (W'.heap[G]?=some (.cells (gJ x (m+k) N).toArray 3 (0,0)))/\Below B w W':=by
 have h:=run_copy_row (P:=prog) W 346 346 3 3 G m (N-m) (N-m) ⟨G,0,none⟩ m N (gJ x m N).toArray 3 (List.replicate k (.int .i64 x)) underlying346 kR hG
  (by rw[bHK];exact hk.symm) (aXS hG hkm) (by rw[List.size_toArray,rB _ _ _ hmN,bHK];exact hN) (by simp[Value.oneCell'])
 rw[bHK] at h;refine⟨_,h,?_,below_setRow hb hBG _⟩;refine Lh ?_;rw[<-tQ x m k N hN];simpa[splice] using setRow_heap W G _ _ 3 _ hG
theorem aRG(w:World)(v:Value)(x N:Nat)(h:bC cD w v [x])(h0:0<N)(hN:N<=1000000) :
 Calls prog 313 #[v,.int .i64 N] w fun e w'=>∃g,w.heap.size<=g/\e=.returned (.slice (some ⟨g,0,none⟩) N N)/\w'.heap[g]?=some (.cells (gJ x N N).toArray 3 (0,0))/\Below w.heap.size w w':=by
 obtain⟨p,c,rfl,_⟩:=id h;obtain⟨g0,off,rfl,hg0,hx⟩:=jQ h 0 sI;have hmk:=fun W=>zL N hN W
 have hdiv:N/18446744073709551616=0:=oM;have hmod:N % 18446744073709551616=N:=oM;have hc1:IntKind.u64.wrap (N:Int)=N:=by rw[IntKind.wrap_u64];omega
 have hc2:IntKind.i64.wrap (N:Int)=N:=q167;have d1:decide ((N:Int)<0)=false:=sI;have d2:decide ((N:Int) > 9223372036854775807)=false:=sO;go_enter func313,ntmps313
 go_wp2_with fail;refine(Tryz.bits_Mul 1 N dC oM w).mono ?_;rintro e w9 ⟨rfl,h9⟩;obtain rfl:=h9.symm;rw[Nat.one_mul,hdiv,hmod];clear h9;go_upto_region 7 with fail
 have hz1:w.heap.size<(w.alloc (.cells (madeCells #[.int .i64 0] N) 3)).heap.size:=sI;have hg1:(w.alloc (.cells (madeCells #[.int .i64 0] N) 3)).heap[w.heap.size]?=some (.cells (gJ x 0 N).toArray 3 (0,0)):=by rw[<-aRE];exact bGP _ _
 have hb1:Below w.heap.size w (w.alloc (.cells (madeCells #[.int .i64 0] N) 3)):=(bGL _ _).alloc (bGB _) _;have hx1:(w.alloc (.cells (madeCells #[.int .i64 0] N) 3)).cell? ⟨g0,off,none⟩=some (.int .i64 x):=by
  obtain⟨g',off',e,_,hx'⟩:=jQ (h.below hb1) 0 sI;cases e;exact hx'
 obtain⟨w1,hw1⟩:=eX (w.alloc (.cells (madeCells #[.int .i64 0] N) 3));rw[hw1] at hz1 hg1 hb1 hx1 ⊢;have hsrc:∀(j:Nat) (v:Value),[Value.int .i64 (x:Int)][j]?=some v->w1.cell? ((⟨g0,off,none⟩:Addr).add j)=some v:=by
  intro j v hv;cases j with
  |zero=>simp at hv;subst hv;simpa[Addr.add] using hx1
  |succ j=>simp at hv
 go_wp2_with(refine wpList_copy_splice (o:=⟨some 33,_,_,_,_,_⟩) rfl _ _ 346 346 rfl 3 underlying346 kR _ _ N N 1 c (by rfl) (by rfl) w.heap.size 0 (gJ x 0 N) 3 hg1 [.int .i64 x] (by show 1=Nat.min 1 N;exact(Nat.min_eq_left h0).symm) (fun _=>⟨rfl,_,rfl,hsrc⟩) (by rw[rB _ _ _ (bGF _)];simp;omega) (by simp[Value.oneCell']) w.heap.size w hb1 (bGB _) ?_;intro w2 hg2 hb2;rw[show([Value.int .i64 (x:Int)]:List Value)=List.replicate 1 (.int .i64 x) from rfl,tQ x 0 1 N oM] at hg2)
 have hz2:=hb2.size;clear hg1 hb1 hx1 hsrc hw1 hx hmk hdiv hmod hc1 hc2 d1 d2 h hg0;go_loopw [8] (fun n wr=>∃m:Nat,1<=m/\m<=N/\n=.int .i64 m/\Hid (wr.heap[w.heap.size]?=some (.cells (gJ x m N).toArray 3 (0,0)))/\Below w.heap.size w wr) (fun n _=>N-(intOf n).toNat)
 case atStart=>exact⟨1,bGB _,h0,rfl,Lh hg2,hb2⟩
 case round =>
  clear hg2 hb2;obtain⟨m,hm1,hmN,rfl,HG,hbr⟩:=hrel;by_cases hm:m<N
  ·obtain⟨k,hk⟩:=eX (Nat.min m (N-m));have hk1:1<=k/\k<=m/\m+k<=N:=by
    have h1:Nat.min m (N-m)<=m:=Nat.min_le_left _ _;have h2:Nat.min m (N-m)<=N-m:=Nat.min_le_right _ _;have h3:1<=Nat.min m (N-m):=Nat.le_min.2 ⟨hm1,oM⟩;omega
   have dm:decide (m<N)=true:=by simpa using hm
   have hNm:¬N=m:=oM;have hwr:IntKind.i64.wrap ((m:Int)+k)=((m+k:Nat):Int):=q167;obtain⟨M,hM⟩:=eX (m+k);rw[hM] at hwr;obtain⟨w3,hcp,hg3,hb3⟩:=aRF (W:=wr.drew) (show wr.drew.heap[w.heap.size]?=_ from HG.out) hbr.drew (bGB _) hk hk1.2.1 hk1.2.2 hmN;rw[hM] at hg3;go_upto_region 9 with fail
   go_region_law (fail)
   all_goals go_simp
   all_goals go_roundw
   case rel =>
    (repeat apply Exists.intro)
    refine⟨?_,rfl⟩;exact⟨M,oM,oM,q12,hg3,hb3⟩
   case measure=>exact q339
  ·obtain rfl:m=N:=oM;have dk:decide (m<m)=false:=sI;go_wp2_with fail;go_ret
   exact⟨w.heap.size,bGB _,rfl,HG.out,hbr⟩
theorem aMR(x:Nat):∀N,cD.row (List.replicate N x)=gJ x N N
 |0=>rfl
 |N+1=>by
  have h:=aMR x N;unfold gJ at h ⊢;rw[Nat.sub_self] at h ⊢;rw[List.replicate_succ,List.replicate_succ,List.cons_append,<-h];rfl
theorem aJK(w:World)(v:Value)(x N:Nat)(h:bC cD w v [x])(h0:0<N)(hN:N<=1000000) :
 Calls prog 313 #[v,.int .i64 N] w fun e w'=>∃g,w.heap.size<=g/\e=.returned (.slice (some ⟨g,0,none⟩) N N)/\bC cD w' (.slice (some ⟨g,0,none⟩) N N) (List.replicate N x)/\Below w.heap.size w w':=by
 refine(aRG w v x N h h0 hN).mono ?_;rintro e w' ⟨g,hg,he,hc,hb⟩;refine⟨g,hg,he,?_,hb⟩;have h:=lX (E:=cD) (c:=N) (ys:=List.replicate N x) (by rw[aMR];exact hc);rw[bHK] at h;exact h
theorem bBZ(w:World)(x:Nat):bC cD (w.alloc (.cells #[.int .i64 x] 3)) (.slice (some ⟨w.heap.size,0,none⟩) 1 1) [x]:=by
 refine lX (ys:=[x]) (t:=3) (fr:=(0,0)) ?_;rw[bGP];rfl
theorem mQ(w:World)(x g:Nat)(i:Int)(h:i=x)(hg:g=w.heap.size):bC cD (w.alloc (.cells #[.int .i64 i] 3)) (.slice (some ⟨g,0,none⟩) 1 1) [x]:=by subst h hg;exact bBZ w x
theorem fU(w:World)(v:Value)(x N:Nat)(i:Int)(hi:i=N)(h:bC cD w v [x])(h0:0<N)(hN:N<=1000000) :
 Calls prog 313 #[v,.int .i64 i] w fun e w'=>∃g,w.heap.size<=g/\e=.returned (.slice (some ⟨g,0,none⟩) N N)/\bC cD w' (.slice (some ⟨g,0,none⟩) N N) (List.replicate N x)/\Below w.heap.size w w':=by subst hi;exact aJK w v x N h h0 hN
def rC(j:Nat):List Nat:=([List.replicate 144 8,List.replicate 112 9,List.replicate 24 7,List.replicate 8 8].take j).flatten
theorem aXT(w:World) :
 Calls prog 289 #[] w fun e w'=>∃v1 v2,e=.returned (.tuple #[v1,v2])/\bC cD w' v1 gW/\bC cD w' v2 jP/\Below w.heap.size w w':=by
 go_enter func289,ntmps289
 go_wp2_with fail;go_loopw [0,9] (fun a i wr=>∃j:Nat,j<=4/\i=.int .i64 j/\aG cD 3 wr w.heap.size a (rC j)/\Below w.heap.size w wr) (fun _ i _=>4-(intOf i).toNat)
 case atStart=>exact⟨0,dC,rfl,bF _ _,bGL _ _⟩
 case round =>
  obtain⟨j,hj,rfl,hrow,hb⟩:=hrel;by_cases hj4:j<4
  ·have hc:j=0\/j=1\/j=2\/j=3:=oM;have hz:=hb.size;rcases hc with rfl|rfl|rfl|rfl
   ·have hix:∀W:World,(Instr.index 389 (.agg #[.int .i64 144,.int .i64 8,.int .i64 112,.int .i64 9,.int .i64 24,.int .i64 7,.int .i64 8,.int .i64 8]) (.int .i64 0)).run prog W=.ok (.agg #[.int .i64 144,.int .i64 8]) W:=fun W=>kR
    go_wp2_with fail;refine(fU _ _ 8 144 _ rfl (mQ _ 8 _ _ rfl sI) dC dC).mono ?_;rintro e w2 ⟨g2,hg2,rfl,hR2,hb2⟩;have hb3:Below wr.heap.size wr w2:=bHE bel (hb2.mono q43);have hz3:w.heap.size<=w2.heap.size:=bGC hz hb3.size;have hbw:=hb.trans (hb3.mono hz);have hr2:=hrow.below hb3;obtain⟨p0,c0,rfl⟩:=aH hr2;clear hix hb2 hb3 hrow;go_wp2_with(at_builtin;go_must (refine iI (E:=cD) rfl _ _ rfl underlying346 Tryz.infoIn rfl dC dC w.heap.size _ _ (rC 0) (List.replicate 144 8) hr2 (by rfl) (by rfl) hR2 q192 q8 hz3 ?_);intro p3 q3 w3 hr3 hb3 hg3)
    go_roundw
    case rel =>
     refine⟨1,dC,q12,?_,hbw.trans hb3⟩;rw[show rC 1=rC 0++List.replicate 144 8 from q8];exact hr3
    case measure=>simp[intOf]
   ·have hix:∀W:World,(Instr.index 389 (.agg #[.int .i64 144,.int .i64 8,.int .i64 112,.int .i64 9,.int .i64 24,.int .i64 7,.int .i64 8,.int .i64 8]) (.int .i64 1)).run prog W=.ok (.agg #[.int .i64 112,.int .i64 9]) W:=fun W=>kR
    go_wp2_with fail;refine(fU _ _ 9 112 _ rfl (mQ _ 9 _ _ rfl sI) dC dC).mono ?_;rintro e w2 ⟨g2,hg2,rfl,hR2,hb2⟩;have hb3:Below wr.heap.size wr w2:=bHE bel (hb2.mono q43);have hz3:w.heap.size<=w2.heap.size:=bGC hz hb3.size;have hbw:=hb.trans (hb3.mono hz);have hr2:=hrow.below hb3;obtain⟨p0,c0,rfl⟩:=aH hr2;clear hix hb2 hb3 hrow;go_wp2_with(at_builtin;go_must (refine iI (E:=cD) rfl _ _ rfl underlying346 Tryz.infoIn rfl dC dC w.heap.size _ _ (rC 1) (List.replicate 112 9) hr2 (by rfl) (by rfl) hR2 q192 q8 hz3 ?_);intro p3 q3 w3 hr3 hb3 hg3)
    go_roundw
    case rel =>
     refine⟨2,dC,q12,?_,hbw.trans hb3⟩;rw[show rC 2=rC 1++List.replicate 112 9 from q8];exact hr3
    case measure=>simp[intOf]
   ·have hix:∀W:World,(Instr.index 389 (.agg #[.int .i64 144,.int .i64 8,.int .i64 112,.int .i64 9,.int .i64 24,.int .i64 7,.int .i64 8,.int .i64 8]) (.int .i64 2)).run prog W=.ok (.agg #[.int .i64 24,.int .i64 7]) W:=fun W=>kR
    go_wp2_with fail;refine(fU _ _ 7 24 _ rfl (mQ _ 7 _ _ rfl sI) dC dC).mono ?_;rintro e w2 ⟨g2,hg2,rfl,hR2,hb2⟩;have hb3:Below wr.heap.size wr w2:=bHE bel (hb2.mono q43);have hz3:w.heap.size<=w2.heap.size:=bGC hz hb3.size;have hbw:=hb.trans (hb3.mono hz);have hr2:=hrow.below hb3;obtain⟨p0,c0,rfl⟩:=aH hr2;clear hix hb2 hb3 hrow;go_wp2_with(at_builtin;go_must (refine iI (E:=cD) rfl _ _ rfl underlying346 Tryz.infoIn rfl dC dC w.heap.size _ _ (rC 2) (List.replicate 24 7) hr2 (by rfl) (by rfl) hR2 q192 q8 hz3 ?_);intro p3 q3 w3 hr3 hb3 hg3)
    go_roundw
    case rel =>
     refine⟨3,dC,q12,?_,hbw.trans hb3⟩;rw[show rC 3=rC 2++List.replicate 24 7 from q8];exact hr3
    case measure=>simp[intOf]
   ·have hix:∀W:World,(Instr.index 389 (.agg #[.int .i64 144,.int .i64 8,.int .i64 112,.int .i64 9,.int .i64 24,.int .i64 7,.int .i64 8,.int .i64 8]) (.int .i64 3)).run prog W=.ok (.agg #[.int .i64 8,.int .i64 8]) W:=fun W=>kR
    go_wp2_with fail;refine(fU _ _ 8 8 _ rfl (mQ _ 8 _ _ rfl sI) dC dC).mono ?_;rintro e w2 ⟨g2,hg2,rfl,hR2,hb2⟩;have hb3:Below wr.heap.size wr w2:=bHE bel (hb2.mono q43);have hz3:w.heap.size<=w2.heap.size:=bGC hz hb3.size;have hbw:=hb.trans (hb3.mono hz);have hr2:=hrow.below hb3;obtain⟨p0,c0,rfl⟩:=aH hr2;clear hix hb2 hb3 hrow;go_wp2_with(at_builtin;go_must (refine iI (E:=cD) rfl _ _ rfl underlying346 Tryz.infoIn rfl dC dC w.heap.size _ _ (rC 3) (List.replicate 8 8) hr2 (by rfl) (by rfl) hR2 q192 q8 hz3 ?_);intro p3 q3 w3 hr3 hb3 hg3)
    go_roundw
    case rel =>
     refine⟨4,dC,q12,?_,hbw.trans hb3⟩;rw[show rC 4=rC 3++List.replicate 8 8 from q8];exact hr3
    case measure=>simp[intOf]
  ·obtain rfl:j=4:=oM;go_wp2_with fail;refine(fU _ _ 5 32 _ rfl (mQ _ 5 _ _ rfl sI) dC dC).mono ?_;rintro e w2 ⟨g2,hg2,rfl,hR2,hb2⟩;have hb3:Below wr.heap.size wr w2:=bHE bel (hb2.mono q43);go_wp2_with fail;go_ret2
   refine⟨_,_,rfl,?_,hR2,hb.trans (hb3.mono hb.size)⟩;rw[show gW=rC 4 from q8];exact aG.arg (hrow.below hb3)
def sS(x:Nat):Nat:=if x=18 then 11 else if x=17 then 3 else if x=16 then 3 else 0
def zQ(x:Nat):Nat:=if x=18 then 7 else if x=17 then 3 else if x=16 then 2 else 0
def iK(w:World)(r:Nat):Prop:=5<r/\∃m es c,m<r/\r<=w.heap.size/\w.cell? ⟨5,0,none⟩=some (.map (some m))/\w.heap[m]?=some (.map es c) /\
 ∀W:World,W.heap[m]?=some (.map es c)->∀x:Nat,x<=18->(Instr.lookup 428 (.map (some m)) (.int .i64 (x:Nat)) true).run prog W=.ok (.tuple #[.agg #[.int .i64 (sS x:Nat),.int .i64 (zQ x:Nat)],.bool (decide (16<=x))]) W
theorem iK.below{w w':World}{r:Nat}(h:iK w r)(hb:Below r w w'):iK w' r:=by
 obtain⟨h0,m,es,c,h1,h2,h3,h4,h5⟩:=h;refine⟨h0,m,es,c,h1,bGC h2 hb.size,?_,(hb.block m h1).trans h4,h5⟩;rw[<-h3];exact bGO (hb.block _ h0)
theorem iK.low{w:World}{r r':Nat}(h:iK w r)(hr:r<=r')(hl:r'<=w.heap.size):iK w r':=by
 obtain⟨h0,m,es,c,h1,h2,h3,h4,h5⟩:=h;exact⟨oM,m,es,c,oM,hl,h3,h4,h5⟩
theorem aFP(s:L)(l:List Nat):∀(f p k C first x q:Nat),fW s l f p k C first=.good (x,q)->x<=l.length-1
 |0,p,k,C,first,x,q,h=>q96
 |f+1,p,k,C,first,x,q,h=>by
  unfold fW at h;split at h
  ·cases h
  ·split at h
   ·dsimp only at h;split at h
    ·cases h;rw[bGX];cases hg:(nF l k)[2*C+gM s p-2*first]? with
     |none=>exact bGF _
     |some y =>
      have h1:=bHG hg;unfold nF at h1;have:=List.mem_range.1 (List.mem_filter.1 h1).1;show y<=_
      omega
    ·exact aFP s l f _ _ _ _ _ _ h
   ·cases h
theorem aXU{s:L}{l:List Nat}{p x q:Nat}(h:eJ s l p=.good (x,q)):x<=l.length-1:=aFP s l 16 p 1 0 0 x q h
def aFQ:Value->Nat
 |.slice _ n _=>n
 |_=>0
def bEK(w:World)(r:Nat)(s:L)(R:Res (List Nat×Nat))(e:Ending)(w':World):Prop :=
 Bes r w w'/\match R with
 |.good (l,p)=>∃v,e=.returned v/\aG cD 3 w' w.heap.size v l/\RdW w' r s p
 |.bad k=>e=.panicked [{ v:=.iface 323 (.agg #[.int .i64 k]),recovered:=false }]
theorem fN{w w':World}{r B:Nat}{s:L}{p:Nat}(h:RdW w r s p)(hb:Below B w w')(hr:r<B):RdW w' r s p:=by
 obtain⟨way,hw,hB,h1,h2⟩:=h;exact⟨way,hw,(hb.block r hr).trans hB,h1,h2⟩
theorem kO{w:World}{b:Nat}{t:TypeId}{v0 v1:Value}(h:w.heap[b]?=some (.cells #[v0,v1] t (0,0))) :
 w.cell? ⟨b,0,none⟩=some v0/\w.cell? ⟨b,1,none⟩=some v1/\∀o,w.frozen? ⟨b,o,none⟩=false:=by
 exact q374
theorem aJL(w:World)(f r t:Nat)(s:L)(most p:Nat)(vo:Value)(code:List Nat)(many:Nat)(hf:FlB w f r vo most)(hr:RdW w r s p)(hrf:r<f)(hT:fL w t code)(hrt:r<t)(hrep:iK w r)
 (hnl:∀x∈code,x<=15) (hnn:code.length<=19) (hm:many<=350) :
 Calls prog 332 #[.pointer (some ⟨f,0,none⟩),.pointer (some ⟨t,0,none⟩),.int .i64 many] w (bEK w r s (fK s code many 400 p [])):=by
 obtain⟨R,hR⟩:=eX (fK s code many 400 p []);rw[hR];have HR:=Lh hR;have HF:=Lh hf;have hfl:=bGJ hf;have hrl:r<w.heap.size:=oM;have hmk:∃w1,(Instr.makeSlice 346 (.int .i64 0) (.int .i64 (many:Int))).run prog w=.ok (.slice (some ⟨w.heap.size,0,none⟩) 0 many) w1/\w1.ownsRow w.heap.size 3 1 (.slice (some ⟨w.heap.size,0,none⟩) 0 many) 0 []/\w.grownBy w1 none:=by
  obtain⟨i0,hi0,y0,y1,y2⟩:=info_parts Tryz.infoIn;exact run_make_own (P:=prog) w w.heap.size 346 3 i0 _ 1 underlying346 hi0 y0 y1 .i64 .i64 many (by rw[y2];omega) q26 (bGB _)
 obtain⟨w1,hmk,hown1,hg1⟩:=hmk;have hb1:Below w.heap.size w w1:=(bGL _ _).grown hg1 (bGB _) (by intro k hk;cases hk);have hr1:RdW w1 r s p:=by
  obtain⟨way,hw,hB,h1,h2⟩:=hr;exact⟨way,hw,(hb1.block r hrl).trans hB,h1,h2⟩
 clear hf hr hR;go_enter func332,ntmps332
 go_wp2_with fail;go_loopw [7] (fun v wr=>∃(fu p:Nat) (l:List Nat),aG cD 3 wr w.heap.size v l/\RdW wr r s p/\Bes r w wr/\l.length<=many/\Hid (fK s code many fu p l=R)/\many<fu+l.length) (fun v _=>many-aFQ v)
 case atStart=>exact⟨400,p,[],hown1,hr1,⟨hb1.os,hb1.tape,hb1.output,hb1.size,fun k h1 _=>hb1.block k h1⟩,bGF _,HR,sO⟩
 case round =>
  clear hmk hown1 hg1 hb1 hr1 HR;obtain⟨fu,p,l,hrow,hrd,hbs,hlm,HR,hfu⟩:=hrel;obtain⟨p0,c0,rfl⟩:=aH hrow;have hwz:=hbs.size;by_cases hlt:l.length<many
  ·obtain⟨fu,rfl⟩:∃g,fu=g+1:=⟨fu-1,oM⟩
   have hR:=HR.out;unfold fK at hR;rw[bGU oM] at hR;have HR:=Lh hR;clear hR;have d0:decide ((l.length:Int)<many)=true:=sO;have HFw:=Lh (show FlB wr f r vo most from(hbs.block f hfl oM).trans HF.out);have HSG:=Lh (aBT wr t r code s p (hT.bes hbs hrt) hrd hrt hnl oM);have HRow:=Lh hrow;obtain⟨c0',c1',c2',cf'⟩:=aE HFw.out;clear hrow hrd;go_wp2_with fail;refine HSG.out.mono ?_;rintro e w1 ⟨hb1,h1⟩;have HB1:=Lh (hbs.trans hb1);clear HSG c0' c1' c2' cf';cases hsg:eJ s code p with
   |bad k =>
    rw[hsg] at h1;have HRE:=Lh (show R=.bad k from by rw[<-HR.out,hsg]);obtain rfl:=h1;have hk0:k≠0:=lZ s code 16 p 1 0 0 k hsg;clear HR hsg;go_wp2_with(go_at_call 324;(with_reducible refine(qX _ _ hk0 _).mono ?_);rintro e w9 ⟨rfl,h9⟩;obtain rfl:=h9.symm)
    exact⟨rfl,HB1.out,q161⟩
   |good x =>
    obtain⟨sg,p1⟩:=x;rw[hsg] at h1;obtain⟨rfl,hr1⟩:=h1;have hsl:sg<=18:=by have:=aXU hsg;omega
    have hR1:=HR.out;rw[hsg] at hR1;dsimp only at hR1;have HR1:=Lh hR1;have HRow1:=Lh (show aG cD 3 w1 w.heap.size (.slice p0 l.length c0) l from fB HRow.out fun k hk=>hb1.block k (cM HRow.out k hk) (by have:=aK HRow.out k hk;omega));have HFw1:=Lh (show FlB w1 f r vo most from(HB1.out.block f hfl oM).trans HF.out);obtain⟨hG,m,es,c,hm1,hm2,hg,hmb,hlk⟩:=hrep.below (bM HB1.out hrl);have hlook:=hlk w1 hmb sg hsl;have hz1:=hb1.size;have HRd1:=Lh hr1;clear HR hR1 hsg hb1 hr1 HFw HRow hlk hmb;obtain⟨Lq,hLq⟩:=eX (sS sg);obtain⟨Mq,hMq0⟩:=eX (zQ sg);rw[hLq,hMq0] at hlook;obtain⟨w2,hw2⟩:=eX (w1.alloc (.cells #[.int .i64 (Lq:Nat),.int .i64 (Mq:Nat)] 426));have hb2:Below w1.heap.size w1 w2:=q171;have hz2:w1.heap.size<w2.heap.size:=by rw[<-hw2];simp
    by_cases h16:sg<16
    ·have d1:decide (16<=sg)=false:=sO;rw[d1] at hlook;have HR2:=Lh (show fK s code many fu p1 (l++[sg])=R from by have h:=HR1.out;rw[bGV h16] at h;exact h);have HRow2:=Lh (HRow1.out.below hb2);have HRd2:=Lh (fN HRd1.out hb2 oM);have HB2:=Lh (HB1.out.trans (show Bes r w1 w2 from⟨hb2.os,hb2.tape,hb2.output,hb2.size,fun k h1 _=>hb2.block k h1⟩));clear hLq hMq0 h16 d1 HR1;go_upto_region 5 with(first|(go_at_call 324;(with_reducible refine(dR _ _).mono ?_);rintro e w9 ⟨rfl,h9⟩;obtain rfl:=h9.symm))
     clear hw2;go_wp2_with(at_builtin;go_must (refine eE (E:=cD) rfl _ _ rfl underlying346 Tryz.infoIn rfl dC dC w.heap.size _ l sg HRow2.out rfl rfl oM oM ?_);intro g6 q6 w6 hr6 hb6 hz6 hg6 hor6)
     go_roundw
     case rel=>exact⟨fu,p1,l++[sg],hr6,fN HRd2.out hb6 hrl,HB2.out.belowB hb6 (bGB _),q196,HR2,q196⟩
     case measure=>simp[aFQ];omega
    ·have d1:decide (16<=sg)=true:=sO;rw[d1] at hlook;have hL1:3<=Lq/\Lq<=11:=by rw[<-hLq];unfold sS;split<;>(try split)<;>(try split)<;>omega
     have hMq:Mq<=7:=by rw[<-hMq0];unfold zQ;split<;>(try split)<;>(try split)<;>omega
     have hRM:(if sg=18 then 7 else if sg=17 then 3 else 2)=Mq:=by rw[<-hMq0];unfold zQ;split;rfl;split;rfl;rw[bGV oM]
     have hRL:(if sg=18 then 11 else 3)=Lq:=by rw[<-hLq];unfold sS;split;rfl;split;rfl;rw[bGV oM]
     have hR2:=HR1.out;rw[bGU h16,hRM,hRL] at hR2;have HRow2:=Lh (HRow1.out.below hb2);have HRd2:=Lh (fN HRd1.out hb2 oM);have HB2:=Lh (HB1.out.trans (show Bes r w1 w2 from⟨hb2.os,hb2.tape,hb2.output,hb2.size,fun k h1 _=>hb2.block k h1⟩));have HFw2:=Lh (show FlB w2 f r vo most from(hb2.block f oM).trans HFw1.out);obtain⟨q,hq⟩:=eX (w1.heap.size);have hq2:w2.heap[q]?=some (.cells #[.int .i64 (Lq:Nat),.int .i64 (Mq:Nat)] 426 (0,0)):=by rw[<-hw2];exact aA _ _ _ hq.symm
     have hrw2:r<w2.heap.size:=oM;have hfw2:f<w2.heap.size:=oM;clear hLq hMq0 HR1 hRM hRL;go_upto_region 5 with(first|(go_at_call 324;(with_reducible refine(dR _ _).mono ?_);rintro e w9 ⟨rfl,h9⟩;obtain rfl:=h9.symm))
     clear hw2 hb2 HRd1 HRow1 HFw1 HB1;by_cases h16':sg=16
     ·subst h16';by_cases hl0:l=[]
      ·subst hl0;have HRE:=Lh (show R=.bad 3 from by rw[<-hR2,bGV ⟨rfl,rfl⟩]);clear hR2;go_wp2_with(go_at_call 261;(with_reducible refine(dO _ _).mono ?_);rintro e w9 ⟨rfl,h9⟩;obtain rfl:=h9.symm)
       exact⟨rfl,HB2.out,q161⟩
      ·have hne:¬(16=16/\l=[]):=fun h=>hl0 h.2
       rw[bGU hne,bGV rfl] at hR2;obtain⟨N1,hN1⟩:∃N1,l.length=N1+1:=⟨l.length-1,by have:0<l.length:=List.length_pos_iff.2 hl0;omega⟩
       obtain⟨g0,off,e0,hg0,hlast⟩:=jQ (aG.arg HRow2.out) N1 oM;subst e0;obtain⟨x,hx⟩:=eX (l[N1]);have hxl:l.getLastD 0=x:=by
        rw[List.getLastD_eq_getLast?,List.getLast?_eq_getElem?,hN1,Nat.add_sub_cancel,bGE oM,hx];rfl
       rw[hxl] at hR2;rw[hx] at hlast;have HR2:=Lh hR2;have hnw:IntKind.i64.wrap ((l.length:Int)-1)=(N1:Int):=q167;have dN:decide (0<l.length)=true:=sO;have hN1l:N1<l.length:=oM;clear hR2 hx hxl hne hN1 hl0;cases hbt:aS s p1 Mq with
       |bad k =>
        have HRE:=Lh (show R=.bad k from q188);have HBt:=Lh (fun(W:World) (hW:Below w2.heap.size w2 W)=>cS W f r vo most s p1 Mq ((hW.block f oM).trans HFw2.out) (fN HRd2.out hW oM) oM);rw[hbt] at HBt;obtain⟨e0,e1,ef⟩:=kO hq2;have hql:=bGJ hq2;clear HR2 hbt;go_upto_region 11 with(go_at_call 261;(with_reducible refine(cI _ _).mono ?_);rintro e w9 ⟨rfl,h9⟩;obtain rfl:=h9.symm)
        exact q382
       |good y =>
        obtain⟨v,p2⟩:=y;have hv:=(aX hbt).1;have hv7:v<128:=bGA hv q201;have hR3:=HR2.out;rw[hbt] at hR3;dsimp only at hR3;have HBt:=Lh (fun(W:World) (hW:Below w2.heap.size w2 W)=>cS W f r vo most s p1 Mq ((hW.block f oM).trans HFw2.out) (fN HRd2.out hW oM) oM);rw[hbt] at HBt;obtain⟨k,hk⟩:=eX (Lq+v);rw[hk] at hR3;have hk0:0<k:=oM;have hkn:k<=200:=oM;have hkw:IntKind.i64.wrap ((Lq:Int)+v)=(k:Int):=q167;have HR3:=Lh hR3;obtain⟨e0,e1,ef⟩:=kO hq2;have hql:=bGJ hq2;clear HR2 hR3 hbt hv hv7 hk;go_upto_region 11 with(go_at_call 261;(with_reducible refine(cI _ _).mono ?_);rintro e w9 ⟨rfl,h9⟩;obtain rfl:=h9.symm)
        go_region_law (first
         |(go_simp;go_at_call 300;refine(HBt.out _ q198).mono ?_;rintro e w3 ⟨hb3,rfl,hr3⟩;(have HB23:=Lh (show Bes r w2 w3 from Bes.trans q200 hb3));(have HRd3:=Lh hr3);obtain⟨e0',e1',ef'⟩:=kO ((HB23.out.block q hql oM).trans hq2);clear hb3 hr3))
        all_goals
         have HB3:=Lh (HB2.out.trans HB23.out);have HRow3:=Lh (show aG cD 3 w3 w.heap.size (.slice (some ⟨g0,off,none⟩) l.length c0) l from fB HRow2.out fun j hj=>HB23.out.block j (cM HRow2.out j hj) (by have:=aK HRow2.out j hj;omega));have hz3:=HB23.out.size;clear HB23 HBt e0' e1' ef' e0 e1 ef hql;have hlw:IntKind.i64.wrap ((l.length:Int)+k)=((l.length+k:Nat):Int):=q167;obtain⟨W,hW⟩:=eX (l.length+k);rw[hW] at hlw HR3;by_cases hfit:W<=many
         ·have dk:decide ((W:Int)<=many)=true:=sO;have HR4:=Lh (show fK s code many fu p2 (l++List.replicate k x)=R from by have h:=HR3.out;rw[bGU oM] at h;exact h);clear HR3;go_wp2_with(go_at_call 261;(with_reducible refine(cI _ _).mono ?_);rintro e w9 ⟨rfl,h9⟩;obtain rfl:=h9.symm)
          refine(fU _ _ x k _ rfl (mQ _ x _ _ rfl sI) hk0 oM).mono ?_;rintro e w4 ⟨g4,hg4,rfl,hR5,hb4⟩;have hb34:Below w3.heap.size w3 w4:=bHE bel (hb4.mono sI);have hz4:=hb34.size;clear hb4;go_wp2_with(at_builtin;go_must (refine iI (E:=cD) rfl _ _ rfl underlying346 Tryz.infoIn rfl dC dC w.heap.size _ _ l (List.replicate k x) (HRow3.out.below hb34) (by rfl) (by rfl) hR5 q192 q202 oM ?_);intro p5 q5 w5 hr5 hb5 hg5)
          go_roundw
          case rel=>exact⟨fu,p2,l++List.replicate k x,by rw[bHK,hW] at hr5;exact hr5,fN HRd3.out (hb34.mono oM |>.trans hb5) hrl,(HB3.out.belowB hb34 oM).belowB hb5 (bGB _),q197,HR4,q197⟩
          case measure=>simp[aFQ];omega
         ·exact q370
     ·have hne:¬(sg=16/\l=[]):=fun h=>h16' h.1
      rw[bGU hne,bGU h16'] at hR2;have HR2:=Lh hR2;have d2:((sg:Int)==16)=false:=sO;clear hR2;cases hbt:aS s p1 Mq with
      |bad k =>
       have HRE:=Lh (show R=.bad k from q188);have HBt:=Lh (fun(W:World) (hW:Below w2.heap.size w2 W)=>cS W f r vo most s p1 Mq ((hW.block f oM).trans HFw2.out) (fN HRd2.out hW oM) oM);rw[hbt] at HBt;obtain⟨e0,e1,ef⟩:=kO hq2;have hql:=bGJ hq2;clear HR2 hbt;go_upto_region 11 with fail
       exact q382
      |good y =>
       obtain⟨v,p2⟩:=y;have hv:=(aX hbt).1;have hv7:v<128:=bGA hv q201;have hR3:=HR2.out;rw[hbt] at hR3;dsimp only at hR3;have HBt:=Lh (fun(W:World) (hW:Below w2.heap.size w2 W)=>cS W f r vo most s p1 Mq ((hW.block f oM).trans HFw2.out) (fN HRd2.out hW oM) oM);rw[hbt] at HBt;obtain⟨k,hk⟩:=eX (Lq+v);rw[hk] at hR3;have hk0:0<k:=oM;have hkn:k<=200:=oM;have hkw:IntKind.i64.wrap ((Lq:Int)+v)=(k:Int):=q167;have HR3:=Lh hR3;obtain⟨e0,e1,ef⟩:=kO hq2;have hql:=bGJ hq2;clear HR2 hR3 hbt hv hv7 hk;go_upto_region 11 with fail
       go_region_law (first
        |(go_simp;go_at_call 300;refine(HBt.out _ q198).mono ?_;rintro e w3 ⟨hb3,rfl,hr3⟩;(have HB23:=Lh (show Bes r w2 w3 from Bes.trans q200 hb3));(have HRd3:=Lh hr3);obtain⟨e0',e1',ef'⟩:=kO ((HB23.out.block q hql oM).trans hq2);clear hb3 hr3))
       all_goals
        have HB3:=Lh (HB2.out.trans HB23.out);have HRow3:=Lh (show aG cD 3 w3 w.heap.size (.slice p0 l.length c0) l from fB HRow2.out fun j hj=>HB23.out.block j (cM HRow2.out j hj) (by have:=aK HRow2.out j hj;omega));have hz3:=HB23.out.size;clear HB23 HBt e0' e1' ef' e0 e1 ef hql;have hlw:IntKind.i64.wrap ((l.length:Int)+k)=((l.length+k:Nat):Int):=q167;obtain⟨W,hW⟩:=eX (l.length+k);rw[hW] at hlw HR3;by_cases hfit:W<=many
        ·have dk:decide ((W:Int)<=many)=true:=sO;have HR4:=Lh (show fK s code many fu p2 (l++List.replicate k 0)=R from by have h:=HR3.out;rw[bGU oM] at h;exact h);clear HR3;go_wp2_with(go_at_call 261;(with_reducible refine(cI _ _).mono ?_);rintro e w9 ⟨rfl,h9⟩;obtain rfl:=h9.symm)
         refine(fU _ _ 0 k _ rfl (mQ _ 0 _ _ rfl sI) hk0 oM).mono ?_;rintro e w4 ⟨g4,hg4,rfl,hR5,hb4⟩;have hb34:Below w3.heap.size w3 w4:=bHE bel (hb4.mono sI);have hz4:=hb34.size;clear hb4;go_wp2_with(at_builtin;go_must (refine iI (E:=cD) rfl _ _ rfl underlying346 Tryz.infoIn rfl dC dC w.heap.size _ _ l (List.replicate k 0) (HRow3.out.below hb34) (by rfl) (by rfl) hR5 q192 q202 oM ?_);intro p5 q5 w5 hr5 hb5 hg5)
         go_roundw
         case rel=>exact⟨fu,p2,l++List.replicate k 0,by rw[bHK,hW] at hr5;exact hr5,fN HRd3.out (hb34.mono oM |>.trans hb5) hrl,(HB3.out.belowB hb34 oM).belowB hb5 (bGB _),q197,HR4,q197⟩
         case measure=>simp[aFQ];omega
        ·exact q370
  ·obtain rfl:l.length=many:=oM;have HRE:=Lh (show R=.good (l,p) from by
    have h:=HR.out;cases fu with
    |zero=>omega
    |succ fu=>unfold fK at h;rw[bGV (bGB _)] at h;exact h.symm)
   have d0:decide ((l.length:Int)<l.length)=false:=sI;clear HR;go_wp2_with fail;go_ret
   refine⟨hbs,?_⟩;rw[HRE.out];exact⟨_,rfl,hrow,hrd⟩
theorem jD(t:Nat)(w:World):Calls prog 331 #[.pointer (some ⟨t,0,none⟩),.int .i64 0] w fun e w'=>e=.returned (.pointer (some ⟨t,0,none⟩))/\w'=w:=by
 go_enter func331,ntmps331
 exact q577
theorem wP.up{w w0:World}{f r:Nat}{s:L}{most:Nat}{R:Res (L×Nat)}{e:Ending}{w':World}(h:wP w0 f r s most R e w')(hb:Below r w w0):wP w f r s most R e w':=⟨hb.trans h.1,h.2⟩
theorem aRH(w:World)(f r:Nat)(s:L)(most p:Nat)(out:L)(vo:Value)(h:FlV w f r s most p out vo)(hm:most<=1048576)(hl:out.length<=most) :
 Calls prog 302 #[.pointer (some ⟨f,0,none⟩)] w (wP w f r s most (cX s most gW jP (8*s.length+1) p out)):=by
 have hfl:=bGJ h.blk;have hrl:r<w.heap.size:=by have:=h.lt;omega
 have H:=Lh h;have HF:=Lh (aXT w);clear h;go_enter func302,ntmps302
 go_wp2_with fail;refine HF.out.mono ?_;rintro e w1 ⟨v1,v2,rfl,hr1,hr2,hb1⟩;clear HF;go_wp2_with fail;refine(wO w1 v1 gW hr1 q8 q8 q8 q8).mono ?_;rintro e w2 ⟨t1,ht1,rfl,hT1,hb2⟩;go_wp2_with(first|(go_at_call 331;(with_reducible refine(jD _ _).mono ?_);rintro e w9 ⟨rfl,h9⟩;obtain rfl:=h9.symm))
 refine(wO w2 v2 jP (hr2.below hb2) q8 q8 q8 q8).mono ?_;rintro e w3 ⟨t2,ht2,rfl,hT2,hb3⟩;have hz1:=hb1.size;have hz2:=hb2.size;have hbw:Below w.heap.size w w3:=(hb1.trans (hb2.mono hz1)).trans (hb3.mono (bGC hz1 hz2));have hT1':fL w3 t1 gW:=fL.mid hT1 (bGB t1) rfl fun k _ h2=>hb3.block k h2
 have HC:=Lh (aFO w3 f r t1 t2 w.heap.size s most p out vo gW jP (H.out.below hbw) hm hl hT1' hT2 oM oM hfl (fun g hg=>.inl (cM H.out.row g hg)) q8 q8 q8 q8);clear hr1 hr2 hT1 hT2 hT1';go_wp2_with(first|(go_at_call 331;(with_reducible refine(jD _ _).mono ?_);rintro e w9 ⟨rfl,h9⟩;obtain rfl:=h9.symm))
 refine HC.out.mono ?_;intro e w4 h4;have h5:=h4.up (hbw.mono (bGY hrl));clear HC h4;obtain⟨R,hR⟩:=eX (cX s most gW jP (8*s.length+1) p out);rw[hR] at h5;have HRE:=Lh hR;clear hR;cases R with
 |bad k =>
  obtain⟨hb5,rfl⟩:=h5;go_wp2_with fail;exact⟨rfl,hb5,q161⟩
 |good x =>
  obtain⟨out2,p2⟩:=x;obtain⟨hb5,rfl,h6⟩:=h5;go_wp2_with fail;go_end0
  refine⟨hb5,?_⟩;rw[HRE.out];exact⟨rfl,h6⟩
theorem kP(s:L)(most:Nat)(near far:List Nat):∀(f p:Nat) (out out':L) (q:Nat),cX s most near far f p out=.good (out',q)->out.length<=most->p<q/\out'.length<=most
 |0,p,out,out',q,h,_=>q96
 |f+1,p,out,out',q,h,hl=>by
  rw[nZ] at h;cases hg:eJ s near p with
  |bad k=>rw[hg] at h;cases h
  |good x =>
   obtain⟨aR,p1⟩:=x;rw[hg] at h;obtain⟨e1,e2⟩:=mP hg;dsimp only at h;split at h
   ·split at h
    ·cases h
    ·have:=kP s most near far f _ _ _ _ h q196;omega
   ·split at h
    ·cases h;exact⟨e1,hl⟩
    ·cases hc:fR s most far aR p1 out with
     |bad k=>rw[hc] at h;cases h
     |good y =>
      obtain⟨o2,p2⟩:=y;rw[hc] at h;obtain⟨g1,g2⟩:=rA hc;have:=kP s most near far f _ _ _ _ h g2;omega
theorem aBZ{s:L}{most p:Nat}{out out':L}{q:Nat}(h:eQ s most p out=.good (out',q)):p<q/\out'.length<=most:=by
 unfold eQ at h;cases hb:aS s ((p+7)/8*8) 16 with
 |bad k=>exact q499
 |good x =>
  obtain⟨n,p1⟩:=x;rw[hb] at h;dsimp only at h;obtain⟨_,e1,_⟩:=aX hb;cases hb2:aS s p1 16 with
  |bad k=>rw[hb2] at h;cases h
  |good y =>
   obtain⟨m,p2⟩:=y;rw[hb2] at h;dsimp only at h;obtain⟨_,e2,_⟩:=aX hb2;split at h
   ·cases h
   ·split at h
    ·cases h
    ·split at h
     ·cases h
     ·cases h;refine⟨oM,?_⟩;rw[bGR,bGT];omega
theorem oA(s:L):∀(is:List Nat) (p:Nat) (lens lens':List Nat) (q:Nat),gY s is p lens=.good (lens',q)->p<=q/\lens'.length=lens.length/\((∀x∈lens,x<=15)->∀x∈lens',x<=15)
 |[],p,lens,lens',q,h=>by cases h;exact⟨bGB _,rfl,fun h=>h⟩
 |i::is,p,lens,lens',q,h=>by
  unfold gY at h;cases hb:aS s p 3 with
  |bad k=>exact q499
  |good x =>
   obtain⟨v,p1⟩:=x;rw[hb] at h;obtain⟨hv,e1,_⟩:=aX hb;obtain⟨g1,g2,g3⟩:=oA s is p1 _ _ _ h;refine⟨oM,by rw[g2,List.length_set],fun hx=>g3 fun y hy=>?_⟩;rcases List.mem_or_eq_of_mem_set hy with hy|rfl
   ·exact hx y hy
   ·omega
theorem wU(s:L)(code:List Nat)(many:Nat):∀(f p:Nat) (l l':List Nat) (q:Nat),fK s code many f p l=.good (l',q)->p<=q
 |0,p,l,l',q,h=>q96
 |f+1,p,l,l',q,h=>by
  unfold fK at h;split at h
  ·exact q503
  ·cases hg:eJ s code p with
   |bad k=>rw[hg] at h;cases h
   |good x =>
    obtain⟨aR,p1⟩:=x;rw[hg] at h;obtain⟨e1,_⟩:=mP hg;dsimp only at h;split at h
    ·have:=wU s code many f _ _ _ _ h;omega
    ·split at h
     ·cases h
     ·cases hb:aS s p1 (if aR=18 then 7 else if aR=17 then 3 else 2) with
      |bad k=>exact q499
      |good y =>
       obtain⟨v,p2⟩:=y;rw[hb] at h;obtain⟨_,e2,_⟩:=aX hb;dsimp only at h;generalize (if aR=18 then 11 else 3)=least at h
       generalize (if aR=16 then l.getLastD 0 else 0)=what at h
       split at h
       ·cases h
       ·have:=wU s code many f _ _ _ _ h;omega
theorem xW{s:L}{most p:Nat}{out out':L}{q:Nat}(h:dB s most p out=.good (out',q))(hl:out.length<=most):p<q/\out'.length<=most:=by
 unfold dB at h;cases hb1:aS s p 5 with
 |bad k=>rw[hb1] at h;cases h
 |good x =>
  obtain⟨a,p1⟩:=x;rw[hb1] at h;obtain⟨_,e1,_⟩:=aX hb1;dsimp only at h;split at h
  ·cases h
  ·cases hb2:aS s p1 5 with
   |bad k=>rw[hb2] at h;cases h
   |good x =>
    obtain⟨b,p2⟩:=x;rw[hb2] at h;obtain⟨_,e2,_⟩:=aX hb2;dsimp only at h;split at h
    ·cases h
    ·cases hb3:aS s p2 4 with
     |bad k=>rw[hb3] at h;cases h
     |good x =>
      obtain⟨c,p3⟩:=x;rw[hb3] at h;obtain⟨_,e3,_⟩:=aX hb3;dsimp only at h;cases hs:gY s (gX.take (c+4)) p3 (List.replicate 19 0) with
      |bad k=>rw[hs] at h;cases h
      |good x =>
       obtain⟨code,p4⟩:=x;rw[hs] at h;obtain⟨e4,_⟩:=oA _ _ _ _ _ _ hs;dsimp only at h;split at h
       ·cases h
       ·cases hn:fK s code (a+257+(b+1)) 400 p4 [] with
        |bad k=>rw[hn] at h;cases h
        |good x =>
         obtain⟨l,p5⟩:=x;rw[hn] at h;have e5:=wU _ _ _ _ _ _ _ _ hn;dsimp only at h;split at h
         ·cases h
         ·split at h
          ·cases h
          ·split at h
           ·cases h
           ·have:=kP _ _ _ _ _ _ _ _ _ h hl;omega
def iP(s:L)(most p:Nat)(out:L):Res (Nat×L×Nat) :=
 match aS s p 1 with
 |.bad k=>.bad k
 |.good (last,p1) =>
  match aS s p1 2 with
  |.bad k=>.bad k
  |.good (kind,p2) =>
   match (if kind=0 then eQ s most p2 out else if kind=1 then cX s most gW jP (8*s.length+1) p2 out else if kind=2 then dB s most p2 out else .bad 3) with
   |.bad k=>.bad k
   |.good (out1,p3)=>.good (last,out1,p3)
theorem mR(s:L)(most f p:Nat)(out:L):gG s most (f+1) p out =
 match iP s most p out with
 |.bad k=>.bad k
 |.good (last,out1,p3)=>if last=1 then .good (out1,p3) else gG s most f p3 out1:=by
 conv=>lhs;unfold gG
 unfold iP;cases aS s p 1 with
 |bad k=>rfl
 |good x =>
  obtain⟨last,p1⟩:=x;dsimp only;cases aS s p1 2 with
  |bad k=>rfl
  |good y =>
   obtain⟨kind,p2⟩:=y;dsimp only;cases (if kind=0 then eQ s most p2 out else if kind=1 then cX s most gW jP (8*s.length+1) p2 out else if kind=2 then dB s most p2 out else .bad 3:Res (L×Nat)) with
   |bad k=>rfl
   |good z=>rfl
theorem tR{s:L}{most p last:Nat}{out out':L}{q:Nat}(h:iP s most p out=.good (last,out',q))(hl:out.length<=most):p<q/\out'.length<=most:=by
 unfold iP at h;cases hb1:aS s p 1 with
 |bad k=>rw[hb1] at h;cases h
 |good x =>
  obtain⟨a,p1⟩:=x;rw[hb1] at h;obtain⟨_,e1,_⟩:=aX hb1;dsimp only at h;cases hb2:aS s p1 2 with
  |bad k=>rw[hb2] at h;cases h
  |good x =>
   obtain⟨kind,p2⟩:=x;rw[hb2] at h;obtain⟨_,e2,_⟩:=aX hb2;dsimp only at h;generalize hR:(if kind=0 then eQ s most p2 out else if kind=1 then cX s most gW jP (8*s.length+1) p2 out else if kind=2 then dB s most p2 out else .bad 3:Res (L×Nat))=R at h
   cases R with
   |bad k=>cases h
   |good x =>
    obtain⟨o2,p3⟩:=x;cases h;have:p2<q/\out'.length<=most:=by
     split at hR
     ·exact aBZ hR
     ·split at hR
      ·exact kP _ _ _ _ _ _ _ _ _ hR hl
      ·split at hR
       ·exact xW hR hl
       ·cases hR
    omega
end Go.Proofs.YtdjpkgccakgkbaaGreatDoor
