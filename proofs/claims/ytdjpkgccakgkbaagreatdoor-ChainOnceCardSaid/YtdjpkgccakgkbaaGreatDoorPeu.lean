/- Parts of the proof: AsF ZlB InX ZlC AsG PrA PrB PrC PrD. -/
import Derived.Test.YtdjpkgccakgkbaaGreatDoorPet
import Derived.Test.YtdjpkgccakgkbaaGreatDoorPes
set_option linter.all false
set_option maxRecDepth 100000
set_option maxHeartbeats 8000000
section
variable{p:Prop}
theorem q211(h:p:=by rw[<-hw4];exact aA _ _ _ hx.symm):p:=h
theorem q212(h:p:=by first|rfl|(simp[*];done)):p:=h
theorem q213(h:p:=by have:=of_decide_eq_true h5;omega):p:=h
theorem q289(h:p:=by
 rw[hR] at HP;clear hR hm0 hS4 hX3 hb3 hb4;go_enter_defers func193,ntmps193
 go_wp2_with(go_at_call 196;(with_reducible refine(dS _ _).mono ?_);rintro e w9 ⟨rfl,h9⟩;obtain rfl:=h9.symm)
 refine HP.out.mono ?_;rintro e w5 ⟨hb5,h5⟩;have HX:=Lh (HX4.out.below hb5 oM);have HBp:=Lh (HBp4.out.trans (hb5.mono oM));clear HP hb5;cases R with
 |bad k =>
  obtain rfl:=h5;go_wp2;refine bGW (f:=227) (args:=#[.pointer (some ⟨w.heap.size,0,none⟩),.pointer (some ⟨w.heap.size+1,0,none⟩)]) sI q39 ?_;refine(tW w.heap.size _ _ _ _ _ _ _ HX.out.1 HX.out.2 oM oM oM HBp.out.size).mono ?_;rintro e u' w'' ⟨rfl,rfl,hbf,C0,C1⟩;simp[Leaves,settle,results,results193,go_sem,C0,C1];exact⟨HBp.out.trans hbf,rfl⟩
 |good o2 =>
  obtain⟨rfl,v2,hV2⟩:=h5;have hcv:=qA (fM.2 hV2.row);obtain⟨c0,c1,cf⟩:=aBW hV2.blk;obtain⟨E0,F0⟩:=aW HX.out.1;obtain⟨E1,F1⟩:=aW HX.out.2;have hz5:=bGJ HX.out.2;have hl0:w.heap.size<w5.heap.size:=oM;clear hV2;go_wp2;refine bGW (f:=227) (args:=#[.pointer (some ⟨w.heap.size,0,none⟩),.pointer (some ⟨w.heap.size+1,0,none⟩)]) sI q39 ?_;refine(aJW _ _ _).mono ?_;rintro e u' w'' ⟨rfl,rfl,rfl⟩;simp[Leaves,settle,results,results193,go_sem,E0,F0,E1,F1,hl0,hz5];exact⟨(HBp.out.setCell (p:=⟨w.heap.size,0,none⟩) (bGB _) _).setCell (p:=⟨w.heap.size+1,0,none⟩) q206 _,rfl⟩):p:=h
theorem q297(h:p:=by
 go_enter func144,ntmps144
 go_wp2_with fail;go_quiet (fail)
 go_wp2_with fail;go_ret
 exact⟨q212,bel⟩):p:=h
theorem q301(h:p:=by
 go_wp2;refine bGW (f:=227) (args:=#[.pointer (some ⟨w.heap.size,0,none⟩),.pointer (some ⟨w.heap.size+1,0,none⟩)]) sI q39 ?_;refine(tW w.heap.size _ _ _ _ _ _ _ HX.out.1 HX.out.2 oM oM oM HBp.out.size).mono ?_;rintro e u' w'' ⟨rfl,rfl,hbf,C0,C1⟩;simp[Leaves,settle,results,results193,go_sem,C0,C1];exact⟨HBp.out.trans hbf,rfl⟩):p:=h
theorem q314(h:p:=by
 go_wp2_with fail;refine HP.out.mono ?_;rintro e w1 ⟨hb1,h1⟩;cases R with
 |bad k =>
  obtain rfl:=h1;go_wp2_with fail;go_ret2
  exact⟨hb1,rfl⟩
 |good t =>
  obtain rfl:=h1;go_wp2_with fail;go_ret2
  exact⟨hb1,rfl⟩):p:=h
theorem q317(h:p:=by
 go_wp2_with fail
 (try rw[hw0])
 go_quiet (first
  |(go_at_call 280;with_reducible exact bHD (HA1.out _))
  |(go_at_call 280;with_reducible exact bHD (HA2.out _))
  |(go_at_call 280;with_reducible exact bHD (HA3.out _)))
 go_wp2_with fail;go_ret
 exact⟨rfl,aN HB0.out _⟩):p:=h
theorem q324(h:p:=by
 go_enter func233,ntmps233
 go_wp2_with fail;with_reducible refine(HM.out _).mono ?_
 rintro e w1 ⟨rfl,hb1⟩;have HB:=Lh (show Below w.heap.size w w1 from bHE bel (hb1.mono sI));obtain⟨c0,c1,c2,cf⟩:=aE ((hb1.block w.heap.size sI).trans (aA w _ _ rfl));go_wp2_with fail;go_ret
 exact⟨q195,HB.out⟩):p:=h
theorem q330(h:p:=by
 clear HR2 hxy;go_upto_region 10 with fail
 go_region_law (first
  |(go_simp;go_at_call 238;(with_reducible refine(HS.out _).mono ?_);rintro e w3 ⟨rfl,hb3⟩;(have HB3:=Lh (show Below w2.heap.size w2 w3 from bHE q204 hb3));clear hb3)
  |(go_simp;go_at_call 237;(with_reducible refine(HF.out _).mono ?_);rintro e w4 ⟨rfl,hb4⟩;(have HB4:=Lh (HB3.out.trans (hb4.mono HB3.out.size)));clear hb4))
 all_goals go_wp2_with fail
 all_goals go_ret2
 all_goals refine⟨hbw.trans (HB4.out.mono hbw.size),?_⟩
 all_goals rw[HRE.out];rfl):p:=h
theorem q340(h:p:=by
 go_wp2_with(first|(go_at_call 126;refine(HWc.out _).mono ?_;rintro e w9 ⟨rfl,h9⟩;obtain rfl:=h9.symm)|(go_at_call 196;(with_reducible refine(iJ _ _).mono ?_);rintro e w9 ⟨rfl,h9⟩;obtain rfl:=h9.symm))
 exact⟨rfl,HB.out,q161⟩):p:=h
theorem q360(h:p:=by
 clear hlt;go_wp2_with(first
  |(go_at_call 309;(with_reducible refine(HA1.out _).mono ?_);rintro e w9 ⟨rfl,h9⟩;obtain rfl:=h9.symm)
  |(go_at_call 309;(with_reducible refine(HA2.out _).mono ?_);rintro e w9 ⟨rfl,h9⟩;obtain rfl:=h9.symm))
 go_roundw
 case rel=>exact⟨trivial,.inr (.inl ⟨q12,by rw[HE2.out]⟩)⟩
 case measure=>simp[intOf]):p:=h
theorem q361(h:p:=by
 clear hlt;go_wp2_with(first
  |(go_at_call 309;(with_reducible refine(HA1.out _).mono ?_);rintro e w9 ⟨rfl,h9⟩;obtain rfl:=h9.symm)
  |(go_at_call 309;(with_reducible refine(HA2.out _).mono ?_);rintro e w9 ⟨rfl,h9⟩;obtain rfl:=h9.symm))
 go_roundw
 case rel=>exact⟨trivial,.inr (.inr ⟨q12,by rw[HE2.out]⟩)⟩
 case measure=>simp[intOf]):p:=h
theorem q371(h:p:=by
 clear hR;go_enter func200,ntmps200
 go_wp2_with(first
  |(go_at_call 196;(with_reducible refine(dS 4 _).mono ?_);rintro e w9 ⟨rfl,h9⟩;obtain rfl:=h9.symm)
  |(go_at_call 196;(with_reducible refine(iJ _ _).mono ?_);rintro e w9 ⟨rfl,rfl⟩))
 exact⟨rfl,bGL _ _,q161⟩):p:=h
theorem q388(h:p:=by
 clear hK;go_enter func233,ntmps233
 go_wp2_with fail;with_reducible refine(HM.out _).mono ?_
 rintro e w1 ⟨rfl,hb1⟩;have HB:=Lh (show Below w.heap.size w w1 from bHE bel (hb1.mono sI));go_wp2_with fail;go_ret
 exact⟨q195,HB.out⟩):p:=h
theorem q428(h:p:=by
 split at h
 ·cases h;decide
 ·split at h
  ·cases h;decide
  ·cases h):p:=h
theorem q430(h:p:=by simp[uI,nA,dsF,aCC,aML,List.foldl,List.replicate]<;>omega):p:=h
theorem q465(h:p:=by
 go_wp2_with fail;go_ret
 exact⟨rfl,HB.out⟩):p:=h
theorem q487(h:p:=by rw[hb2] at h;cases h;exact mA hb2):p:=h
theorem q494(h:p:=by rw[hb] at h;cases h;exact mA hb):p:=h
theorem q517(h:p:=by
 go_wp2_with fail;go_ret2
 refine⟨hbw,?_⟩;rw[HRE.out];rfl):p:=h
theorem q538(h:p:=by rw[hg] at h;cases h;exact aRP hg):p:=h
theorem q570(h:p:=by
 cases e5 with
 |false =>
  exact q297
 |true =>
  have hb0:¬b=0:=q213;have hqw:=aYL b (of_decide_eq_true h5);cases e6 with
  |false =>
   exact q297
  |true =>
   cases e7 with
   |false =>
    exact q297
   |true =>
    cases e8 with
    |false =>
     exact q297
    |true =>
     exact q297):p:=h
theorem q572(h:p:=by
 rw[bGV hm0] at hR;subst hR;have d1:decide (0<=most)=false:=sO;have HX:=Lh hX3;have HBp:=Lh hb3;clear hm0 hX3 hb3;go_enter_defers func193,ntmps193
 go_wp2_with(go_at_call 196;(with_reducible refine(iJ _ _).mono ?_);rintro e w9 ⟨rfl,h9⟩;obtain rfl:=h9.symm)
 exact q301):p:=h
theorem q583(h:p:=by
 go_enter func280,ntmps280
 go_wp2_with fail;exact q393):p:=h
theorem q586(h:p:=by
 skip
 go_enter func252,ntmps252
 exact q317):p:=h
theorem q595(h:p:=by
 have HK:=Lh hK.symm;clear hK hl hq0 ha;exact q324):p:=h
end
namespace Go.Proofs.YtdjpkgccakgkbaaGreatDoor
open Go.Proofs.Tryz
open Go.RowKit Fo
def dsF(ds:List Nat):Nat->Nat:=fun i=>ds.getD i 0
theorem aYD{ds:List Nat}(h:∀d∈ds,d<85)(i:Nat):dsF ds i<=255:=by
 unfold dsF;rw[bGX];cases hi:ds[i]? with
 |none=>exact bGF _
 |some y=>have:=h y (bHG hi);show y<=_;omega
theorem aYE(ds:List Nat)(v:Nat):aJT (dsF ds) ds.length v=dsF (ds++[v]):=by
 funext i
 unfold aJT dsF;rw[bGX,bGX];by_cases h:i=ds.length
 ·rw[bGV h,h,List.getElem?_append_right (bGB _)];simp
 ·rw[bGU h];by_cases h2:i<ds.length
  ·rw[List.getElem?_append_left h2]
  ·rw[List.getElem?_append_right oM,bGZ oM,bGZ sO]
theorem aMX:dsF []=fun _=>0:=by
 funext i
 simp[dsF]
theorem aMY(most:Nat)(out:L)(ds:List Nat)(h2:2<=ds.length)(h5:ds.length<=5):uG most out ds=aFU most out (dsF ds) ds.length:=by
 have hv:uI (nA (dsF ds) ds.length 5) 5=aML ds:=by
  match ds,h2,h5 with
  |[a,b],_,_=>exact q430
  |[a,b,c],_,_=>exact q430
  |[a,b,c,d],_,_=>exact q430
  |[a,b,c,d,e],_,_=>exact q430
  |a::b::c::d::e::f::l,_,h=>exact absurd h sI
 unfold uG aFU;rw[hv]
def bCL(most:Nat)(out:L)(ds:List Nat):L->Res L
 |[]=>.bad 4
 |d::_=>if d≠62\/ds.length=1 then .bad 3 else if ds=[] then .good out else uG most out ds
theorem aCD(most:Nat)(g:List Nat)(out:L)(c:UInt8)(l:L):cJ most g out (c::l) =
 if dX c then cJ most g out l
 else if c==122&&g.isEmpty then(match gZ most out [0,0,0,0] with|.bad k=>.bad k|.good out1=>cJ most [] out1 l)
 else if 33<=c&&c<=117 then
  if(g++[c.toNat-33]).length=5 then(match uG most out (g++[c.toNat-33]) with|.bad k=>.bad k|.good out1=>cJ most [] out1 l)
  else cJ most (g++[c.toNat-33]) out l
 else if c==126 then bCL most out g l
 else .bad 3:=by
 conv=>lhs;unfold cJ
 cases l<;>rfl
theorem bCM(w:World)(l:L)(g x most:Nat)(ds:List Nat)(out:L)(vo:Value)(hG:gK w g (dsF ds) ds.length)(hF:∀d∈ds,d<85)(hn5:ds.length<=4)(hS:dP w x most out vo)(hxg:x<g)(hm:most<=1048576)(hl:out.length<=most)(hpow:kS w x) :
 Calls prog 200 #[.string ⟨l.toArray⟩,.pointer (some ⟨g,0,none⟩),.pointer (some ⟨x,0,none⟩)] w (sN w x most (bCL most out ds l)):=by
 have g5:=hG.many;have gf:=hG.fro;cases l with
 |nil =>
  have d:=aJS;go_enter func200,ntmps200
  go_wp2_with(go_at_call 196;(with_reducible refine(iJ _ _).mono ?_);rintro e w9 ⟨rfl,rfl⟩)
  exact⟨rfl,bGL _ _,rfl⟩
 |cons c l =>
  have d:=aCB c l;have hix:=fun(W:World)=>uW c l W
  obtain⟨S,hS'⟩:∃S:ByteArray,(⟨(c::l).toArray⟩:ByteArray)=S:=⟨_,rfl⟩
  rw[hS'] at d ⊢;simp only[hS'] at hix;obtain⟨N,hN⟩:=eX (ds.length);have HN:=Lh hN;rw[hN] at g5;have HP:=Lh (fun(h2:2<=ds.length)=>aMW w g x most (dsF ds) ds.length out vo hG (aYD hF) h2 oM hS hxg hm hl hpow);have HSk:=Lh hS;obtain⟨R,hR⟩:=eX (bCL most out ds (c::l));rw[hR];unfold bCL at hR;dsimp only at hR;clear hS' hG hS hpow;by_cases hc:c=62
  ·have t1:((c.toNat:Int)==62)=true:=cP (n:=62) dC hc;by_cases h1:N=1
   ·have t2:((N:Int) !=1)=false:=sO;have HRE:=Lh (show R=.bad 3 from by rw[<-hR,bGV (.inr oM)]);exact q371
   ·have t2:((N:Int) !=1)=true:=sO;rw[bGU (fun h=>h.elim (fun h=>h hc) (fun h=>oM))] at hR;by_cases h0:N=0
    ·have hds:ds=[]:=bHI oM;have HRE:=Lh (show R=.good out from by rw[<-hR,bGV hds]);subst h0;clear hR hds;go_enter func200,ntmps200
     go_wp2_with(first
      |(go_at_call 196;(with_reducible refine(dS _ _).mono ?_);rintro e w9 ⟨rfl,h9⟩;obtain rfl:=h9.symm))
     go_end0
     exact⟨bGL _ _,by rw[HRE.out];exact⟨rfl,vo,HSk.out⟩⟩
    ·have t3:decide ((0:Int)<N)=true:=sO;have t4:decide (0<N)=true:=sO;have hds:¬ds=[]:=fun h=>h0 (by rw[<-hN,h];rfl)
     rw[bGU hds,aMY most out ds oM oM] at hR;have HP2:=Lh (HP.out oM);rw[hR] at HP2;clear hR hds HP HN hN;go_enter func200,ntmps200
     go_wp2_with(first
      |(go_at_call 196;(with_reducible refine(dS _ _).mono ?_);rintro e w9 ⟨rfl,h9⟩;obtain rfl:=h9.symm))
     refine HP2.out.mono ?_;rintro e w2 ⟨hb2,h2⟩;cases R with
     |bad k =>
      obtain rfl:=h2;go_wp2_with fail;exact⟨rfl,hb2,rfl⟩
     |good o2 =>
      obtain⟨rfl,h3,_⟩:=h2;go_wp2_with fail;go_end0
      exact⟨hb2,rfl,h3⟩
  ·have t1:((c.toNat:Int)==62)=false:=eD (n:=62) dC hc;have HRE:=Lh (show R=.bad 3 from by rw[<-hR,bGV (.inl hc)]);exact q371
theorem gK.below{w w':World}{g n B:Nat}{F:Nat->Nat}(h:gK w g F n)(hb:Below B w w')(hB:g<B):gK w' g F n:=(hb.block g hB).trans h
theorem aYF(w:World)(s:ByteArray)(x most:Nat)(vo:Value)(h:dP w x most [] vo)(hm:most<=1048576)(hs:s.size<=1000000000)(hpow:kS w x) :
 Calls prog 198 #[.string s,.pointer (some ⟨x,0,none⟩)] w (sN w x most (cJ most [] [] s.data.toList)):=by
 obtain⟨R,hR⟩:=eX (cJ most [] [] s.data.toList);rw[hR];have HR:=Lh hR;have hxl:=bGJ h.blk;have hs3:s.size<=maxLen:=q26;have H:=Lh h;clear h hR;go_enter func198,ntmps198
 go_wp2_with fail;go_loopw [9] (fun i wr=>∃(k:Nat) (ds:List Nat) (out:L) (vo:Value),k<=s.size/\i=.int .i64 k/\gK wr w.heap.size (dsF ds) ds.length/\ds.length<=4/\(∀d∈ds,d<85)/\dP wr x most out vo/\out.length<=most/\Below x w wr/\Hid (cJ most ds out (s.data.toList.drop k)=R)) (fun i _=>s.size-(intOf i).toNat)
 case atStart=>exact⟨0,[],[],vo,bGF _,rfl,by rw[aMX];exact aA _ _ _ rfl,sI,(by intro d hd;cases hd),H.out.below bel,bGF _,(bGL _ _).alloc (bGY hxl) _,HR⟩
 case round =>
  clear HR H;obtain⟨k,ds,out,vo,hk,rfl,hG,hn4,hds,hV,hl,hb,HR⟩:=hrel;have HV:=Lh hV;have HB:=Lh hb;have HG:=Lh hG;have hgl:=bGJ hG;have g5:=hG.many;have gf:=hG.fro;have ho:=rE hV.row hG dC;have HPW:=Lh (hpow.below hb);clear hV hb hG;by_cases hkS:k<s.size
  ·have hR:=HR.out;rw[aV s k hkS,aCD] at hR;by_cases hw:dX s[k]=true
   ·rw[bGV hw] at hR;have HR2:=Lh hR;have HW:=Lh hw;clear HR hR hw;go_wp2_with(go_at_call 126;refine(oF _ HW.out _).mono ?_;rintro e w9 ⟨rfl,h9⟩;obtain rfl:=h9.symm)
    go_roundw
    case rel=>exact⟨k+1,ds,out,vo,oM,q12,HG.out,hn4,hds,HV.out,hl,HB.out,HR2⟩
    case measure=>exact q339
   ·have hw:dX s[k]=false:=by simpa using hw
    rw[bGU (by rw[hw];decide)] at hR;have HW:=Lh hw;obtain⟨c,hc⟩:=eX (s[k]);rw[hc] at hR HW;obtain⟨N,hN⟩:=eX (c.toNat);have HWc:=Lh (show∀W:World,Calls prog 126 #[.int .u8 (N:Nat)] W fun e w'=>e=.returned (.bool false)/\w'=W from fun W=>by rw[<-hN];exact eZ c HW.out W);have hN256:N<256:=by rw[<-hN];exact UInt8.toNat_lt c
    have h122:(c==122)=decide (N=122):=by
     rw[<-hN];by_cases h:c=122
     ·subst h;rfl
     ·have:c.toNat≠122:=fun e=>h (UInt8.toNat_inj.1 e)
      simp[h,this]
    have h126:(c==126)=decide (N=126):=by
     rw[<-hN];by_cases h:c=126
     ·subst h;rfl
     ·have:c.toNat≠126:=fun e=>h (UInt8.toNat_inj.1 e)
      simp[h,this]
    have h33:(decide (33<=c)&&decide (c<=117))=(decide (33<=N)&&decide (N<=117)):=by
     rw[<-hN];rfl
    rw[h122,h33,h126,hN] at hR;have hN2:s[k].toNat=N:=by rw[hc,hN]
    clear HR hw h122 h126 h33;obtain⟨n,hn⟩:=eX (ds.length);have HN:=Lh hn;rw[hn] at g5;by_cases hz:N=122/\n=0
    ·obtain⟨rfl,rfl⟩:=hz;have hds0:ds=[]:=bHI hn;subst hds0;rw[bGV dC] at hR;have HR2:=Lh hR;have hlit:bC dV (wr.alloc (.cells #[.int .u8 0,.int .u8 0,.int .u8 0,.int .u8 0] 5)) (.slice (some ⟨wr.heap.size,0,none⟩) 4 4) [0,0,0,0]:=lX (ys:=[0,0,0,0]) (t:=5) (fr:=(0,0)) (aA _ _ _ rfl);have HP:=Lh (aBX (wr.alloc (.cells #[.int .u8 0,.int .u8 0,.int .u8 0,.int .u8 0] 5)) x most out [0,0,0,0] _ vo (HV.out.below bel) hm hl hlit dC dC);have HGW:=Lh (HG.out.below (show Below wr.heap.size wr (wr.alloc (.cells #[.int .u8 0,.int .u8 0,.int .u8 0,.int .u8 0] 5)) from bel) hgl);have HBW:=Lh (HB.out.trans (show Below x wr (wr.alloc (.cells #[.int .u8 0,.int .u8 0,.int .u8 0,.int .u8 0] 5)) from(bGL _ _).alloc (by have:=bGJ HV.out.blk;omega) _));clear hR hc hN hlit;go_wp2_with(go_at_call 126;refine(HWc.out _).mono ?_;rintro e w9 ⟨rfl,h9⟩;obtain rfl:=h9.symm)
     refine HP.out.mono ?_;rintro e w2 ⟨⟨hb2,h2⟩,hk2⟩;have HB2:=Lh (HBW.out.trans hb2);have HG2:=Lh (show gK w2 w.heap.size (dsF []) 0 from(hk2 _ sO oM (fun e=>ho _ e rfl)).trans HGW.out);clear HP hb2 hk2;cases hpf:gZ most out [0,0,0,0] with
     |bad j =>
      exact q373
     |good o2 =>
      rw[hpf] at h2;obtain⟨rfl,v2,hV2⟩:=h2;have hl2:=(lY hpf).2;have HR3:=Lh (show cJ most [] o2 (s.data.toList.drop (k+1))=R from q193);have HV2:=Lh hV2;clear hV2 HR2 hpf;go_wp2_with fail;go_roundw
      case rel=>exact⟨k+1,[],o2,v2,oM,q12,HG2.out,sI,(by intro d hd;cases hd),HV2.out,hl2,HB2.out,HR3⟩
      case measure=>exact q339
    ·rw[bGU (by simp only[Bool.and_eq_true,decide_eq_true_eq,List.isEmpty_iff];exact fun h=>hz ⟨h.1,by rw[<-hn,h.2];rfl⟩)] at hR;by_cases h1:N=122
     ·subst h1;have e0:((n:Int)==0)=false:=by simp;exact fun e=>hz ⟨rfl,e⟩
      have HRE:=Lh (show R=.bad 3 from by rw[<-hR,bGU dC,bGU dC]);clear hR hc hN;exact q340
     ·have e1:((N:Int)==122)=false:=sO;by_cases h2:33<=N/\N<=117
      ·rw[bGV (by simp only[Bool.and_eq_true,decide_eq_true_eq];exact h2)] at hR;have e2:decide ((33:Int)<=N)=true:=sO;have e3:decide (33<=N)=true:=sO;have e4:decide ((N:Int)<=117)=true:=sO;have e5:decide (N<=117)=true:=sO;obtain⟨v,hv⟩:=eX (N-33);rw[hv] at hR;have hvw:IntKind.u8.wrap ((N:Int)-33)=(v:Int):=by rw[IntKind.wrap_u8];omega
       have hnw:IntKind.i64.wrap ((n:Int)+1)=((n+1:Nat):Int):=q167;obtain⟨m,hm1⟩:=eX (n+1);rw[hm1] at hnw;have gk:=HG.out.digit n oM;have ki:(n:Int)<5:=oM;have hlen:(ds++[v]).length=m:=by rw[bGR,hn];exact hm1
       rw[hlen] at hR;have HG1:=Lh (show gK ((wr.setCell ⟨w.heap.size,n,none⟩ (.int .u8 (v:Nat))).setCell ⟨w.heap.size,5,none⟩ (.int .i64 (m:Nat))) w.heap.size (dsF (ds++[v])) m from by
        have h:=(HG.out.set n v oM).setN m;rw[<-hn,aYE] at h;rw[<-hn];exact h)
       have HV1:=Lh ((HV.out.other (o:=n) oM ho (.int .u8 (v:Nat))).other (o:=5) oM ho (.int .i64 (m:Nat)));have HB1:=Lh ((HB.out.setCell (p:=⟨w.heap.size,n,none⟩) (bGY hxl) (.int .u8 (v:Nat))).setCell (p:=⟨w.heap.size,5,none⟩) (bGY hxl) (.int .i64 (m:Nat)));have HPW1:=Lh (hpow.below HB1.out);obtain⟨W1,hW1⟩:=eX ((wr.setCell ⟨w.heap.size,n,none⟩ (.int .u8 (v:Nat))).setCell ⟨w.heap.size,5,none⟩ (.int .i64 (m:Nat)));rw[hW1] at HG1 HV1 HB1 HPW1;have hds2:∀d∈ds++[v],d<85:=by
        intro d hd;rcases List.mem_append.1 hd with hd|hd
        ·exact hds d hd
        ·obtain rfl:=List.mem_singleton.1 hd;omega
       have HR2:=Lh hR;have g5':=HG1.out.many;have gf':=HG1.out.fro;have hgl1:=bGJ HG1.out;clear hR hc hN hv hn hz h1;by_cases h5:m=5
       ·subst h5;have HR3:=Lh (show(match uG most out (ds++[v]) with|.bad k=>.bad k|.good out1=>cJ most [] out1 (s.data.toList.drop (k+1)))=R from by have h:=HR2.out;rw[bGV rfl] at h;exact h);have HP:=Lh (aMW W1 w.heap.size x most (dsF (ds++[v])) 5 out vo HG1.out (aYD hds2) dC dC HV1.out hxl hm hl HPW1.out);have hpg:=aMY most out (ds++[v]) (by rw[hlen];decide) (by rw[hlen];decide);rw[hlen] at hpg;rw[<-hpg] at HP;clear HR2 hpg;go_wp2_with(go_at_call 126;refine(HWc.out _).mono ?_;rintro e w9 ⟨rfl,h9⟩;obtain rfl:=h9.symm)
        have HP2:=HP.out;rw[<-hW1] at HP2;refine HP2.mono ?_;rintro e w2 ⟨hb2,h2⟩;rw[hW1] at hb2;have HB2:=Lh (HB1.out.trans hb2);clear HP HP2 hb2 hW1;cases hpf:uG most out (ds++[v]) with
        |bad j =>
         rw[hpf] at h2;have HRE:=Lh (show R=.bad j from by rw[<-HR3.out,hpf]);obtain rfl:=h2;go_wp2_with fail;exact⟨rfl,HB2.out,q161⟩
        |good o2 =>
         rw[hpf] at h2;obtain⟨rfl,⟨v2,hV2⟩,hG2⟩:=h2;have hl2:o2.length<=most:=by
          unfold uG at hpf;split at hpf
          ·cases hpf
          ·exact(lY hpf).2
         have HR4:=Lh (show cJ most [] o2 (s.data.toList.drop (k+1))=R from by have h:=HR3.out;rw[hpf] at h;exact h);have HV2:=Lh hV2;have HG2:=Lh hG2;clear hV2 hG2 HR3 hpf;go_wp2_with fail;go_roundw
         case rel=>exact⟨k+1,[],o2,v2,oM,q12,by rw[aMX];exact HG2.out,sI,(by intro d hd;cases hd),HV2.out,hl2,HB2.out,HR4⟩
         case measure=>exact q339
       ·have HR3:=Lh (show cJ most (ds++[v]) out (s.data.toList.drop (k+1))=R from by have h:=HR2.out;rw[bGU h5] at h;exact h);have e6:((m:Int)==5)=false:=sO;clear HR2;go_wp2_with(go_at_call 126;refine(HWc.out _).mono ?_;rintro e w9 ⟨rfl,h9⟩;obtain rfl:=h9.symm)
        go_roundw
        case rel=>exact⟨k+1,ds++[v],out,vo,oM,q12,by rw[hlen];exact HG1.out,oM,hds2,HV1.out,hl,HB1.out,HR3⟩
        case measure=>exact q339
      ·rw[bGU (by simp only[Bool.and_eq_true,decide_eq_true_eq];exact h2)] at hR;by_cases h3:N=126
       ·subst h3;rw[bGV dC] at hR;have HE:=Lh (bCM wr (s.data.toList.drop (k+1)) w.heap.size x most ds out vo HG.out hds hn4 HV.out hxl hm hl HPW.out);rw[hR] at HE;have hkw:IntKind.i64.wrap ((k:Int)+1)=((k+1:Nat):Int):=q167;obtain⟨k1,hk1⟩:=eX (k+1);rw[hk1] at hkw HE;have hk1s:k1<=s.size:=oM;have hex:s.extract k1 s.size=⟨(s.data.toList.drop k1).toArray⟩:=by
         have h:=jE s.data.toList k1 (by simp;exact hk1s);simpa using h
        obtain⟨T,hT⟩:∃T:ByteArray,(⟨(s.data.toList.drop k1).toArray⟩:ByteArray)=T:=⟨_,rfl⟩
        rw[hT] at hex HE;clear hR hc hN hT hk1;go_wp2_with(go_at_call 126;refine(HWc.out _).mono ?_;rintro e w9 ⟨rfl,h9⟩;obtain rfl:=h9.symm)
        refine HE.out.mono ?_;rintro e w2 ⟨hb2,h2⟩;cases R with
        |bad j =>
         obtain rfl:=h2;go_wp2_with fail;exact⟨rfl,HB.out.trans hb2,rfl⟩
        |good o2 =>
         obtain⟨rfl,h3⟩:=h2;go_wp2_with fail;go_end0
         exact⟨HB.out.trans hb2,rfl,h3⟩
       ·have HRE:=Lh (show R=.bad 3 from by rw[<-hR,bGU (by simpa using h3)]);have e6:((N:Int)==126)=false:=sO;clear hR hc hN;by_cases h4:33<=N
        ·have e2:decide ((33:Int)<=N)=true:=sO;have e3:decide (33<=N)=true:=sO;have e4:decide ((N:Int)<=117)=false:=sO;have e5:decide (N<=117)=false:=sO;exact q340
        ·have e2:decide ((33:Int)<=N)=false:=sO;have e3:decide (33<=N)=false:=sO;exact q340
  ·exact q587
theorem aMZ:∀(l:L) (x:Nat×Nat),x.1<65521->x.2<65521->(l.foldl uH x).1<65521/\(l.foldl uH x).2<65521
 |[],x,h1,h2=>⟨h1,h2⟩
 |c::l,x,h1,h2=>aMZ l (uH x c) (Nat.mod_lt _ dC) (Nat.mod_lt _ dC)
theorem aRO(l:L)(k:Nat)(hk:k<l.length):(l.take (k+1)).foldl uH (1,0)=uH ((l.take k).foldl uH (1,0)) l[k]:=by
 rw[List.take_succ_eq_append_getElem hk,List.foldl_append];rfl
def pV(l:L):Int:=bits BinOp.or IntKind.u32 ((bEN l).2*65536) (bEN l).1
theorem bCN(w:World)(s:L)(hs:s.length<=1000000000) :
 Calls prog 259 #[.int .u32 1,.string ⟨s.toArray⟩] w fun e w'=>e=.returned (.int .u32 (pV s))/\Below w.heap.size w w':=by
 obtain⟨S,hS⟩:∃S:ByteArray,(⟨s.toArray⟩:ByteArray)=S:=⟨_,rfl⟩
 have hd:S.data.toList=s:=by rw[<-hS]
 have hz:S.size=s.length:=by rw[<-hS];rfl
 subst hd;rw[hS];have hb1:bits BinOp.and IntKind.u32 1 65535=1:=q8;have hs2:S.size<=1000000000:=oM;have HZ:=Lh hz;have hs3:S.size<=maxLen:=q26;obtain⟨F,hF⟩:∃F:Nat->Nat×Nat,∀k,(S.data.toList.take k).foldl uH (1,0)=F k:=⟨fun k=>_,fun k=>rfl⟩
 have HF0:=Lh (show F 0=(1,0) from(hF 0).symm);have HFl:=Lh (fun k=>(hF k)▸aMZ (S.data.toList.take k) (1,0) dC dC:∀k,(F k).1<65521/\(F k).2<65521);have HFs:=Lh (show∀k (hk:k<S.size),F (k+1)=uH (F k) S[k] from fun k hk=>by rw[<-hF,<-hF,aRO _ _ (by rw[<-hz];exact hk)];rfl);have HFN:=Lh (show bEN S.data.toList=F S.size from by rw[<-hF,hz,List.take_length];rfl);obtain⟨V,hV⟩:=eX (pV S.data.toList);have HV:=Lh hV;rw[hV];clear hS hs hz hV hF;go_enter func259,ntmps259
 go_wp2_with fail;go_loopw [16] (fun i wr=>∃k:Nat,k<=S.size/\i=.int .i64 k/\wr.heap[w.heap.size]?=some (.cells #[.int .u32 ((F k).1:Nat),.int .u32 ((F k).2:Nat)] 367 (0,0))/\Below w.heap.size w wr) (fun i _=>S.size-(intOf i).toNat)
 case atStart=>exact⟨0,bGF _,rfl,by rw[HF0.out];exact aA _ _ _ rfl,bel⟩
 case round =>
  obtain⟨k,hk,rfl,hG,hb⟩:=hrel;have hgl:=bGJ hG;obtain⟨a,ha⟩:=eX ((F k).1);obtain⟨b,hb'⟩:=eX ((F k).2);have h1:=HFl.out k;rw[ha,hb'] at h1 hG;obtain⟨c0,c1,cf⟩:=kO hG;by_cases hkS:k<S.size
  ·obtain⟨c,hc⟩:=eX (S[k]);have hFk:=HFs.out k hkS;rw[hc,show F k=(a,b) from by rw[<-ha,<-hb']] at hFk;have HBY:=Lh (fun W=>bFM W a b c h1.1 h1.2);rw[<-hFk] at HBY;have HFE:=Lh hFk;obtain⟨x,hx⟩:=eX ((F (k+1)).1);obtain⟨y,hy⟩:=eX ((F (k+1)).2);rw[hx,hy] at HBY;have HXY:=Lh (bGQ hx hy);have HG:=Lh hG;clear hFk hG hx hy ha hb' h1;go_upto_region 5 with fail
   go_region_law (first
    |(go_simp;go_at_call 299;(with_reducible refine(HBY.out _).mono ?_);rintro e w2 ⟨rfl,hb2⟩;(have hG2:=(hb2.block w.heap.size (by first|exact hgl|(simp;exact hgl))).trans HG.out);(have HB2:=Lh (show Below wr.heap.size wr w2 from bHE q204 hb2));obtain⟨c0',c1',cf'⟩:=kO hG2;clear hb2))
   all_goals go_wp2
   all_goals go_roundw
   all_goals first
    |exact⟨k+1,oM,q12,by rw[aC (aC hG2),HXY.out.1,HXY.out.2];rfl,((hb.trans (HB2.out.mono hb.size)).setCell (p:=⟨w.heap.size,0,none⟩) (bGB _) _).setCell (p:=⟨w.heap.size,1,none⟩) (bGB _) _⟩
    |(simp[intOf];omega)
  ·obtain rfl:k=S.size:=oM;have HAB:=Lh (bGQ ha hb');clear ha hb';go_wp2;go_ret
   refine⟨?_,hb⟩;rw[<-HV.out];unfold pV;rw[HFN.out,HAB.out.1,HAB.out.2];rfl
theorem bEQ(w:World)(s:L)(hs:s.length<=1000000000) :
 Calls prog 238 #[.string ⟨s.toArray⟩] w fun e w'=>e=.returned (.int .u32 (pV s))/\Below w.heap.size w w':=by
 have HM:=Lh (bCN w s hs);obtain⟨V,hV⟩:=eX (pV s);rw[hV] at HM ⊢;clear hV hs;go_enter func238,ntmps238
 go_wp2_with fail;refine HM.out.mono ?_;rintro e w1 ⟨rfl,hb⟩;go_wp2_with fail;go_ret
 exact⟨rfl,hb⟩
def lH(x:Int):UInt8:=UInt8.ofNat (IntKind.u8.wrap x).toNat
theorem oU(x:Int):IntKind.u8.wrap x=((lH x).toNat:Int):=by
 unfold lH;rw[bHJ,IntKind.wrap_u8];omega
def wV(n:Int):L:=[lH (n/16777216),lH (n/65536),lH (n/256),lH n]
theorem bCO(w:World)(n:Int) :
 Calls prog 237 #[.int .u32 n] w fun e w'=>e=.returned (.string ⟨(wV n).toArray⟩)/\Below w.heap.size w w':=by
 have e0:=oU (n/16777216);have e1:=oU (n/65536);have e2:=oU (n/256);have e3:=oU n;unfold wV;obtain⟨c0,h0⟩:∃c,lH (n/16777216)=c:=⟨_,rfl⟩
 obtain⟨c1,h1⟩:∃c,lH (n/65536)=c:=⟨_,rfl⟩
 obtain⟨c2,h2⟩:∃c,lH (n/256)=c:=⟨_,rfl⟩
 obtain⟨c3,h3⟩:∃c,lH n=c:=⟨_,rfl⟩
 rw[h0] at e0;rw[h1] at e1;rw[h2] at e2;rw[h3] at e3;rw[h0,h1,h2,h3];clear h0 h1 h2 h3;have hcv:(Go.convert 196 9 (.slice (some ⟨w.heap.size,0,none⟩) 4 4)).run prog (w.alloc (.cells #[.int .u8 c0.toNat,.int .u8 c1.toNat,.int .u8 c2.toNat,.int .u8 c3.toNat] 5))=.ok (.string ⟨[c0,c1,c2,c3].toArray⟩) (w.alloc (.cells #[.int .u8 c0.toNat,.int .u8 c1.toNat,.int .u8 c2.toNat,.int .u8 c3.toNat] 5)) :=
  qA (B:=w.heap.size) ⟨rfl,.inr ⟨w.heap.size,4,_,rfl,bGB _,bGP _ _,bGB _,q26,rfl,rfl⟩⟩
 go_enter func237,ntmps237
 exact q597
theorem mA{s:L}{p n:Nat}{k:Int}(h:aS s p n=.bad k):k≠0:=by
 unfold aS at h;split at h<;>cases h;decide
theorem aRP{s:L}{l:List Nat}{p:Nat}{k:Int}(h:eJ s l p=.bad k):k≠0:=lZ s l 16 p 1 0 0 k h
theorem aFV{s:L}{most:Nat}{far:List Nat}{aR p:Nat}{out:L}{k:Int}(h:fR s most far aR p out=.bad k):k≠0:=by
 unfold fR at h;split at h
 ·cases h;decide
 ·cases hb:aS s p (jO aR) with
  |bad j=>exact q494
  |good y =>
   obtain⟨v,p2⟩:=y;rw[hb] at h;dsimp only at h;cases hg:eJ s far p2 with
   |bad j=>exact q538
   |good z =>
    obtain⟨d,p3⟩:=z;rw[hg] at h;dsimp only at h;split at h
    ·cases h;decide
    ·cases hb2:aS s p3 (kK d) with
     |bad j=>exact q487
     |good u =>
      obtain⟨v2,p4⟩:=u;rw[hb2] at h;dsimp only at h;exact q428
theorem mS(s:L)(most:Nat)(near far:List Nat):∀(f p:Nat) (out:L) (k:Int),cX s most near far f p out=.bad k->k≠0
 |0,p,out,k,h=>by cases h;decide
 |f+1,p,out,k,h=>by
  rw[nZ] at h;cases hg:eJ s near p with
  |bad j=>exact q538
  |good x =>
   obtain⟨aR,p1⟩:=x;rw[hg] at h;dsimp only at h;split at h
   ·split at h
    ·cases h;decide
    ·exact mS s most near far f _ _ _ h
   ·split at h
    ·cases h
    ·cases hc:fR s most far aR p1 out with
     |bad j=>rw[hc] at h;cases h;exact aFV hc
     |good y=>rw[hc] at h;exact mS s most near far f _ _ _ h
theorem aFW{s:L}{most p:Nat}{out:L}{k:Int}(h:eQ s most p out=.bad k):k≠0:=by
 unfold eQ at h;cases hb:aS s ((p+7)/8*8) 16 with
 |bad j=>exact q494
 |good x =>
  obtain⟨n,p1⟩:=x;rw[hb] at h;dsimp only at h;cases hb2:aS s p1 16 with
  |bad j=>exact q487
  |good y =>
   obtain⟨m,p2⟩:=y;rw[hb2] at h;dsimp only at h;split at h
   ·cases h;decide
   ·exact q428
theorem wW(s:L):∀(is:List Nat) (p:Nat) (lens:List Nat) (k:Int),gY s is p lens=.bad k->k≠0
 |[],p,lens,k,h=>q96
 |i::is,p,lens,k,h=>by
  unfold gY at h;cases hb:aS s p 3 with
  |bad j=>exact q494
  |good x=>rw[hb] at h;exact wW s is _ _ _ h
theorem sT(s:L)(code:List Nat)(many:Nat):∀(f p:Nat) (l:List Nat) (k:Int),fK s code many f p l=.bad k->k≠0
 |0,p,l,k,h=>by cases h;decide
 |f+1,p,l,k,h=>by
  unfold fK at h;split at h
  ·cases h
  ·cases hg:eJ s code p with
   |bad j=>exact q538
   |good x =>
    obtain⟨aR,p1⟩:=x;rw[hg] at h;dsimp only at h;split at h
    ·exact sT s code many f _ _ _ h
    ·split at h
     ·cases h;decide
     ·cases hb:aS s p1 (if aR=18 then 7 else if aR=17 then 3 else 2) with
      |bad j=>exact q494
      |good y =>
       obtain⟨v,p2⟩:=y;rw[hb] at h;dsimp only at h;generalize (if aR=18 then 11 else 3)=least at h
       generalize (if aR=16 then l.getLastD 0 else 0)=what at h
       split at h
       ·cases h;decide
       ·exact sT s code many f _ _ _ h
theorem aCE{s:L}{most p:Nat}{out:L}{k:Int}(h:dB s most p out=.bad k):k≠0:=by
 unfold dB at h;cases hb1:aS s p 5 with
 |bad j=>rw[hb1] at h;cases h;exact mA hb1
 |good x =>
  obtain⟨a,p1⟩:=x;rw[hb1] at h;dsimp only at h;split at h
  ·cases h;decide
  ·cases hb2:aS s p1 5 with
   |bad j=>exact q487
   |good x =>
    obtain⟨b,p2⟩:=x;rw[hb2] at h;dsimp only at h;split at h
    ·cases h;decide
    ·cases hb3:aS s p2 4 with
     |bad j=>rw[hb3] at h;cases h;exact mA hb3
     |good x =>
      obtain⟨c,p3⟩:=x;rw[hb3] at h;dsimp only at h;cases hs:gY s (gX.take (c+4)) p3 (List.replicate 19 0) with
      |bad j=>rw[hs] at h;cases h;exact wW _ _ _ _ _ hs
      |good x =>
       obtain⟨code,p4⟩:=x;rw[hs] at h;dsimp only at h;split at h
       ·cases h;assumption
       ·cases hn:fK s code (a+257+(b+1)) 400 p4 [] with
        |bad j=>rw[hn] at h;cases h;exact sT _ _ _ _ _ _ _ hn
        |good x =>
         obtain⟨l,p5⟩:=x;rw[hn] at h;dsimp only at h;split at h
         ·cases h;decide
         ·split at h
          ·cases h;assumption
          ·split at h
           ·cases h;assumption
           ·exact mS _ _ _ _ _ _ _ _ h
theorem aJV{s:L}{most p:Nat}{out:L}{k:Int}(h:iP s most p out=.bad k):k≠0:=by
 unfold iP at h;cases hb1:aS s p 1 with
 |bad j=>rw[hb1] at h;cases h;exact mA hb1
 |good x =>
  obtain⟨a,p1⟩:=x;rw[hb1] at h;dsimp only at h;cases hb2:aS s p1 2 with
  |bad j=>exact q487
  |good x =>
   obtain⟨kind,p2⟩:=x;rw[hb2] at h;dsimp only at h;generalize hR:(if kind=0 then eQ s most p2 out else if kind=1 then cX s most gW jP (8*s.length+1) p2 out else if kind=2 then dB s most p2 out else .bad 3:Res (L×Nat))=R at h
   cases R with
   |good x=>cases h
   |bad j =>
    cases h;split at hR
    ·exact aFW hR
    ·split at hR
     ·exact mS _ _ _ _ _ _ _ _ hR
     ·split at hR
      ·exact aCE hR
      ·cases hR;decide
theorem tT(s:L)(most:Nat):∀(f p:Nat) (out:L) (k:Int),gG s most f p out=.bad k->k≠0
 |0,p,out,k,h=>by cases h;decide
 |f+1,p,out,k,h=>by
  rw[mR] at h;cases hb:iP s most p out with
  |bad j=>rw[hb] at h;cases h;exact aJV hb
  |good x =>
   obtain⟨last,o1,p3⟩:=x;rw[hb] at h;dsimp only at h;split at h
   ·cases h
   ·exact tT s most f _ _ _ h
theorem rF{s:L}{most:Int}{k:Int}(h:eK s most=.bad k):k≠0:=by
 unfold eK at h;split at h
 ·cases h;decide
 ·cases hb:gG s (min most.toNat 1048576) (8*s.length+1) 0 [] with
  |bad j=>rw[hb] at h;cases h;exact tT _ _ _ _ _ _ hb
  |good x=>exact q499
theorem tU(s:L)(most:Nat):∀(f p:Nat) (out out':L) (q:Nat),gG s most f p out=.good (out',q)->out.length<=most->out'.length<=most
 |0,p,out,out',q,h,_=>q96
 |f+1,p,out,out',q,h,hl=>by
  rw[mR] at h;cases hb:iP s most p out with
  |bad k=>exact q499
  |good x =>
   obtain⟨last,o1,p3⟩:=x;rw[hb] at h;obtain⟨_,g2⟩:=tR hb hl;dsimp only at h;split at h
   ·cases h;exact g2
   ·exact tU s most f _ _ _ _ h g2
theorem rG{s:L}{most:Int}{t:L}{n:Nat}(h:eK s most=.good (t,n)):t.length<=1048576:=by
 unfold eK at h;split at h
 ·cases h
 ·cases hb:gG s (min most.toNat 1048576) (8*s.length+1) 0 [] with
  |bad k=>exact q499
  |good x =>
   obtain⟨o,p⟩:=x;rw[hb] at h;cases h;have:=tU _ _ _ _ _ _ _ hb (bGF _);omega
def fS(s:L)(most:Int):Res L :=
 if aJP s≠0 then .bad (aJP s)
 else match eK (s.drop 2) most with
 |.bad k=>.bad k
 |.good (t,used) =>
  if(s.drop 2).length<used+4 then .bad 4
  else if((s.drop 2).drop used).take 4≠wV (pV t) then .bad 12
  else .good t
theorem tV{s:L}{most:Int}{t:L}(h:fS s most=.good t):t.length<=1048576:=by
 unfold fS at h;split at h
 ·cases h
 ·cases hb:eK (s.drop 2) most with
  |bad k=>exact q499
  |good x =>
   obtain⟨o,p⟩:=x;rw[hb] at h;dsimp only at h;split at h
   ·cases h
   ·split at h
    ·cases h
    ·cases h;exact rG hb
theorem aYG{s:L}(h:aJP s=0):2<=s.length:=by
 match s,h with
 |[],h=>exact absurd h dC
 |[c],h=>exact absurd (show(4:Int)=0 from h) dC
 |c0::c1::l,_=>simp
def gL(w:World)(R:Res L)(e:Ending)(w':World):Prop :=
 Below w.heap.size w w'/\match R with
 |.good t=>e=.returned (.tuple #[.string ⟨t.toArray⟩,.int .i64 0])
 |.bad k=>e=.returned (.tuple #[.string ⟨#[]⟩,.int .i64 k])
theorem iK.next{w w':World}(h:iK w w.heap.size)(hb:Below w.heap.size w w'):iK w' w'.heap.size:=(h.below hb).low hb.size (bGB _)
theorem iQ.next{w w':World}(h:iQ w w.heap.size)(hb:Below w.heap.size w w'):iQ w' w'.heap.size:=(h.below hb).low hb.size (bGB _)
theorem aYH(s:L)(a:Nat)(ha:a<=s.length):(⟨s.toArray⟩:ByteArray).extract a s.length=⟨(s.drop a).toArray⟩:=by
 exact q471
theorem aRQ(w:World)(s:L)(most:Int)(hs:s.length<=1000000000)(hrep:iK w w.heap.size)(hord:iQ w w.heap.size) :
 Calls prog 206 #[.string ⟨s.toArray⟩,.int .i64 most] w (gL w (fS s most)):=by
 obtain⟨R,hR⟩:=eX (fS s most);rw[hR];unfold fS at hR;have HB:=Lh (aJR w s oM);obtain⟨K,hK⟩:=eX (aJP s);rw[hK] at HB hR;by_cases hk:K=0
 ·subst hk;rw[bGU (fun h=>h rfl)] at hR;have h2:=aYG hK;obtain⟨S,hS⟩:∃S:ByteArray,(⟨s.toArray⟩:ByteArray)=S:=⟨_,rfl⟩
  have hSz:S.size=s.length:=by rw[<-hS];rfl
  obtain⟨t,ht⟩:=eX (s.drop 2);rw[ht] at hR;have hex:S.extract 2 S.size=⟨t.toArray⟩:=by rw[hSz,<-hS,aYH _ _ h2,ht]
  have hS2:(2:Int)<=S.size:=oM;have hS3:S.size<=maxLen:=q26;have htl:t.length<=1000000000:=by rw[<-ht,bGS];omega
  have HA:=Lh (fun(W:World) (hW:Below w.heap.size w W)=>bEM W t most htl (hrep.next hW) (hord.next hW));have HR:=Lh hR;rw[hS] at HB ⊢;clear hR hK h2 hS hSz ht hrep hord;go_enter func206,ntmps206
  go_wp2_with fail;refine HB.out.mono ?_;rintro e w1 ⟨rfl,hb1⟩;clear HB;go_wp2_with fail;refine(HA.out _ hb1).mono ?_;rintro e w2 ⟨hb2,h2⟩;have hbw:=hb1.trans (hb2.mono hb1.size);clear HA hb1 hb2;cases hI:eK t most with
  |bad k =>
   rw[hI] at h2;have hk0:=rF hI;have HRE:=Lh (show R=.bad k from by rw[<-HR.out,hI]);have d:(k !=0)=true:=by simpa using hk0
   obtain rfl:=h2;clear HR hI hk0;exact q517
  |good x =>
   obtain⟨u,n⟩:=x;rw[hI] at h2;obtain⟨rfl,hnt⟩:=h2;have hul:=rG hI;have hR2:=HR.out;rw[hI] at hR2;dsimp only at hR2;have hn:n<=1000000000:=oM;have hw1:IntKind.i64.wrap ((t.length:Int)-n)=(t.length:Int)-n:=q167;obtain⟨T,hT⟩:∃T:ByteArray,(⟨t.toArray⟩:ByteArray)=T:=⟨_,rfl⟩
   have hTz:T.size=t.length:=by rw[<-hT];rfl
   by_cases hlen:t.length<n+4
   ·have d:decide ((t.length:Int)-n<4)=true:=sO;have HRE:=Lh (show R=.bad 4 from by rw[<-hR2,bGV hlen]);clear HR hR2 hI;exact q517
   ·have d:decide ((t.length:Int)-n<4)=false:=sO;rw[bGU hlen] at hR2;have HR2:=Lh hR2;have hw2:IntKind.i64.wrap ((n:Int)+4)=((n+4:Nat):Int):=q167;obtain⟨M,hM⟩:=eX (n+4);obtain⟨X,hX⟩:∃X:ByteArray,(⟨((t.drop n).take 4).toArray⟩:ByteArray)=X:=⟨_,rfl⟩
    have hex2:(⟨t.toArray⟩:ByteArray).extract n M=X:=by rw[<-hX,<-hM,jC]
    rw[hM] at hw2;have hMT:M<=t.length:=oM;have hnM:n<=M:=oM;have HS:=Lh (fun W=>bEQ W u oM);obtain⟨V,hV⟩:=eX (pV u);rw[hV] at HS HR2;have HF:=Lh (fun W=>bCO W V);obtain⟨Y,hY⟩:∃Y:ByteArray,(⟨(wV V).toArray⟩:ByteArray)=Y:=⟨_,rfl⟩
    rw[hY] at HF;have HXY:=Lh (show(X.toList==Y.toList)=decide ((t.drop n).take 4=wV V) from by
     rw[ByteArray.toList_eq,ByteArray.toList_eq,<-hX,<-hY];by_cases h:(t.drop n).take 4=wV V<;>simp[h])
    clear HR hR2 hI hT hX hY hV hM hTz hnt hul hn hlen;by_cases hxy:(t.drop n).take 4=wV V
    ·have HRE:=Lh (show R=.good u from by rw[<-HR2.out,bGU (fun h=>h hxy)]);have d1:(X.toList==Y.toList)=true:=by rw[HXY.out];exact bGI hxy
     exact q330
    ·have HRE:=Lh (show R=.bad 12 from by rw[<-HR2.out,bGV hxy]);have d1:(X.toList==Y.toList)=false:=by rw[HXY.out];exact bGH hxy
     exact q330
 ·have d:(K !=0)=true:=q93;rw[bGV hk] at hR;subst hR;clear hk hK hrep hord;go_enter func206,ntmps206
  go_wp2_with fail;refine HB.out.mono ?_;rintro e w1 ⟨rfl,hb1⟩;go_wp2_with fail;go_ret2
  exact⟨hb1,rfl⟩
theorem aRR{w:World}{B g0 g1:Nat}{t0 t1:TypeId}{v0 v1:Value}(h0:w.heap[g0]?=some (.cells #[v0] t0 (0,0)))(h1:w.heap[g1]?=some (.cells #[v1] t1 (0,0)))
 (h01:g0≠g1) (hB0:B<=g0) (hB1:B<=g1) (hB:B<=w.heap.size) (u0 u1:Value) (o:Obj) :
 Below B w (((w.setCell ⟨g0,0,none⟩ u0).setCell ⟨g1,0,none⟩ u1).alloc o).drew /\
 (((w.setCell ⟨g0,0,none⟩ u0).setCell ⟨g1,0,none⟩ u1).alloc o).cell? ⟨g0,0,none⟩=some u0 /\
 (((w.setCell ⟨g0,0,none⟩ u0).setCell ⟨g1,0,none⟩ u1).alloc o).cell? ⟨g1,0,none⟩=some u1:=by
 have l0:=bGJ h0;have l1:=bGJ h1;have a0:(((w.setCell ⟨g0,0,none⟩ u0).setCell ⟨g1,0,none⟩ u1).alloc o).heap[g0]?=some (.cells #[u0] t0 (0,0)):=by
  rw[bGM _ _ _ q128,bGK _ _ _ _ h01];exact kQ h0 u0
 have a1:(((w.setCell ⟨g0,0,none⟩ u0).setCell ⟨g1,0,none⟩ u1).alloc o).heap[g1]?=some (.cells #[u1] t1 (0,0)):=by
  rw[bGM _ _ _ q128];exact kQ ((bGK _ _ _ _ (fun e=>h01 e.symm)).trans h1) u1
 exact⟨Below.drew ((((bGL B w).setCell hB0 _).setCell hB1 _).alloc q128 _),(aW a0).1,(aW a1).1⟩
theorem aJW(p q:Addr)(w:World) :
 CallsD prog 227 #[.pointer (some p),.pointer (some q)] .returning w fun e u' w'=>e=.returned (.tuple #[])/\u'=.returning/\w'=w:=by
 refine callsD_of_wpS func227 rfl fun c₀ cs hu=>?_
 simp only[ntmps227,List.size_toArray,bHA,List.length_nil,Nat.reduceAdd,Nat.reduceSub,Array.replicate_succ,Array.replicate_zero,List.push_toArray,List.append_toArray,List.nil_append,List.cons_append];apply wpS_seq
 apply wpS_region
 simp[wpOpsS,go_sem,recoverD,hu,ntmps227,Exit.thenS];refine wpS_of_wp ?_;go_wp2;cases c₀;simp_all [bodyPostS,results,results227]
theorem tW(B g0 g1:Nat)(k:Int)(s:ByteArray)(y:Int)(older:List PanicEntry)(w:World)(h0:w.heap[g0]?=some (.cells #[.string s] 9 (0,0)))(h1:w.heap[g1]?=some (.cells #[.int .i64 y] 24 (0,0)))
 (h01:g0≠g1) (hB0:B<=g0) (hB1:B<=g1) (hB:B<=w.heap.size) :
 CallsD prog 227 #[.pointer (some ⟨g0,0,none⟩),.pointer (some ⟨g1,0,none⟩)] (.panicking ({ v:=.iface 290 (.agg #[.int .i64 k]),recovered:=false }::older)) w fun e u' w' =>
  e=.returned (.tuple #[])/\u'=.panicking ({ v:=.iface 290 (.agg #[.int .i64 k]),recovered:=true }::older)/\Below B w w'/\w'.cell? ⟨g0,0,none⟩=some (.string ⟨#[]⟩)/\w'.cell? ⟨g1,0,none⟩=some (.int .i64 k):=by
 have hta:∀(x:Int) (w:World),(Instr.typeAssert (.iface 290 (.agg #[.int .i64 x])) 20 290 true).run prog w=.ok (.tuple #[.agg #[.int .i64 x],.bool true]) w:=fun _ _=>kR
 obtain⟨a0,f0⟩:=aW h0;obtain⟨a1,f1⟩:=aW h1;have l0:=bGJ h0;have l1:=bGJ h1;have n0:¬g0=w.heap.size:=oM;have n1:¬g1=w.heap.size:=oM;have HT:=aRR h0 h1 h01 hB0 hB1 hB (.string ⟨#[]⟩) (.int .i64 k) (.cells #[.int .i64 k] 290);clear h0 h1 hB0 hB1 hB;obtain⟨W,hW⟩:=eX (((w.setCell ⟨g0,0,none⟩ (.string ⟨#[]⟩)).setCell ⟨g1,0,none⟩ (.int .i64 k)).alloc (.cells #[.int .i64 k] 290));rw[hW] at HT;obtain⟨HT0,HT1,HT2⟩:=HT;refine callsD_of_wpS func227 rfl fun c₀ cs hu=>?_
 simp only[ntmps227,List.size_toArray,bHA,List.length_nil,Nat.reduceAdd,Nat.reduceSub,Array.replicate_succ,Array.replicate_zero,List.push_toArray,List.append_toArray,List.nil_append,List.cons_append];apply wpS_seq
 apply wpS_region
 simp[wpOpsS,go_sem,recoverD,hu,ntmps227,Exit.thenS];refine wpS_of_wp ?_;go_wp2_with fail;go_region_law (fail)
 all_goals go_wp2
 all_goals cases c₀
 all_goals simp_all [bodyPostS,results,results227]
def wX(w:World)(b:Nat):Prop:=w.heap[b]?=some (.cells #[.string ⟨#[]⟩] 9 (0,0))/\w.heap[b+1]?=some (.cells #[.int .i64 0] 24 (0,0))
theorem wX.below{w w':World}{b B:Nat}(h:wX w b)(hb:Below B w w')(hB:b+1<B):wX w' b :=
 ⟨(hb.block _ oM).trans h.1,(hb.block _ oM).trans h.2⟩
theorem wX.made(w:World):wX ((w.alloc (.cells #[.string ⟨#[]⟩] 9)).alloc (.cells #[.int .i64 0] 24)) w.heap.size:=by
 refine⟨?_,aA _ _ _ sI⟩;exact q553
theorem bCP(w:World)(s:L)(most:Int)(hs:s.length<=1000000000) :
 Calls prog 193 #[.string ⟨s.toArray⟩,.int .i64 most,.func (.func 194) #[] #[]] w (gL w (lF s most)):=by
 obtain⟨R,hR⟩:=eX (lF s most);rw[hR];unfold lF at hR;obtain⟨w3,hw3⟩:=eX (((w.alloc (.cells #[.string ⟨#[]⟩] 9)).alloc (.cells #[.int .i64 0] 24)));have hX3:wX w3 w.heap.size:=by rw[<-hw3];exact wX.made w
 have hb3:Below w.heap.size w w3:=q126;have hz3:=bGJ hX3.2;by_cases hm0:most<0
 ·exact q572
 ·rw[bGU hm0] at hR;unfold aRA at hR;have d1:decide (0<=most)=true:=sO;obtain⟨LM,hLM⟩:=eX (min most.toNat 1048576);have hmin:min most 1048576=(LM:Int):=oM;have hmL:LM<=1048576:=oM;rw[hLM] at hR;obtain⟨w4,hw4⟩:=eX (w3.alloc (.cells #[.slice none 0 0,.int .i64 (LM:Nat)] 292));obtain⟨x,hx⟩:=eX (w3.heap.size);have hb4:Below w3.heap.size w3 w4:=by rw[<-hw4];exact bel
  have hS4:dP w4 x LM [] (.slice none 0 0):=⟨q211,bF _ _⟩;have HX4:=Lh (hX3.below hb4 oM);have HBp4:=Lh (hb3.trans (hb4.mono oM));have HP:=Lh (bBV w4 ⟨s.toArray⟩ x LM _ hS4 hmL hs);exact q289
theorem bCQ(w:World)(s:L)(most:Int)(hs:s.length<=1000000000) :
 Calls prog 193 #[.string ⟨s.toArray⟩,.int .i64 most,.func (.func 202) #[] #[]] w (gL w (lG s most)):=by
 obtain⟨R,hR⟩:=eX (lG s most);rw[hR];unfold lG at hR;obtain⟨w3,hw3⟩:=eX (((w.alloc (.cells #[.string ⟨#[]⟩] 9)).alloc (.cells #[.int .i64 0] 24)));have hX3:wX w3 w.heap.size:=by rw[<-hw3];exact wX.made w
 have hb3:Below w.heap.size w w3:=q126;have hz3:=bGJ hX3.2;by_cases hm0:most<0
 ·exact q572
 ·rw[bGU hm0] at hR;unfold aRA at hR;have d1:decide (0<=most)=true:=sO;obtain⟨LM,hLM⟩:=eX (min most.toNat 1048576);have hmin:min most 1048576=(LM:Int):=oM;have hmL:LM<=1048576:=oM;rw[hLM] at hR;obtain⟨w4,hw4⟩:=eX (w3.alloc (.cells #[.slice none 0 0,.int .i64 (LM:Nat)] 292));obtain⟨x,hx⟩:=eX (w3.heap.size);have hb4:Below w3.heap.size w3 w4:=by rw[<-hw4];exact bel
  have hS4:dP w4 x LM [] (.slice none 0 0):=⟨q211,bF _ _⟩;have HX4:=Lh (hX3.below hb4 oM);have HBp4:=Lh (hb3.trans (hb4.mono oM));have HP:=Lh (bCE w4 s x LM _ hS4 hmL hs);exact q289
theorem bCR(w:World)(s:L)(most:Int)(hs:s.length<=1000000000)(hpow:kS w w.heap.size) :
 Calls prog 193 #[.string ⟨s.toArray⟩,.int .i64 most,.func (.func 198) #[] #[]] w (gL w (iD s most)):=by
 obtain⟨R,hR⟩:=eX (iD s most);rw[hR];unfold iD at hR;obtain⟨w3,hw3⟩:=eX (((w.alloc (.cells #[.string ⟨#[]⟩] 9)).alloc (.cells #[.int .i64 0] 24)));have hX3:wX w3 w.heap.size:=by rw[<-hw3];exact wX.made w
 have hb3:Below w.heap.size w w3:=q126;have hz3:=bGJ hX3.2;by_cases hm0:most<0
 ·exact q572
 ·rw[bGU hm0] at hR;unfold aRA at hR;have d1:decide (0<=most)=true:=sO;obtain⟨LM,hLM⟩:=eX (min most.toNat 1048576);have hmin:min most 1048576=(LM:Int):=oM;have hmL:LM<=1048576:=oM;rw[hLM] at hR;obtain⟨w4,hw4⟩:=eX (w3.alloc (.cells #[.slice none 0 0,.int .i64 (LM:Nat)] 292));obtain⟨x,hx⟩:=eX (w3.heap.size);have hb4:Below w3.heap.size w3 w4:=by rw[<-hw4];exact bel
  have hS4:dP w4 x LM [] (.slice none 0 0):=⟨q211,bF _ _⟩;have HX4:=Lh (hX3.below hb4 oM);have HBp4:=Lh (hb3.trans (hb4.mono oM));have HP:=Lh (aYF w4 ⟨s.toArray⟩ x LM _ hS4 hmL hs ((hpow.below (hb3.trans (hb4.mono oM))).low oM (bGY (bGJ hS4.blk))));exact q289
theorem aYI(w:World)(s:L)(most:Int)(hs:s.length<=1000000000) :
 Calls prog 148 #[.string ⟨s.toArray⟩,.int .i64 most] w (gL w (lF s most)):=by
 obtain⟨R,hR⟩:=eX (lF s most);have HP:=Lh (bCP w s most hs);rw[hR] at HP ⊢;clear hR hs;go_enter func148,ntmps148
 exact q314
theorem aYJ(w:World)(s:L)(most:Int)(hs:s.length<=1000000000) :
 Calls prog 152 #[.string ⟨s.toArray⟩,.int .i64 most] w (gL w (lG s most)):=by
 obtain⟨R,hR⟩:=eX (lG s most);have HP:=Lh (bCQ w s most hs);rw[hR] at HP ⊢;clear hR hs;go_enter func152,ntmps152
 exact q314
theorem aRS(w:World)(s:L)(most:Int)(hs:s.length<=1000000000)(hpow:kS w w.heap.size) :
 Calls prog 150 #[.string ⟨s.toArray⟩,.int .i64 most] w (gL w (iD s most)):=by
 obtain⟨R,hR⟩:=eX (iD s most);have HP:=Lh (bCR w s most hs hpow);rw[hR] at HP ⊢;clear hR hs;go_enter func150,ntmps150
 exact q314
def pmV(p:Pm):Value:=.agg #[.int .i64 p.pred,.int .i64 p.colors,.int .i64 p.columns]
def aYK(p:Pm):Bool:=(p.pred==1||p.pred==2)||(decide (10<=p.pred)&&decide (p.pred<=15))
def fY(p:Pm):Bool:=(((aYK p&&decide (1<=p.colors))&&decide (1<=p.columns))&&decide (p.colors<=8192))&&decide (p.columns<=Int.tdiv 8192 p.colors)
theorem rH{p:Pm}(h:fY p=true):1<=p.colors/\1<=p.columns/\p.colors*p.columns<=8192/\p.colors<=8192:=by
 unfold fY at h;simp only[Bool.and_eq_true,decide_eq_true_eq] at h;obtain⟨⟨⟨⟨_,h1⟩,h2⟩,h3⟩,h4⟩:=h;refine⟨h1,h2,?_,h3⟩;rw[Int.tdiv_eq_ediv_of_nonneg dC] at h4;have:=Int.mul_le_of_le_ediv oM h4;rw[Int.mul_comm];exact this
theorem aYL(b:Int)(h:1<=b):wrap64 (Int.tdiv 8192 b)=Int.tdiv 8192 b:=by
 rw[Int.tdiv_eq_ediv_of_nonneg dC];have h0:0<=(8192:Int)/b:=Int.ediv_nonneg dC oM;have h1:(8192:Int)/b<=8192:=Int.ediv_le_self _ dC;unfold wrap64;omega
theorem aJX(w:World)(p:Pm):Calls prog 144 #[pmV p] w fun e w'=>e=.returned (.bool (fY p))/\Below w.heap.size w w':=by
 obtain⟨a,b,c⟩:=p;unfold pmV fY aYK;dsimp only;obtain⟨e1,h1⟩:∃e,(a==1)=e:=⟨_,rfl⟩
 obtain⟨e2,h2⟩:∃e,(a==2)=e:=⟨_,rfl⟩
 obtain⟨e3,h3⟩:∃e,decide (10<=a)=e:=⟨_,rfl⟩
 obtain⟨e4,h4⟩:∃e,decide (a<=15)=e:=⟨_,rfl⟩
 obtain⟨e5,h5⟩:∃e,decide (1<=b)=e:=⟨_,rfl⟩
 obtain⟨e6,h6⟩:∃e,decide (1<=c)=e:=⟨_,rfl⟩
 obtain⟨e7,h7⟩:∃e,decide (b<=8192)=e:=⟨_,rfl⟩
 obtain⟨e8,h8⟩:∃e,decide (c<=Int.tdiv 8192 b)=e:=⟨_,rfl⟩
 rw[h1,h2,h3,h4,h5,h6,h7,h8];cases e1 with
 |true =>
  exact q570
 |false =>
  cases e2 with
  |true =>
   exact q570
  |false =>
   cases e3 with
   |false =>
    exact q297
   |true =>
    cases e4 with
    |true =>
     exact q570
    |false =>
     exact q297
theorem zS(w:World)(p:Pm):Calls prog 100 #[pmV p] w fun e w'=>e=.returned (.int .i64 (if fY p then 0 else 1))/\Below w.heap.size w w':=by
 have HM:=Lh (fun W=>aJX W p);obtain⟨a,b,c⟩:=p;obtain⟨m,hm⟩:=eX (fY ⟨a,b,c⟩);rw[hm] at HM ⊢;unfold pmV at HM ⊢;dsimp only at HM ⊢;clear hm;go_enter func100,ntmps100
 go_wp2_with fail;with_reducible refine(HM.out _).mono ?_
 rintro e w1 ⟨rfl,hb1⟩;have HB:=Lh (show Below w.heap.size w w1 from bHE bel (hb1.mono sI));cases m with
 |true =>
  exact q465
 |false =>
  exact q465
def aRT(p:Pm):Nat:=if fY p then(p.colors*p.columns).toNat else 0
theorem bCS(w:World)(p:Pm):Calls prog 232 #[pmV p] w fun e w'=>e=.returned (.int .i64 (aRT p:Nat))/\Below w.heap.size w w':=by
 have HM:=Lh (fun W=>aJX W p);have HR:=Lh (@rH p);obtain⟨a,b,c⟩:=p;unfold aRT;obtain⟨m,hm⟩:=eX (fY ⟨a,b,c⟩);rw[hm] at HM HR ⊢;unfold pmV at HM ⊢;dsimp only at HM ⊢;clear hm;cases m with
 |true =>
  obtain⟨h1,h2,h3,h4⟩:=HR.out rfl;dsimp only at h1 h2 h3 h4;have hw:IntKind.i64.wrap (b*c)=((b*c).toNat:Int):=by
   have h5:0<=b*c:=Int.mul_nonneg oM oM;rw[IntKind.wrap_i64];omega
  obtain⟨q,hq⟩:=eX ((b*c).toNat);rw[hq] at hw;rw[bGV rfl,hq];clear hq h1 h2 h3 h4;go_enter func232,ntmps232
  go_wp2_with fail;with_reducible refine(HM.out _).mono ?_
  rintro e w1 ⟨rfl,hb1⟩;have HB:=Lh (show Below w.heap.size w w1 from bHE bel (hb1.mono sI));obtain⟨c0,c1,c2,cf⟩:=aE ((hb1.block w.heap.size sI).trans (aA w _ _ rfl));exact q465
 |false =>
  go_enter func232,ntmps232
  go_wp2_with fail;with_reducible refine(HM.out _).mono ?_
  rintro e w1 ⟨rfl,hb1⟩;have HB:=Lh (show Below w.heap.size w w1 from bHE bel (hb1.mono sI));exact q465
def aFX(p:Pm)(n row:Nat):Int:=if fY p then(if 1048576<n then 5 else if p.pred≠1/\n % row≠0 then 16 else 0) else 1
theorem aJY(w:World)(p:Pm)(s:L)(row:Nat)(hr:0<row)(hs:s.length<=1000000000):Calls prog 233 #[pmV p,.string ⟨s.toArray⟩,.int .i64 row] w fun e w'=>e=.returned (.int .i64 (aFX p s.length row))/\Below w.heap.size w w':=by
 have HM:=Lh (fun W=>aJX W p);obtain⟨a,b,c⟩:=p;unfold aFX;obtain⟨m,hm⟩:=eX (fY ⟨a,b,c⟩);rw[hm] at HM ⊢;unfold pmV at HM ⊢;dsimp only at HM ⊢;clear hm;have hmod:Int.tmod (s.length:Int) row=((s.length % row:Nat):Int):=by rw[Int.tmod_eq_emod_of_nonneg oM];rfl
 have hr0:¬(row:Int)=0:=oM;have hr1:¬row=0:=oM;obtain⟨K,hK⟩:∃K:Int,(if m then(if 1048576<s.length then 5 else if a≠1/\s.length % row≠0 then 16 else 0) else 1)=K:=⟨_,rfl⟩
 rw[hK];cases m with
 |false =>
  have HK:=Lh (show K=1 from hK.symm);exact q388
 |true =>
  rw[bGV rfl] at hK;by_cases hl:1048576<s.length
  ·rw[bGV hl] at hK;have HK:=Lh hK.symm;have d1:decide ((1048576:Int)<s.length)=true:=sO;have d2:decide (1048576<s.length)=true:=sO;exact q388
  ·rw[bGU hl] at hK;have d1:decide ((1048576:Int)<s.length)=false:=sO;have d2:decide (1048576<s.length)=false:=sO;obtain⟨q,hq⟩:=eX (s.length % row);rw[hq] at hmod hK;by_cases ha:a=1
   ·have ha1:(a !=1)=false:=by simpa using ha
    rw[bGU (fun h=>h.1 ha)] at hK;have HK:=Lh hK.symm;clear hK hl ha;exact q324
   ·have ha1:(a !=1)=true:=by simpa using ha
    by_cases hq0:q=0
    ·have hq1:((q:Int) !=0)=false:=sO;rw[bGU (fun h=>h.2 hq0)] at hK;exact q595
    ·have hq1:((q:Int) !=0)=true:=sO;rw[bGV ⟨ha,hq0⟩] at hK;exact q595
def atM(l:L)(i:Int):UInt8:=if 0<=i then l.getD i.toNat 0 else 0
theorem aJZ(w:World)(v:Value)(l:L)(i:Int)(h:bC dV w v l)(hl:l.length<=1000000000):Calls prog 280 #[v,.int .i64 i] w fun e w'=>e=.returned (.int .u8 (atM l i).toNat)/\w'=w:=by
 obtain⟨p,c,rfl,_⟩:=id h;unfold atM;by_cases h0:i<0
 ·rw[bGU oM];have d1:decide (i<0)=true:=sO;exact q583
 ·obtain⟨k,rfl⟩:∃k:Nat,i=k:=⟨i.toNat,oM⟩
  rw[bGV oM,Int.toNat_natCast];have d1:decide ((k:Int)<0)=false:=sI;by_cases hk:k<l.length
  ·obtain⟨g,off,rfl,hg,hc⟩:=aBV h k hk;have hd:l.getD k 0=l[k]:=by rw[bGX,bGE hk];rfl
   rw[hd];obtain⟨x,hx⟩:=eX (l[k]);rw[hx] at hc ⊢;have d2:decide ((l.length:Int)<=k)=false:=sO;have d3:decide (l.length<=k)=false:=sO;obtain⟨n,hn⟩:=eX (l.length);rw[hn] at d2 d3 hk ⊢;clear hx hd h hn h0;exact q583
  ·have hd:l.getD k 0=0:=by rw[bGX,bGZ oM];rfl
   rw[hd];have d2:decide ((l.length:Int)<=k)=true:=sO;have d3:decide (l.length<=k)=true:=sO;clear hd h h0;exact q583
theorem rI(w:World)(a b:Int)(ha:-10000<=a/\a<=10000)(hb:-10000<=b/\b<=10000):Calls prog 309 #[.int .i64 a,.int .i64 b] w fun e w'=>e=.returned (.int .i64 (max (a-b) (b-a)))/\w'=w:=by
 have h1:IntKind.i64.wrap (a-b)=a-b:=q167;have h2:IntKind.i64.wrap (b-a)=b-a:=q167;obtain⟨m,hm⟩:=eX (max (a-b) (b-a));rw[hm];clear ha hb;go_enter func309,ntmps309
 go_wp2_with fail;exact q393
def pE(x:UInt8)(t:Int):Int:=max ((x.toNat:Int)-t) (t-x.toNat)
def wY(t:Int)(best x:UInt8):UInt8:=if pE x t<pE best t then x else best
def aCF(a b c:UInt8):UInt8:=wY ((a.toNat:Int)+b.toNat-c.toNat) (wY ((a.toNat:Int)+b.toNat-c.toNat) a b) c
theorem ix2a(x y:Int)(W:World):(Instr.index 381 (.agg #[.int .u8 x,.int .u8 y]) (.int .i64 0)).run prog W=.ok (.int .u8 x) W:=kR
theorem ix2b(x y:Int)(W:World):(Instr.index 381 (.agg #[.int .u8 x,.int .u8 y]) (.int .i64 1)).run prog W=.ok (.int .u8 y) W:=kR
theorem aYM(w:World)(a b c:UInt8):Calls prog 281 #[.int .u8 a.toNat,.int .u8 b.toNat,.int .u8 c.toNat] w fun e w'=>e=.returned (.int .u8 (aCF a b c).toNat)/\w'=w:=by
 have ha:=UInt8.toNat_lt a;have hb:=UInt8.toNat_lt b;have hc:=UInt8.toNat_lt c;have w1:IntKind.i64.wrap (a.toNat:Int)=a.toNat:=q167;have w2:IntKind.i64.wrap (b.toNat:Int)=b.toNat:=q167;have w3:IntKind.i64.wrap (c.toNat:Int)=c.toNat:=q167;have w4:IntKind.i64.wrap ((a.toNat:Int)+b.toNat)=(a.toNat:Int)+b.toNat:=q167;unfold aCF;obtain⟨t,ht'⟩:=eX ((a.toNat:Int)+b.toNat-c.toNat);have ht:-10000<=t/\t<=10000:=oM;rw[ht'];have w5:IntKind.i64.wrap ((a.toNat:Int)+b.toNat-c.toNat)=t:=q167;obtain⟨r,hr⟩:=eX (wY t (wY t a b) c);rw[hr];have HR:=Lh hr;have hi0:=fun(W:World)=>ix2a (b.toNat:Int) (c.toNat:Int) W
 have hi1:=fun(W:World)=>ix2b (b.toNat:Int) (c.toNat:Int) W
 clear ht' hr;go_enter func281,ntmps281
 go_wp2_with fail;go_loopw [8,23] (fun v i wr=>wr=w/\((i=.int .i64 0/\v=.int .u8 a.toNat)\/(i=.int .i64 1/\v=.int .u8 (wY t a b).toNat)\/(i=.int .i64 2/\v=.int .u8 r.toNat))) (fun _ i _=>2-(intOf i).toNat)
 case atStart=>exact⟨rfl,.inl ⟨rfl,rfl⟩⟩
 case round =>
  obtain⟨rfl,hcase⟩:=hrel;rcases hcase with⟨rfl,rfl⟩|⟨rfl,rfl⟩|⟨rfl,rfl⟩
  ·skip
   have hxl:=UInt8.toNat_lt b;have hbl:=UInt8.toNat_lt a;have q1:IntKind.i64.wrap (b.toNat:Int)=b.toNat:=q167;have q2:IntKind.i64.wrap (a.toNat:Int)=a.toNat:=q167;have HA1:=Lh (fun W=>rI W (b.toNat:Int) t oM ht);have HA2:=Lh (fun W=>rI W (a.toNat:Int) t oM ht);rw[show max ((b.toNat:Int)-t) (t-b.toNat)=pE b t from rfl] at HA1;rw[show max ((a.toNat:Int)-t) (t-a.toNat)=pE a t from rfl] at HA2;obtain⟨D1,hD1⟩:∃D,pE b t=D:=⟨_,rfl⟩
   obtain⟨D2,hD2⟩:∃D,pE a t=D:=⟨_,rfl⟩
   rw[hD1] at HA1;rw[hD2] at HA2;have HE:=Lh (show wY t a b=if D1<D2 then b else a from by unfold wY;rw[hD1,hD2]);clear hD1 hD2;by_cases hlt:D1<D2
   ·have d1:decide (D1<D2)=true:=bGI hlt;have HE2:=Lh (show wY t a b=b from by rw[HE.out,bGV hlt]);exact q360
   ·have d1:decide (D1<D2)=false:=bGH hlt;have HE2:=Lh (show wY t a b=a from by rw[HE.out,bGU hlt]);exact q360
  ·obtain⟨m,hm⟩:=eX (wY t a b);rw[hm] at HR ⊢;have hxl:=UInt8.toNat_lt c;have hbl:=UInt8.toNat_lt m;have q1:IntKind.i64.wrap (c.toNat:Int)=c.toNat:=q167;have q2:IntKind.i64.wrap (m.toNat:Int)=m.toNat:=q167;have HA1:=Lh (fun W=>rI W (c.toNat:Int) t oM ht);have HA2:=Lh (fun W=>rI W (m.toNat:Int) t oM ht);rw[show max ((c.toNat:Int)-t) (t-c.toNat)=pE c t from rfl] at HA1;rw[show max ((m.toNat:Int)-t) (t-m.toNat)=pE m t from rfl] at HA2;obtain⟨D1,hD1⟩:∃D,pE c t=D:=⟨_,rfl⟩
   obtain⟨D2,hD2⟩:∃D,pE m t=D:=⟨_,rfl⟩
   rw[hD1] at HA1;rw[hD2] at HA2;have HE:=Lh (show r=if D1<D2 then c else m from by rw[<-HR.out];unfold wY;rw[hD1,hD2]);clear hD1 hD2 hm;by_cases hlt:D1<D2
   ·have d1:decide (D1<D2)=true:=bGI hlt;have HE2:=Lh (show r=c from by rw[HE.out,bGV hlt]);exact q361
   ·have d1:decide (D1<D2)=false:=bGH hlt;have HE2:=Lh (show r=m from by rw[HE.out,bGU hlt]);exact q361
  ·go_wp2_with fail;go_ret
   exact⟨rfl,rfl⟩
def aYN(tag colors:Nat)(above row:L)(i:Nat):UInt8 :=
 if tag=1 then atM row ((i:Int)-colors)
 else if tag=2 then atM above i
 else if tag=3 then UInt8.ofNat (((atM row ((i:Int)-colors)).toNat+(atM above i).toNat)/2)
 else if tag=4 then aCF (atM row ((i:Int)-colors)) (atM above i) (atM above ((i:Int)-colors))
 else 0
theorem bER(w:World)(va vr:Value)(above row:L)(tag colors i:Nat)(ha:bC dV w va above)(hr:bC dV w vr row)(hal:above.length<=10000)(hrl:row.length<=10000)(hc:colors<=10000)(hi:i<=10000)(ht:tag<=4) :
 Calls prog 252 #[.agg #[va,vr,.int .i64 colors],.int .i64 tag,.int .i64 i] w fun e w'=>e=.returned (.int .u8 (aYN tag colors above row i).toNat)/\Below w.heap.size w w':=by
 obtain⟨w0,hw0⟩:=eX (w.alloc (.cells #[va,vr,.int .i64 colors] 301));have hb0:Below w.heap.size w w0:=q150;have HB0:=Lh hb0;obtain⟨c0,c1,c2,cf⟩:=aE (show w0.heap[w.heap.size]?=some (.cells #[va,vr,.int .i64 colors] 301 (0,0)) from by rw[<-hw0];exact aA _ _ _ rfl);have HA1:=Lh (fun(m:Nat)=>aJZ (w0.drewN m) vr row ((i:Int)-colors) (hr.below (aN hb0 m)) oM);have HA2:=Lh (fun(m:Nat)=>aJZ (w0.drewN m) va above i (ha.below (aN hb0 m)) oM);have HA3:=Lh (fun(m:Nat)=>aJZ (w0.drewN m) va above ((i:Int)-colors) (ha.below (aN hb0 m)) oM);unfold aYN;obtain⟨x,hx⟩:=eX (atM row ((i:Int)-colors));obtain⟨y,hy⟩:=eX (atM above i);obtain⟨z,hz⟩:=eX (atM above ((i:Int)-colors));rw[hx] at HA1 ⊢;rw[hy] at HA2 ⊢;rw[hz] at HA3 ⊢;obtain⟨J,hJ⟩:=eX ((i:Int)-colors);rw[hJ] at HA1 HA3;have hw1:IntKind.i64.wrap ((i:Int)-colors)=J:=q167;have hxl:=UInt8.toNat_lt x;have hyl:=UInt8.toNat_lt y;obtain⟨pa,ca,rfl,_⟩:=id ha;obtain⟨pr,cr,rfl,_⟩:=id hr;clear ha hr hJ hx hy hz;have hcase:tag=0\/tag=1\/tag=2\/tag=3\/tag=4:=oM;rcases hcase with rfl|rfl|rfl|rfl|rfl
 ·exact q586
 ·exact q586
 ·exact q586
 ·have q1:IntKind.i64.wrap (x.toNat:Int)=x.toNat:=q167;have q2:IntKind.i64.wrap (y.toNat:Int)=y.toNat:=q167;have q3:IntKind.i64.wrap ((x.toNat:Int)+y.toNat)=((x.toNat+y.toNat:Nat):Int):=q167;obtain⟨q,hq⟩:=eX (x.toNat+y.toNat);rw[hq] at q3;have q4:Int.tdiv (q:Int) 2=((q/2:Nat):Int):=by rw[Int.tdiv_eq_ediv_of_nonneg oM];rfl
  obtain⟨u,hu⟩:=eX (q/2);rw[hu] at q4;have q5:IntKind.i64.wrap (u:Int)=u:=q167;have q6:IntKind.u8.wrap (u:Int)=((UInt8.ofNat u).toNat:Int):=q210;rw[hq,hu];obtain⟨r,hr⟩:=eX (UInt8.ofNat u);rw[hr] at q6 ⊢;clear hq hu hr;go_enter func252,ntmps252
  exact q317
 ·have HP:=Lh (fun W=>aYM W x y z);obtain⟨r,hr⟩:=eX (aCF x y z);rw[hr] at HP ⊢;clear hr;go_enter func252,ntmps252
  go_wp2_with fail
  (try rw[hw0])
  go_quiet (first
   |(go_at_call 280;with_reducible exact bHD (HA1.out _))
   |(go_at_call 280;with_reducible exact bHD (HA2.out _))
   |(go_at_call 280;with_reducible exact bHD (HA3.out _)))
  go_wp2_with(go_at_call 281;(with_reducible refine(HP.out _).mono ?_);rintro e w9 ⟨rfl,h9⟩;obtain rfl:=h9.symm)
  go_ret
  exact⟨rfl,aN HB0.out _⟩
end Go.Proofs.YtdjpkgccakgkbaaGreatDoor
