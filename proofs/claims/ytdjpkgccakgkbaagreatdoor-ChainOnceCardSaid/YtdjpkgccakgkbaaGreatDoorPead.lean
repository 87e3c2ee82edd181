/- Parts of the proof: VaP VaQ VaR BdE BdF. -/
import Derived.Test.YtdjpkgccakgkbaaGreatDoorPeac
import Derived.Recover
import Derived.Defers
set_option linter.all false
set_option maxRecDepth 100000
set_option maxHeartbeats 8000000
section
variable{p:Prop}
theorem q168(h:p:=by have:=Option.some.inj e;omega):p:=h
theorem q169(h:p:=by (with_reducible refine(dA _ _).mono ?_);rintro e w9 ⟨rfl,h9⟩;obtain rfl:=h9.symm;exact⟨rfl,HI2.out.bes.trans (Bes.of_below bel),by rw[HRE.out]⟩):p:=h
theorem q283(h:p:=by
 have HI6:=Lh (HI5.out.step hb6 hlt);have hm6:aF w6 m:=hm5.bes hb6 hrm;clear hb6 HI5 H5 hm5;cases R5 with
 |bad k =>
  have HRE:=Lh (show RV=.bad k from HRV.out.symm);obtain rfl:=h6;go_wp2;exact⟨rfl,HI6.out.bes,q161⟩
 |good aP =>
  obtain⟨rfl,q6,hq6,rfl,hr6⟩:=h6;obtain⟨R6,hR6⟩:=eX (nV (s.data.toList.drop q6) kH);have H6:=Lh (hR6▸HWD.out q6 hq6 w6 hm6 hr6 kH);unfold kH at H6;have HRV2:=HRV.out;dsimp only at HRV2;rw[hR6] at HRV2;have HRV:=Lh HRV2;clear hR6 HRV2 hr6;go_wp2_with fail;refine H6.out.mono ?_;rintro e w7 ⟨hb7,h7⟩;have HI7:=Lh (HI6.out.step hb7 hlt);have hm7:aF w7 m:=hm6.bes hb7 hrm;clear hb7 HI6 H6 hm6;cases R6 with
  |bad k =>
   have HRE:=Lh (show RV=.bad k from HRV.out.symm);obtain rfl:=h7;go_wp2;exact⟨rfl,HI7.out.bes,q161⟩
  |good aP =>
   obtain⟨rfl,q7,hq7,rfl,hr7⟩:=h7;have HRE:=Lh (show RV=.good (iC o DT,s.data.toList.drop q7) from by rw[<-HDT.out];exact HRV.out.symm);have HR7:=Lh hr7;have hs7:=HI7.out.bes.size;have hl77:=bGJ HI7.out.c1';have hl7:=hr7.lt;obtain⟨b0,b1,b2,b3,b4,b5,bf⟩:=aD HI7.out.c0;have HS7:=Lh (HST.out w7 HI7.out.bes DT hdl);obtain⟨P,hP⟩:=eX (iC o DT);rw[hP] at HS7 HRE;clear HRV hr7 HST HWD HDT hP;go_wp2_with fail;refine HS7.out.mono ?_;rintro e w8 ⟨q1,g1,q2,g2,rfl,hO8,hb8⟩;have HI8:=Lh (HI7.out.step (Bes.of_below hb8) hlt);have HR8:=Lh (HR7.out.below hb8);have HO8:=Lh hO8;have hz8:=hb8.size;clear hb8 HI7 HR7 HS7 hO8 b0 b1 b2 b3 b4 b5 bf;go_wp2_with fail;refine(aIZ _ _ _ _ _ _ _ _ _ _ _).mono ?_;rintro e w9 ⟨rfl,hb9⟩;have HI9:=Lh (HI8.out.step (Bes.of_below hb9) hlt);have HR9:=Lh (HR8.out.below hb9);have HO9:=Lh (HO8.out.grow (w':=w9) (S':=fun b=>w7.heap.size<=b/\b<w8.heap.size) (fun b h1 h2=>⟨⟨h1,h2⟩,hb9.block b h2⟩));have hz9:=hb9.size;have hs8:=HI8.out.bes.size;have hc1:=HI9.out.c1';have hl1:=bGJ HI8.out.c1';clear hb9 HI8 HR8 HO8;obtain⟨z0,z1,z2,z3,z4,z5,zf⟩:=aD hc1;go_wp2;obtain⟨wa,hwa⟩:=eX (((((((w9.setCell ⟨w.heap.size+1,0,none⟩ (.int .i64 P.kind)).setCell ⟨w.heap.size+1,1,none⟩ (.int .i64 P.n)).setCell ⟨w.heap.size+1,2,none⟩ (.int .i64 P.g)).setCell ⟨w.heap.size+1,3,none⟩ (.string ⟨P.s.toArray⟩)).setCell ⟨w.heap.size+1,4,none⟩ (.slice q1 P.keys.length g1)).setCell ⟨w.heap.size+1,5,none⟩ (.slice q2 P.kids.length g2)));rw[hwa]
   have sg:=bA w9 (w.heap.size+1) 0 1 2 3 4 5 (.int .i64 P.kind) (.int .i64 P.n) (.int .i64 P.g) (.string ⟨P.s.toArray⟩) (.slice q1 P.keys.length g1) (.slice q2 P.kids.length g2);have Z:=cL (v0:=.int .i64 P.kind) (v1:=.int .i64 P.n) (v2:=.int .i64 P.g) (v3:=.string ⟨P.s.toArray⟩) (v4:=.slice q1 P.keys.length g1) (v5:=.slice q2 P.kids.length g2) hc1;rw[hwa] at sg Z;clear hwa z0 z1 z2 z3 z4 z5 zf;obtain⟨s0,s1,s2,s3,s4,s5,sf⟩:=aD Z;have hl17:=bGJ HI9.out.c1';refine bGN (v:=.agg #[.int .i64 P.kind,.int .i64 P.n,.int .i64 P.g,.string ⟨P.s.toArray⟩,.slice q1 P.keys.length g1,.slice q2 P.kids.length g2]) (by simp[results,results32,go_sem,s0,s1,s2,s3,s4,s5,sf]) rfl ?_;refine⟨HI9.out.bes.grown' sg oM,?_⟩;rw[HRE.out];refine⟨⟨q1,_,g1,q2,_,g2,rfl,HO9.out.grow (fun b h1 h2=>⟨oM,sg.block b oM (fun e=>q168)⟩)⟩,q7,hq7,rfl,?_⟩;have:=HR9.out;unfold RdY at *
   rw[sg.block r oM (fun e=>q168)];exact this):p:=h
theorem q358(h:p:=by
 have d4:decide ((N:Int)<=(s.size:Int)-q)=false:=bGH oM;have HRE:=Lh (show RV=.bad 4 from by rw[<-HRV2,bGV h4]);clear HRV2 h4 h5;go_region_law (first|(go_simp;go_at_call 28;refine aET (fun HF=>?_) q169;(with_reducible refine(tK HF _ _ _ (.tuple #[])).mono ?_);rintro e w9 ⟨rfl,h9⟩;obtain rfl:=h9.symm))
 all_goals exact HF.out.elim):p:=h
theorem q377(h:p:=by
 have d5:decide ((N:Int)<=1048576)=false:=bGH oM;have HRE:=Lh (show RV=.bad 5 from by rw[<-HRV2,bGV h5]);clear HRV2 h5;go_wp2_with(go_at_call 28;(with_reducible refine(dA _ _).mono ?_);rintro e w9 ⟨rfl,h9⟩;obtain rfl:=h9.symm)
 exact⟨rfl,HI2.out.bes,q161⟩):p:=h
theorem q477(h:p:=by
 show(o.keys.take _++o.keys.drop _).length<=_
 have:=(aBE o.keys (cR o.keys key)).length_le;omega):p:=h
theorem q478(h:p:=by
 show(o.kids.take _++o.kids.drop _).length<=_
 have:=(aBE o.kids (cR o.keys key)).length_le;omega):p:=h
theorem q536(h:p:=by rw[bGS,show s.data.toList.length=s.size from rfl];omega):p:=h
theorem q558(h:p:=by
 cases c₀;simp_all [bodyPostS,results,results25]):p:=h
theorem q564(h:p:=by
 obtain⟨N,rfl⟩:∃N:Nat,n=N:=⟨n.toNat,oM⟩
 have HRV2:=HRV.out;dsimp only at HRV2;by_cases h5:1048576<(N:Int)
 ·exact q377
 rw[bGU h5] at HRV2;have d5:decide ((N:Int)<=1048576)=true:=bGI oM;have hlen:((s.data.toList.drop q).length:Int)=(s.size:Int)-q:=by
  exact q536
 rw[hlen] at HRV2;have k0:=HR2.out.cell0;have k1:=HR2.out.cell1;have kf:=HR2.out.frozen;have hw1:IntKind.i64.wrap ((s.size:Int)-q)=(s.size:Int)-q:=IntWalk.i64_in _ oM;clear hlen;go_upto_region 5 with(go_at_call 28;(with_reducible refine(cC _ _).mono ?_);rintro e w9 ⟨rfl,h9⟩;obtain rfl:=h9.symm)
 by_cases h4:(s.size:Int)-q<N
 ·exact q358
 rw[bGU h4,Int.toNat_natCast] at HRV2;have d4:decide ((N:Int)<=(s.size:Int)-q)=true:=bGI oM;have hqN:q+N<=s.size:=oM;have hdat:=aQN s q N;have hdl:((s.data.toList.drop q).take N).length<=1048576:=q170;unfold yU at HRV2;rw[List.drop_drop] at HRV2;have HRV:=Lh HRV2;have hw2:IntKind.i64.wrap ((q:Int)+N)=(q:Int)+N:=IntWalk.i64_in _ oM;obtain⟨DT,hDT⟩:=eX ((s.data.toList.drop q).take N);rw[hDT] at hdat hdl;have HDT:=Lh hDT;clear HRV2 h4 h5 hDT;go_quiet (first|(go_at_call 28;exact bHD (cC _ _)))
 obtain⟨w3,hw3⟩:=eX (w2.drewN nq);have HI3:=Lh (show StI w w3 r o p1 p2 n1 c1 n2 c2 from hw3▸HI2.out.step (yY r nq w2) hlt);have hr3:RdY w3 r s q:=hw3▸HR2.out.below (aN (bGL _ _) nq);have hm3:aF w3 m:=hw3▸hm2.below (aN (bGL _ _) nq);rw[hw3];clear hw3 HI2 HR2 hm2 k0 k1 kf hw1;have k0:=hr3.cell0;have k1:=hr3.cell1;have kf:=hr3.frozen;have hl3:=hr3.lt;have HR3:=Lh hr3;clear hr3;have hle1:(q:Int)<=(q:Int)+N:=oM;have hle2:(q:Int)+N<=(s.size:Int):=oM;have htn:((q:Int)+N).toNat=q+N:=oM;go_upto_region 6 with fail
 clear nq;go_quiet (fail)
 obtain⟨w4,hw4⟩:=eX (w3.drewN nq);have HI4:=Lh (show StI w w4 r o p1 p2 n1 c1 n2 c2 from hw4▸HI3.out.step (yY r nq w3) hlt);have hr4:RdY w4 r s q:=hw4▸HR3.out.below (aN (bGL _ _) nq);have hm4:aF w4 m:=hw4▸hm3.below (aN (bGL _ _) nq);rw[hw4];clear hw4 HI3 HR3 hm3 k0 k1 kf hl3 hle1 hle2 htn hdat;have k1:=hr4.cell1;have kf:=hr4.frozen;have hl4:=hr4.lt;have HR4:=Lh hr4;clear hr4;go_upto_region 8 with fail
 obtain⟨w5,hw5⟩:=eX (w4.setCell ⟨r,1,none⟩ (.int .i64 ((q:Int)+N)));have hb5:Bes r w4 w5:=by rw[<-hw5];exact(Bes.refl _ _).setCell _ _
 have HI5:=Lh (HI4.out.step hb5 hlt);have hr5:RdY w5 r s (q+N):=by rw[<-hw5];have:=HR4.out.set (b:=q+N);simpa using this
 have hm5:aF w5 m:=hm4.bes hb5 hrm;rw[hw5];clear hw5 hb5 HI4 HR4 hm4 k1 kf hl4 hw2;obtain⟨R5,hR5⟩:=eX (nV (s.data.toList.drop (q+N)) mM);have H5:=Lh (hR5▸HWD.out (q+N) hqN w5 hm5 hr5 mM);unfold mM at H5;have HRV2:=HRV.out;rw[hR5] at HRV2;have HRV:=Lh HRV2;clear hR5 HRV2 hr5;go_wp2_with fail;refine H5.out.mono ?_;rintro e w6 ⟨hb6,h6⟩;exact q283):p:=h
end
namespace Go.Proofs.YtdjpkgccakgkbaaGreatDoor
open Go.Proofs.Tryz
open Go.RowKit Fo
theorem bJ.del{S:Nat->Prop}{d:Nat}{w:World}{css:List (List Value)}{os:List Ob}(h:bJ S d w css os)(i:Nat):bJ S d w (css.take i++css.drop (i+1)) (os.take i++os.drop (i+1)):=by
 have hc:css.length=os.length:=h.1;refine⟨by simp[hc],fun j cs o h1 h2=>?_⟩;by_cases hi:i<=os.length
 ·by_cases hj:j<i
  ·rw[List.getElem?_append_left sO,List.getElem?_take_of_lt hj] at h1;rw[List.getElem?_append_left sO,List.getElem?_take_of_lt hj] at h2;exact h.2 j cs o h1 h2
  ·rw[List.getElem?_append_right sO,List.getElem?_drop] at h1;rw[List.getElem?_append_right sO,List.getElem?_drop] at h2;have e1:(css.take i).length=i:=sO;have e2:(os.take i).length=i:=sO;rw[e1] at h1;rw[e2] at h2;exact h.2 _ cs o h1 h2
 ·rw[bHC oM,List.drop_eq_nil_of_le oM,List.append_nil] at h1;rw[bHC oM,List.drop_eq_nil_of_le oM,List.append_nil] at h2;exact h.2 j cs o h1 h2
theorem aIX(S:Nat->Prop)(d:Nat)(w:World)(cs:List Value)(o:Ob)(i:Nat)(h:aI S (d+1) w cs o)(hS:∀b,S b->b<w.heap.size)
 (hi:i<o.keys.length) (hl:o.keys.length=o.kids.length) (hn:o.keys.length<=8192) :
 Calls prog 140 #[.agg cs.toArray,.int .i64 i] w fun e w'=>∃cs',e=.returned (.agg cs'.toArray)/\aI (fun b=>S b\/w.heap.size<=b) (d+1) w' cs' (o.withK (o.keys.take i++o.keys.drop (i+1)) (o.kids.take i++o.kids.drop (i+1)))/\Below w.heap.size w w':=by
 obtain⟨kv,dv,rfl,hK,hR0⟩:=h;have hR:cF S d w dv o.kids:=hR0;clear hR0;obtain⟨p1,n1,c1,rfl⟩:∃p n c,kv=.slice p n c:=by
  rcases hK with⟨_,p,c,h⟩|⟨b,o,c,h,_⟩<;>exact⟨_,_,_,h⟩
 obtain⟨p2,n2,c2,rfl⟩:∃p n c,dv=.slice p n c:=by
  rcases hR with⟨_,p,c,h⟩|⟨b,o,c,h,_⟩<;>exact⟨_,_,_,h⟩
 have HCK:=Lh (fun W (hb:Below w.heap.size w W)=>aWT S _ o.keys W (hK.kept (fun b h=>hb.block b (hS b h))) oM);have HCD:=Lh (fun W (hb:Below w.heap.size w W)=>aIW S d _ o.kids W (hR.kept (fun b h=>hb.block b (hS b h))) oM (fun b h=>bGA (hS b h) hb.size));obtain⟨nk,hnk⟩:=eX (o.keys.length);have HNK:=Lh hnk;have HND:=Lh (show o.kids.length=nk from oM);rw[hnk] at hi hn HCK;rw[HND.out] at HCD;clear hK hR hl hnk;have hw1:IntKind.i64.wrap ((i:Int)+1)=((i+1:Nat):Int):=q167;obtain⟨i',hi'⟩:=eX (i+1);have HI:=Lh hi';rw[hi'] at hw1;clear hi';unfold aB;go_enter func140,ntmps140
 go_upto_region 1 with fail
 obtain⟨w0,hw0⟩:=eX (((w.alloc (.cells #[.int .i64 o.kind,.int .i64 o.n,.int .i64 o.g,.string ⟨o.s.toArray⟩,.slice p1 n1 c1,.slice p2 n2 c2] 31)).alloc (.cells #[.int .i64 0,.int .i64 0,.int .i64 0,.string ⟨#[]⟩,.slice none 0 0,.slice none 0 0] 31)));rw[hw0];have A0:w0.heap[w.heap.size]?=some (.cells #[.int .i64 o.kind,.int .i64 o.n,.int .i64 o.g,.string ⟨o.s.toArray⟩,.slice p1 n1 c1,.slice p2 n2 c2] 31 (0,0)):=by
  exact q359
 have A2:w0.heap[w.heap.size+1]?=some (.cells #[.int .i64 0,.int .i64 0,.int .i64 0,.string ⟨#[]⟩,.slice none 0 0,.slice none 0 0] 31 (0,0)):=by
  exact q413
 have hbw:Below w.heap.size w w0:=q150;have hz0:w0.heap.size=w.heap.size+2:=q151;clear hw0;obtain⟨b0,b1,b2,b3,b4,b5,bf⟩:=aD A0;go_wp2_with fail;refine(HCK.out _ hbw).mono ?_;rintro e w2 ⟨v1,rfl,own1,hb1⟩;obtain⟨p3,c3,rfl⟩:=cY own1;rw[hz0] at own1;have B0:=(hb1.block _ oM).trans A0;have B2:=(hb1.block _ oM).trans A2;have hbw2:=hbw.trans (hb1.mono hbw.size);have hz1:=hb1.size;clear hb1 b0 b1 b2 b3 b4 b5 bf A0 A2 hbw;obtain⟨b0,b1,b2,b3,b4,b5,bf⟩:=aD B0;go_wp2_with fail;refine(aWW (w.heap.size+2) _ nk i i' _ w2 own1 hi HI.out.symm hn (fun u hu=>by obtain⟨x,_,rfl⟩:=List.mem_map.1 hu;rfl)).mono ?_;rintro e w3 ⟨v3,rfl,own3,hg3⟩;obtain⟨p5,c5,rfl⟩:=cY own3;have C0:=oR own1 hg3 oM B0;have C2:=oR own1 hg3 oM B2;have hbw3:Below w.heap.size w w3:=hbw2.grown hg3 hbw2.size (fun k hk=>by have:=aK own1 k hk;omega);have hz3:=hg3.size;clear hg3 own1 B0 B2 hbw2 b0 b1 b2 b3 b4 b5 bf;obtain⟨b0,b1,b2,b3,b4,b5,bf⟩:=aD C0;go_wp2_with fail;obtain⟨w4,hw4⟩:=eX (w3.setCell ⟨w.heap.size,4,none⟩ (.slice p5 (nk-1) c5));rw[hw4];have D0:=aMG (o:=4) (v:=.slice p5 (nk-1) c5) C0;have D2:=yW (o:=4) (v:=.slice p5 (nk-1) c5) C2 (show w.heap.size+1≠w.heap.size from oM);have hbw4:Below w.heap.size w w4:=by rw[<-hw4];exact hbw3.setCell (bGB _) _
 have hz4:w4.heap.size=w3.heap.size:=by rw[<-hw4];simp
 have own4:=aBH (b:=w.heap.size) (o:=4) (u:=.slice p5 (nk-1) c5) own3 oM;rw[hw4] at D0 D2 own4;have D0:w4.heap[w.heap.size]?=some (.cells #[.int .i64 o.kind,.int .i64 o.n,.int .i64 o.g,.string ⟨o.s.toArray⟩,.slice p5 (nk-1) c5,.slice p2 n2 c2] 31 (0,0)):=D0;clear hw4 C0 C2 hbw3 own3 b0 b1 b2 b3 b4 b5 bf;refine(HCD.out _ hbw4).mono ?_;rintro e w5 ⟨v2,css,rfl,own5k,hk5,hb5⟩;obtain⟨p4,c4,rfl⟩:=cY own5k;have E0:=(hb5.block _ oM).trans D0;have E2:=(hb5.block _ oM).trans D2;have own5:=aQL own4 hb5;have hbw5:=hbw4.trans (hb5.mono hbw4.size);have hz5:=hb5.size;have hklt:∀b,(Value.slice p5 (nk-1) c5).ownBlock=some b->b<w4.heap.size:=fun b e=>(own4.lt b e).2
 clear hb5 D0 D2 own4 hbw4;obtain⟨b0,b1,b2,b3,b4,b5,bf⟩:=aD E0;go_wp2_with fail;refine(aWV w4.heap.size _ nk i i' _ w5 own5k hi HI.out.symm hn hk5.one).mono ?_;rintro e w6 ⟨v4,rfl,own6k,hg6⟩;obtain⟨p6,c6,rfl⟩:=cY own6k;have F0:=oR own5k hg6 oM E0;have F2:=oR own5k hg6 oM E2;have own6:=sJ own5 hg6 (fun b e e'=>by have h1:=hklt b e;have h2:=aK own5k b e';omega);have hbw6:Below w.heap.size w w6:=hbw5.grown hg6 hbw5.size (fun k hk=>by have:=aK own5k k hk;omega);have hz6:=hg6.size;clear hg6 own5 own5k E0 E2 b0 b1 b2 b3 b4 b5 bf hklt;obtain⟨b0,b1,b2,b3,b4,b5,bf⟩:=aD F0;obtain⟨z0,z1,z2,z3,z4,z5,zf⟩:=aD F2;go_wp2;obtain⟨wa,hwa⟩:=eX (w6.setCell ⟨w.heap.size,5,none⟩ (.slice p6 (nk-1) c6));rw[hwa];have H2:=yW (o:=5) (v:=.slice p6 (nk-1) c6) F2 (show w.heap.size+1≠w.heap.size from oM);have owna:=aBH (b:=w.heap.size) (o:=5) (u:=.slice p6 (nk-1) c6) own6 oM;have ownak:=aBH (b:=w.heap.size) (o:=5) (u:=.slice p6 (nk-1) c6) own6k oM;have hbwa:Below w.heap.size w wa:=by rw[<-hwa];exact hbw6.setCell (bGB _) _
 rw[hwa] at H2 owna ownak;obtain⟨w9,hw9⟩:=eX (((((((wa.setCell ⟨w.heap.size+1,0,none⟩ (.int .i64 o.kind)).setCell ⟨w.heap.size+1,1,none⟩ (.int .i64 o.n)).setCell ⟨w.heap.size+1,2,none⟩ (.int .i64 o.g)).setCell ⟨w.heap.size+1,3,none⟩ (.string ⟨o.s.toArray⟩)).setCell ⟨w.heap.size+1,4,none⟩ (.slice p5 (nk-1) c5)).setCell ⟨w.heap.size+1,5,none⟩ (.slice p6 (nk-1) c6)));rw[hw9];have sg9:=bA wa (w.heap.size+1) 0 1 2 3 4 5 (.int .i64 o.kind) (.int .i64 o.n) (.int .i64 o.g) (.string ⟨o.s.toArray⟩) (.slice p5 (nk-1) c5) (.slice p6 (nk-1) c6);have Z:=cL (v0:=.int .i64 o.kind) (v1:=.int .i64 o.n) (v2:=.int .i64 o.g) (v3:=.string ⟨o.s.toArray⟩) (v4:=.slice p5 (nk-1) c5) (v5:=.slice p6 (nk-1) c6) H2;rw[hw9] at sg9 Z;have own9:=sJ (u:=.slice (some ⟨w.heap.size+1,0,none⟩) 1 1) owna sg9 (fun b e e'=>by have:=aK owna b e;simp[Value.ownBlock] at e';omega);have own9k:=sJ (u:=.slice (some ⟨w.heap.size+1,0,none⟩) 1 1) ownak sg9 (fun b e e'=>by have:=aK ownak b e;simp[Value.ownBlock] at e';omega);have hbw9:Below w.heap.size w w9:=hbwa.grown sg9 hbwa.size (fun k h=>q153);clear hw9 hwa b0 b1 b2 b3 b4 b5 bf z0 z1 z2 z3 z4 z5 zf owna ownak own6 own6k F0 F2 H2;obtain⟨s0,s1,s2,s3,s4,s5,sf⟩:=aD Z;have hK9:bJ S d w9 (css.take i++css.drop (i+1)) (o.kids.take i++o.kids.drop (i+1)) :=
  (hk5.grow (fun b hb _=>⟨hb,(hbw9.block b (hS b hb)).trans (hbw5.block b (hS b hb)).symm⟩)).del i
 have hlk:(o.keys.take i++o.keys.drop (i+1)).length=nk-1:=by have:=HNK.out;simp;omega
 have hld:(o.kids.take i++o.kids.drop (i+1)).length=nk-1:=by have:=HND.out;simp;omega
 have hcl:css.length=nk:=by rw[hk5.1];exact HND.out
 have e1:(o.keys.map fun x=>Value.string ⟨x.toArray⟩).take (i*1)++(o.keys.map fun x=>Value.string ⟨x.toArray⟩).drop ((i+1)*1)=(o.keys.take i++o.keys.drop (i+1)).map fun x=>Value.string ⟨x.toArray⟩:=by
  rw[Nat.mul_one,Nat.mul_one,<-List.map_take,<-List.map_drop,<-List.map_append]
 have e2:css.flatten.take (i*6)++css.flatten.drop ((i+1)*6)=(css.take i++css.drop (i+1)).flatten:=by
  rw[wF hk5.six i oM,wG hk5.six (i+1) oM,List.flatten_append]
 rw[e1,<-hlk] at own9;rw[e2,<-hld] at own9k;have hKey:=aEZ own9;have hRow:=uM (S':=fun b=>S b\/w.heap.size<=b) own9k hK9 (fun b hb=>.inl hb) (fun b hb=>.inr oM);have hOb:aI (fun b=>S b\/w.heap.size<=b) (d+1) w9 (aB o.kind o.n o.g o.s (.slice p5 (nk-1) c5) (.slice p6 (nk-1) c6)) (o.withK (o.keys.take i++o.keys.drop (i+1)) (o.kids.take i++o.kids.drop (i+1))) :=
  ⟨_,_,rfl,by rw[<-hlk];exact hKey.weaken (fun b hb _=>.inr oM),by rw[<-hld];exact hRow⟩
 refine bGN (v:=.agg #[.int .i64 o.kind,.int .i64 o.n,.int .i64 o.g,.string ⟨o.s.toArray⟩,.slice p5 (nk-1) c5,.slice p6 (nk-1) c6]) (by simp[results,results140,go_sem,s0,s1,s2,s3,s4,s5]) rfl ⟨_,rfl,hOb,hbw9⟩
theorem bEB(S:Nat->Prop)(kv:Value)(ks:List L)(key:L)(w:World)(h:cU S w kv ks)(hup:ks.Pairwise (·<·))(hn:ks.length<=8192) :
 Calls prog 139 #[kv,.string ⟨key.toArray⟩] w fun e w'=>e=.returned (.tuple #[.int .i64 (cR ks key:Nat),.bool (decide (ks[cR ks key]?=some key))])/\∃q,w'=w.drewN q:=by
 rcases h with⟨rfl,p,c,rfl⟩|⟨b,o,c,rfl,hb,hc⟩
 ·refine(Any2.slices_BinarySearch_string_empty Tryz.lays26 p c ⟨key.toArray⟩ w).mono ?_;rintro e w' ⟨rfl,rfl⟩;exact⟨rfl,0,rfl⟩
 ·refine(Any2.slices_BinarySearch_string Tryz.lays26 b o ks.length c (fun t=>⟨(ks.getD t key).toArray⟩) ⟨key.toArray⟩ w oM (fun j hj=>by rw[hc j hj];simp[bGX,hj])).mono ?_;rintro e w' ⟨rfl,hq⟩;rw[bEA ks key hup];refine⟨?_,hq⟩;have hf:(decide (cR ks key<ks.length/\(⟨(ks.getD (cR ks key) key).toArray⟩:ByteArray)=⟨key.toArray⟩))=decide (ks[cR ks key]?=some key):=by
   rw[decide_eq_decide];constructor
   ·rintro⟨h1,h2⟩;have h3:=congrArg (fun b:ByteArray=>b.data.toList) h2;simp only[bGX,bGE h1,Option.getD_some] at h3;rw[bGE h1,h3]
   ·intro h1;obtain⟨h2,h3⟩:=List.getElem?_eq_some_iff.1 h1;refine⟨h2,?_⟩;rw[bGX,h1];rfl
  rw[hf]
theorem wH{d:Nat}{o:Ob}{key:L}(h:cE (d+1) o):cE (d+1) (jM o key):=by
 obtain⟨h1,h2,h3,h4,h5⟩:=h;unfold jM;split
 ·refine⟨?_,?_,h3,fun x hx=>h4 x (uU hx),fun x hx=>h5 x (uU hx)⟩
  ·exact q477
  ·exact q478
 ·exact⟨h1,h2,h3,h4,h5⟩
theorem aQM{d:Nat}{o:Ob}{key:L}(h:cN (d+1) o):cN (d+1) (jM o key):=by
 obtain⟨h1,h2,h5⟩:=h;unfold jM;split
 ·refine⟨?_,?_,fun x hx=>h5 x (uU hx)⟩
  ·exact q477
  ·exact q478
 ·exact⟨h1,h2,h5⟩
theorem aWX(S:Nat->Prop)(d:Nat)(w:World)(cs:List Value)(o:Ob)(key:L)(h:aI S (d+1) w cs o)(hS:∀b,S b->b<w.heap.size)
 (h79:o.kind=7\/o.kind=9) (hc:aT 24 o=0) (hsm:cE (d+1) o) (ht:cN (d+1) o) :
 Calls prog 93 #[.agg cs.toArray,.string ⟨key.toArray⟩] w (vY (d+1) w (jM o key)):=by
 have hko:=(lQ o h79).1 ((dJ 23 o).1 hc).keys;have hkl:o.keys.length<=8192:=by have:=((dJ 23 o).1 hc).many;have:=hko.len;omega
 have HC:=Lh (fun(W:World) (hW:Below w.heap.size w W)=>jA S (d+1) W _ o (h.kept (fun b h=>hW.block b (hS b h)) _) hsm (fun b h=>bGA (hS b h) hW.size));rw[hc] at HC;have HW:=Lh (fun i (hi:i<o.keys.length) W (hb:Below w.heap.size w W)=>aIX S d W cs o i (h.kept (fun b h=>hb.block b (hS b h)) _) (fun b h=>bGA (hS b h) hb.size) hi hko.len hkl);have HCL0:=Lh (fun(W:World) (hW:Below w.heap.size w W)=>oP S (d+1) W cs o (h.kept (fun b h=>hW.block b (hS b h)) _) ht (fun b h=>bGA (hS b h) hW.size));have hK:∃kv dv,cs=aB o.kind o.n o.g o.s kv dv/\cU S w kv o.keys:=by
  obtain⟨kv,dv,rfl,hK,_⟩:=id h;exact⟨kv,dv,rfl,hK⟩
 obtain⟨kv,dv,hcs,hK⟩:=hK;obtain⟨p1,n1,c1,p2,n2,c2,rfl⟩:=h.shape;have hkv:kv=.slice p1 n1 c1:=by unfold aB at hcs;simp at hcs;exact hcs.1.symm
 subst hkv;have HBS:=Lh (fun W (hb:Below w.heap.size w W)=>bEB S _ o.keys key W (hK.kept (fun b h=>hb.block b (hS b h))) hko.up hkl);unfold aB at HW HC HCL0;have HK:=Lh (fun W=>aER o p1 p2 n1 c1 n2 c2 W);have hkk:(o.kind==7||o.kind==9)=true:=by rcases h79 with h|h<;>rw[h]<;>rfl
 rw[hkk] at HK;have htd:=aQM (key:=key) ht;have HS:=Lh hS;by_cases hin:o.keys[cR o.keys key]?=some key
 ·have hdel:jM o key=o.withK (o.keys.take (cR o.keys key)++o.keys.drop (cR o.keys key+1)) (o.kids.take (cR o.keys key)++o.kids.drop (cR o.keys key+1)):=bGV hin;have hil:=(List.getElem?_eq_some_iff.1 hin).1;have hdec:decide (o.keys[cR o.keys key]?=some key)=true:=bGI hin;rw[hdec] at HBS;have HW:=Lh (HW.out _ hil);obtain⟨P,hP⟩:=eX (jM o key);rw[<-hdel,hP] at HW;rw[hP] at htd ⊢;obtain⟨i,hi⟩:=eX (cR o.keys key);rw[hi] at HW HBS;have HCL:=Lh (fun(W:World) cs' (ho:aI (fun b=>b<W.heap.size) (d+1) W cs' P)=>oP (fun b=>b<W.heap.size) (d+1) W cs' P ho htd (fun b h=>h));unfold aB;clear h hS h79 hc hsm ht hko hkk hin hdel hil hdec hP hi htd hkl hK hcs HCL0;go_enter func93,ntmps93
  go_upto_region 1 with fail
  obtain⟨w0,hw0⟩:=eX (((w.alloc (.cells #[.int .i64 o.kind,.int .i64 o.n,.int .i64 o.g,.string ⟨o.s.toArray⟩,.slice p1 n1 c1,.slice p2 n2 c2] 31)).alloc (.cells #[.int .i64 0,.int .i64 0,.int .i64 0,.string ⟨#[]⟩,.slice none 0 0,.slice none 0 0] 31)));rw[hw0];have A0:w0.heap[w.heap.size]?=some (.cells #[.int .i64 o.kind,.int .i64 o.n,.int .i64 o.g,.string ⟨o.s.toArray⟩,.slice p1 n1 c1,.slice p2 n2 c2] 31 (0,0)):=by
   exact q359
  have A1:w0.heap[w.heap.size+1]?=some (.cells #[.int .i64 0,.int .i64 0,.int .i64 0,.string ⟨#[]⟩,.slice none 0 0,.slice none 0 0] 31 (0,0)):=by
   exact q413
  have hbw:Below w.heap.size w w0:=q150;have hz0:w0.heap.size=w.heap.size+2:=q151;clear hw0;obtain⟨b0,b1,b2,b3,b4,b5,bf⟩:=aD A0;go_wp2_with fail;refine(HK.out _).mono ?_;rintro e w1 ⟨rfl,hb1⟩;have A0:=(hb1.block _ oM).trans A0;have A1:=(hb1.block _ oM).trans A1;have hbw:=hbw.trans (hb1.mono hbw.size);have hzw1:=hb1.size;clear hb1 b0 b1 b2 b3 b4 b5 bf;obtain⟨b0,b1,b2,b3,b4,b5,bf⟩:=aD A0;go_wp2_with fail;refine(HC.out _ hbw).mono ?_;rintro e w2 ⟨rfl,hb1⟩;have A0:=(hb1.block _ oM).trans A0;have A1:=(hb1.block _ oM).trans A1;have hbw:=hbw.trans (hb1.mono hbw.size);have hzw2:=hb1.size;clear hb1 b0 b1 b2 b3 b4 b5 bf;obtain⟨b0,b1,b2,b3,b4,b5,bf⟩:=aD A0;go_wp2_with fail;refine(HBS.out _ hbw).mono ?_;rintro e wq ⟨rfl,q,rfl⟩;have hb1:Below w2.heap.size w2 (w2.drewN q):=aN (bGL _ _) q;obtain⟨w3,hw3⟩:=eX (w2.drewN q);rw[hw3] at hb1 ⊢;clear hw3;have A0:=(hb1.block _ oM).trans A0;have A1:=(hb1.block _ oM).trans A1;have hbw:=hbw.trans (hb1.mono hbw.size);have hzw3:=hb1.size;clear hb1 b0 b1 b2 b3 b4 b5 bf;obtain⟨b0,b1,b2,b3,b4,b5,bf⟩:=aD A0;go_wp2_with fail;refine(HW.out _ hbw).mono ?_;rintro e w4 ⟨cs',rfl,hO4,hb1⟩;have A0:=(hb1.block _ oM).trans A0;have A1:=(hb1.block _ oM).trans A1;have hbw:=hbw.trans (hb1.mono hbw.size);have hzw4:=hb1.size;clear hb1 b0 b1 b2 b3 b4 b5 bf;obtain⟨b0,b1,b2,b3,b4,b5,bf⟩:=aD A0;have hzw:=hbw.size
  have HO4:=Lh (fun(W:World) (hW:∀b,b<w4.heap.size->b≠w.heap.size->W.heap[b]?=w4.heap[b]?) (hz:w4.heap.size<=W.heap.size)=>hO4.grow (w':=W) (S':=fun b=>b<W.heap.size) (fun b h1 h2=>⟨oM,hW b h2 (by rcases h1 with h1|h1;exact Nat.ne_of_lt (HS.out b h1);omega)⟩));obtain⟨r1,k1,f1,r2,k2,f2,rfl⟩:=hO4.shape;unfold aB;clear hO4;go_upto_region 5 with fail
  obtain⟨w5,hw5⟩:=eX (((((((w4.setCell ⟨w.heap.size,0,none⟩ (.int .i64 P.kind)).setCell ⟨w.heap.size,1,none⟩ (.int .i64 P.n)).setCell ⟨w.heap.size,2,none⟩ (.int .i64 P.g)).setCell ⟨w.heap.size,3,none⟩ (.string ⟨P.s.toArray⟩)).setCell ⟨w.heap.size,4,none⟩ (.slice r1 k1 f1)).setCell ⟨w.heap.size,5,none⟩ (.slice r2 k2 f2)));rw[hw5];have sg5:=bA w4 w.heap.size 0 1 2 3 4 5 (.int .i64 P.kind) (.int .i64 P.n) (.int .i64 P.g) (.string ⟨P.s.toArray⟩) (.slice r1 k1 f1) (.slice r2 k2 f2);have Z5:=cL (v0:=.int .i64 P.kind) (v1:=.int .i64 P.n) (v2:=.int .i64 P.g) (v3:=.string ⟨P.s.toArray⟩) (v4:=.slice r1 k1 f1) (v5:=.slice r2 k2 f2) A0;rw[hw5] at sg5 Z5;have hz5:w5.heap.size=w4.heap.size:=by rw[<-hw5];simp[World.setCell]
  have A1:=(sg5.block _ oM (fun e=>q168)).trans A1;have hbw5:Below w.heap.size w w5:=hbw.grown sg5 hbw.size (fun k e=>q125);have HC5:=HCL.out w5 _ (HO4.out w5 (fun b h1 h2=>sg5.block b h1 (fun e=>by cases e;exact h2 rfl)) (bGD hz5.symm));unfold aB at HC5;clear hw5 A0 b0 b1 b2 b3 b4 b5 bf hbw;obtain⟨b0,b1,b2,b3,b4,b5,bf⟩:=aD Z5;have HC5:=Lh HC5;go_wp2_with fail;refine HC5.out.mono ?_;rintro e w6 ⟨q1,g1,q2,g2,rfl,hO6,hb6⟩;have A1:=(hb6.block _ oM).trans A1;have hz6:=hb6.size;have hbw6:=hbw5.trans (hb6.mono hbw5.size);clear b0 b1 b2 b3 b4 b5 bf;obtain⟨z0,z1,z2,z3,z4,z5,zf⟩:=aD A1;go_wp2;obtain⟨w9,hw9⟩:=eX (((((((w6.setCell ⟨w.heap.size+1,0,none⟩ (.int .i64 P.kind)).setCell ⟨w.heap.size+1,1,none⟩ (.int .i64 P.n)).setCell ⟨w.heap.size+1,2,none⟩ (.int .i64 P.g)).setCell ⟨w.heap.size+1,3,none⟩ (.string ⟨P.s.toArray⟩)).setCell ⟨w.heap.size+1,4,none⟩ (.slice q1 P.keys.length g1)).setCell ⟨w.heap.size+1,5,none⟩ (.slice q2 P.kids.length g2)));rw[hw9];have sg9:=bA w6 (w.heap.size+1) 0 1 2 3 4 5 (.int .i64 P.kind) (.int .i64 P.n) (.int .i64 P.g) (.string ⟨P.s.toArray⟩) (.slice q1 P.keys.length g1) (.slice q2 P.kids.length g2);have Z:=cL (v0:=.int .i64 P.kind) (v1:=.int .i64 P.n) (v2:=.int .i64 P.g) (v3:=.string ⟨P.s.toArray⟩) (v4:=.slice q1 P.keys.length g1) (v5:=.slice q2 P.kids.length g2) A1;rw[hw9] at sg9 Z;have hbw9:Below w.heap.size w w9:=hbw6.grown sg9 hbw6.size (fun k h=>q153);clear hw9 z0 z1 z2 z3 z4 z5 zf
  obtain⟨s0,s1,s2,s3,s4,s5,sf⟩:=aD Z;refine bGN (v:=.agg #[.int .i64 P.kind,.int .i64 P.n,.int .i64 P.g,.string ⟨P.s.toArray⟩,.slice q1 P.keys.length g1,.slice q2 P.kids.length g2]) (by simp[results,results93,go_sem,s0,s1,s2,s3,s4,s5]) rfl ⟨q1,g1,q2,g2,rfl,hO6.grow (fun b h1 h2=>⟨oM,sg9.block b h2 (fun e=>q123)⟩),hbw9⟩
 ·have hdel:jM o key=o:=bGU hin;have hdec:decide (o.keys[cR o.keys key]?=some key)=false:=bGH hin;rw[hdec] at HBS;rw[hdel];obtain⟨i,hi⟩:=eX (cR o.keys key);rw[hi] at HBS;unfold aB;clear h h79 hc hsm ht hko hkk hin hdel hdec hi htd hkl hK hcs HW;go_enter func93,ntmps93
  go_upto_region 1 with fail
  obtain⟨w0,hw0⟩:=eX (((w.alloc (.cells #[.int .i64 o.kind,.int .i64 o.n,.int .i64 o.g,.string ⟨o.s.toArray⟩,.slice p1 n1 c1,.slice p2 n2 c2] 31)).alloc (.cells #[.int .i64 0,.int .i64 0,.int .i64 0,.string ⟨#[]⟩,.slice none 0 0,.slice none 0 0] 31)));rw[hw0];have A0:w0.heap[w.heap.size]?=some (.cells #[.int .i64 o.kind,.int .i64 o.n,.int .i64 o.g,.string ⟨o.s.toArray⟩,.slice p1 n1 c1,.slice p2 n2 c2] 31 (0,0)):=by
   exact q359
  have A1:w0.heap[w.heap.size+1]?=some (.cells #[.int .i64 0,.int .i64 0,.int .i64 0,.string ⟨#[]⟩,.slice none 0 0,.slice none 0 0] 31 (0,0)):=by
   exact q413
  have hbw:Below w.heap.size w w0:=q150;have hz0:w0.heap.size=w.heap.size+2:=q151;clear hw0;obtain⟨b0,b1,b2,b3,b4,b5,bf⟩:=aD A0;go_wp2_with fail;refine(HK.out _).mono ?_;rintro e w1 ⟨rfl,hb1⟩;have A0:=(hb1.block _ oM).trans A0;have A1:=(hb1.block _ oM).trans A1;have hbw:=hbw.trans (hb1.mono hbw.size);have hzw1:=hb1.size;clear hb1 b0 b1 b2 b3 b4 b5 bf;obtain⟨b0,b1,b2,b3,b4,b5,bf⟩:=aD A0;go_wp2_with fail;refine(HC.out _ hbw).mono ?_;rintro e w2 ⟨rfl,hb1⟩;have A0:=(hb1.block _ oM).trans A0;have A1:=(hb1.block _ oM).trans A1;have hbw:=hbw.trans (hb1.mono hbw.size);have hzw2:=hb1.size;clear hb1 b0 b1 b2 b3 b4 b5 bf;obtain⟨b0,b1,b2,b3,b4,b5,bf⟩:=aD A0;go_wp2_with fail;refine(HBS.out _ hbw).mono ?_;rintro e wq ⟨rfl,q,rfl⟩;have hb1:Below w2.heap.size w2 (w2.drewN q):=aN (bGL _ _) q;obtain⟨w5,hw5⟩:=eX (w2.drewN q);rw[hw5] at hb1 ⊢;clear hw5;have A0:=(hb1.block _ oM).trans A0;have A1:=(hb1.block _ oM).trans A1;have hbw:=hbw.trans (hb1.mono hbw.size);have hzw5:=hb1.size;clear hb1 b0 b1 b2 b3 b4 b5 bf;obtain⟨b0,b1,b2,b3,b4,b5,bf⟩:=aD A0;have hbw5:=hbw;have hz5:w5.heap.size=w5.heap.size:=rfl;go_wp2_with fail;refine(HCL0.out _ hbw).mono ?_;rintro e w6 ⟨q1,g1,q2,g2,rfl,hO6,hb6⟩;have A1:=(hb6.block _ oM).trans A1;have hz6:=hb6.size;have hbw6:=hbw5.trans (hb6.mono hbw5.size);clear b0 b1 b2 b3 b4 b5 bf;obtain⟨z0,z1,z2,z3,z4,z5,zf⟩:=aD A1;go_wp2
  obtain⟨w9,hw9⟩:=eX (((((((w6.setCell ⟨w.heap.size+1,0,none⟩ (.int .i64 o.kind)).setCell ⟨w.heap.size+1,1,none⟩ (.int .i64 o.n)).setCell ⟨w.heap.size+1,2,none⟩ (.int .i64 o.g)).setCell ⟨w.heap.size+1,3,none⟩ (.string ⟨o.s.toArray⟩)).setCell ⟨w.heap.size+1,4,none⟩ (.slice q1 o.keys.length g1)).setCell ⟨w.heap.size+1,5,none⟩ (.slice q2 o.kids.length g2)));rw[hw9];have sg9:=bA w6 (w.heap.size+1) 0 1 2 3 4 5 (.int .i64 o.kind) (.int .i64 o.n) (.int .i64 o.g) (.string ⟨o.s.toArray⟩) (.slice q1 o.keys.length g1) (.slice q2 o.kids.length g2);have Z:=cL (v0:=.int .i64 o.kind) (v1:=.int .i64 o.n) (v2:=.int .i64 o.g) (v3:=.string ⟨o.s.toArray⟩) (v4:=.slice q1 o.keys.length g1) (v5:=.slice q2 o.kids.length g2) A1;rw[hw9] at sg9 Z;have hbw9:Below w.heap.size w w9:=hbw6.grown sg9 hbw6.size (fun k h=>q153);clear hw9 z0 z1 z2 z3 z4 z5 zf;obtain⟨s0,s1,s2,s3,s4,s5,sf⟩:=aD Z;refine bGN (v:=.agg #[.int .i64 o.kind,.int .i64 o.n,.int .i64 o.g,.string ⟨o.s.toArray⟩,.slice q1 o.keys.length g1,.slice q2 o.kids.length g2]) (by simp[results,results93,go_sem,s0,s1,s2,s3,s4,s5]) rfl ⟨q1,g1,q2,g2,rfl,hO6.grow (fun b h1 h2=>⟨oM,sg9.block b h2 (fun e=>q123)⟩),hbw9⟩
def bEC(d:Nat)(w:World)(P:Ob)(e:Ending)(w':World):Prop :=
 ∃p1 c1 p2 c2,e=.returned (.tuple #[.agg #[.int .i64 P.kind,.int .i64 P.n,.int .i64 P.g,.string ⟨P.s.toArray⟩,.slice p1 P.keys.length c1,.slice p2 P.kids.length c2],.int .i64 0]) /\
  aI (fun b=>w.heap.size<=b) d w' (aB P.kind P.n P.g P.s (.slice p1 P.keys.length c1) (.slice p2 P.kids.length c2)) P/\Below w.heap.size w w'
theorem aI.streamed{S:Nat->Prop}{d:Nat}{w:World}{P:Ob}{kv dv:Value}(h:aI S (d+1) w (aB P.kind P.n P.g P.s kv dv) P)(n g:Int)(data:L) :
 aI S (d+1) w (aB 9 n g data kv dv) (.mk 9 n g data P.keys P.kids):=by
 obtain⟨kv',dv',e,h1,h2⟩:=h;unfold aB at e;simp at e;obtain⟨rfl,rfl⟩:=e;exact⟨kv,dv,rfl,h1,h2⟩
theorem aIY(S:Nat->Prop)(d:Nat)(w:World)(cs:List Value)(o:Ob)(data:L)(h:aI S (d+1) w cs o)(hS:∀b,S b->b<w.heap.size)
 (h7:o.kind=7) (hc:aT 24 o=0) (hd:data.length<=1048576) (hsm:cE (d+1) o) (ht:cN (d+1) o) :
 Calls prog 61 #[.agg cs.toArray,.string ⟨data.toArray⟩] w (bEC (d+1) w (iC o data)):=by
 have hcs:=wE (data:=data) hc h7 hd;have hss:cE (d+1) (iC o data):=by
  have hx:=wH (key:=bB) hsm;exact⟨hx.1,hx.2.1,by show data.length<=_;omega,hx.2.2.2⟩
 have hpk:(jM o bB).kind=7/\(jM o bB).n=o.n/\(jM o bB).g=o.g:=by
  unfold jM;split<;>exact⟨h7,rfl,rfl⟩
 have HC:=Lh (fun(W:World) (hW:Below w.heap.size w W)=>jA S (d+1) W _ o (h.kept (fun b h=>hW.block b (hS b h)) _) hsm (fun b h=>bGA (hS b h) hW.size));rw[hc] at HC;have HD:=Lh (fun(W:World) (hW:Below w.heap.size w W)=>aWX S d W _ o bB (h.kept (fun b h=>hW.block b (hS b h)) _) (fun b h=>bGA (hS b h) hW.size) (.inl h7) hc hsm ht);obtain⟨P,hP⟩:=eX (jM o bB);have hQ:iC o data=.mk 9 P.n P.g data P.keys P.kids:=by
  unfold iC;rw[<-hP,hpk.2.1,hpk.2.2]
 rw[hP] at HD hpk;rw[hQ] at hcs hss ⊢;have HSO:=Lh (show∀(W:World) (S':Nat->Prop) (p1:Option Addr) (n1 c1:Nat) (p2:Option Addr) (n2 c2:Nat),(∀b,S' b->b<W.heap.size)->aI S' (d+1) W (aB 9 P.n P.g data (.slice p1 n1 c1) (.slice p2 n2 c2)) (.mk 9 P.n P.g data P.keys P.kids) ->
  Calls prog 94 #[.agg #[.int .i64 9,.int .i64 P.n,.int .i64 P.g,.string ⟨data.toArray⟩,.slice p1 n1 c1,.slice p2 n2 c2]] W (fun e w'=>e=.returned (.tuple #[.agg #[.int .i64 9,.int .i64 P.n,.int .i64 P.g,.string ⟨data.toArray⟩,.slice p1 n1 c1,.slice p2 n2 c2],.int .i64 0])/\Below W.heap.size W w')
  from fun W S' p1 n1 c1 p2 n2 c2 hS' ho=>aWU S' (d+1) W (.mk 9 P.n P.g data P.keys P.kids) p1 p2 n1 c1 n2 c2 ho hss hS' hcs)
 have hkP:P.kind=7:=hpk.1;obtain⟨p1,n1,c1,p2,n2,c2,rfl⟩:=h.shape;unfold aB bB at HD;unfold aB at HC;unfold vY at HD;rw[hkP] at HD;rw[h7] at HC HD;unfold aB;rw[h7];clear h hS h7 hc hd hsm ht hcs hss hpk hP hQ;go_enter func61,ntmps61
 go_upto_region 1 with fail
 obtain⟨w0,hw0⟩:=eX (((w.alloc (.cells #[.int .i64 7,.int .i64 o.n,.int .i64 o.g,.string ⟨o.s.toArray⟩,.slice p1 n1 c1,.slice p2 n2 c2] 31)).alloc (.cells #[.int .i64 0,.int .i64 0,.int .i64 0,.string ⟨#[]⟩,.slice none 0 0,.slice none 0 0] 31)));rw[hw0];have A0:w0.heap[w.heap.size]?=some (.cells #[.int .i64 7,.int .i64 o.n,.int .i64 o.g,.string ⟨o.s.toArray⟩,.slice p1 n1 c1,.slice p2 n2 c2] 31 (0,0)):=by
  exact q359
 have A1:w0.heap[w.heap.size+1]?=some (.cells #[.int .i64 0,.int .i64 0,.int .i64 0,.string ⟨#[]⟩,.slice none 0 0,.slice none 0 0] 31 (0,0)):=by
  exact q413
 have hbw:Below w.heap.size w w0:=q150;have hz0:w0.heap.size=w.heap.size+2:=q151;clear hw0;obtain⟨b0,b1,b2,b3,b4,b5,bf⟩:=aD A0;go_wp2_with fail;refine(HC.out _ hbw).mono ?_;rintro e w1 ⟨rfl,hb1⟩;have A0:=(hb1.block _ oM).trans A0;have A1:=(hb1.block _ oM).trans A1;have hbw:=hbw.trans (hb1.mono hbw.size);have hz1:=hb1.size;clear hb1 b0 b1 b2 b3 b4 b5 bf;obtain⟨b0,b1,b2,b3,b4,b5,bf⟩:=aD A0;go_wp2_with fail;refine(HD.out _ hbw).mono ?_;rintro e w2 ⟨q1,g1,q2,g2,rfl,hO2,hb2⟩;have A1:=(hb2.block _ oM).trans A1;have hbw:=hbw.trans (hb2.mono hbw.size);have hz2:=hb2.size;clear hb2 b0 b1 b2 b3 b4 b5 bf A0;go_upto_region 9 with fail
 obtain⟨w4,hw4⟩:=eX (w2.alloc (.cells #[.int .i64 9,.int .i64 P.n,.int .i64 P.g,.string ⟨data.toArray⟩,.slice q1 P.keys.length g1,.slice q2 P.kids.length g2] 31));obtain⟨gb,hgb⟩:=eX (w2.heap.size);have hb4:Below w2.heap.size w2 w4:=by rw[<-hw4];exact bel
 have Y4:w4.heap[gb]?=some (.cells #[.int .i64 9,.int .i64 P.n,.int .i64 P.g,.string ⟨data.toArray⟩,.slice q1 P.keys.length g1,.slice q2 P.kids.length g2] 31 (0,0)):=by rw[<-hw4];exact aA _ _ _ hgb.symm
 rw[hw4];simp only[hgb];have hz4:w4.heap.size=gb+1:=by rw[<-hw4,<-hgb];simp
 have hbw4:Below w.heap.size w w4:=hbw.trans (hb4.mono hbw.size);have hOQ:aI (fun b=>w1.heap.size<=b/\b<gb) (d+1) w4 (aB 9 P.n P.g data (.slice q1 P.keys.length g1) (.slice q2 P.kids.length g2)) (.mk 9 P.n P.g data P.keys P.kids):=by
  have h1:=aI.streamed (P:=P) (hkP.symm▸hO2) P.n P.g data;exact h1.grow (fun b k1 k2=>⟨⟨k1,oM⟩,hb4.block b k2⟩)
 have A1:=(hb4.block _ oM).trans A1;have HS4:=Lh (HSO.out w4 _ q1 P.keys.length g1 q2 P.kids.length g2 (fun b hb=>oM) hOQ);have HOQ:=Lh hOQ;clear hw4 hb4 hO2 hbw hOQ;obtain⟨b0,b1,b2,b3,b4,b5,bf⟩:=aD Y4;go_wp2_with fail;refine HS4.out.mono ?_;rintro e w6 ⟨rfl,hb6⟩;have A1:=(hb6.block _ oM).trans A1;have hz6:=hb6.size;have hbw6:=hbw4.trans (hb6.mono hbw4.size);clear b0 b1 b2 b3 b4 b5 bf Y4 HS4;obtain⟨z0,z1,z2,z3,z4,z5,zf⟩:=aD A1;go_wp2;obtain⟨w9,hw9⟩:=eX (((((((w6.setCell ⟨w.heap.size+1,0,none⟩ (.int .i64 9)).setCell ⟨w.heap.size+1,1,none⟩ (.int .i64 P.n)).setCell ⟨w.heap.size+1,2,none⟩ (.int .i64 P.g)).setCell ⟨w.heap.size+1,3,none⟩ (.string ⟨data.toArray⟩)).setCell ⟨w.heap.size+1,4,none⟩ (.slice q1 P.keys.length g1)).setCell ⟨w.heap.size+1,5,none⟩ (.slice q2 P.kids.length g2)));rw[hw9];have sg9:=bA w6 (w.heap.size+1) 0 1 2 3 4 5 (.int .i64 9) (.int .i64 P.n) (.int .i64 P.g) (.string ⟨data.toArray⟩) (.slice q1 P.keys.length g1) (.slice q2 P.kids.length g2);have Z:=cL (v0:=.int .i64 9) (v1:=.int .i64 P.n) (v2:=.int .i64 P.g) (v3:=.string ⟨data.toArray⟩) (v4:=.slice q1 P.keys.length g1) (v5:=.slice q2 P.kids.length g2) A1;rw[hw9] at sg9 Z;have hbw9:Below w.heap.size w w9:=hbw6.grown sg9 hbw6.size (fun k h=>q153);clear hw9 z0 z1 z2 z3 z4 z5 zf;obtain⟨s0,s1,s2,s3,s4,s5,sf⟩:=aD Z
 refine bGN (v:=.tuple #[.agg #[.int .i64 9,.int .i64 P.n,.int .i64 P.g,.string ⟨data.toArray⟩,.slice q1 P.keys.length g1,.slice q2 P.kids.length g2],.int .i64 0]) (by simp[results,results61,go_sem,s0,s1,s2,s3,s4,s5]) rfl ⟨q1,g1,q2,g2,rfl,HOQ.out.grow (fun b h1 h2=>⟨oM,(sg9.block b oM (fun e=>q168)).trans (hb6.block b h2)⟩),hbw9⟩
theorem aQN(s:ByteArray)(a n:Nat):s.extract a (a+n)=⟨((s.data.toList.drop a).take n).toArray⟩:=by
 apply ByteArray.ext
 simp[ByteArray.data_extract,List.extract_eq_drop_take,<-Array.toList_inj]
theorem aIZ(a b c:Int)(x:ByteArray)(p1 p2:Option Addr)(n1 c1 n2 c2:Nat)(w:World):Calls prog 60 #[.agg #[.int .i64 a,.int .i64 b,.int .i64 c,.string x,.slice p1 n1 c1,.slice p2 n2 c2],.int .i64 0] w fun e w'=>e=.returned (.agg #[.int .i64 a,.int .i64 b,.int .i64 c,.string x,.slice p1 n1 c1,.slice p2 n2 c2])/\Below w.heap.size w w':=by
 go_enter func60,ntmps60
 go_wp2_with(go_at_call 28;(with_reducible refine(cC _ _).mono ?_);rintro e w9 ⟨rfl,h9⟩;obtain rfl:=h9.symm)
 refine bGN (v:=.agg #[.int .i64 a,.int .i64 b,.int .i64 c,.string x,.slice p1 n1 c1,.slice p2 n2 c2]) (by simp[results,results60,go_sem]) rfl ⟨rfl,bel⟩
theorem bBO{o:Ob}{n:Int}(h:aEV o=.good n):0<=n:=by
 unfold aEV at h;split at h
 ·cases h
 ·split at h
  ·split at h
   ·cases h;assumption
   ·cases h
  ·cases h
def bED(d:Nat)(w:World)(r:Nat)(s:ByteArray)(R:Res (Ob×L))(e:Ending)(w':World):Prop:=Bes r w w'/\match R with
 |.good (o,aP)=>(∃p1 n1 c1 p2 n2 c2,e=.returned (.agg #[.int .i64 o.kind,.int .i64 o.n,.int .i64 o.g,.string ⟨o.s.toArray⟩,.slice p1 n1 c1,.slice p2 n2 c2])/\aI (fun b=>w.heap.size<=b) d w' (aB o.kind o.n o.g o.s (.slice p1 n1 c1) (.slice p2 n2 c2)) o)/\∃q,q<=s.size/\aP=s.data.toList.drop q/\RdY w' r s q
 |.bad k=>e=.panicked [{ v:=.iface 109 (.agg #[.int .i64 k]),recovered:=false }]
structure StI (w W:World) (r:Nat) (o:Ob) (p1 p2:Option Addr) (n1 c1 n2 c2:Nat):Prop where
 bes:Bes r w W
 c0:W.heap[w.heap.size]?=some (.cells #[.int .i64 o.kind,.int .i64 o.n,.int .i64 o.g,.string ⟨o.s.toArray⟩,.slice p1 n1 c1,.slice p2 n2 c2] 31 (0,0))
 c1':W.heap[w.heap.size+1]?=some (.cells #[.int .i64 0,.int .i64 0,.int .i64 0,.string ⟨#[]⟩,.slice none 0 0,.slice none 0 0] 31 (0,0))
theorem StI.step{w W W':World}{r:Nat}{o:Ob}{p1 p2:Option Addr}{n1 c1 n2 c2:Nat}(h:StI w W r o p1 p2 n1 c1 n2 c2)(hb:Bes r W W')(hr:r<w.heap.size):StI w W' r o p1 p2 n1 c1 n2 c2 :=
 ⟨h.bes.trans hb,(hb.block _ (bGJ h.c0) oM).trans h.c0,(hb.block _ (bGJ h.c1') oM).trans h.c1'⟩
theorem yY(r q:Nat)(w:World):Bes r w (w.drewN q):=Bes.of_below (aN (bGL _ _) q)
theorem aJA(r:Nat)(s:ByteArray)(a:Nat)(ha:a<=s.size)(hs:s.size<=140737488355327)(m:Int)(w:World)(hm:aF w m)(hr:RdY w r s a)(hrm:r≠1)(S:Nat->Prop)(d:Nat)(p1 p2:Option Addr)(n1 c1 n2 c2:Nat)(o:Ob)(h:aI S (d+1) w (aB o.kind o.n o.g o.s (.slice p1 n1 c1) (.slice p2 n2 c2)) o)(hS:∀b,S b->b<w.heap.size/\b≠r)
 (h7:o.kind=7) (hc:aT 24 o=0) (hsm:cE (d+1) o) (ht:cN (d+1) o) (len:Int) :
 Calls prog 32 #[.pointer (some ⟨r,0,none⟩),.agg #[.int .i64 o.kind,.int .i64 o.n,.int .i64 o.g,.string ⟨o.s.toArray⟩,.slice p1 n1 c1,.slice p2 n2 c2],.int .i64 len] w (bED (d+1) w r s (iV o len (s.data.toList.drop a))):=by
 have hlt:=hr.lt;have HLI:=Lh (fun W (hmW:aF W m) (hrW:RdY W r s a)=>aWS r s a ha hs m W hmW hrW hrm);have HWD:=Lh (fun q (hq:q<=s.size) W (hmW:aF W m) (hrW:RdY W r s q) x=>aEX r s q hq hs m W hmW hrW hrm x);have HOW:=Lh (fun W (hb:Bes r w W)=>bBM S (d+1) W p1 p2 n1 c1 n2 c2 o (h.kept (fun b h=>hb.block b (hS b h).1 (hS b h).2) _) ht (fun b h=>bGA (hS b h).1 hb.size));have HST:=Lh (fun W (hb:Bes r w W) data (hd:data.length<=1048576)=>aIY S d W _ o data (h.kept (fun b h=>hb.block b (hS b h).1 (hS b h).2) _) (fun b h=>bGA (hS b h).1 hb.size) h7 hc hd hsm ht);unfold aB at HST;clear h hS h7 hc hsm ht;obtain⟨RV,hRV⟩:=eX (iV o len (s.data.toList.drop a));rw[hRV];unfold iV at hRV;obtain⟨R1,hR1⟩:=eX (wC (s.data.toList.drop a));rw[hR1] at HLI hRV;have HRV:=Lh hRV;clear hRV hR1;go_enter func32,ntmps32
 go_upto_region 1 with fail
 obtain⟨w0,hw0⟩:=eX (((w.alloc (.cells #[.int .i64 o.kind,.int .i64 o.n,.int .i64 o.g,.string ⟨o.s.toArray⟩,.slice p1 n1 c1,.slice p2 n2 c2] 31)).alloc (.cells #[.int .i64 0,.int .i64 0,.int .i64 0,.string ⟨#[]⟩,.slice none 0 0,.slice none 0 0] 31)));have hb0:Below w.heap.size w w0:=q150;have HI0:Hid (StI w w0 r o p1 p2 n1 c1 n2 c2):=Lh ⟨Bes.of_below hb0,by rw[<-hw0,bGM _ _ _ sI];exact aA _ _ _ rfl,by rw[<-hw0];exact aA _ _ _ sI⟩;rw[hw0];clear hw0;go_wp2_with fail;refine(HLI.out w0 (hm.below hb0) (hr.below hb0)).mono ?_;rintro e w1 ⟨hb1,h1⟩;have HI1:=Lh (HI0.out.step hb1 hlt);have hm1:aF w1 m:=(hm.below hb0).bes hb1 hrm;clear hb1 HI0 HLI;cases R1 with
 |bad k =>
  have HRE:=Lh (show RV=.bad k from HRV.out.symm);obtain rfl:=h1;go_wp2;exact⟨rfl,HI1.out.bes,q161⟩
 |good aP =>
  obtain⟨rfl,q,hq,rfl,hr1⟩:=h1;obtain⟨RL,hRL⟩:=eX (bBJ o len);have HRV2:=HRV.out;dsimp only at HRV2;rw[hRL] at HRV2;have HRV:=Lh HRV2;have HR1:=Lh hr1;clear HRV2 hr1 hr hm ha hb0;unfold bBJ at hRL;by_cases hneg:len<0
  ·rw[bGV hneg] at hRL;have dn:decide (len<0)=true:=bGI hneg;obtain⟨b0,b1,b2,b3,b4,b5,bf⟩:=aD HI1.out.c0;have HO1:=Lh (hRL▸HOW.out w1 HI1.out.bes);have HGE:=Lh (fun n (h:RL=.good n)=>bBO (hRL.trans h));clear hRL hneg HOW;go_wp2_with fail;refine HO1.out.mono ?_;rintro e w2 ⟨hb2,h2⟩;have HI2:=Lh (HI1.out.step (Bes.of_below hb2) hlt);have HR2:=Lh (HR1.out.below hb2);have hm2:=hm1.below hb2;clear hb2 HI1 HR1 hm1 HO1 b0 b1 b2 b3 b4 b5 bf dn;cases RL with
   |bad k =>
    have HRE:=Lh (show RV=.bad k from HRV.out.symm);obtain rfl:=h2;go_wp2;exact⟨rfl,HI2.out.bes,q161⟩
   |good n =>
    obtain rfl:=h2;have hn0:=HGE.out n rfl;exact q564
  ·rw[bGU hneg] at hRL;have dn:decide (len<0)=false:=bGH hneg;obtain rfl:=hRL;obtain⟨w2,rfl⟩:∃w2,w2=w1:=⟨_,rfl⟩
   have HI2:=HI1;have HR2:=HR1;have hm2:=hm1;obtain⟨n,rfl⟩:∃n,n=len:=⟨_,rfl⟩
   have hn0:0<=n:=oM;clear hneg HOW HI1 HR1 hm1;exact q564
theorem aBJ(p:Addr)(w:World):Calls prog 26 #[.nilIface,.pointer (some p)] w fun e w'=>e=.returned (.tuple #[])/\w'=w:=by
 go_enter func26,ntmps26
 exact q418
theorem sK{w:World}{b:Nat}{t:TypeId}{u0 u1 u2 u3 u4 u5 u6 u7:Value}(h:w.heap[b]?=some (.cells #[u0,u1,u2,u3,u4,u5,u6,u7] t (0,0)))(v0 v1 v2 v3 v4 v5 v6 v7:Value) :
 ((((((((w.setCell ⟨b,0,none⟩ v0).setCell ⟨b,1,none⟩ v1).setCell ⟨b,2,none⟩ v2).setCell ⟨b,3,none⟩ v3).setCell ⟨b,4,none⟩ v4).setCell ⟨b,5,none⟩ v5).setCell ⟨b,6,none⟩ v6).setCell ⟨b,7,none⟩ v7).heap[b]?=some (.cells #[v0,v1,v2,v3,v4,v5,v6,v7] t (0,0)):=by
 rw[aC (aC (aC (aC (aC (aC (aC (aC h)))))))];exact q390
theorem fI{w:World}{b:Nat}{t:TypeId}{v0 v1 v2 v3 v4 v5 v6 v7:Value}(h:w.heap[b]?=some (.cells #[v0,v1,v2,v3,v4,v5,v6,v7] t (0,0))) :
 w.cell? ⟨b,0,none⟩=some v0/\w.cell? ⟨b,1,none⟩=some v1/\w.cell? ⟨b,2,none⟩=some v2/\w.cell? ⟨b,3,none⟩=some v3/\w.cell? ⟨b,4,none⟩=some v4/\w.cell? ⟨b,5,none⟩=some v5/\w.cell? ⟨b,6,none⟩=some v6/\w.cell? ⟨b,7,none⟩=some v7/\∀o,w.frozen? ⟨b,o,none⟩=false:=by
 exact q374
theorem eP{w:World}{b:Nat}{t:TypeId}{v:Value}(h:w.heap[b]?=some (.cells #[v] t (0,0))):w.cell? ⟨b,0,none⟩=some v/\w.frozen? ⟨b,0,none⟩=false:=by
 exact q374
structure mN (w:World) (b:Nat) (v0 v1 v2 v3 v4 v5 v6 v7 vn ve:Value):Prop where
 c0:w.heap[b]?=some (.cells #[v0,v1,v2,v3,v4,v5,v6,v7] 52 (0,0))
 c1:w.heap[b+1]?=some (.cells #[vn] 3 (0,0))
 c2:w.heap[b+2]?=some (.cells #[ve] 24 (0,0))
theorem mN.step{r:Nat}{w w':World}{b:Nat}{v0 v1 v2 v3 v4 v5 v6 v7 vn ve:Value}(h:mN w b v0 v1 v2 v3 v4 v5 v6 v7 vn ve)(hb:Bes r w w')(hr:r<b\/b+2<r):mN w' b v0 v1 v2 v3 v4 v5 v6 v7 vn ve :=
 ⟨(hb.block _ (bGJ h.c0) oM).trans h.c0,(hb.block _ (bGJ h.c1) oM).trans h.c1,(hb.block _ (bGJ h.c2) oM).trans h.c2⟩
theorem tM(pe pi pn:Addr)(w:World)(hc:w.cell? pe=some (.int .i64 0)) :
 CallsD prog 25 #[.pointer (some pe),.pointer (some pi),.pointer (some pn)] .returning w fun e u' w'=>e=.returned (.tuple #[])/\u'=.returning/\w'=w:=by
 refine callsD_of_wpS func25 rfl fun c₀ cs hu=>?_
 simp only[ntmps25,List.size_toArray,bHA,List.length_nil,Nat.reduceAdd,Nat.reduceSub,Array.replicate_succ,Array.replicate_zero,List.push_toArray,List.append_toArray,List.nil_append,List.cons_append];apply wpS_seq
 apply wpS_region
 simp[wpOpsS,go_sem,recoverD,hu,ntmps25,Exit.thenS];refine(aBJ _ _).mono ?_;rintro e w' ⟨rfl,rfl⟩;refine wpS_of_wp ?_;go_wp2;exact q558
theorem aBK(b:Nat)(k y:Int)(w:World)(h:w.heap[b]?=some (.cells #[.int .i64 y] 24 (0,0))) :
 Calls prog 26 #[.iface 109 (.agg #[.int .i64 k]),.pointer (some ⟨b,0,none⟩)] w fun e w'=>e=.returned (.tuple #[])/\w'.heap[b]?=some (.cells #[.int .i64 k] 24 (0,0))/\Bes b w w':=by
 have hta:∀(x:Int) (w:World),(Instr.typeAssert (.iface 109 (.agg #[.int .i64 x])) 20 109 true).run prog w=.ok (.tuple #[.agg #[.int .i64 x],.bool true]) w:=fun _ _=>kR
 obtain⟨c0,f0⟩:=eP h;have hlt:=bGJ h;have hne:¬b=w.heap.size:=oM;go_enter func26,ntmps26
 go_wp2;go_end0
 refine⟨rfl,?_,((Bes.refl b w).setCell _ _).alloc _⟩;rw[bGM _ _ _ (by simpa[World.setCell] using hlt),aC h];rfl
theorem aBL(b:Nat)(k:Int)(hk:k≠0)(v0 v1 v2 v3 v4 v5 v6 v7:Value)(n y:Int)(older:List PanicEntry)(w:World)(h:mN w b v0 v1 v2 v3 v4 v5 v6 v7 (.int .i64 n) (.int .i64 y)) :
 CallsD prog 25 #[.pointer (some ⟨b+2,0,none⟩),.pointer (some ⟨b,0,none⟩),.pointer (some ⟨b+1,0,none⟩)] (.panicking ({ v:=.iface 109 (.agg #[.int .i64 k]),recovered:=false }::older)) w fun e u' w' =>
  e=.returned (.tuple #[])/\u'=.panicking ({ v:=.iface 109 (.agg #[.int .i64 k]),recovered:=true }::older)/\Below b w w'/\mN w' b (.int .i64 0) (.int .i64 0) (.int .i64 0) (.int .i64 0) (.int .i64 0) (.string ⟨#[]⟩) (.slice none 0 0) (.slice none 0 0) (.int .i64 0) (.int .i64 k):=by
 have hdk:(k !=0)=true:=q93;have HC:=Lh (aBK (b+2) k y w h.c2);have H:=Lh h;clear h hk;refine callsD_of_wpS func25 rfl fun c₀ cs hu=>?_
 simp only[ntmps25,List.size_toArray,bHA,List.length_nil,Nat.reduceAdd,Nat.reduceSub,Array.replicate_succ,Array.replicate_zero,List.push_toArray,List.append_toArray,List.nil_append,List.cons_append];apply wpS_seq
 apply wpS_region
 simp[wpOpsS,go_sem,recoverD,hu,ntmps25,Exit.thenS];refine HC.out.mono ?_;rintro e w1 ⟨rfl,h2,hb⟩;have c0:=(hb.block b (bGJ H.out.c0) oM).trans H.out.c0;have c1:=(hb.block (b+1) (bGJ H.out.c1) oM).trans H.out.c1;have hl2:=bGJ H.out.c2;have hB:=Lh (show Below b w w1 from⟨hb.os,hb.tape,hb.output,hb.size,fun j hj=>hb.block j oM oM⟩);clear hb HC;have C0:=Lh c0;have C1:=Lh c1;have C2:=Lh h2;have q2:=(eP h2).1;obtain⟨q1,f1⟩:=eP c1;obtain⟨b0,b1,b2,b3,b4,b5,b6,b7,bf⟩:=fI c0;clear c0 c1 h2;refine wpS_of_wp ?_;go_wp2;have Z0:=sK C0.out (.int .i64 0) (.int .i64 0) (.int .i64 0) (.int .i64 0) (.int .i64 0) (.string ⟨#[]⟩) (.slice none 0 0) (.slice none 0 0);obtain⟨w8,hw8⟩:=eX (((((((((w1.setCell ⟨b,0,none⟩ (.int .i64 0)).setCell ⟨b,1,none⟩ (.int .i64 0)).setCell ⟨b,2,none⟩ (.int .i64 0)).setCell ⟨b,3,none⟩ (.int .i64 0)).setCell ⟨b,4,none⟩ (.int .i64 0)).setCell ⟨b,5,none⟩ (.string ⟨#[]⟩)).setCell ⟨b,6,none⟩ (.slice none 0 0)).setCell ⟨b,7,none⟩ (.slice none 0 0)));have hO8:∀j,j≠b->w8.heap[j]?=w1.heap[j]?:=fun j hj=>by
  rw[<-hw8];iterate 8 rw[bGK _ _ _ _ (by show j≠b;exact hj)]
 have hB8:Below b w w8:=by
  rw[<-hw8];iterate 8 refine Below.setCell ?_ (bGB b) _
  exact hB.out
 rw[hw8] at Z0;rw[hw8];clear hw8 b0 b1 b2 b3 b4 b5 b6 b7 bf q1 q2 f1;obtain⟨w9,hw9⟩:=eX (w8.setCell ⟨b+1,0,none⟩ (.int .i64 0));have HF:Below b w w9/\mN w9 b (.int .i64 0) (.int .i64 0) (.int .i64 0) (.int .i64 0) (.int .i64 0) (.string ⟨#[]⟩) (.slice none 0 0) (.slice none 0 0) (.int .i64 0) (.int .i64 k):=by
  rw[<-hw9];refine⟨hB8.setCell (Nat.le_succ _) _,(bGK _ _ _ _ (by show b≠b+1;omega)).trans Z0,?_,(bGK _ _ _ _ (by show b+2≠b+1;omega)).trans ((hO8 _ oM).trans C2.out)⟩;rw[aC ((hO8 _ oM).trans C1.out)];rfl
 rw[hw9];clear hw9 hO8 hB8 Z0 C0 C1 C2 hB H;exact q558
end Go.Proofs.YtdjpkgccakgkbaaGreatDoor
