/- Parts of the proof: FiD FiE FiG CxA CxB CxC. -/
import Derived.Test.YtdjpkgccakgkbaaGreatDoorPeFiC
import Derived.Test.YtdjpkgccakgkbaaGreatDoorPem
set_option linter.all false
set_option maxRecDepth 100000
set_option maxHeartbeats 8000000
section
variable{p:Prop}
theorem q222(h:p:=by rw[<-HR.out];unfold oB;rw[hRF];simp only[HE.out.1,HE.out.2.1,HE.out.2.2,if_true,Bool.false_eq_true,if_false]):p:=h
theorem q223(h:p:=by rw[HRE.out,hX];rfl):p:=h
theorem q224(h:p:=by rw[HN.out];exact hkN):p:=h
theorem q225(h:p:=by rw[<-hx,bGX,bGE hkl];rfl):p:=h
theorem q226(h:p:=by exact congrArg (fun z=>Value.slice (some ⟨z,0,none⟩) 1 1) (show wr.heap.size+1=(wr.alloc _).heap.size from(World.size_alloc ..).symm)):p:=h
theorem q227(h:p:=by rw[hacc.out,HS.out.2]):p:=h
theorem q228(h:p:=by rw[IntWalk.i64_in _ oM];omega):p:=h
theorem q229(h:p:=by (with_reducible refine(HX.out _).mono ?_);rintro e w9 ⟨rfl,hb⟩;exact⟨rfl,HBr.out.trans ((iX (by first|exact HB0.out|exact HB0.out.drew|exact HB0.out.drew.drew|exact HB0.out.drew.drew.drew) hb).mono HBr.out.size),.inr rfl⟩):p:=h
theorem q230(h:p:=by first|exact HB0.out|exact HB0.out.drew|exact HB0.out.drew.drew|exact HB0.out.drew.drew.drew):p:=h
theorem q231(h:p:=by (with_reducible refine(HY.out _).mono ?_);rintro e w9 ⟨rfl,hb⟩;exact⟨rfl,HBr.out.trans ((iX (by first|exact HB0.out|exact HB0.out.drew|exact HB0.out.drew.drew|exact HB0.out.drew.drew.drew) hb).mono HBr.out.size),.inr rfl⟩):p:=h
theorem q232(h:p:=by show w.heap.size≠w.heap.size+1+1;omega):p:=h
theorem q233(h:p:=by show w.heap.size+1≠w.heap.size+1+1;omega):p:=h
theorem q234(h:p:=by first|exact HK.out.bel|exact HK.out.bel.drew|(have hb:=HK.out.bel;have hz:=hb.size;exact bel)):p:=h
theorem q235(h:p:=by simp[results,results36,go_sem,r0,r1,r2,r3,r4,rf]):p:=h
theorem q236(h:p:=by rw[<-hw7,bGK _ _ _ _ (by show b≠w.heap.size+1+1;omega)]):p:=h
theorem q282(h:p:=by
 go_wp2_with fail;have hq:=bGJ HK.out.st;refine(HG.out _ _ HK.out.bel).mono ?_;rintro e w1 ⟨hb1,k5,m5,g5,s5,q5,r5,t5,qq5,rr5,tt5,l5,b5,d5,rfl,hR1,hl5,hm5⟩;replace HK:=Lh (HK.out.below hb1);clear o0 o1 o2 o3 o4 o5 of;obtain⟨o0,o1,o2,o3,o4,o5,of⟩:=aD HK.out.ob;go_upto_region 20 with fail
 obtain⟨w2,hw2⟩:=eX (w1.alloc (.cells #[.int .i64 k5,.int .i64 m5,.int .i64 g5,.string s5,.slice q5 r5 t5,.slice qq5 rr5 tt5] 31));rw[hw2];have hb2:Below w1.heap.size w1 w2:=q171;have hY5:w2.heap[w1.heap.size]?=some (.cells #[.int .i64 k5,.int .i64 m5,.int .i64 g5,.string s5,.slice q5 r5 t5,.slice qq5 rr5 tt5] 31 (0,0)):=q176;have HR5:=Lh (cF.grow (S':=fun b=>w.heap.size+1+1<b/\b<w2.heap.size) (w':=w2) hR1 (fun b h _=>⟨⟨q155,bGA h.2 hb2.size⟩,hb2.block b h.2⟩));replace HK:=Lh (HK.out.below hb2);have HGR:=Lh (fun(v:Value) (PR:List (Nat×Nat)) (h:fZ (w.heap.size+1+1+1) _ v PR)=>fZ.grow (B':=w.heap.size+1+1+1) (w':=w2) (fZ.grow (w':=w1) h (bGB _) hb1.size (fun b _ h=>hb1.block b h)) (bGB _) hb2.size (fun b _ h=>hb2.block b h));clear hq hw2 hR1 hb1 hb2 o0 o1 o2 o3 o4 o5 of;obtain⟨o0,o1,o2,o3,o4,o5,of⟩:=aD HK.out.ob;obtain⟨y0,y1,y2,y3,y4,y5,yf⟩:=aD hY5;have HP:=Lh (HGR.out _ _ HP.out);clear HGR;cases b5 with
 |false =>
  go_upto_region 22 with fail
  clear y0 y1 y2 y3 y4 y5 yf hY5 HR5;clear o0 o1 o2 o3 o4 o5 of;obtain⟨x0,x1,x2,x3,x4,xf⟩:=HK.out.five;obtain⟨r0,r1,r2,r3,r4,rf⟩:=HK.out.refive;have hq:=bGJ HK.out.st;go_wp2_with fail;refine bGN (v:=.agg #[.int .i64 a0,.int .i64 a1,.int .i64 a2,(.slice pp pn pc),.int .i64 (-1)]) q235 rfl ?_;refine⟨?_,.inl ⟨a0,a1,a2,(.slice pp pn pc),PR,(-1),rfl,HA.out.1,HA.out.2.1,HA.out.2.2,dC,dC,?_,HPI.out⟩⟩
  ·have hb:=HK.out.bel;exact bel
  ·refine HP.out.grow (B':=w.heap.size) oM q18 (fun b hb _=>?_);iterate 5 rw[bGK _ _ _ _ q105]
 |true =>
  go_upto_region 21 with fail
  go_wp2_with fail;refine(jT _ _ _ _ _ _ _ _ _ _ _ _).mono ?_;rintro e w6 ⟨hb6,⟨hc6,rfl⟩|⟨hc6,rfl⟩⟩;rotate_left
  ·replace HK:=Lh (HK.out.below hb6);exact⟨rfl,q234,.inr rfl⟩
  replace HK:=Lh (HK.out.below hb6);have HP:=Lh (HP.out.grow (B':=w.heap.size+1+1+1) (w':=w6) (bGB _) hb6.size (fun b _ h=>hb6.block b h));have HC:=Lh hc6.2;clear y0 y1 y2 y3 y4 y5 yf hY5 HR5 hb6 hc6 o0 o1 o2 o3 o4 o5 of;obtain⟨x0,x1,x2,x3,x4,xf⟩:=HK.out.five;go_upto_region 22 with fail
  obtain⟨w7,hw7⟩:=eX (w6.setCell ⟨w.heap.size+1+1,4,none⟩ (.int .i64 m5));rw[hw7];have HK:=Lh (show nH w w7 #[.int .i64 o.kind,.int .i64 o.n,.int .i64 o.g,.string ⟨o.s.toArray⟩,.slice p1 n1 c1,.slice p2 n2 c2] #[.int .i64 a0,.int .i64 a1,.int .i64 a2,(.slice pp pn pc),.int .i64 m5] by rw[<-hw7];exact HK.out.set 4 _);have HP:=Lh (HP.out.grow (B':=w.heap.size+1+1+1) (w':=w7) (bGB _) (by rw[<-hw7];simp[World.setCell]) (fun b h _=>q236));clear hw7 x0 x1 x2 x3 x4 xf;have o0:=trivial;have o1:=trivial;have o2:=trivial;have o3:=trivial;have o4:=trivial;have o5:=trivial;have of:=trivial;clear o0 o1 o2 o3 o4 o5 of;obtain⟨x0,x1,x2,x3,x4,xf⟩:=HK.out.five;obtain⟨r0,r1,r2,r3,r4,rf⟩:=HK.out.refive;have hq:=bGJ HK.out.st;go_wp2_with fail;refine bGN (v:=.agg #[.int .i64 a0,.int .i64 a1,.int .i64 a2,(.slice pp pn pc),.int .i64 m5]) q235 rfl ?_;refine⟨?_,.inl ⟨a0,a1,a2,(.slice pp pn pc),PR,m5,rfl,HA.out.1,HA.out.2.1,HA.out.2.2,by have:=HC.out.1;omega,HC.out.2,?_,HPI.out⟩⟩
  ·have hb:=HK.out.bel;exact bel
  ·refine HP.out.grow (B':=w.heap.size) oM q18 (fun b hb _=>?_);iterate 5 rw[bGK _ _ _ _ q105]):p:=h
theorem q300(h:p:=by
 have HRow:=Lh hrow;have HBr:=Lh hbr;by_cases h5:x.kind=5
 ·have dk:(x.kind==5)=true:=q136;obtain⟨n1,n2⟩:=aGB hkl (by rw[hx2];exact h5) hall;have HS:=Lh (bGQ n1 n2);rw[hx2] at HS;clear h5 hx hxm s1 O1 hR hkl n1 n2 hx2 hrow hbr;go_wp2_with fail;refine(dD _ _).mono ?_;rintro e w2 ⟨rfl,h2⟩;obtain rfl:=h2.symm;have HRow2:=Lh (show aG uJ 9 (wr.alloc (.cells #[.int .i64 x.kind,.int .i64 x.n,.int .i64 x.g,.string ⟨x.s.toArray⟩,.slice q1 m1 e1,.slice q2 m2 e2] 31)) W7.heap.size (.slice vp acc.length vc) acc from HRow.out.below (Below.alloc (bGL _ _) (bGB _) _));have HBr2:=Lh (show Below W7.heap.size W7 (wr.alloc (.cells #[.int .i64 x.kind,.int .i64 x.n,.int .i64 x.g,.string ⟨x.s.toArray⟩,.slice q1 m1 e1,.slice q2 m2 e2] 31)) from Below.alloc HBr.out HBr.out.size _);have hz2:=HBr2.out.size;go_wp2_with(at_builtin;go_must (refine eE (E:=uJ) rfl _ _ rfl underlying28 Tryz.infoStF rfl dC dC W7.heap.size _ acc x.s HRow2.out rfl q226 oM oM ?_);intro g6 q6 w6 hr6 hb6 hz6 hg6 hor6)
  go_roundw
  case rel=>exact⟨k+1,acc++[x.s],oM,q12,HS.out.1,Lh q227,q196,hr6,HBr2.out.trans (hb6.mono (bGB _))⟩
  all_goals (simp[intOf];omega)
 ·have dk:(x.kind==5)=false:=q136;have HRE:=Lh (show V=.bad 10 from by rw[<-HV.out];exact aKD hkl (by rw[hx2];exact h5));clear h5 hx hxm s1 O1 hR hkl hx2 hrow hbr;go_wp2_with fail;refine(mC _ _).mono ?_;rintro e w2 ⟨rfl,h2⟩;obtain rfl:=h2.symm;have hb:=HB7.out.trans (HBr.out.mono HB7.out.size);have hz:=hb.size;refine⟨rfl,?_⟩;exact⟨bel,q161⟩):p:=h
theorem q333(h:p:=by
 have h2:=HH2.out;rw[hX] at h2;obtain rfl:=h2;go_wp2_with fail;go_ret2
 exact⟨HB2.out,q223⟩):p:=h
theorem q367(h:p:=by
 go_enter func64,ntmps64
 go_wp2_with(go_at_call 63;(with_reducible refine(iL _).mono ?_);rintro e w9 ⟨rfl,h9⟩;obtain rfl:=h9.symm)
 exact⟨rfl,rfl,bel⟩):p:=h
theorem q379(h:p:=by
 have HB1:=Lh (show Below w.heap.size w w1 from bHE bel (hb1.mono sI));clear hb1 HG hO;go_wp2_with fail;refine(mC _ _).mono ?_;rintro e w2 ⟨rfl,h2⟩;obtain rfl:=h2.symm;have hb:=HB1.out;have hz:=hb.size;refine⟨rfl,?_⟩;exact⟨bel,q161⟩):p:=h
theorem q381(h:p:=by
 go_wp2_with fail;go_ret
 have hb:=HB7.out.trans (hbr.mono HB7.out.size);refine⟨hb,?_⟩;have:=hacc.out;rw[bHC (bGD HN.out)] at this hall;rw[<-HV.out,aKE hall,<-this];exact⟨_,rfl,hrow.low HB7.out.size⟩):p:=h
theorem q387(h:p:=by
 go_wp2_with(go_at_call 63;(with_reducible refine(iL _).mono ?_);rintro e w9 ⟨rfl,h9⟩;obtain rfl:=h9.symm)
 exact⟨rfl,q234,.inr rfl⟩):p:=h
theorem q411(h:p:=by
 have HB1:=Lh (show Below w.heap.size w w1 from bHE bel (hb1.mono sI));clear hb1;go_wp2_with fail;go_ret2
 have hb:=HB1.out;have hz:=hb.size;exact⟨bel,q215⟩):p:=h
theorem q429(h:p:=by
 go_wp2_with(go_at_call 63;(with_reducible refine(iL _).mono ?_);rintro e w9 ⟨rfl,h9⟩;obtain rfl:=h9.symm)
 exact⟨rfl,(by have hb:=HBx.out;exact bel),.inr rfl⟩):p:=h
theorem q440(h:p:=by
 have hb:=HB1.out;have hz:=hb.size;exact bel):p:=h
theorem q455(h:p:=by
 go_wp2_with(go_at_call 63;(with_reducible refine(iL _).mono ?_);rintro e w9 ⟨rfl,h9⟩;obtain rfl:=h9.symm)
 exact⟨rfl,bel,.inr rfl⟩):p:=h
theorem q460(h:p:=by
 clear HD;go_wp2_with fail;go_ret
 have hb:=HB1.out;have hz:=hb.size;exact⟨by rw[<-HV.out];simp[hd0,hd1],bel⟩):p:=h
theorem q473(h:p:=by exact(World.cell?_alloc_lt (a:=⟨b,0,none⟩) _ _ hlt).trans hc):p:=h
theorem q479(h:p:=by
 cases hd:d-1 with
 |zero=>rw[hd] at this;exact this.elim
 |succ e=>rw[hd] at this;exact this.2.1):p:=h
theorem q488(h:p:=by
 obtain rfl:=h2;go_wp2_with fail;go_ret2
 exact⟨HB2.out,q215⟩):p:=h
theorem q501(h:p:=by exact⟨0,[],bGF _,rfl,rfl,Lh rfl,bGB _,bF _ _,bGL _ _⟩):p:=h
theorem q527(h:p:=by refine⟨?_,?_,?_,?_,?_,fun o=>?_⟩<;>simp[World.cell?,World.frozen?,hh]):p:=h
theorem q534(h:p:=by
 replace HK:=Lh (HK.out.below hb3);exact⟨rfl,q234,.inr rfl⟩):p:=h
theorem q554(h:p:=by all_goals (simp[intOf];try omega)):p:=h
end
namespace Go.Proofs.YtdjpkgccakgkbaaGreatDoor
open Go.Proofs.Tryz
open Go.RowKit Fo
structure fX (w:World) (r:Nat):Prop where
 rep:iK w r
 ord:iQ w r
 pow:kS w r
theorem fX.below{w w':World}{r:Nat}(h:fX w r)(hb:Below r w w'):fX w' r:=⟨h.rep.below hb,h.ord.below hb,h.pow.below hb⟩
theorem fX.low{w:World}{r r':Nat}(h:fX w r)(hr:r<=r')(hl:r'<=w.heap.size):fX w r':=⟨h.rep.low hr hl,h.ord.low hr hl,h.pow.low hr hl⟩
theorem fX.next{w w':World}(h:fX w w.heap.size)(hb:Below w.heap.size w w'):fX w' w'.heap.size:=(h.below hb).low hb.size (bGB _)
theorem bCX(w:World)(name:L)(p:Pm)(s:L)(hs:s.length<=1000000000)(htab:fX w w.heap.size) :
 Calls prog 68 #[.string ⟨name.toArray⟩,.agg #[.int .i64 p.pred,.int .i64 p.colors,.int .i64 p.columns],.string ⟨s.toArray⟩] w (gL w (oB name p s)):=by
 have HBY:=Lh (fun W=>bET W name p);have hsf:∀(m:Mode) (ad:Addr) (fn:Fn) (f c:Array Value) (w:World),(store ad (.func fn f c) m).run prog w=stored prog w ad (.func fn f c) m:=fun m ad fn f c w=>run_store prog w ad _ m rfl
 have hsn:∀(m:Mode) (ad:Addr) (w:World),(store ad .nilFunc m).run prog w=stored prog w ad .nilFunc m:=fun m ad w=>run_store prog w ad _ m rfl
 obtain⟨a,b,c⟩:=p;dsimp only at HBY ⊢;obtain⟨R,hR⟩:=eX (oB name ⟨a,b,c⟩ s);have HR:=Lh hR;rw[hR];clear hR;obtain⟨RF,hRF⟩:=eX (iR name);cases RF with
 |none =>
  have HRE:=Lh (show R=.bad 15 from by rw[<-HR.out];unfold oB;rw[hRF]);have HBY2:=Lh (fun W=>(HBY.out W).mono (R':=fun e w'=>e=.returned (.tuple #[.agg #[.nilFunc,.nilFunc],.int .i64 15])/\Below W.heap.size W w') (by
   rintro e w' ⟨h1,h2⟩;rw[hRF] at h2;exact⟨h2,h1⟩))
  clear HBY HR hRF;go_enter func68,ntmps68
  go_wp2_with fail;refine(HBY2.out _).mono ?_;rintro e w1 ⟨rfl,hb1⟩;exact q411
 |some f =>
  obtain⟨t1,e1⟩:∃t,(f==pF)=t:=⟨_,rfl⟩
  obtain⟨t3,e3⟩:∃t,(f==lI)=t:=⟨_,rfl⟩
  obtain⟨t5,e5⟩:∃t,(f==pG)=t:=⟨_,rfl⟩
  have HE:=Lh (bGQ e1 (bGQ e3 e5));clear e1 e3 e5;cases t1 with
  |true =>
   have HUP:=Lh (fun(W:World) (hW:Below w.heap.size w W) b (hb:W.cell? ⟨b,0,none⟩=some (.func (.func 148) #[] #[]))=>bFN W s b hs hb);have HRE:=Lh (show R=lF s 1048576 from q222);have HBY2:=Lh (fun W=>(HBY.out W).mono (R':=fun e w'=>Below W.heap.size W w'/\∃fn fs cs b,e=.returned (.tuple #[.agg #[.func fn fs cs,.func (.func 192) #[] #[.pointer (some ⟨b,0,none⟩)]],.int .i64 0])/\b<w'.heap.size/\w'.cell? ⟨b,0,none⟩=some (.func (.func 148) #[] #[])) (by
    rintro e w' ⟨h1,h2⟩;rw[hRF] at h2;simp only[HE.out.1,HE.out.2.1,HE.out.2.2,if_true,Bool.false_eq_true,if_false] at h2;exact⟨h1,h2⟩))
   clear HBY HR hRF htab HE hs;go_enter func68,ntmps68
   go_wp2_with fail;refine(HBY2.out _).mono ?_;rintro e w1 ⟨hb1,fn,fs,cs,b,rfl,hlt,hc⟩;have HB1:=Lh (show Below w.heap.size w w1 from bHE bel (hb1.mono sI));clear hb1;go_wp2_with fail;refine(HUP.out _ ?_ _ ?_).mono ?_
   ·exact q440
   ·exact q473
   rintro e w2 ⟨hb2,h2⟩;have hb:=HB1.out;have hz:=hb.size;have HB2:=Lh (show Below w.heap.size w w2 from bHE bel (hb2.mono sO));have HH2:=Lh h2;clear h2 hb2 hb;cases hX:lF s 1048576 with
   |bad k =>
    exact q333
   |good t =>
    exact q333
  |false =>
   cases t3 with
   |true =>
    have HUP:=Lh (fun(W:World) (hW:Below w.heap.size w W) b (hb:W.cell? ⟨b,0,none⟩=some (.func (.func 150) #[] #[]))=>bES W s b hs (htab.next hW).pow hb);have HRE:=Lh (show R=iD s 1048576 from q222);have HBY2:=Lh (fun W=>(HBY.out W).mono (R':=fun e w'=>Below W.heap.size W w'/\∃fn fs cs b,e=.returned (.tuple #[.agg #[.func fn fs cs,.func (.func 192) #[] #[.pointer (some ⟨b,0,none⟩)]],.int .i64 0])/\b<w'.heap.size/\w'.cell? ⟨b,0,none⟩=some (.func (.func 150) #[] #[])) (by
     rintro e w' ⟨h1,h2⟩;rw[hRF] at h2;simp only[HE.out.1,HE.out.2.1,HE.out.2.2,if_true,Bool.false_eq_true,if_false] at h2;exact⟨h1,h2⟩))
    clear HBY HR hRF htab HE hs;go_enter func68,ntmps68
    go_wp2_with fail;refine(HBY2.out _).mono ?_;rintro e w1 ⟨hb1,fn,fs,cs,b,rfl,hlt,hc⟩;have HB1:=Lh (show Below w.heap.size w w1 from bHE bel (hb1.mono sI));clear hb1;go_wp2_with fail;refine(HUP.out _ ?_ _ ?_).mono ?_
    ·exact q440
    ·exact q473
    rintro e w2 ⟨hb2,h2⟩;have hb:=HB1.out;have hz:=hb.size;have HB2:=Lh (show Below w.heap.size w w2 from bHE bel (hb2.mono sO));have HH2:=Lh h2;clear h2 hb2 hb;cases hX:iD s 1048576 with
    |bad k =>
     exact q333
    |good t =>
     exact q333
   |false =>
    cases t5 with
    |true =>
     have HUP:=Lh (fun(W:World) (hW:Below w.heap.size w W) b (hb:W.cell? ⟨b,0,none⟩=some (.func (.func 152) #[] #[]))=>bFO W s b hs hb);have HRE:=Lh (show R=lG s 1048576 from q222);have HBY2:=Lh (fun W=>(HBY.out W).mono (R':=fun e w'=>Below W.heap.size W w'/\∃fn fs cs b,e=.returned (.tuple #[.agg #[.func fn fs cs,.func (.func 192) #[] #[.pointer (some ⟨b,0,none⟩)]],.int .i64 0])/\b<w'.heap.size/\w'.cell? ⟨b,0,none⟩=some (.func (.func 152) #[] #[])) (by
      rintro e w' ⟨h1,h2⟩;rw[hRF] at h2;simp only[HE.out.1,HE.out.2.1,HE.out.2.2,if_true,Bool.false_eq_true,if_false] at h2;exact⟨h1,h2⟩))
     clear HBY HR hRF htab HE hs;go_enter func68,ntmps68
     go_wp2_with fail;refine(HBY2.out _).mono ?_;rintro e w1 ⟨hb1,fn,fs,cs,b,rfl,hlt,hc⟩;have HB1:=Lh (show Below w.heap.size w w1 from bHE bel (hb1.mono sI));clear hb1;go_wp2_with fail;refine(HUP.out _ ?_ _ ?_).mono ?_
     ·exact q440
     ·exact q473
     rintro e w2 ⟨hb2,h2⟩;have hb:=HB1.out;have hz:=hb.size;have HB2:=Lh (show Below w.heap.size w w2 from bHE bel (hb2.mono sO));have HH2:=Lh h2;clear h2 hb2 hb;cases hX:lG s 1048576 with
     |bad k =>
      exact q333
     |good t =>
      exact q333
    |false =>
     have HUP:=Lh (fun(W:World) (hW:Below w.heap.size w W)=>aRW W ⟨a,b,c⟩ s hs (htab.rep.next hW) (htab.ord.next hW));dsimp only at HUP;have HRE:=Lh (show R=if fY ⟨a,b,c⟩ then pX ⟨a,b,c⟩ s else .bad 1 from by rw[<-HR.out];unfold oB;rw[hRF];simp only[HE.out.1,HE.out.2.1,HE.out.2.2,Bool.false_eq_true,if_false]);obtain⟨RX,hRX⟩:=eX (pX ⟨a,b,c⟩ s);rw[hRX] at HUP HRE;have HBY2:=Lh (fun W=>(HBY.out W).mono (R':=fun e w'=>Below W.heap.size W w'/\∃fn fs cs,e=.returned (.tuple #[.agg #[.func fn fs cs,.func (.func 154) #[.agg #[.int .i64 a,.int .i64 b,.int .i64 c]] #[]],.int .i64 (if fY ⟨a,b,c⟩ then 0 else 1)])) (by
      rintro e w' ⟨h1,h2⟩;rw[hRF] at h2;simp only[HE.out.1,HE.out.2.1,HE.out.2.2,Bool.false_eq_true,if_false] at h2;exact⟨h1,h2⟩))
     clear HBY HR hRF htab HE hs hRX;cases hM:fY ⟨a,b,c⟩ with
     |true =>
      rw[hM] at HBY2 HRE;simp only[if_true] at HBY2 HRE;clear hM;go_enter func68,ntmps68
      go_wp2_with fail;refine(HBY2.out _).mono ?_;rintro e w1 ⟨hb1,fn,fs,cs,rfl⟩;have HB1:=Lh (show Below w.heap.size w w1 from bHE bel (hb1.mono sI));clear hb1;go_wp2_with fail;refine(HUP.out _ ?_).mono ?_
      ·exact q440
      rintro e w2 ⟨hb2,h2⟩;have hb:=HB1.out;have hz:=hb.size;have HB2:=Lh (show Below w.heap.size w w2 from bHE bel (hb2.mono sO));clear hb2 hb;cases RX with
      |bad k =>
       exact q488
      |good t =>
       exact q488
     |false =>
      rw[hM] at HBY2 HRE;simp only[Bool.false_eq_true,if_false] at HBY2 HRE;clear hM;go_enter func68,ntmps68
      go_wp2_with fail;refine(HBY2.out _).mono ?_;rintro e w1 ⟨hb1,fn,fs,cs,rfl⟩;exact q411
theorem dD(w:World)(e:Int):Calls prog 96 #[.bool true,.int .i64 e] w fun r w'=>r=.returned (.tuple #[])/\w'=w:=by
 go_enter func96,ntmps96
 go_wp2_with fail;go_end0
 exact⟨rfl,rfl⟩
theorem mC(w:World)(k:Int):Calls prog 96 #[.bool false,.int .i64 k] w fun r w'=>r=.panicked [{ v:=.iface 161 (.agg #[.int .i64 k]),recovered:=false }]/\w'=w:=by
 go_enter func96,ntmps96
 go_wp2_with fail;exact q436
def aNE:L:=[80,114,101,100,105,99,116,111,114]
def uX:L:=[67,111,108,111,114,115]
def aNF:L:=[67,111,108,117,109,110,115]
def aFZ:L:=[66,105,116,115,80,101,114,67,111,109,112,111,110,101,110,116]
def xA:L:=[68,101,99,111,100,101,80,97,114,109,115]
def rL:L:=[70,105,108,116,101,114]
def bR(o:Ob)(key:L):Res Int:=match fE o key with
 |none=>.good 1
 |some v=>if v.kind=2 then .good v.n else .bad 10
def dW(o:Ob):Bool:=match fE o aFZ with
 |none=>true
 |some v=>v.kind==2&&v.n==8
theorem zT{S:Nat->Prop}{d:Nat}{w:World}{cs:List Value}{o:Ob}(h:aI S d w cs o):∃e,d=e+1:=by
 exact q545
theorem rM(S:Nat->Prop)(d:Nat)(w:World)(cs:List Value)(o:Ob)(key:L)(h:aI S d w cs o)(ht:cN d o)(hS:∀b,S b->b<w.heap.size) :
 Calls prog 46 #[.agg cs.toArray,.string ⟨key.toArray⟩] w (eY (d-1) w (fE o key)):=by
 obtain⟨e,rfl⟩:=zT h;exact qS S e w cs o key h ht hS
def bCY(w:World)(R:Res Int)(e:Ending)(w':World):Prop:=Below w.heap.size w w'/\match R with
 |.good n=>e=.returned (.int .i64 n)
 |.bad k=>e=.panicked [{ v:=.iface 161 (.agg #[.int .i64 k]),recovered:=false }]
theorem aKC(S:Nat->Prop)(d:Nat)(w:World)(p1 p2:Option Addr)(n1 c1 n2 c2:Nat)(o:Ob)(h:aI S d w (aB o.kind o.n o.g o.s (.slice p1 n1 c1) (.slice p2 n2 c2)) o)(ht:cN d o)(hS:∀b,S b->b<w.heap.size)(key:L):Calls prog 189 #[.agg #[.int .i64 o.kind,.int .i64 o.n,.int .i64 o.g,.string ⟨o.s.toArray⟩,.slice p1 n1 c1,.slice p2 n2 c2],.string ⟨key.toArray⟩] w (bCY w (bR o key)):=by
 have HG:=Lh (fun(W:World) (hW:Below w.heap.size w W)=>rM S d W _ o key (h.kept (fun b h=>hW.block b (hS b h)) d) ht (fun b h=>bGA (hS b h) hW.size));unfold aB at HG;obtain⟨R,hR⟩:=eX (fE o key);obtain⟨V,hV⟩:=eX (bR o key);rw[hV];unfold bR at hV;rw[hR] at hV HG;have HV:=Lh hV;clear hV hR h ht hS;cases R with
 |none =>
  unfold eY at HG;go_enter func189,ntmps189
  go_wp2_with fail;refine(HG.out _ ?_).mono ?_
  ·exact bel
  rintro e w1 ⟨rfl,hb1⟩;have HB1:=Lh (show Below w.heap.size w w1 from bHE bel (hb1.mono sI));clear hb1 HG;go_wp2_with fail;go_ret
  have hb:=HB1.out;have hz:=hb.size;exact⟨bel,by rw[<-HV.out];rfl⟩
 |some v =>
  unfold eY at HG;by_cases hk:v.kind=2
  ·have dk:(v.kind==2)=true:=q93;have HRE:=Lh (show V=.good v.n from by rw[<-HV.out];exact bGV hk);clear HV hk;go_enter func189,ntmps189
   go_wp2_with fail;refine(HG.out _ ?_).mono ?_
   ·exact bel
   rintro e w1 ⟨q1,e1,q2,e2,rfl,hO,hb1⟩;have HB1:=Lh (show Below w.heap.size w w1 from bHE bel (hb1.mono sI));clear hb1 HG hO;go_wp2_with fail;refine(dD _ _).mono ?_;rintro e w2 ⟨rfl,h2⟩;obtain rfl:=h2.symm;go_wp2_with fail;go_ret
   have hb:=HB1.out;have hz:=hb.size;exact⟨bel,q215⟩
  ·have dk:(v.kind==2)=false:=q93;have HRE:=Lh (show V=.bad 10 from by rw[<-HV.out];exact bGU hk);clear HV hk;go_enter func189,ntmps189
   go_wp2_with fail;refine(HG.out _ ?_).mono ?_
   ·exact bel
   rintro e w1 ⟨q1,e1,q2,e2,rfl,hO,hb1⟩;exact q379
theorem aRX(S:Nat->Prop)(d:Nat)(w:World)(p1 p2:Option Addr)(n1 c1 n2 c2:Nat)(o:Ob)(h:aI S d w (aB o.kind o.n o.g o.s (.slice p1 n1 c1) (.slice p2 n2 c2)) o)(ht:cN d o)(hS:∀b,S b->b<w.heap.size):Calls prog 142 #[.agg #[.int .i64 o.kind,.int .i64 o.n,.int .i64 o.g,.string ⟨o.s.toArray⟩,.slice p1 n1 c1,.slice p2 n2 c2]] w (fun e w'=>e=.returned (.bool (dW o))/\Below w.heap.size w w'):=by
 have HG:=Lh (fun(W:World) (hW:Below w.heap.size w W)=>rM S d W _ o aFZ (h.kept (fun b h=>hW.block b (hS b h)) d) ht (fun b h=>bGA (hS b h) hW.size));unfold aB aFZ at HG;obtain⟨R,hR⟩:=eX (fE o aFZ);obtain⟨V,hV⟩:=eX (dW o);rw[hV];unfold dW at hV;have hR2:=hR;unfold aFZ at hR2;rw[hR2] at HG;rw[hR] at hV;have HV:=Lh hV;clear hV hR hR2 h ht hS;cases R with
 |none =>
  unfold eY at HG;go_enter func142,ntmps142
  go_wp2_with fail;refine(HG.out _ ?_).mono ?_
  ·exact bel
  rintro e w1 ⟨rfl,hb1⟩;have HB1:=Lh (show Below w.heap.size w w1 from bHE bel (hb1.mono sI));clear hb1 HG;go_wp2_with fail;go_ret
  have hb:=HB1.out;have hz:=hb.size;exact⟨by rw[<-HV.out];rfl,bel⟩
 |some v =>
  unfold eY at HG;go_enter func142,ntmps142
  go_wp2_with fail;refine(HG.out _ ?_).mono ?_
  ·exact bel
  rintro e w1 ⟨q1,e1,q2,e2,rfl,hO,hb1⟩;have HB1:=Lh (show Below w.heap.size w w1 from bHE bel (hb1.mono sI));clear hb1 HG hO;obtain⟨d0,hd0⟩:=eX ((v.kind==2));obtain⟨d1,hd1⟩:=eX ((v.n==8));have HD:=Lh (bGQ hd0 hd1);cases d0 with
  |true =>
   exact q460
  |false =>
   exact q460
theorem zU(w:World):Calls prog 143 #[] w (fun e w'=>e=.returned (.agg #[.int .i64 1,.int .i64 1,.int .i64 1])/\Below w.heap.size w w'):=by
 go_enter func143,ntmps143
 go_wp2;refine bGN (v:=.agg #[.int .i64 1,.int .i64 1,.int .i64 1]) (by simp[results,results143,go_sem]) rfl ⟨rfl,bel⟩
def sV(l:List Ob):Res (List L):=if l.all (fun x=>x.kind==5) then .good (l.map Ob.s) else .bad 10
def bEU(f:Ob):List Ob:=if f.kind=6 then f.kids else[f]
def aGA(o:Ob):Res (List L):=match fE o rL with
 |none=>.good []
 |some f=>sV (bEU f)
def uJ:Enc L:=⟨1,fun s=>[.string ⟨s.toArray⟩],fun _=>rfl,fun x u hu=>by simp only[List.mem_cons,List.not_mem_nil,or_false] at hu;subst hu;rfl⟩
def bCZ(w:World)(R:Res (List L))(e:Ending)(w':World):Prop:=Below w.heap.size w w'/\match R with
 |.good l=>∃v,e=.returned v/\aG uJ 9 w' w.heap.size v l
 |.bad _=>e=.panicked [{ v:=.iface 161 (.agg #[.int .i64 10]),recovered:=false }]
theorem rN{d:Nat}{o:Ob}(h:cN d o){x:Ob}(hx:x∈o.kids):cN (d-1) x:=by
 cases d with
 |zero=>exact h.elim
 |succ d=>exact h.2.2 x hx
theorem xB{o x:Ob}{k:L}(h:fE o k=some x):x∈o.kids:=by
 unfold fE at h;split at h
 ·split at h
  ·cases h
  ·exact bHG h
 ·cases h
theorem xC{S:Nat->Prop}{d:Nat}{w:World}{p1 p2:Option Addr}{n1 c1 n2 c2:Nat}{o:Ob}(h:aI S d w (aB o.kind o.n o.g o.s (.slice p1 n1 c1) (.slice p2 n2 c2)) o) :
 cF S (d-1) w (.slice p2 n2 c2) o.kids/\n2=o.kids.length:=by
 obtain⟨e,rfl⟩:=zT h;obtain⟨kv,dv,h1,h2,h3⟩:=h;unfold aB at h1;simp only[List.cons.injEq,and_true,true_and] at h1;obtain⟨rfl,rfl⟩:=h1;refine⟨h3,?_⟩;rcases h3 with⟨e0,p,c,h4⟩|⟨b,off,c,h4,_⟩
 ·simp only[Value.slice.injEq] at h4;rw[e0];exact h4.2.1
 ·simp only[Value.slice.injEq] at h4;exact h4.2.1
theorem aNG{S:Nat->Prop}{d:Nat}{w:World}{b:Nat}{t:TypeId}{f:Ob}{kv dv:Value}{c:Nat}(hb:w.heap[b]?=some (.cells (aB f.kind f.n f.g f.s kv dv).toArray t (0,0)))(hS:S b)
 (h:aI S d w (aB f.kind f.n f.g f.s kv dv) f):cF S d w (.slice (some ⟨b,0,none⟩) 1 c) [f]:=by
 refine .inr ⟨b,0,c,rfl,hS,fun i hi=>?_⟩;obtain rfl:i=0:=by simp at hi;omega
 refine⟨_,rfl,fun j hj=>?_,h⟩;simp only[World.cell?,hb];simp[aB] at hj ⊢
theorem Tryz.infoStF:(prog.info? 9).map (fun i=>(i.zero,i.size,i.bytes))=some (some (.string ⟨#[]⟩),1,16):=kR
theorem aGB{l:List Ob}{k:Nat}(hk:k<l.length)(h5:l[k].kind=5)(ha:(l.take k).all (fun x=>x.kind==5)=true):(l.take (k+1)).all (fun x=>x.kind==5)=true/\(l.take (k+1)).map Ob.s=(l.take k).map Ob.s++[l[k].s]:=by
 rw[List.take_succ,bGE hk];refine⟨?_,by rw[List.map_append];rfl⟩;rw[List.all_append,ha];simp[h5]
theorem aKD{l:List Ob}{k:Nat}(hk:k<l.length)(h5:¬l[k].kind=5):sV l=.bad 10:=by
 unfold sV;rw[bGU];intro h;have:=List.all_eq_true.1 h l[k] (bGG hk);exact h5 (by simpa using this)
theorem aKE{l:List Ob}(h:l.all (fun x=>x.kind==5)=true):sV l=.good (l.map Ob.s):=bGV h
theorem cF.some{S:Nat->Prop}{d:Nat}{w:World}{p:Option Addr}{n c:Nat}{l:List Ob}(h:cF S d w (.slice p n c) l)(hn:0<l.length):∃b off,p=some ⟨b,off,none⟩:=by
 rcases h with⟨e,_⟩|⟨b,off,c,e,_⟩
 ·rw[e] at hn;exact absurd hn (Nat.lt_irrefl _)
 ·exact q543
theorem aRY(S:Nat->Prop)(d:Nat)(w:World)(p1 p2:Option Addr)(n1 c1 n2 c2:Nat)(o:Ob)(h:aI S d w (aB o.kind o.n o.g o.s (.slice p1 n1 c1) (.slice p2 n2 c2)) o)(ht:cN d o)(hS:∀b,S b->b<w.heap.size):Calls prog 97 #[.agg #[.int .i64 o.kind,.int .i64 o.n,.int .i64 o.g,.string ⟨o.s.toArray⟩,.slice p1 n1 c1,.slice p2 n2 c2]] w (bCZ w (aGA o)):=by
 have HG:=Lh (fun(W:World) (hW:Below w.heap.size w W)=>rM S d W _ o rL (h.kept (fun b h=>hW.block b (hS b h)) d) ht (fun b h=>bGA (hS b h) hW.size));unfold aB at HG;unfold rL at HG;obtain⟨R,hR⟩:=eX (fE o rL);have HT:=Lh (fun x (hx:R=some x)=>rN ht (xB (hR.trans hx)));obtain⟨V,hV⟩:=eX (aGA o);rw[hV];unfold aGA at hV;rw[hR] at hV;unfold rL at hR;rw[hR] at HG;have HV:=Lh hV;clear hV hR h ht hS;cases R with
 |none =>
  unfold eY at HG;go_enter func97,ntmps97
  go_wp2_with fail;refine(HG.out _ ?_).mono ?_
  ·exact bel
  rintro e w1 ⟨rfl,hb1⟩;have HB1:=Lh (show Below w.heap.size w w1 from bHE bel (hb1.mono sI));clear hb1 HG;go_wp2_with fail;go_ret
  have hb:=HB1.out;have hz:=hb.size;exact⟨bel,by rw[<-HV.out];exact⟨_,rfl,bF _ _⟩⟩
 |some f =>
  unfold eY at HG;have HTF:=Lh (HT.out f rfl);by_cases h6:f.kind=6
  ·have d6:(f.kind==6)=true:=by simpa using h6
   obtain⟨l,hl⟩:=eX (bEU f);have hl2:f.kids=l:=by rw[<-hl];exact(bGV h6).symm
   have HV:=Lh (show sV l=V by rw[<-hl];exact HV.out);clear h6 HT hl;go_enter func97,ntmps97
   go_wp2_with fail;refine(HG.out _ ?_).mono ?_
   ·exact bel
   rintro e w1 ⟨sp,sc,sp2,sc2,rfl,hO,hb1⟩;have HB1:=Lh (show Below w.heap.size w w1 from bHE bel (hb1.mono sI));have HK:=Lh (xC hO).1;clear hb1 HG hO;go_upto_region 7 with fail
   obtain⟨W7,hW7⟩:=eX (((w1.alloc (.cells #[.int .i64 f.kind,.int .i64 f.n,.int .i64 f.g,.string ⟨f.s.toArray⟩,.slice sp f.keys.length sc,.slice sp2 l.length sc2] 31)).alloc (.cells #[.int .i64 f.kind,.int .i64 f.n,.int .i64 f.g,.string ⟨f.s.toArray⟩,.slice sp f.keys.length sc,.slice sp2 l.length sc2] 31)));have hg:Below w1.heap.size w1 W7:=by rw[<-hW7];exact bel
   have HB7:=Lh (HB1.out.trans (hg.mono HB1.out.size));rw[hl2] at HK;have HRW:=Lh (HK.out.grow (S':=fun b=>b<W7.heap.size) (w':=W7) (fun b _ hb=>⟨bGA hb hg.size,hg.block b hb⟩));have hN:l.length<=8192:=by
    have:=HTF.out;rw[<-hl2];exact q479
   obtain⟨N,hN2⟩:=eX (l.length);rw[hW7];rw[hN2] at HRW hN ⊢;have HN:=Lh hN2;clear hW7 hg HK HB1 hN2 HTF d6 hl2;go_wp2_with fail;go_loopw [27,6] (fun i v wr=>∃(k:Nat) (acc:List L),k<=N/\i=.int .i64 k/\(l.take k).all (fun x=>x.kind==5)=true/\Hid (acc=(l.take k).map Ob.s)/\acc.length<=k/\aG uJ 9 wr W7.heap.size v acc/\Below W7.heap.size W7 wr) (fun i _ _=>N-(intOf i).toNat)
   case atStart=>exact q501
   case round =>
    obtain⟨k,acc,hk,rfl,hall,hacc,hal,hrow,hbr⟩:=hrel;obtain⟨vp,vc,rfl⟩:=aH hrow;by_cases hkN:k<N
    ·have hR:=HRW.out.kept (w':=wr) (fun b h=>hbr.block b h);have hkl:k<l.length:=q224;obtain⟨b,off,hsp⟩:=hR.some q157;cases hsp;obtain⟨x,q1,m1,e1,q2,m2,e2,hx,hxm,s1,O1,f0,f1,f2,f3,f4,f5⟩:=eN hR HN.out k hkN;have hx2:l[k]=x:=q225;skip
     exact q300
    ·have hkN2:k=N:=oM;subst hkN2;exact q381
  ·have d6:(f.kind==6)=false:=by simpa using h6
   have HV:=Lh (show sV [f]=V by rw[show[f]=bEU f from(bGU h6).symm];exact HV.out);clear h6 HT;go_enter func97,ntmps97
   go_wp2_with fail;refine(HG.out _ ?_).mono ?_
   ·exact bel
   rintro e w1 ⟨sp,sc,sp2,sc2,rfl,hO,hb1⟩;have HB1:=Lh (show Below w.heap.size w w1 from bHE bel (hb1.mono sI));have HK:=Lh hO;clear hb1 HG hO;go_upto_region 7 with fail
   obtain⟨W7,hW7⟩:=eX (((w1.alloc (.cells #[.int .i64 f.kind,.int .i64 f.n,.int .i64 f.g,.string ⟨f.s.toArray⟩,.slice sp f.keys.length sc,.slice sp2 f.kids.length sc2] 31)).alloc (.cells #[.int .i64 f.kind,.int .i64 f.n,.int .i64 f.g,.string ⟨f.s.toArray⟩,.slice sp f.keys.length sc,.slice sp2 f.kids.length sc2] 31)));have hg:Below w1.heap.size w1 W7:=by rw[<-hW7];exact bel
   have HB7:=Lh (HB1.out.trans (hg.mono HB1.out.size));have HRW:=Lh (aNG (S:=fun b=>b<W7.heap.size) (d:=d-1) (w:=W7) (b:=w1.heap.size+1) (c:=1) (f:=f) (kv:=.slice sp f.keys.length sc) (dv:=.slice sp2 f.kids.length sc2) (by rw[<-hW7];exact heap_alloc2_new w1 _ _) (by rw[<-hW7];simp) (HK.out.grow2 (fun b _ hb=>⟨bGA hb hg.size,hg.block b hb⟩)));have HN:=Lh (show[f].length=1 from rfl);have hN:1<=8192:=dC;rw[hW7];clear hW7 hg HK HB1 HTF d6;obtain⟨l,hl⟩:=eX ([f]);rw[hl] at HRW HN HV;clear hl;go_wp2_with fail;go_loopw [27,6] (fun i v wr=>∃(k:Nat) (acc:List L),k<=1/\i=.int .i64 k/\(l.take k).all (fun x=>x.kind==5)=true/\Hid (acc=(l.take k).map Ob.s)/\acc.length<=k/\aG uJ 9 wr W7.heap.size v acc/\Below W7.heap.size W7 wr) (fun i _ _=>1-(intOf i).toNat)
   case atStart=>exact q501
   case round =>
    obtain⟨k,acc,hk,rfl,hall,hacc,hal,hrow,hbr⟩:=hrel;obtain⟨vp,vc,rfl⟩:=aH hrow;by_cases hkN:k<1
    ·have hR:=HRW.out.kept (w':=wr) (fun b h=>hbr.block b h);have hkl:k<l.length:=q224;obtain⟨b,off,hsp⟩:=hR.some q157;cases hsp;obtain⟨x,q1,m1,e1,q2,m2,e2,hx,hxm,s1,O1,f0,f1,f2,f3,f4,f5⟩:=eN hR HN.out k hkN;have hx2:l[k]=x:=q225;simp only[Nat.zero_add] at f0 f1 f2 f3 f4 f5;exact q300
    ·have hkN2:k=1:=oM;subst hkN2;exact q381
theorem dU(w:World):Calls prog 63 #[.bool true] w fun e w'=>e=.returned (.tuple #[])/\w'=w:=by
 go_enter func63,ntmps63
 exact q418
theorem iL(w:World):Calls prog 63 #[.bool false] w fun e w'=>e=.panicked [{ v:=.iface 120 (.agg #[]),recovered:=false }]/\w'=w:=by
 go_enter func63,ntmps63
 exact q598
theorem aKF(k n g:Int)(s:ByteArray)(p1:Option Addr)(n1 c1:Nat)(p2:Option Addr)(n2 c2:Nat)(most:Int)(hk:k=2)(h0:0<=n)(h1:n<=most)(w:World) :
 Calls prog 64 #[.agg #[.int .i64 k,.int .i64 n,.int .i64 g,.string s,.slice p1 n1 c1,.slice p2 n2 c2],.int .i64 most] w fun e w'=>e=.returned (.int .i64 n)/\Below w.heap.size w w':=by
 subst hk;have d0:decide (0<=n)=true:=bGI h0;have d1:decide (n<=most)=true:=bGI h1;clear h0 h1;go_enter func64,ntmps64
 go_wp2_with(go_at_call 63;(with_reducible refine(dU _).mono ?_);rintro e w9 ⟨rfl,h9⟩;obtain rfl:=h9.symm)
 exact q450
theorem aRZ(k n g:Int)(s:ByteArray)(p1:Option Addr)(n1 c1:Nat)(p2:Option Addr)(n2 c2:Nat)(most:Int)(h:¬(k=2/\0<=n/\n<=most))(w:World) :
 Calls prog 64 #[.agg #[.int .i64 k,.int .i64 n,.int .i64 g,.string s,.slice p1 n1 c1,.slice p2 n2 c2],.int .i64 most] w fun e w'=>e=.panicked [{ v:=.iface 120 (.agg #[]),recovered:=false }]/\Below w.heap.size w w':=by
 by_cases hk:k=2
 ·subst hk;by_cases h0:0<=n
  ·have d0:decide (0<=n)=true:=bGI h0;have d1:decide (n<=most)=false:=bGH (fun h1=>h ⟨rfl,h0,h1⟩);clear h h0;exact q367
  ·have d0:decide (0<=n)=false:=bGH h0;clear h h0;exact q367
 ·have d2:(k==2)=false:=q93;clear h hk;exact q367
def WhO(w:World)(k n most:Int)(e:Ending)(w':World):Prop:=Below w.heap.size w w'/\(((k=2/\0<=n/\n<=most)/\e=.returned (.int .i64 n))\/(¬(k=2/\0<=n/\n<=most)/\e=.panicked [{ v:=.iface 120 (.agg #[]),recovered:=false }]))
theorem jT(k n g:Int)(s:ByteArray)(p1:Option Addr)(n1 c1:Nat)(p2:Option Addr)(n2 c2:Nat)(most:Int)(w:World):Calls prog 64 #[.agg #[.int .i64 k,.int .i64 n,.int .i64 g,.string s,.slice p1 n1 c1,.slice p2 n2 c2],.int .i64 most] w (WhO w k n most):=by
 by_cases h:k=2/\0<=n/\n<=most
 ·exact(aKF k n g s p1 n1 c1 p2 n2 c2 most h.1 h.2.1 h.2.2 w).mono (fun e w' hh=>⟨hh.2,.inl ⟨h,hh.1⟩⟩)
 ·exact(aRZ k n g s p1 n1 c1 p2 n2 c2 most h w).mono (fun e w' hh=>⟨hh.2,.inr ⟨h,hh.1⟩⟩)
theorem xD(k n g:Int)(s:ByteArray)(p1:Option Addr)(n1 c1:Nat)(p2:Option Addr)(n2 c2:Nat)(w:World):Calls prog 65 #[.agg #[.int .i64 k,.int .i64 n,.int .i64 g,.string s,.slice p1 n1 c1,.slice p2 n2 c2]] w fun e w'=>Below w.heap.size w w'/\((k=6/\e=.returned (.slice p2 n2 c2))\/e=.panicked [{ v:=.iface 120 (.agg #[]),recovered:=false }]):=by
 by_cases hk:k=6
 ·subst hk;go_enter func65,ntmps65
  go_wp2_with(go_at_call 63;(with_reducible refine(dU _).mono ?_);rintro e w9 ⟨rfl,h9⟩;obtain rfl:=h9.symm)
  go_ret
  exact⟨bel,.inl ⟨by trivial,rfl⟩⟩
 ·have d2:(k==6)=false:=q93;clear hk;go_enter func65,ntmps65
  exact q455
theorem rO{p:Prop}(h1:Hid False->p)(h2:p):p:=h2
theorem kU(HF:Hid False)(P:Program)(f:FuncId)(args:Array Value)(v:Value){w:World}:Calls P f args w (fun e w'=>e=.returned v/\w'=w):=HF.out.elim
theorem iX{w W w':World}(h1:Below w.heap.size w W)(h2:Below W.heap.size W w'):Below w.heap.size w w':=h1.trans (h2.mono h1.size)
def aNH:Enc (Nat×Nat):=⟨2,fun p=>[.int .i64 p.1,.int .i64 p.2],fun _=>rfl,fun x u hu=>by simp only[List.mem_cons,List.not_mem_nil,or_false] at hu;rcases hu with rfl|rfl<;>rfl⟩
theorem Tryz.infoPr:(prog.info? 124).map (fun i=>(i.zero,i.size,i.bytes))=some (some (.agg #[.int .i64 0,.int .i64 0]),2,16):=kR
def mT:List (Nat×Nat)->Nat
 |[]=>0
 |p::l=>p.2+mT l
theorem tY(l:List (Nat×Nat))(p:Nat×Nat):mT (l++[p])=mT l+p.2:=by
 induction l with
 |nil=>simp[mT]
 |cons a l ih=>simp only[List.cons_append,mT,ih];omega
def oV(l:List (Nat×Nat)):Prop:=mT l<=8192/\(∀p∈l,p.1+p.2<=8192)/\l.length<=8192
def IxO(w:World)(e:Ending)(w':World):Prop:=Below w.heap.size w w'/\((∃v PR,e=.returned v/\aG aNH 124 w' w.heap.size v PR/\oV PR)\/e=.panicked [{ v:=.iface 120 (.agg #[]),recovered:=false }])
theorem aKG(S:Nat->Prop)(d:Nat)(w:World)(p:Option Addr)(n c:Nat)(l:List Ob)(h:cF S d w (.slice p n c) l)(hn:l.length=n)(hb:n<=8192)(hS:∀b,S b->b<w.heap.size) :
 Calls prog 66 #[.slice p n c] w (IxO w):=by
 have HRW:=Lh (cF.grow (S':=fun b=>b<w.heap.size) (w':=w) h (fun b hb _=>⟨hS b hb,rfl⟩));have HN:=Lh hn;clear h hn hS;go_enter func66,ntmps66
 by_cases hev:n % 2=0
 rotate_left
 ·have dm:((n:Int) % 2==0)=false := by
   rw[show(n:Int) % 2=1 by omega];decide
  go_wp2_with(go_at_call 63;(with_reducible refine(iL _).mono ?_);rintro e w9 ⟨rfl,h9⟩;obtain rfl:=h9.symm)
  exact⟨rfl,bGL _ _,.inr rfl⟩
 have dm:((n:Int) % 2==0)=true:=by
  rw[show(n:Int) % 2=0 by omega];decide
 go_wp2_with(go_at_call 63;(with_reducible refine(dU _).mono ?_);rintro e w9 ⟨rfl,h9⟩;obtain rfl:=h9.symm)
 clear dm;go_loopw [3,4,5] (fun v u i wr=>∃(k up:Nat) (acc:List (Nat×Nat)),k<=n/\k % 2=0/\i=.int .i64 k/\u=.int .i64 up/\Hid (mT acc<=up/\∀p∈acc,p.1+p.2<=8192)/\up<=8192/\acc.length<=k/\aG aNH 124 wr w.heap.size v acc/\Below w.heap.size w wr) (fun _ _ i _=>n-(intOf i).toNat)
 case atStart=>exact⟨0,0,[],bGF _,rfl,rfl,rfl,Lh ⟨bGB _,fun p hp=>by simp at hp⟩,bGF _,bGB _,bF _ _,bGL _ _⟩
 case round =>
  obtain⟨k,up,acc,hk,hk2,rfl,rfl,hall,hup,hal,hrow,hbr⟩:=hrel;obtain⟨vp,vc,rfl⟩:=aH hrow;by_cases hkN:k<n
  ·have hR:=HRW.out.kept (w':=wr) (fun b h=>hbr.block b h);obtain⟨b,off,hsp⟩:=hR.some q157;cases hsp;obtain⟨K,hK⟩:=eX (k+1);have hKn:K<n:=oM;obtain⟨x,q1,m1,e1,q2,m2,e2,hx,hxm,s1,O1,f0,f1,f2,f3,f4,f5⟩:=eN hR HN.out k hkN;obtain⟨y,r1,t1,u1,r2,t2,u2,hy,hym,s2,O2,g0,g1,g2,g3,g4,g5⟩:=eN hR HN.out K hKn;have hbl:b<w.heap.size:=s1;have hwK:IntKind.i64.wrap ((k:Int)+1)=(K:Int):=q228;have HRow:=Lh hrow;have HBr:=Lh hbr;have HX:=Lh (fun W=>jT x.kind x.n x.g ⟨x.s.toArray⟩ q1 m1 e1 q2 m2 e2 2147483647 W);have HY:=Lh (fun W=>jT y.kind y.n y.g ⟨y.s.toArray⟩ r1 t1 u1 r2 t2 u2 2147483647 W);have HFA:=Lh (fun(W:World) (hW:Below wr.heap.size wr W)=>show W.cell? ⟨b,off+k*6,none⟩=some (.int .i64 x.kind)/\W.cell? ⟨b,off+k*6+1,none⟩=some (.int .i64 x.n)/\W.cell? ⟨b,off+k*6+2,none⟩=some (.int .i64 x.g)/\W.cell? ⟨b,off+k*6+3,none⟩=some (.string ⟨x.s.toArray⟩)/\W.cell? ⟨b,off+k*6+4,none⟩=some (.slice q1 m1 e1)/\W.cell? ⟨b,off+k*6+5,none⟩=some (.slice q2 m2 e2)/\W.cell? ⟨b,off+K*6,none⟩=some (.int .i64 y.kind)/\W.cell? ⟨b,off+K*6+1,none⟩=some (.int .i64 y.n)/\W.cell? ⟨b,off+K*6+2,none⟩=some (.int .i64 y.g)/\W.cell? ⟨b,off+K*6+3,none⟩=some (.string ⟨y.s.toArray⟩)/\W.cell? ⟨b,off+K*6+4,none⟩=some (.slice r1 t1 u1)/\W.cell? ⟨b,off+K*6+5,none⟩=some (.slice r2 t2 u2) from
    have hh:=hW.block b (by have:=HBr.out.size;omega)
    ⟨(bGO hh).trans f0,(bGO hh).trans f1,(bGO hh).trans f2,(bGO hh).trans f3,(bGO hh).trans f4,(bGO hh).trans f5,(bGO hh).trans g0,(bGO hh).trans g1,(bGO hh).trans g2,(bGO hh).trans g3,(bGO hh).trans g4,(bGO hh).trans g5⟩)
   have HB0:=Lh (bGL wr.heap.size wr);clear hx hxm s1 O1 hy hym s2 O2 hR hrow hbr;by_cases gx:x.kind=2/\0<=x.n/\x.n<=2147483647
   rotate_left
   ·have HX:=Lh (fun W=>(HX.out W).mono (fun e w' h=>show e=.panicked [{ v:=.iface 120 (.agg #[]),recovered:=false }]/\Below W.heap.size W w' from⟨h.2.elim (fun h=>absurd h.1 gx) (fun h=>h.2),h.1⟩));by_cases gy:y.kind=2/\0<=y.n/\y.n<=2147483647
    ·have HY:=Lh (fun W=>(HY.out W).mono (fun e w' h=>show e=.returned (.int .i64 y.n)/\Below W.heap.size W w' from⟨h.2.elim (fun h=>h.2) (fun h=>absurd gy h.1),h.1⟩));clear gx gy;go_upto_region 7 with fail
     go_region_law (first|(go_simp;go_at_call 64;refine rO (fun HF=>?_) q229;(with_reducible refine(kU HF _ _ _ (.int .i64 0)).mono ?_);rintro e w9 ⟨rfl,h9⟩;obtain rfl:=h9.symm)|(go_simp;go_at_call 64;(with_reducible refine(HY.out _).mono ?_);rintro e w7 ⟨rfl,hb⟩;replace HB0:Hid (Below wr.heap.size wr w7):=Lh (iX q230 hb);clear hb f0 f1 f2 f3 f4 f5 g0 g1 g2 g3 g4 g5;(obtain⟨f0,f1,f2,f3,f4,f5,g0,g1,g2,g3,g4,g5⟩:=HFA.out w7 HB0.out)))
     all_goals exact q392
    ·have HY:=Lh (fun W=>(HY.out W).mono (fun e w' h=>show e=.panicked [{ v:=.iface 120 (.agg #[]),recovered:=false }]/\Below W.heap.size W w' from⟨h.2.elim (fun h=>absurd h.1 gy) (fun h=>h.2),h.1⟩));clear gx gy;go_upto_region 7 with fail
     go_region_law (first|(go_simp;go_at_call 64;refine rO (fun HF=>?_) q229;(with_reducible refine(kU HF _ _ _ (.int .i64 0)).mono ?_);rintro e w9 ⟨rfl,h9⟩;obtain rfl:=h9.symm)|(go_simp;go_at_call 64;refine rO (fun HF=>?_) q231;(with_reducible refine(kU HF _ _ _ (.int .i64 0)).mono ?_);rintro e w9 ⟨rfl,h9⟩;obtain rfl:=h9.symm))
     all_goals exact q392
   have HX:=Lh (fun W=>(HX.out W).mono (fun e w' h=>show e=.returned (.int .i64 x.n)/\Below W.heap.size W w' from⟨h.2.elim (fun h=>h.2) (fun h=>absurd gx h.1),h.1⟩));by_cases gy:y.kind=2/\0<=y.n/\y.n<=2147483647
   rotate_left
   ·have HY:=Lh (fun W=>(HY.out W).mono (fun e w' h=>show e=.panicked [{ v:=.iface 120 (.agg #[]),recovered:=false }]/\Below W.heap.size W w' from⟨h.2.elim (fun h=>absurd h.1 gy) (fun h=>h.2),h.1⟩));clear gx gy;go_upto_region 7 with fail
    go_region_law (first|(go_simp;go_at_call 64;refine rO (fun HF=>?_) q231;(with_reducible refine(kU HF _ _ _ (.int .i64 0)).mono ?_);rintro e w9 ⟨rfl,h9⟩;obtain rfl:=h9.symm)|(go_simp;go_at_call 64;(with_reducible refine(HX.out _).mono ?_);rintro e w7 ⟨rfl,hb⟩;replace HB0:Hid (Below wr.heap.size wr w7):=Lh (iX q230 hb);clear hb f0 f1 f2 f3 f4 f5 g0 g1 g2 g3 g4 g5;(obtain⟨f0,f1,f2,f3,f4,f5,g0,g1,g2,g3,g4,g5⟩:=HFA.out w7 HB0.out)))
    all_goals exact q392
   obtain⟨fi,hfi⟩:∃fi:Nat,x.n=fi:=⟨x.n.toNat,by have:=gx.2.1;omega⟩
   obtain⟨ma,hma⟩:∃ma:Nat,y.n=ma:=⟨y.n.toNat,by have:=gy.2.1;omega⟩
   have hfm:fi<=2147483647/\ma<=2147483647:=⟨by have:=gx.2.2;omega,by have:=gy.2.2;omega⟩;have HX:=Lh (fun W=>(HX.out W).mono (fun e w' h=>show e=.returned (.int .i64 fi)/\Below W.heap.size W w' from⟨by rw[<-hfi];exact h.1,h.2⟩));have HY:=Lh (fun W=>(HY.out W).mono (fun e w' h=>show e=.returned (.int .i64 ma)/\Below W.heap.size W w' from⟨by rw[<-hma];exact h.2.elim (fun h=>h.2) (fun h=>absurd gy h.1),h.1⟩));clear gx gy hfi hma;go_upto_region 7 with fail
   go_region_held3 (fun w'=>w'.cell? ⟨b,off+k*6,none⟩=some (.int .i64 x.kind)/\w'.cell? ⟨b,off+k*6+1,none⟩=some (.int .i64 x.n)/\w'.cell? ⟨b,off+k*6+2,none⟩=some (.int .i64 x.g)/\w'.cell? ⟨b,off+k*6+3,none⟩=some (.string ⟨x.s.toArray⟩)/\w'.cell? ⟨b,off+k*6+4,none⟩=some (.slice q1 m1 e1)/\w'.cell? ⟨b,off+k*6+5,none⟩=some (.slice q2 m2 e2)/\w'.cell? ⟨b,off+K*6,none⟩=some (.int .i64 y.kind)/\w'.cell? ⟨b,off+K*6+1,none⟩=some (.int .i64 y.n)/\w'.cell? ⟨b,off+K*6+2,none⟩=some (.int .i64 y.g)/\w'.cell? ⟨b,off+K*6+3,none⟩=some (.string ⟨y.s.toArray⟩)/\w'.cell? ⟨b,off+K*6+4,none⟩=some (.slice r1 t1 u1)/\w'.cell? ⟨b,off+K*6+5,none⟩=some (.slice r2 t2 u2)) (go_keep) (first|(go_at_call 64;(with_reducible refine(HX.out _).mono ?_);rintro e w7 ⟨rfl,hb⟩;replace HB0:Hid (Below wr.heap.size wr w7):=Lh (iX q230 hb);clear hb f0 f1 f2 f3 f4 f5 g0 g1 g2 g3 g4 g5;(obtain⟨f0,f1,f2,f3,f4,f5,g0,g1,g2,g3,g4,g5⟩:=HFA.out w7 HB0.out))|(go_at_call 64;(with_reducible refine(HY.out _).mono ?_);rintro e w7 ⟨rfl,hb⟩;replace HB0:Hid (Below wr.heap.size wr w7):=Lh (iX q230 hb);clear hb f0 f1 f2 f3 f4 f5 g0 g1 g2 g3 g4 g5;(obtain⟨f0,f1,f2,f3,f4,f5,g0,g1,g2,g3,g4,g5⟩:=HFA.out w7 HB0.out)))
   have hz0:=HB0.out.size;have HBx:=Lh (HBr.out.trans (HB0.out.mono (show w.heap.size<=wr.heap.size from HBr.out.size)));have hz1:=HBx.out.size;have HRow2:=Lh (HRow.out.below HB0.out);clear HRow HBr HB0 HFA HX HY f0 f1 f2 f3 f4 f5 g0 g1 g2 g3 g4 g5;obtain⟨sm,hsm⟩:=eX (fi+ma);have hws:IntKind.i64.wrap ((fi:Int)+(ma:Int))=(sm:Int):=q228;by_cases h1:up<=fi
   rotate_left
   ·have d1:decide (up<=fi)=false:=bGH oM;clear h1;exact q429
   have d1:decide (up<=fi)=true:=bGI oM;by_cases h2:sm<=8192
   rotate_left
   ·have d2:decide ((sm:Int)<=8192)=false:=bGH oM;have d2':decide (sm<=8192)=false:=bGH oM;clear h1 h2;exact q429
   have d2:decide ((sm:Int)<=8192)=true:=bGI oM;have d2':decide (sm<=8192)=true:=bGI oM;go_wp2_with(first|(go_at_call 63;(with_reducible refine(dU _).mono ?_);rintro e w9 ⟨rfl,h9⟩;obtain rfl:=h9.symm)|(at_builtin;go_must (refine eE (E:=aNH) rfl _ _ rfl underlying88 Tryz.infoPr rfl dC dC w.heap.size _ acc (fi,ma) HRow2.out rfl rfl oM oM ?_);intro g6 q6 w6 hr6 hb6 hz6 hg6 hor6))
   go_roundw
   case rel=>exact⟨k+2,sm,acc++[(fi,ma)],oM,oM,q12,rfl,Lh ⟨by rw[tY];have:=hall.out.1;simp only;omega,fun p hp=>by
    rcases List.mem_append.1 hp with hp|hp
    ·exact hall.out.2 p hp
    ·obtain rfl:=List.mem_singleton.1 hp;simp only;omega⟩,oM,q196,hr6,HBx.out.trans (hb6.mono (bGB _))⟩
   all_goals (simp[intOf];omega)
  ·have hkN2:k=n:=oM;subst hkN2;go_wp2_with fail;go_ret
   exact⟨hbr,.inl ⟨_,acc,rfl,hrow,bGC hall.out.1 hup,hall.out.2,oM⟩⟩
def fZ(B:Nat)(w:World)(v:Value)(PR:List (Nat×Nat)):Prop:=∃p c,v=.slice p PR.length c/\∀j (hj:j<PR.length),∃g off,p=some ⟨g,off,none⟩/\B<=g/\g<w.heap.size /\
 w.cell? ⟨g,off+j*2,none⟩=some (.int .i64 PR[j].1)/\w.cell? ⟨g,off+j*2+1,none⟩=some (.int .i64 PR[j].2)
theorem fZ.grow{B B':Nat}{w w':World}{v:Value}{PR:List (Nat×Nat)}(h:fZ B w v PR)(hB:B'<=B)(hz:w.heap.size<=w'.heap.size)(hk:∀b,B<=b->b<w.heap.size->w'.heap[b]?=w.heap[b]?):fZ B' w' v PR:=by
 obtain⟨p,c,e,h⟩:=h;refine⟨p,c,e,fun j hj=>?_⟩;obtain⟨g,off,h1,h2,h3,h4,h5⟩:=h j hj;have hh:=hk g h2 h3;exact⟨g,off,h1,oM,oM,(bGO hh).trans h4,(bGO hh).trans h5⟩
theorem fZ.of_row{t:TypeId}{w:World}{B:Nat}{v:Value}{PR:List (Nat×Nat)}(h:aG aNH t w B v PR):fZ B w v PR:=by
 obtain⟨p,c,e,h2⟩:=aG.arg h;refine⟨p,c,e,fun j hj=>?_⟩;obtain⟨g,off,h3,h4,h5⟩:=h2 j hj;exact⟨g,off,h3,aK h g (by rw[e,h3];rfl),h4,h5 0 _ rfl,h5 1 _ rfl⟩
theorem fZ.one{w:World}{g c a b:Nat}{t:TypeId}{fr:Nat×Nat}(h:w.heap[g]?=some (.cells #[.int .i64 a,.int .i64 b] t fr)):fZ g w (.slice (some ⟨g,0,none⟩) 1 c) [(a,b)]:=by
 refine⟨_,c,rfl,fun j hj=>?_⟩;obtain rfl:j=0:=by simp at hj;omega
 refine⟨g,0,rfl,bGB _,(Array.getElem?_eq_some_iff.1 h).1,?_,?_⟩<;>simp[World.cell?,h]
def GxO(w:World)(e:Ending)(w':World):Prop:=Below w.heap.size w w'/\∃(k n g:Int) (s:ByteArray) (p1:Option Addr) (n1 c1:Nat) (p2:Option Addr) (n2 c2:Nat) (l:List Ob) (b:Bool) (d:Nat),
 e=.returned (.tuple #[.agg #[.int .i64 k,.int .i64 n,.int .i64 g,.string s,.slice p1 n1 c1,.slice p2 n2 c2],.bool b])/\cF (fun b=>w.heap.size<=b/\b<w'.heap.size) d w' (.slice p2 n2 c2) l/\l.length=n2/\n2<=8192
theorem bEV(S:Nat->Prop)(d:Nat)(w:World)(p1 p2:Option Addr)(n1 c1 n2 c2:Nat)(o:Ob)(h:aI S d w (aB o.kind o.n o.g o.s (.slice p1 n1 c1) (.slice p2 n2 c2)) o)(ht:cN d o)(hS:∀b,S b->b<w.heap.size)(key:ByteArray):Calls prog 46 #[.agg #[.int .i64 o.kind,.int .i64 o.n,.int .i64 o.g,.string ⟨o.s.toArray⟩,.slice p1 n1 c1,.slice p2 n2 c2],.string key] w (GxO w):=by
 have HG:=rM S d w _ o key.data.toList h ht hS;unfold aB at HG;have hT:=fun x (hx:fE o key.data.toList=some x)=>rN ht (xB hx)
 refine Calls.mono HG ?_;intro e w' hh;cases hg:fE o key.data.toList with
 |none =>
  rw[hg] at hh;obtain⟨rfl,hb⟩:=hh;exact⟨hb,0,0,0,⟨#[]⟩,none,0,0,none,0,0,[],false,0,rfl,.inl ⟨rfl,_,_,rfl⟩,rfl,dC⟩
 |some x =>
  rw[hg] at hh;obtain⟨p1,c1,p2,c2,rfl,hO,hb⟩:=hh;refine⟨hb,x.kind,x.n,x.g,⟨x.s.toArray⟩,p1,_,c1,p2,_,c2,x.kids,true,_,rfl,cF.grow (xC hO).1 (fun b h1 h2=>⟨⟨h1,h2⟩,rfl⟩),rfl,?_⟩;have h3:=hT x hg;cases hd:d-1 with
  |zero=>rw[hd] at h3;exact h3.elim
  |succ e=>rw[hd] at h3;exact h3.2.1
def KOut(w:World)(e:Ending)(w':World):Prop:=Below w.heap.size w w' /\
 ((∃(a0 a1 a2:Nat) (v:Value) (PR:List (Nat×Nat)) (prev:Int),e=.returned (.agg #[.int .i64 a0,.int .i64 a1,.int .i64 a2,v,.int .i64 prev])/\a0<=4/\a1<=4/\a2<=4∧-1<=prev/\prev<=2147483647/\fZ w.heap.size w' v PR/\oV PR)\/e=.panicked [{ v:=.iface 120 (.agg #[]),recovered:=false }])
structure nH (w W:World) (oc xc:Array Value):Prop where
 bel:Below w.heap.size w W
 ob:W.heap[w.heap.size]?=some (.cells oc 31 (0,0))
 re:W.heap[w.heap.size+1]?=some (.cells #[.int .i64 0,.int .i64 0,.int .i64 0,.slice none 0 0,.int .i64 0] 90 (0,0))
 st:W.heap[w.heap.size+1+1]?=some (.cells xc 90 (0,0))
theorem nH.below{w W W':World}{oc xc:Array Value}(h:nH w W oc xc)(hb:Below W.heap.size W W'):nH w W' oc xc :=
 ⟨iX h.bel hb,(hb.block _ (bGJ h.ob)).trans h.ob,(hb.block _ (bGJ h.re)).trans h.re,(hb.block _ (bGJ h.st)).trans h.st⟩
theorem nH.set{w W:World}{oc xc:Array Value}(h:nH w W oc xc)(i:Nat)(v:Value):nH w (W.setCell ⟨w.heap.size+1+1,i,none⟩ v) oc (xc.setIfInBounds i v):=by
 refine⟨Below.setCell h.bel (by show w.heap.size<=w.heap.size+1+1;omega) v,?_,?_,aC h.st⟩
 ·rw[bGK _ _ _ _ q232];exact h.ob
 ·rw[bGK _ _ _ _ q233];exact h.re
theorem nH.make(w:World)(oc xc:Array Value):nH w (((w.alloc (.cells oc 31)).alloc (.cells #[.int .i64 0,.int .i64 0,.int .i64 0,.slice none 0 0,.int .i64 0] 90)).alloc (.cells xc 90)) oc xc :=
 ⟨Go.Proofs.YtdjpkgccakgkbaaGreatDoor.bel,(bGM _ _ _ sO).trans ((bGM _ _ _ sI).trans (aA _ _ _ rfl)),(bGM _ _ _ sI).trans (aA _ _ _ sI),aA _ _ _ sI⟩
theorem nH.refive{w W:World}{oc xc:Array Value}(h:nH w W oc xc) :
 W.cell? ⟨w.heap.size+1,0,none⟩=some (.int .i64 0)/\W.cell? ⟨w.heap.size+1,1,none⟩=some (.int .i64 0)/\W.cell? ⟨w.heap.size+1,2,none⟩=some (.int .i64 0)/\W.cell? ⟨w.heap.size+1,3,none⟩=some (.slice none 0 0)/\W.cell? ⟨w.heap.size+1,4,none⟩=some (.int .i64 0)/\∀o,W.frozen? ⟨w.heap.size+1,o,none⟩=false:=by
 have hh:=h.re;exact q527
theorem nH.five{w W:World}{oc:Array Value}{x0 x1 x2 x3 x4:Value}(h:nH w W oc #[x0,x1,x2,x3,x4]) :
 W.cell? ⟨w.heap.size+1+1,0,none⟩=some x0/\W.cell? ⟨w.heap.size+1+1,1,none⟩=some x1/\W.cell? ⟨w.heap.size+1+1,2,none⟩=some x2/\W.cell? ⟨w.heap.size+1+1,3,none⟩=some x3/\W.cell? ⟨w.heap.size+1+1,4,none⟩=some x4/\∀o,W.frozen? ⟨w.heap.size+1+1,o,none⟩=false:=by
 have hh:=h.st;exact q527
theorem aSA(S:Nat->Prop)(d:Nat)(w:World)(p1 p2:Option Addr)(n1 c1 n2 c2:Nat)(o:Ob)(h:aI S d w (aB o.kind o.n o.g o.s (.slice p1 n1 c1) (.slice p2 n2 c2)) o)(ht:cN d o)(hS:∀b,S b->b<w.heap.size):Calls prog 36 #[.agg #[.int .i64 o.kind,.int .i64 o.n,.int .i64 o.g,.string ⟨o.s.toArray⟩,.slice p1 n1 c1,.slice p2 n2 c2]] w (KOut w):=by
 have HG:=Lh (fun(key:ByteArray) (W:World) (hW:Below w.heap.size w W)=>bEV S d W p1 p2 n1 c1 n2 c2 o (h.kept (fun b h=>hW.block b (hS b h)) d) ht (fun b h=>bGA (hS b h) hW.size) key);clear h ht hS;go_enter func36,ntmps36
 by_cases hk9:o.kind=9
 rotate_left
 ·have dk:(o.kind==9)=false:=by simpa using hk9
  clear hk9;exact q455
 have dk:(o.kind==9)=true:=by simpa using hk9
 clear hk9;go_upto_region 2 with fail
 obtain⟨w0,hw0⟩:=eX (((w.alloc (.cells #[.int .i64 o.kind,.int .i64 o.n,.int .i64 o.g,.string ⟨o.s.toArray⟩,.slice p1 n1 c1,.slice p2 n2 c2] 31)).alloc (.cells #[.int .i64 0,.int .i64 0,.int .i64 0,.slice none 0 0,.int .i64 0] 90)).alloc (.cells #[.int .i64 0,.int .i64 0,.int .i64 0,.slice none 0 0,.int .i64 (-1)] 90));have HK:=Lh (show nH w w0 #[.int .i64 o.kind,.int .i64 o.n,.int .i64 o.g,.string ⟨o.s.toArray⟩,.slice p1 n1 c1,.slice p2 n2 c2] #[.int .i64 0,.int .i64 0,.int .i64 0,.slice none 0 0,.int .i64 (-1)] by rw[<-hw0];exact nH.make w _ _);rw[hw0];clear hw0;obtain⟨o0,o1,o2,o3,o4,o5,of⟩:=aD HK.out.ob;go_wp2_with(go_at_call 63;(with_reducible refine(dU _).mono ?_);rintro e w9 ⟨rfl,h9⟩;obtain rfl:=h9.symm)
 have hq:=bGJ HK.out.st;refine(HG.out _ _ HK.out.bel).mono ?_;rintro e w1 ⟨hb1,k1,m1,g1,s1,q1,r1,t1,qq1,rr1,tt1,l1,b1,d1,rfl,hR1,hl1,hm1⟩;replace HK:=Lh (HK.out.below hb1);clear o0 o1 o2 o3 o4 o5 of;obtain⟨o0,o1,o2,o3,o4,o5,of⟩:=aD HK.out.ob;go_upto_region 4 with fail
 obtain⟨w2,hw2⟩:=eX (w1.alloc (.cells #[.int .i64 k1,.int .i64 m1,.int .i64 g1,.string s1,.slice q1 r1 t1,.slice qq1 rr1 tt1] 31));rw[hw2];have hb2:Below w1.heap.size w1 w2:=q171;have hY1:w2.heap[w1.heap.size]?=some (.cells #[.int .i64 k1,.int .i64 m1,.int .i64 g1,.string s1,.slice q1 r1 t1,.slice qq1 rr1 tt1] 31 (0,0)):=q176;have HR1:=Lh (cF.grow (S':=fun b=>w.heap.size+1+1<b/\b<w2.heap.size) (w':=w2) hR1 (fun b h _=>⟨⟨q155,bGA h.2 hb2.size⟩,hb2.block b h.2⟩));replace HK:=Lh (HK.out.below hb2);have HGR:=Lh (fun(v:Value) (PR:List (Nat×Nat)) (h:fZ (w.heap.size+1+1+1) _ v PR)=>fZ.grow (B':=w.heap.size+1+1+1) (w':=w2) (fZ.grow (w':=w1) h (bGB _) hb1.size (fun b _ h=>hb1.block b h)) (bGB _) hb2.size (fun b _ h=>hb2.block b h));clear hq hw2 hR1 hb1 hb2 o0 o1 o2 o3 o4 o5 of;obtain⟨o0,o1,o2,o3,o4,o5,of⟩:=aD HK.out.ob;obtain⟨y0,y1,y2,y3,y4,y5,yf⟩:=aD hY1;by_cases h5:k1=5
 rotate_left
 ·have d5:(k1==5)=false:=q136;clear h5;exact q387
 subst h5;cases hx:(s1.toList==[88,82,101,102]) with
 |false =>
  exact q387
 |true =>
  go_wp2_with(go_at_call 63;(with_reducible refine(dU _).mono ?_);rintro e w9 ⟨rfl,h9⟩;obtain rfl:=h9.symm)
  clear hx y0 y1 y2 y3 y4 y5 yf;have hq:=bGJ HK.out.st;refine(HG.out _ _ HK.out.bel).mono ?_;rintro e w1 ⟨hb1,k2,m2,g2,s2,q2,r2,t2,qq2,rr2,tt2,l2,b2,d2,rfl,hR1,hl2,hm2⟩;replace HK:=Lh (HK.out.below hb1);clear o0 o1 o2 o3 o4 o5 of;obtain⟨o0,o1,o2,o3,o4,o5,of⟩:=aD HK.out.ob;go_upto_region 6 with fail
  obtain⟨w2,hw2⟩:=eX (w1.alloc (.cells #[.int .i64 k2,.int .i64 m2,.int .i64 g2,.string s2,.slice q2 r2 t2,.slice qq2 rr2 tt2] 31));rw[hw2];have hb2:Below w1.heap.size w1 w2:=q171;have hY2:w2.heap[w1.heap.size]?=some (.cells #[.int .i64 k2,.int .i64 m2,.int .i64 g2,.string s2,.slice q2 r2 t2,.slice qq2 rr2 tt2] 31 (0,0)):=q176;have HR2:=Lh (cF.grow (S':=fun b=>w.heap.size+1+1<b/\b<w2.heap.size) (w':=w2) hR1 (fun b h _=>⟨⟨q155,bGA h.2 hb2.size⟩,hb2.block b h.2⟩));replace HK:=Lh (HK.out.below hb2);have HGR:=Lh (fun(v:Value) (PR:List (Nat×Nat)) (h:fZ (w.heap.size+1+1+1) _ v PR)=>fZ.grow (B':=w.heap.size+1+1+1) (w':=w2) (fZ.grow (w':=w1) h (bGB _) hb1.size (fun b _ h=>hb1.block b h)) (bGB _) hb2.size (fun b _ h=>hb2.block b h));clear hq hw2 hR1 hb1 hb2 o0 o1 o2 o3 o4 o5 of;obtain⟨o0,o1,o2,o3,o4,o5,of⟩:=aD HK.out.ob;obtain⟨y0,y1,y2,y3,y4,y5,yf⟩:=aD hY2;go_wp2_with fail;refine(jT _ _ _ _ _ _ _ _ _ _ _ _).mono ?_;rintro e w3 ⟨hb3,⟨hc2,rfl⟩|⟨hc2,rfl⟩⟩;rotate_left
  ·exact q534
  replace HK:=Lh (HK.out.below hb3);obtain⟨sz,hsz⟩:∃sz:Nat,m2=sz:=⟨m2.toNat,by have:=hc2.2.1;omega⟩
  have hsz2:sz<=8192:=by have:=hc2.2.2;omega
  subst hsz;clear y0 y1 y2 y3 y4 y5 yf hb3 hc2 o0 o1 o2 o3 o4 o5 of HR2 hY2 HR1 hY1;obtain⟨o0,o1,o2,o3,o4,o5,of⟩:=aD HK.out.ob;go_wp2_with fail;have hq:=bGJ HK.out.st;refine(HG.out _ _ HK.out.bel).mono ?_;rintro e w1 ⟨hb1,k3,m3,g3,s3,q3,r3,t3,qq3,rr3,tt3,l3,b3,d3,rfl,hR1,hl3,hm3⟩;replace HK:=Lh (HK.out.below hb1);clear o0 o1 o2 o3 o4 o5 of;obtain⟨o0,o1,o2,o3,o4,o5,of⟩:=aD HK.out.ob;go_upto_region 8 with fail
  obtain⟨w2,hw2⟩:=eX (w1.alloc (.cells #[.int .i64 k3,.int .i64 m3,.int .i64 g3,.string s3,.slice q3 r3 t3,.slice qq3 rr3 tt3] 31));rw[hw2];have hb2:Below w1.heap.size w1 w2:=q171;have hY3:w2.heap[w1.heap.size]?=some (.cells #[.int .i64 k3,.int .i64 m3,.int .i64 g3,.string s3,.slice q3 r3 t3,.slice qq3 rr3 tt3] 31 (0,0)):=q176;have HR3:=Lh (cF.grow (S':=fun b=>w.heap.size+1+1<b/\b<w2.heap.size) (w':=w2) hR1 (fun b h _=>⟨⟨q155,bGA h.2 hb2.size⟩,hb2.block b h.2⟩));replace HK:=Lh (HK.out.below hb2);have HGR:=Lh (fun(v:Value) (PR:List (Nat×Nat)) (h:fZ (w.heap.size+1+1+1) _ v PR)=>fZ.grow (B':=w.heap.size+1+1+1) (w':=w2) (fZ.grow (w':=w1) h (bGB _) hb1.size (fun b _ h=>hb1.block b h)) (bGB _) hb2.size (fun b _ h=>hb2.block b h));clear hq hw2 hR1 hb1 hb2 o0 o1 o2 o3 o4 o5 of;obtain⟨o0,o1,o2,o3,o4,o5,of⟩:=aD HK.out.ob;obtain⟨y0,y1,y2,y3,y4,y5,yf⟩:=aD hY3;go_wp2_with fail;refine(xD _ _ _ _ _ _ _ _ _ _ _).mono ?_;rintro e w3 ⟨hb3,⟨hc2,rfl⟩|rfl⟩;rotate_left
  ·exact q534
  replace HK:=Lh (HK.out.below hb3);replace HR3:=Lh (cF.grow (S':=fun b=>w.heap.size+1+1<b/\b<w3.heap.size) (w':=w3) HR3.out (fun b h _=>⟨⟨h.1,bGA h.2 hb3.size⟩,hb3.block b h.2⟩));clear y0 y1 y2 y3 y4 y5 yf hb3 hc2 o0 o1 o2 o3 o4 o5 of hY3;by_cases h3:rr3=3
  rotate_left
  ·have d3:(rr3==3)=false:=by simpa using h3
   have d3':((rr3:Int)==3)=false:=beq_false_of_ne oM;clear h3;exact q387
  subst h3;go_wp2_with(go_at_call 63;(with_reducible refine(dU _).mono ?_);rintro e w9 ⟨rfl,h9⟩;obtain rfl:=h9.symm)
  go_loopw [54] (fun i wr=>∃(k a0 a1 a2:Nat),k<=3/\i=.int .i64 k/\Hid (a0<=4/\a1<=4/\a2<=4)/\Hid (nH w wr #[.int .i64 o.kind,.int .i64 o.n,.int .i64 o.g,.string ⟨o.s.toArray⟩,.slice p1 n1 c1,.slice p2 n2 c2] #[.int .i64 a0,.int .i64 a1,.int .i64 a2,.slice none 0 0,.int .i64 (-1)])/\Hid (Bes (w.heap.size+1+1) w3 wr)) (fun i _=>3-(intOf i).toNat)
  case atStart=>exact⟨0,0,0,0,bGF _,rfl,Lh ⟨dC,dC,dC⟩,HK,Lh (Bes.refl _ _)⟩
  case round =>
   clear HK;obtain⟨k,a0,a1,a2,hk,rfl,HA,HK,HBs⟩:=hrel;by_cases hkN:k<3
   ·have hR:=HR3.out.kept (w':=wr) (fun b h=>HBs.out.block b h.2 q155);obtain⟨b,off,hsp⟩:=hR.some (by rw[hl3];omega);cases hsp;obtain⟨x,u1,u2,u3,u4,u5,u6,hx,hxm,s1',O1,f0,f1,f2,f3,f4,f5⟩:=eN hR hl3 k hkN;obtain⟨x0,x1,x2,x3,x4,xf⟩:=HK.out.five;have hq:=bGJ HK.out.st;clear hx hxm s1' O1 hR;go_wp2_with fail;refine(jT _ _ _ _ _ _ _ _ _ _ _ _).mono ?_;rintro e w4 ⟨hb4,⟨hc4,rfl⟩|⟨hc4,rfl⟩⟩;rotate_left
    ·replace HK:=Lh (HK.out.below hb4);exact⟨rfl,q234,.inr rfl⟩
    obtain⟨mm,hmm⟩:∃mm:Nat,x.n=mm:=⟨x.n.toNat,by have:=hc4.2.1;omega⟩
    have hm4:mm<=4:=by have:=hc4.2.2;omega
    rw[hmm];replace HK:=Lh (HK.out.below hb4);replace HBs:=Lh (HBs.out.below hb4);clear x0 x1 x2 x3 x4 xf hq f0 f1 f2 f3 f4 f5 hb4 hc4 hmm hk;obtain⟨x0,x1,x2,x3,x4,xf⟩:=HK.out.five;obtain rfl|rfl|rfl:k=0\/k=1\/k=2:=oM
    ·go_wp2_with fail;go_roundw
     case rel=>exact⟨1,mm,a1,a2,oM,q12,Lh ⟨hm4,HA.out.2⟩,Lh (HK.out.set 0 _),Lh (HBs.out.setCell 0 _)⟩
     all_goals exact q554
    ·go_wp2_with fail;go_roundw
     case rel=>exact⟨2,a0,mm,a2,oM,q12,Lh ⟨HA.out.1,hm4,HA.out.2.2⟩,Lh (HK.out.set 1 _),Lh (HBs.out.setCell 1 _)⟩
     all_goals exact q554
    ·go_wp2_with fail;go_roundw
     case rel=>exact⟨3,a0,a1,mm,oM,q12,Lh ⟨HA.out.1,HA.out.2.1,hm4⟩,Lh (HK.out.set 2 _),Lh (HBs.out.setCell 2 _)⟩
     all_goals exact q554
   ·have hk3:k=3:=oM;subst hk3;obtain⟨x0,x1,x2,x3,x4,xf⟩:=HK.out.five;have hq:=bGJ HK.out.st;go_upto_region 16 with fail
    obtain⟨w4,hw4⟩:=eX ((wr.setCell ⟨w.heap.size+1+1,3,none⟩ (.slice (some ⟨wr.heap.size,0,none⟩) 1 1)).alloc (.cells #[.int .i64 0,.int .i64 sz] 124));rw[hw4];have hb4:=HK.out.set 3 (.slice (some ⟨wr.heap.size,0,none⟩) 1 1);have HP:=Lh (show fZ (w.heap.size+1+1+1) w4 (.slice (some ⟨wr.heap.size,0,none⟩) 1 1) [(0,sz)] by
     refine fZ.grow (B:=wr.heap.size) (w:=w4) (fZ.one (t:=124) (fr:=(0,0)) ?_) oM (bGB _) (fun _ _ _=>rfl);rw[<-hw4];exact aA _ _ _ q18)
    have HK:=Lh (show nH w w4 #[.int .i64 o.kind,.int .i64 o.n,.int .i64 o.g,.string ⟨o.s.toArray⟩,.slice p1 n1 c1,.slice p2 n2 c2] #[.int .i64 a0,.int .i64 a1,.int .i64 a2,.slice (some ⟨wr.heap.size,0,none⟩) 1 1,.int .i64 (-1)] by rw[<-hw4];exact hb4.below (Below.alloc (bGL _ _) (bGB _) _));have HPI:=Lh (show oV [(0,sz)] from⟨by simp[mT];omega,(fun p hp=>by obtain rfl:=List.mem_singleton.1 hp;simp;omega),sI⟩);clear hw4 hb4 x0 x1 x2 x3 x4 xf hq HBs;obtain⟨o0,o1,o2,o3,o4,o5,of⟩:=aD HK.out.ob;go_wp2_with fail;have hq:=bGJ HK.out.st;refine(HG.out _ _ HK.out.bel).mono ?_;rintro e w1 ⟨hb1,k4,m4,g4,s4,q4,r4,t4,qq4,rr4,tt4,l4,b4,d4,rfl,hR1,hl4,hm4⟩;replace HK:=Lh (HK.out.below hb1);clear o0 o1 o2 o3 o4 o5 of;obtain⟨o0,o1,o2,o3,o4,o5,of⟩:=aD HK.out.ob;go_upto_region 17 with fail
    obtain⟨w2,hw2⟩:=eX (w1.alloc (.cells #[.int .i64 k4,.int .i64 m4,.int .i64 g4,.string s4,.slice q4 r4 t4,.slice qq4 rr4 tt4] 31));rw[hw2];have hb2:Below w1.heap.size w1 w2:=q171;have hY4:w2.heap[w1.heap.size]?=some (.cells #[.int .i64 k4,.int .i64 m4,.int .i64 g4,.string s4,.slice q4 r4 t4,.slice qq4 rr4 tt4] 31 (0,0)):=q176;have HR4:=Lh (cF.grow (S':=fun b=>w.heap.size+1+1<b/\b<w2.heap.size) (w':=w2) hR1 (fun b h _=>⟨⟨q155,bGA h.2 hb2.size⟩,hb2.block b h.2⟩));replace HK:=Lh (HK.out.below hb2);have HGR:=Lh (fun(v:Value) (PR:List (Nat×Nat)) (h:fZ (w.heap.size+1+1+1) _ v PR)=>fZ.grow (B':=w.heap.size+1+1+1) (w':=w2) (fZ.grow (w':=w1) h (bGB _) hb1.size (fun b _ h=>hb1.block b h)) (bGB _) hb2.size (fun b _ h=>hb2.block b h));clear hq hw2 hR1 hb1 hb2 o0 o1 o2 o3 o4 o5 of;obtain⟨o0,o1,o2,o3,o4,o5,of⟩:=aD HK.out.ob;obtain⟨y0,y1,y2,y3,y4,y5,yf⟩:=aD hY4;obtain⟨pp,pn,pc,hpv⟩:∃pp pn pc,Value.slice (some ⟨wr.heap.size,0,none⟩) 1 1=.slice pp pn pc:=⟨_,_,_,rfl⟩
    obtain⟨PR,hPR⟩:=eX ([(0,sz)]);rw[hPR] at HP HPI;rw[hpv] at HP HK;clear hpv;have HP:=Lh (HGR.out _ _ HP.out);clear hPR HGR;cases b4 with
    |false =>
     go_upto_region 19 with fail
     clear y0 y1 y2 y3 y4 y5 yf hY4 HR4;exact q282
    |true =>
     go_upto_region 18 with fail
     go_wp2_with fail;refine(xD _ _ _ _ _ _ _ _ _ _ _).mono ?_;rintro e w8 ⟨hb8,⟨hc8,rfl⟩|rfl⟩;rotate_left
     ·replace HK:=Lh (HK.out.below hb8);exact⟨rfl,q234,.inr rfl⟩
     replace HK:=Lh (HK.out.below hb8);have HR8:=cF.grow (S':=fun b=>b<w8.heap.size) (w':=w8) HR4.out (fun b h _=>⟨bGA h.2 hb8.size,hb8.block b h.2⟩);clear y0 y1 y2 y3 y4 y5 yf hY4 HR4 hc8 o0 o1 o2 o3 o4 o5 of hb8 HP HPI;obtain⟨x0,x1,x2,x3,x4,xf⟩:=HK.out.five;go_wp2_with fail;refine(aKG _ _ _ _ _ _ _ HR8 hl4 hm4 (fun b h=>h)).mono ?_;rintro e w9 ⟨hb9,⟨v9,PR9,rfl,hrow,HPI⟩|rfl⟩;rotate_left
     ·replace HK:=Lh (HK.out.below hb9);exact⟨rfl,q234,.inr rfl⟩
     have hq:=bGJ HK.out.st;have HP:=Lh ((fZ.of_row hrow).grow (B':=w.heap.size+1+1+1) (w':=w9) oM (bGB _) (fun _ _ _=>rfl));replace HPI:=Lh HPI;replace HK:=Lh (HK.out.below hb9);clear x0 x1 x2 x3 x4 xf hb9 hrow HR8 hq;obtain⟨x0,x1,x2,x3,x4,xf⟩:=HK.out.five;obtain⟨pp,pc,hpp,-⟩:=id HP.out;subst hpp;obtain⟨pn,hpn⟩:=eX (PR9.length);obtain⟨PR,hPR⟩:=eX (PR9);rw[hpn] at HP ⊢;rw[hPR] at HP HPI;clear hpn hPR;go_upto_region 19 with fail
     obtain⟨wA,hwA⟩:=eX (w9.setCell ⟨w.heap.size+1+1,3,none⟩ (.slice pp pn pc));rw[hwA];have HK:=Lh (show nH w wA #[.int .i64 o.kind,.int .i64 o.n,.int .i64 o.g,.string ⟨o.s.toArray⟩,.slice p1 n1 c1,.slice p2 n2 c2] #[.int .i64 a0,.int .i64 a1,.int .i64 a2,.slice pp pn pc,.int .i64 (-1)] by rw[<-hwA];exact HK.out.set 3 _);have HP:=Lh (HP.out.grow (B':=w.heap.size+1+1+1) (w':=wA) (bGB _) (by rw[<-hwA];simp[World.setCell]) (fun b h _=>by rw[<-hwA,bGK _ _ _ _ (by show b≠w.heap.size+1+1;omega)]));clear hwA x0 x1 x2 x3 x4 xf;obtain⟨o0,o1,o2,o3,o4,o5,of⟩:=aD HK.out.ob;exact q282
end Go.Proofs.YtdjpkgccakgkbaaGreatDoor
