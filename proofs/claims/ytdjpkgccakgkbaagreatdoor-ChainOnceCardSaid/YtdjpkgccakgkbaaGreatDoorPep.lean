/- Parts of the proof: TrP ChL ChE. -/
import Derived.Test.YtdjpkgccakgkbaaGreatDoorPeo
import Derived.Test.YtdjpkgccakgkbaaGreatDoorPem
import Derived.Test.YtdjpkgccakgkbaaGreatDoorPei
import Derived.Test.YtdjpkgccakgkbaaGreatDoorPel
import Derived.Test.YtdjpkgccakgkbaaGreatDoorPea
set_option linter.all false
set_option maxRecDepth 100000
set_option maxHeartbeats 8000000
section
variable{p:Prop}
theorem q270(h:p:=by simp[results,results20,go_sem,s0,s1,s2,s3,s4,s5]):p:=h
theorem q271(h:p:=by show g2<_;omega):p:=h
theorem q272(h:p:=by show w5.heap.size<_;omega):p:=h
theorem q277(h:p:=by
 clear O1 HG;go_upto_region 9 with fail
 obtain⟨w5,hw5⟩:=eX (w4.alloc (.cells #[.int .i64 y.kind,.int .i64 y.n,.int .i64 y.g,.string ⟨y.s.toArray⟩,.slice y1 y.keys.length v1,.slice y2 y.kids.length v2] 31));obtain⟨b6,hb6⟩:=eX (w4.heap.size);have hb5:Below wr.heap.size wr w5:=by rw[<-hw5];exact hb4.alloc hb4.size _
 have hX6:w5.heap[b6]?=some (.cells #[.int .i64 y.kind,.int .i64 y.n,.int .i64 y.g,.string ⟨y.s.toArray⟩,.slice y1 y.keys.length v1,.slice y2 y.kids.length v2] 31 (0,0)):=by rw[<-hw5];exact aA _ _ _ hb6.symm
 have hz5:b6<w5.heap.size:=by rw[<-hw5,<-hb6];simp
 have HO5:=Lh (HO1.out.grow (S':=fun b=>wr.heap.size<=b) (w':=w5) (fun b h1 h2=>⟨h1,by rw[<-hw5];exact bGM _ _ _ h2⟩));rw[hw5];simp only[hb6];have HI5:=Lh (HI.out.step (hb5.mono hzr) hBl);have hkc5:=(hb5.block kb oM).trans hkc;have hr15:=hr1.below hb5;have HR25:=Lh (hr2.below hb5);have HV5:=Lh (HV.out.grow (S':=fun b=>sZ B (.slice kp KS.length kc) (.slice lp vs.length lc) b/\b<wr.heap.size) (w':=w5) (fun b h1 h2=>⟨⟨h1,h2⟩,hb5.block b h2⟩));have hzB5:B<=w5.heap.size:=bGC hzr hb5.size;have hge6:wr.heap.size<=b6:=by rw[<-hb6];exact hz4
 clear hw5 hb6 hb4 HO1 HI hkc hr1 hr2 HV x0 x1 x2 x3 x4 x5 xf z0 z1 z2 z3 z4 z5 zf t0 t1 t2 t3 t4 t5 tf;obtain⟨t0,t1,t2,t3,t4,t5,tf⟩:=aD HI5.out.out;obtain⟨r0,r1,r2,r3,r4,r5,rf⟩:=aD hX6;go_upto_region 10 with(at_builtin;(refine eE (E:=aKT) rfl _ _ rfl underlying28 Tryz.infoKs rfl dC dC B _ KS x hr15 rfl rfl oM hzB5 ?_;intro g3 q3 w6 hr3 hb3 hz3 hg3 hor3;obtain⟨s0',s1',s2',s3',s4',s5',sf'⟩:=aD (HI5.out.step hb3 hBl).out))
 obtain⟨w7,hw7⟩:=eX (w6.setCell ⟨w.heap.size+2,4,none⟩ (.slice (some ⟨g3,0,none⟩) (KS.length+1) q3));rw[hw7];have HI7:=Lh (show TrI w w7 B (.slice (some ⟨g3,0,none⟩) (KS.length+1) q3) (.slice lp vs.length lc) #[.int .i64 K,.int .i64 o.n,.int .i64 o.g,.string ⟨o.s.toArray⟩,.slice p1 n1 c1,.slice p2 n2 c2] from by rw[<-hw7];exact(HI5.out.step hb3 hBl).keys);have hr7:aG aKT 9 w7 B (.slice (some ⟨g3,0,none⟩) (KS.length+1) q3) (KS++[x]):=by rw[<-hw7];exact cG hr3 oM
 have hro7:aG uA 31 w7 B (.slice lp vs.length lc) vs:=by
  rw[<-hw7];exact cG (zZ (HR25.out.below ((bGL _ w5).alloc (bGB _) (.cells (aKT.cells x).toArray 9))) (World.ownsRow.alloc hr15 _) dC hg3) oM
 have hk7:∀b,b<w5.heap.size->(Value.slice kp KS.length kc).ownBlock≠some b->b≠w.heap.size+2->w7.heap[b]?=w5.heap[b]?:=fun b h1 h2 h3=>by
  rw[<-hw7,bGK w6 ⟨w.heap.size+2,4,none⟩ _ b h3,hg3.block b sO (fun e=>h2 e.symm)];exact bGM _ _ _ h1
 have hz7:w5.heap.size<w7.heap.size:=by rw[<-hw7];simpa[World.setCell] using hz3
 have hnk:∀b,wr.heap.size<=b->(Value.slice kp KS.length kc).ownBlock≠some b:=fun b h e=>by have:=HLO.out.1 b e;omega
 have hX7:=(hk7 b6 hz5 (hnk b6 hge6) oM).trans hX6;have hkc7:=(hk7 kb oM (fun e=>by have:=aK hr15 kb e;omega) oM).trans hkc5;have hg3n:∀b,b<w5.heap.size->(Value.slice kp KS.length kc).ownBlock≠some b->g3≠b:=fun b h1 h2 e=>by
  subst e;rcases hor3 with h|h
  ·exact h2 h
  ·omega
 have HV7:=Lh (HV5.out.grow (S':=fun b=>sZ B (.slice (some ⟨g3,0,none⟩) (KS.length+1) q3) (.slice lp vs.length lc) b/\b<w5.heap.size) (w':=w7) (fun b h1 h2=>⟨⟨⟨h1.1.1,fun e=>hg3n b h2 h1.1.2.1 q242,h1.1.2.2⟩,h2⟩,hk7 b h2 h1.1.2.1 (by have:=h1.1.1;omega)⟩));have HO7:=Lh (HO5.out.grow (S':=fun b=>sZ B (.slice (some ⟨g3,0,none⟩) (KS.length+1) q3) (.slice lp vs.length lc) b/\b<w5.heap.size) (w':=w7) (fun b h1 h2=>⟨⟨⟨oM,fun e=>hg3n b h2 (hnk b h1) q242,fun e=>by have:=HLO.out.2 b e;omega⟩,h2⟩,hk7 b h2 (hnk b h1) oM⟩));have HN7:=Lh (bGQ HLO.out.2 hz7);have hzB7:B<=w7.heap.size:=oM;have hlv7:∀b,(Value.slice lp vs.length lc).ownBlock=some b->b<w5.heap.size:=fun b e=>by have:=HLO.out.2 b e;have:=hb5.size;omega
 have HLV:=Lh hlv7;clear hw7 hr3 hb3 hz3 hg3 hor3 s0' s1' s2' s3' s4' s5' sf' HI5 hr15 HR25 HV5 HO5 hk7 hnk hg3n hX6 hkc5 t0 t1 t2 t3 t4 t5 tf r0 r1 r2 r3 r4 r5 rf hlv7;obtain⟨t0,t1,t2,t3,t4,t5,tf⟩:=aD HI7.out.out;obtain⟨r0,r1,r2,r3,r4,r5,rf⟩:=aD hX7;go_wp2_with(at_builtin;(refine eE (E:=uA) rfl _ _ rfl underlying29 Tryz.infoOs rfl dC dC B _ vs ⟨y.kind,y.n,y.g,⟨y.s.toArray⟩,y1,y.keys.length,v1,y2,y.kids.length,v2⟩ hro7 rfl rfl oM hzB7 ?_;intro g2 cap w8 hr8 hb8 hz8 hgrow hat;obtain⟨s0',s1',s2',s3',s4',s5',sf'⟩:=aD (HI7.out.step hb8 hBl).out))
 have hkeep:=aK hro7;have hI8:=(HI7.out.step hb8 hBl).kids (v:=.slice (some ⟨g2,0,none⟩) (vs.length+1) cap);have hK8:=cG (o:=5) (u:=.slice (some ⟨g2,0,none⟩) (vs.length+1) cap) (zZ (hr7.below ((bGL w7.heap.size w7).alloc (bGB _) (.cells #[.int .i64 y.kind,.int .i64 y.n,.int .i64 y.g,.string ⟨y.s.toArray⟩,.slice y1 y.keys.length v1,.slice y2 y.kids.length v2] 31))) (World.ownsRow.alloc hro7 _) dC hgrow) (show w.heap.size+2<B from oM);have hR9:=cG (o:=5) (u:=.slice (some ⟨g2,0,none⟩) (vs.length+1) cap) hr8 (show w.heap.size+2<B from oM);have hk8:∀b,b<w7.heap.size->(Value.slice lp vs.length lc).ownBlock≠some b->b≠w.heap.size+2->(w8.setCell ⟨w.heap.size+2,5,none⟩ (.slice (some ⟨g2,0,none⟩) (vs.length+1) cap)).heap[b]?=w7.heap[b]?:=fun b h1 h2 h3=>by
  rw[bGK w8 ⟨w.heap.size+2,5,none⟩ _ b h3,hgrow.block b sO (fun e=>h2 e.symm)];exact bGM _ _ _ h1
 have hg2n:∀b,b<w7.heap.size->(Value.slice lp vs.length lc).ownBlock≠some b->g2≠b:=fun b h1 h2 e=>by
  subst e;rcases hat with h|h
  ·exact h2 h
  ·omega
 have hS8:∀b,sZ B (.slice (some ⟨g3,0,none⟩) (KS.length+1) q3) (.slice lp vs.length lc) b/\b<w5.heap.size->b<w7.heap.size->sZ B (.slice (some ⟨g3,0,none⟩) (KS.length+1) q3) (.slice (some ⟨g2,0,none⟩) (vs.length+1) cap) b/\(w8.setCell ⟨w.heap.size+2,5,none⟩ (.slice (some ⟨g2,0,none⟩) (vs.length+1) cap)).heap[b]?=w7.heap[b]?:=fun b h1 h2 =>
  ⟨⟨h1.1.1,h1.1.2.1,fun e=>hg2n b h2 h1.1.2.2 q242⟩,hk8 b h2 h1.1.2.2 (by have:=h1.1.1;omega)⟩
 have hV9:=(HV7.out.grow hS8).push (v:=⟨y.kind,y.n,y.g,⟨y.s.toArray⟩,y1,y.keys.length,v1,y2,y.kids.length,v2⟩) (o:=y) (HO7.out.grow hS8);have hkc9:=(hk8 kb oM (fun e=>by have:=hkeep kb e;omega) oM).trans hkc7;have HX:=Lh (bGQ hI8 (bGQ hkc9 (bGQ hK8 (bGQ hR9 hV9))));clear hgrow hat hkeep hr8 hb8 hI8 hK8 hR9 hV9 hkc9 hS8 hg2n hk8 s0' s1' s2' s3' s4' s5' sf';go_wp2;go_roundw
 case rel =>
  refine⟨k+1,vs++[⟨y.kind,y.n,y.g,⟨y.s.toArray⟩,y1,y.keys.length,v1,y2,y.kids.length,v2⟩],.slice (some ⟨g3,0,none⟩) (KS.length+1) q3,.slice (some ⟨g2,0,none⟩) (vs.length+1) cap,oM,q12,HX.out.1,HX.out.2.1,?_,HX.out.2.2.2.1,Lh ?_⟩
  ·rw[HSU.out.1];simp only[List.map_append,List.map_cons,List.map_nil];rw[HSU.out.2];exact HX.out.2.2.1
  ·rw[HSU.out.1];simp only[List.map_append,List.map_cons,List.map_nil];exact HX.out.2.2.2.2
 case measure=>simp[intOf];omega):p:=h
theorem q298(h:p:=by
 go_enter func20,ntmps20
 go_wp2_with fail;refine(HC.out _ bel).mono ?_;rintro e w1 ⟨rfl,hb1⟩;have hz1:=hb1.size;simp at hz1;have B0:w1.heap[w.heap.size]?=some (.cells #[.int .i64 K,.int .i64 o.n,.int .i64 o.g,.string ⟨o.s.toArray⟩,.slice p1 n1 c1,.slice p2 n2 c2] 31 (0,0)):=(hb1.block _ q262).trans ((bGM _ _ _ q262).trans ((bGM _ _ _ sI).trans (aA _ _ _ rfl)));have B1:w1.heap[w.heap.size+1]?=some (.cells #[.int .i64 0,.int .i64 0,.int .i64 0,.string ⟨#[]⟩,.slice none 0 0,.slice none 0 0] 31 (0,0)):=(hb1.block _ q262).trans ((bGM _ _ _ sI).trans (aA _ _ _ sI));have B2:w1.heap[w.heap.size+2]?=some (.cells #[.int .i64 7,.int .i64 0,.int .i64 0,.string ⟨#[]⟩,.slice none 0 0,.slice none 0 0] 31 (0,0)):=(hb1.block _ q262).trans (aA _ _ _ sI);have hbw1:Below w.heap.size w w1:=bel;clear hb1;obtain⟨x0,x1,x2,x3,x4,x5,xf⟩:=aD B2;obtain⟨z0,z1,z2,z3,z4,z5,zf⟩:=aD B1;go_wp2;obtain⟨w9,hw9⟩:=eX (((((((w1.setCell ⟨w.heap.size+1,0,none⟩ (.int .i64 7)).setCell ⟨w.heap.size+1,1,none⟩ (.int .i64 0)).setCell ⟨w.heap.size+1,2,none⟩ (.int .i64 0)).setCell ⟨w.heap.size+1,3,none⟩ (.string ⟨#[]⟩)).setCell ⟨w.heap.size+1,4,none⟩ (.slice none 0 0)).setCell ⟨w.heap.size+1,5,none⟩ (.slice none 0 0)));rw[hw9];have sg9:=bA w1 (w.heap.size+1) 0 1 2 3 4 5 (.int .i64 7) (.int .i64 0) (.int .i64 0) (.string ⟨#[]⟩) (.slice none 0 0) (.slice none 0 0)
 have Z1:=cL (v0:=.int .i64 7) (v1:=.int .i64 0) (v2:=.int .i64 0) (v3:=.string ⟨#[]⟩) (v4:=.slice none 0 0) (v5:=.slice none 0 0) B1;rw[hw9] at sg9 Z1;have hbw9:Below w.heap.size w w9:=hbw1.grown sg9 hbw1.size (fun k h=>q153);clear hw9 x0 x1 x2 x3 x4 x5 xf z0 z1 z2 z3 z4 z5 zf;obtain⟨s0,s1,s2,s3,s4,s5,sf⟩:=aD Z1;refine bGN (v:=.agg #[.int .i64 7,.int .i64 0,.int .i64 0,.string ⟨#[]⟩,.slice none 0 0,.slice none 0 0]) q270 rfl ?_;rw[HT.out];exact tA hbw9):p:=h
theorem q308(h:p:=by
 have hkn:k=3:=oM;subst hkn;have hO2:=aZF (K:=7) (N:=0) (G:=0) (s:=[]) hr1 hr2 HV.out;have HO2:=Lh hO2;have HKS:=Lh (bGQ hPK hKS);obtain⟨e1,he1⟩:=eX (KS.length);obtain⟨e2,he2⟩:=eX (vs.length);rw[he1] at HO2 hI t4;rw[he2] at HO2 hI t5;have HI:=Lh hI;clear hr1 hr2 hO2 he1 he2 hI hPK hKS;go_wp2;refine bGN (v:=.agg #[.int .i64 7,.int .i64 0,.int .i64 0,.string ⟨#[]⟩,.slice kp e1 kc,.slice lp e2 lc]) (by simp[results,results20,go_sem,z0,z1,z2,z3,z4,z5,zf]) rfl ⟨kp,e1,kc,lp,e2,lc,rfl,?_,?_⟩
 ·rw[HT.out];unfold kY;rw[HKS.out.1,HKS.out.2];refine((HO2.out.weaken (S':=fun b=>B<=b) (fun b h _=>h.elim id (fun h=>h.1)) (d+1)).kept (w':=_) ?_ (d+1)).weaken (fun b h _=>oM) (d+1);intro b hb;have hb2:b≠w.heap.size+1:=oM;iterate 6 (refine(bGK _ _ _ _ hb2).trans ?_)
  rfl
 ·exact((((((HI.out.below.setCell (p:=⟨w.heap.size+1,0,none⟩) (Nat.le_succ _) _).setCell (p:=⟨w.heap.size+1,1,none⟩) (Nat.le_succ _) _).setCell (p:=⟨w.heap.size+1,2,none⟩) (Nat.le_succ _) _).setCell (p:=⟨w.heap.size+1,3,none⟩) (Nat.le_succ _) _).setCell (p:=⟨w.heap.size+1,4,none⟩) (Nat.le_succ _) _).setCell (p:=⟨w.heap.size+1,5,none⟩) (Nat.le_succ _) _)):p:=h
theorem q321(h:p:=by
 have HSU:=Lh (bGQ hsu hKS);have HI:=Lh hI;clear hsu hKS hPK hI hW;have HG:=Lh HG;go_wp2_with fail;refine HG.out.mono ?_;rintro e w4 ⟨rfl,hb4⟩;have hz4:=hb4.size;go_wp2;go_roundw
 case rel =>
  have hb5:Below wr.heap.size wr (w4.alloc (.cells #[.int .i64 0,.int .i64 0,.int .i64 0,.string ⟨#[]⟩,.slice none 0 0,.slice none 0 0] 31)):=hb4.alloc hb4.size _;refine⟨k+1,vs,_,_,oM,q12,HI.out.step (hb5.mono hzr) oM,(hb5.block _ oM).trans hkc,?_,hr2.below hb5,Lh ?_⟩
  ·rw[HSU.out.1];simp only[List.append_nil];rw[HSU.out.2];exact hr1.below hb5
  ·rw[HSU.out.1];simp only[List.append_nil];exact HV.out.grow (fun b h1 h2=>⟨h1,hb5.block b h2⟩)
 case measure=>simp[intOf];omega):p:=h
theorem q335(h:p:=by
 have hk:∀j,j<w1.heap.size->(w1.alloc (.cells #[.string ⟨#[73,68]⟩,.string ⟨#[73,110,102,111]⟩,.string ⟨#[82,111,111,116]⟩] 9)).heap[j]?=w1.heap[j]?:=fun j hj=>bGM _ _ _ hj
 refine⟨bel,sO,(hk _ oM).trans ((hb1.block _ q262).trans ?_),(hk _ oM).trans ((hb1.block _ q262).trans ?_),(hk _ oM).trans ((hb1.block _ q262).trans ?_)⟩
 ·exact(bGM _ _ _ q262).trans ((bGM _ _ _ sI).trans (aA _ _ _ rfl))
 ·exact(bGM _ _ _ sI).trans (aA _ _ _ sI)
 ·exact aA _ _ _ sI):p:=h
theorem q495(h:p:=by exact⟨0,[],_,_,bGF _,rfl,hI1,hk1,bF _ _,bF _ _,Lh (oC.nil _ _ _)⟩):p:=h
theorem q565(h:p:=by
 go_enter func20,ntmps20
 go_wp2_with fail;refine(HC.out _ bel).mono ?_;rintro e w1 ⟨rfl,hb1⟩;have hz1:=hb1.size;simp at hz1;obtain⟨kb,hkb⟩:=eX (w1.heap.size);obtain⟨B,hB⟩:=eX (kb+1);have hI1:TrI w (w1.alloc (.cells #[.string ⟨#[73,68]⟩,.string ⟨#[73,110,102,111]⟩,.string ⟨#[82,111,111,116]⟩] 9)) B (.slice none 0 0) (.slice none 0 0) #[.int .i64 K,.int .i64 o.n,.int .i64 o.g,.string ⟨o.s.toArray⟩,.slice p1 n1 c1,.slice p2 n2 c2]:=by
  exact q335
 have hk1:(w1.alloc (.cells #[.string ⟨#[73,68]⟩,.string ⟨#[73,110,102,111]⟩,.string ⟨#[82,111,111,116]⟩] 9)).heap[kb]?=some (.cells #[.string ⟨#[73,68]⟩,.string ⟨#[73,110,102,111]⟩,.string ⟨#[82,111,111,116]⟩] 9 (0,0)):=aA _ _ _ hkb.symm;clear hb1;have hkL:w.heap.size+3<=kb:=oM;have hBl:w.heap.size+3<=B:=oM;have hkB:kb<B:=oM;clear hB;go_wp2_with(go_at_call 45;refine(aZH _).mono ?_;rintro e w5 ⟨rfl,h5⟩;obtain rfl:=h5.symm)
 go_loopw [25] (fun i wr=>∃(k:Nat) (vs:List Ov) (kv lv:Value),k<=3/\i=.int .i64 k/\TrI w wr B kv lv #[.int .i64 K,.int .i64 o.n,.int .i64 o.g,.string ⟨o.s.toArray⟩,.slice p1 n1 c1,.slice p2 n2 c2]/\wr.heap[kb]?=some (.cells #[.string ⟨#[73,68]⟩,.string ⟨#[73,110,102,111]⟩,.string ⟨#[82,111,111,116]⟩] 9 (0,0))/\aG aKT 9 wr B kv ((nB o k).map (·.1))/\aG uA 31 wr B lv vs/\Hid (oC (sZ B kv lv) d wr vs ((nB o k).map (·.2)))) (fun i _=>3-(intOf i).toNat)
 case atStart=>exact q495
 case round =>
  clear hI1 hk1 hz1;obtain⟨k,vs,kv,lv,hk,rfl,hI,hkc,hr1,hr2,HV⟩:=hrel;obtain⟨PK,hPK⟩:=eX (nB o k);have hpl:=aTA o k hk;rw[hPK] at hr1 HV hpl;have hvl2:vs.length<=3:=by have:=HV.out.1;simp at this;omega
  obtain⟨KS,hKS⟩:=eX (PK.map (·.1));have hksl:KS.length<=3:=by rw[<-hKS];simp;omega
  rw[hKS] at hr1;obtain⟨kp,kc,rfl⟩:=aH hr1;obtain⟨lp,lc,rfl⟩:=aH hr2;obtain⟨x0,x1,x2,x3,x4,x5,xf⟩:=aD hI.box;obtain⟨z0,z1,z2,z3,z4,z5,zf⟩:=aD hI.res;obtain⟨t0,t1,t2,t3,t4,t5,tf⟩:=aD hI.out;have hzr:=hI.size;by_cases hlk:k<3
  ·obtain⟨x,hx,g1⟩:=aZM hkc k hlk;have hsu:=aLB o k x hx;rw[hPK] at hsu;have HG:=Lh (fun W (hW:Below w.heap.size w W)=>HGT.out W hW x);obtain⟨R,hRR⟩:=eX (fE o x);have hW:=hI.below;replace HG:=HG.out wr hW;rw[hRR] at HG hsu;clear hx hRR;cases R with
   |none =>
    exact q321
   |some y =>
    have HSU:=Lh (bGQ hsu hKS);have HI:=Lh hI;have HG:=Lh HG;have hlow:∀b,(Value.slice kp KS.length kc).ownBlock=some b->b<wr.heap.size:=fun b h=>(World.ownsRow.lt hr1 b h).2
    have hlow2:∀b,(Value.slice lp vs.length lc).ownBlock=some b->b<wr.heap.size:=fun b h=>(World.ownsRow.lt hr2 b h).2
    have HLO:=Lh (bGQ hlow hlow2);clear hsu hKS hPK hI hW hlow hlow2;go_wp2_with fail;refine HG.out.mono ?_;rintro e w4 hgo;obtain⟨y1,v1,y2,v2,rfl,O1,hb4⟩:=hgo;have hz4:=hb4.size;have HO1:=Lh O1;exact q277
  ·exact q308):p:=h
end
namespace Go.Proofs.YtdjpkgccakgkbaaGreatDoor
open Go.Proofs.Tryz
open Go.RowKit Fo
theorem oC.grow{S S':Nat->Prop}{d:Nat}{w w':World}{vs:List Ov}{os:List Ob}(h:oC S d w vs os)(hk:∀b,S b->b<w.heap.size->S' b/\w'.heap[b]?=w.heap[b]?):oC S' d w' vs os :=
 ⟨h.1,fun i v o hv ho=>(h.2 i v o hv ho).grow hk⟩
theorem aLB(o:Ob)(k:Nat)(x:L)(hx:oD[k]?=some x):nB o (k+1)=nB o k++(match fE o x with|none=>[]|some v=>[(x,v)]):=by
 unfold nB;rw[List.take_succ,hx,List.filterMap_append];congr 1
 rw[show some x=some x from rfl,Option.toList_some,List.filterMap_cons,List.filterMap_nil];cases fE o x<;>rfl
theorem aTA(o:Ob)(k:Nat)(hk:k<=3):(nB o k).length<=3:=by
 unfold nB;refine bGC (List.length_filterMap_le _ _) ?_;simp;omega
theorem aZM{w:World}{kb:Nat}(h:w.heap[kb]?=some (.cells #[.string ⟨#[73,68]⟩,.string ⟨#[73,110,102,111]⟩,.string ⟨#[82,111,111,116]⟩] 9 (0,0)))(k:Nat)(hk:k<3) :
 ∃x:L,oD[k]?=some x/\w.cell? ⟨kb,k,none⟩=some (.string ⟨x.toArray⟩):=by
 have h3:k=0\/k=1\/k=2:=oM;rcases h3 with rfl|rfl|rfl
 ·exact⟨_,rfl,by simp[World.cell?,h,wID]⟩
 ·exact⟨_,rfl,by simp[World.cell?,h,aUO]⟩
 ·exact⟨_,rfl,by simp[World.cell?,h,aUN]⟩
def sZ(B:Nat)(kv lv:Value)(b:Nat):Prop:=B<=b/\kv.ownBlock≠some b/\lv.ownBlock≠some b
def aGR(S:Nat->Prop)(d:Nat)(w:World)(T:Ob)(e:Ending)(w':World):Prop :=
 ∃q1 e1 m1 q2 e2 m2,e=.returned (.agg #[.int .i64 7,.int .i64 0,.int .i64 0,.string ⟨#[]⟩,.slice q1 e1 m1,.slice q2 e2 m2])/\aI S d w' (aB 7 0 0 [] (.slice q1 e1 m1) (.slice q2 e2 m2)) T/\Below w.heap.size w w'
theorem tA{S:Nat->Prop}{d:Nat}{w w':World}(hb:Below w.heap.size w w'):aGR S (d+1) w (kY []) (.returned (.agg #[.int .i64 7,.int .i64 0,.int .i64 0,.string ⟨#[]⟩,.slice none 0 0,.slice none 0 0])) w' :=
 ⟨none,0,0,none,0,0,rfl,⟨_,_,rfl,.inl ⟨rfl,_,_,rfl⟩,.inl ⟨rfl,_,_,rfl⟩⟩,hb⟩
theorem yA(S:Nat->Prop)(d:Nat)(w:World)(cs:List Value)(o:Ob)(h:aI S (d+1) w cs o)(hsm:cE (d+1) o)(hS:∀b,S b->b<w.heap.size)(hno:(jI o&&aT 24 o==0)=false) :
 Calls prog 20 #[.agg cs.toArray] w (aGR (fun b=>w.heap.size<=b) (d+1) w (oE o)):=by
 have HT:=Lh (show oE o=kY [] by unfold oE;rw[hno,bGU dC]);have HC:=Lh (fun(W:World) (hW:Below w.heap.size w W)=>jA S (d+1) W cs o (h.kept (fun b h=>hW.block b (hS b h)) _) hsm (fun b h=>bGA (hS b h) hW.size));obtain⟨p1,n1,c1,p2,n2,c2,rfl⟩:=h.shape;unfold aB at HC;unfold aB;have HN:=Lh hno;clear h hsm hS hno;cases hd:jI o
 ·have HD:=Lh hd;obtain⟨K,hK⟩:=eX (o.kind);have d7:(K !=7)=true:=by rw[<-hK];unfold jI at hd;simp at hd ⊢;exact hd.1
  have d9:(K !=9)=true:=by rw[<-hK];unfold jI at hd;simp at hd ⊢;exact hd.2
  have n7:¬K=7:=by simpa using d7
  have n9:¬K=9:=by simpa using d9
  rw[hK];clear hd hK HC;go_enter func20,ntmps20
  go_upto_region 2 with fail
  obtain⟨w1,hw1⟩:=eX (((w.alloc (.cells #[.int .i64 K,.int .i64 o.n,.int .i64 o.g,.string ⟨o.s.toArray⟩,.slice p1 n1 c1,.slice p2 n2 c2] 31)).alloc (.cells #[.int .i64 0,.int .i64 0,.int .i64 0,.string ⟨#[]⟩,.slice none 0 0,.slice none 0 0] 31)).alloc (.cells #[.int .i64 7,.int .i64 0,.int .i64 0,.string ⟨#[]⟩,.slice none 0 0,.slice none 0 0] 31));have hbw1:Below w.heap.size w w1:=q33;have hz1:w.heap.size+3<=w1.heap.size:=by rw[<-hw1];simp
  have B1:w1.heap[w.heap.size+1]?=some (.cells #[.int .i64 0,.int .i64 0,.int .i64 0,.string ⟨#[]⟩,.slice none 0 0,.slice none 0 0] 31 (0,0)):=by rw[<-hw1];exact(bGM _ _ _ sI).trans (aA _ _ _ sI)
  have B2:w1.heap[w.heap.size+2]?=some (.cells #[.int .i64 7,.int .i64 0,.int .i64 0,.string ⟨#[]⟩,.slice none 0 0,.slice none 0 0] 31 (0,0)):=by rw[<-hw1];exact aA _ _ _ sI
  have B0:w1.heap[w.heap.size]?=some (.cells #[.int .i64 K,.int .i64 o.n,.int .i64 o.g,.string ⟨o.s.toArray⟩,.slice p1 n1 c1,.slice p2 n2 c2] 31 (0,0)):=by rw[<-hw1];exact(bGM _ _ _ sO).trans ((bGM _ _ _ sI).trans (aA _ _ _ rfl))
  obtain⟨x0,x1,x2,x3,x4,x5,xf⟩:=aD B2;obtain⟨z0,z1,z2,z3,z4,z5,zf⟩:=aD B1;obtain⟨t0,t1,t2,t3,t4,t5,tf⟩:=aD B0;rw[hw1];clear hw1;go_wp2;obtain⟨w9,hw9⟩:=eX (((((((w1.setCell ⟨w.heap.size+1,0,none⟩ (.int .i64 7)).setCell ⟨w.heap.size+1,1,none⟩ (.int .i64 0)).setCell ⟨w.heap.size+1,2,none⟩ (.int .i64 0)).setCell ⟨w.heap.size+1,3,none⟩ (.string ⟨#[]⟩)).setCell ⟨w.heap.size+1,4,none⟩ (.slice none 0 0)).setCell ⟨w.heap.size+1,5,none⟩ (.slice none 0 0)));rw[hw9];have sg9:=bA w1 (w.heap.size+1) 0 1 2 3 4 5 (.int .i64 7) (.int .i64 0) (.int .i64 0) (.string ⟨#[]⟩) (.slice none 0 0) (.slice none 0 0);have Z1:=cL (v0:=.int .i64 7) (v1:=.int .i64 0) (v2:=.int .i64 0) (v3:=.string ⟨#[]⟩) (v4:=.slice none 0 0) (v5:=.slice none 0 0) B1;rw[hw9] at sg9 Z1;have hbw9:Below w.heap.size w w9:=hbw1.grown sg9 hbw1.size (fun k h=>q153);clear hw9 x0 x1 x2 x3 x4 x5 xf z0 z1 z2 z3 z4 z5 zf;obtain⟨s0,s1,s2,s3,s4,s5,sf⟩:=aD Z1;refine bGN (v:=.agg #[.int .i64 7,.int .i64 0,.int .i64 0,.string ⟨#[]⟩,.slice none 0 0,.slice none 0 0]) q270 rfl ?_;rw[HT.out];exact tA hbw9
 ·have hc:aT 24 o≠0:=by intro h;have:=HN.out;rw[hd,h] at this;cases this
  obtain⟨C,hC⟩:=eX (aT 24 o);rw[hC] at HC hc;have hcC:(C !=0)=true:=q38;obtain⟨K,hK⟩:=eX (o.kind);rw[hK] at HC ⊢;have h79:K=7\/K=9:=by rw[<-hK];unfold jI at hd;simpa using hd
  clear hd hK hC HN;rcases h79 with h7|h9
  ·have d7:(K !=7)=false:=q137;clear h7;exact q298
  ·have d7:(K !=7)=true:=by rw[h9];decide
   have n7:¬K=7:=by rw[h9];decide
   have d9:(K !=9)=false:=by simpa using h9
   clear h9;exact q298
theorem yB(S:Nat->Prop)(d:Nat)(w:World)(cs:List Value)(o:Ob)(h:aI S (d+1) w cs o)(hsm:cE (d+1) o)(hS:∀b,S b->b<w.heap.size)(hd:jI o=true)(hc:aT 24 o=0) :
 Calls prog 20 #[.agg cs.toArray] w (aGR (fun b=>w.heap.size<=b) (d+1) w (oE o)):=by
 have HT:=Lh (show oE o=kY (nB o 3) by unfold oE;rw[hd,hc,bGV dC,bDJ hd hc]);have HC:=Lh (fun(W:World) (hW:Below w.heap.size w W)=>(show Calls prog 44 #[.agg cs.toArray] W (fun e w'=>e=.returned (.int .i64 0)/\Below W.heap.size W w') from by
  have:=jA S (d+1) W cs o (h.kept (fun b h=>hW.block b (hS b h)) _) hsm (fun b h=>bGA (hS b h) hW.size);rw[hc] at this;exact this))
 have htm:=oQ (d+1) 24 cs o h hc;have HGT:=Lh (fun(W:World) (hW:Below w.heap.size w W) (key:L)=>qS S d W cs o key (h.kept (fun b h=>hW.block b (hS b h)) (d+1)) htm (fun b h=>bGA (hS b h) hW.size));obtain⟨p1,n1,c1,p2,n2,c2,rfl⟩:=h.shape;unfold aB at HC HGT;unfold aB;obtain⟨K,hK⟩:=eX (o.kind);rw[hK] at HC HGT ⊢;have h79:K=7\/K=9:=by rw[<-hK];unfold jI at hd;simpa using hd
 clear hd hK hc h hsm htm hS;rcases h79 with h7|h9
 ·have d7:(K !=7)=false:=q137;clear h7;exact q565
 ·have d7:(K !=7)=true:=by rw[h9];decide
  have n7:¬K=7:=by rw[h9];decide
  have d9:(K !=9)=false:=by simpa using h9
  clear h9;exact q565
theorem aGS(S:Nat->Prop)(d:Nat)(w:World)(cs:List Value)(o:Ob)(h:aI S (d+1) w cs o)(hsm:cE (d+1) o)(hS:∀b,S b->b<w.heap.size) :
 Calls prog 20 #[.agg cs.toArray] w (aGR (fun b=>w.heap.size<=b) (d+1) w (oE o)):=by
 cases hno:(jI o&&aT 24 o==0)
 ·exact yA S d w cs o h hsm hS hno
 ·simp only[Bool.and_eq_true,beq_iff_eq] at hno;exact yB S d w cs o h hsm hS hno.1 hno.2
def aZN(l:List Sec):Ob:=match l with
 |[]=>kY []
 |s::_=>oE s.trail
theorem aGT(S:Nat->Prop)(d:Nat)(w:World)(p:Option Addr)(n c:Nat)(vs:List bN)(l:List Sec)(hR:bC aO w (.slice p n c) vs)(hI:pQ S (d+1) w vs l)(hS:∀b,S b->b<w.heap.size)(hsm:∀s∈l,cE (d+1) s.trail) :
 Calls prog 9 #[.slice p n c] w (aGR (fun b=>w.heap.size<=b) (d+1) w (aZN l)):=by
 have hvl:vs.length=n:=(fG hR).symm;have hll:l.length=n:=by rw[<-hI.1];exact hvl
 cases l with
 |nil =>
  have hn:n=0:=hll.symm;subst hn;clear hR hI hvl hll;go_enter func9,ntmps9
  go_wp2;refine bGN (v:=.agg #[.int .i64 7,.int .i64 0,.int .i64 0,.string ⟨#[]⟩,.slice none 0 0,.slice none 0 0]) (by simp[results,results9,go_sem]) rfl (tA bel)
 |cons s l =>
  obtain⟨x,hx⟩:∃x,vs[0]?=some x:=⟨_,bGE (by rw[hvl,<-hll];simp)⟩
  obtain⟨g,off,rfl,hg,a0,a1,a2,a3,a4,a5,a6,a7,a8,a9,a10⟩:=vT hR 0 x hx;have hSec:=hI.2 0 x s hx rfl;have HD:=Lh (fun(W:World) (hW:Below w.heap.size w W)=>aGS S d W _ s.trail (hSec.trail.kept (fun b h=>hW.block b (hS b h)) _) (hsm s sI) (fun b h=>bGA (hS b h) hW.size));have hn0:¬n=0:=by rw[<-hll];simp
  have hn1:((n:Int)==0)=false:=by simpa using hn0
  have hn2:(0:Int)<n:=oM;obtain⟨A0,sp,sn,sc,K,N,G,st,p1,n1,c1,p2,n2,c2,pv,hy,ow⟩:=x;simp only[Nat.zero_mul,Nat.add_zero] at a0 a1 a2 a3 a4 a5 a6 a7 a8 a9 a10;dsimp only at HD;have hgne:¬g=w.heap.size:=oM;clear hR hI hvl hll hx hSec hsm;go_enter func9,ntmps9
  go_wp2_with fail;refine(HD.out _ bel).mono ?_;rintro e w1 ⟨q1,e1,m1,q2,e2,m2,rfl,hO,hb1⟩;have hz1:=hb1.size;simp at hz1;have B1:w1.heap[w.heap.size]?=some (.cells #[.int .i64 0,.int .i64 0,.int .i64 0,.string ⟨#[]⟩,.slice none 0 0,.slice none 0 0] 31 (0,0)):=(hb1.block _ sI).trans (aA _ _ _ rfl);have hbw1:Below w.heap.size w w1:=(show Below w.heap.size w (w.alloc (.cells #[.int .i64 0,.int .i64 0,.int .i64 0,.string ⟨#[]⟩,.slice none 0 0,.slice none 0 0] 31)) from bel).trans (hb1.mono sI);have HO:=Lh (hO.weaken (S':=fun b=>w.heap.size<b) (fun b h _=>by simp at h;omega) _);clear hb1 hO;obtain⟨z0,z1,z2,z3,z4,z5,zf⟩:=aD B1;go_wp2;obtain⟨w9,hw9⟩:=eX (((((((w1.setCell ⟨w.heap.size,0,none⟩ (.int .i64 7)).setCell ⟨w.heap.size,1,none⟩ (.int .i64 0)).setCell ⟨w.heap.size,2,none⟩ (.int .i64 0)).setCell ⟨w.heap.size,3,none⟩ (.string ⟨#[]⟩)).setCell ⟨w.heap.size,4,none⟩ (.slice q1 e1 m1)).setCell ⟨w.heap.size,5,none⟩ (.slice q2 e2 m2)));rw[hw9];have sg9:=bA w1 w.heap.size 0 1 2 3 4 5 (.int .i64 7) (.int .i64 0) (.int .i64 0) (.string ⟨#[]⟩) (.slice q1 e1 m1) (.slice q2 e2 m2);have Z1:=cL (v0:=.int .i64 7) (v1:=.int .i64 0) (v2:=.int .i64 0) (v3:=.string ⟨#[]⟩) (v4:=.slice q1 e1 m1) (v5:=.slice q2 e2 m2) B1;rw[hw9] at sg9 Z1;have hbw9:Below w.heap.size w w9:=hbw1.grown sg9 hbw1.size (fun k h=>q153);clear hw9 z0 z1 z2 z3 z4 z5 zf;obtain⟨s0,s1,s2,s3,s4,s5,sf⟩:=aD Z1
  refine bGN (v:=.agg #[.int .i64 7,.int .i64 0,.int .i64 0,.string ⟨#[]⟩,.slice q1 e1 m1,.slice q2 e2 m2]) (by simp[results,results9,go_sem,s0,s1,s2,s3,s4,s5]) rfl ⟨q1,e1,m1,q2,e2,m2,rfl,?_,hbw9⟩;exact HO.out.grow (fun b h1 h2=>⟨oM,sg9.block b h2 sO⟩)
open Go.Maps
def bFX(l:L)(a:Nat):Option Sec:=match vN l with
 |some (PS,o,_)=>if aT 24 o=0 then(match gF o nW,gF o tN with
  |some p,some h=>some ⟨a,PS,o,p,h,0⟩
  |_,_=>none) else none
 |none=>none
theorem xJ{s:ByteArray}{a:Nat}{y:Sec}(h:bFX (s.data.toList.drop a) a=some y):lV s a y:=by
 unfold bFX at h;split at h
 ·rename_i PS o aP ht
  split at h
  ·rename_i hc
   split at h
   ·rename_i p q h1 h2
    cases h;exact⟨PS,o,aP,p,q,ht,hc,h1,h2,rfl⟩
   ·cases h
  ·cases h
 ·cases h
def aCQ:Sec:=⟨0,[⟨1,1,10,0⟩,⟨2,0,0,0⟩],.mk 7 0 0 [] [[82,111,111,116]] [.mk 8 1 0 [] [] []],-1,-1,0⟩
def aGU:Sec:=⟨72,[⟨2,1,30,0⟩],.mk 7 0 0 [] [[80,114,101,118],[82,111,111,116]] [.mk 2 0 0 [] [] [],.mk 8 2 0 [] [] []],0,-1,0⟩
def bFY:Sec:=⟨0,[],.mk 7 0 0 [] [[80,114,101,118]] [.mk 2 0 0 [] [] []],0,-1,0⟩
def aZO:ByteArray:=⟨#[120,114,101,102,10,49,32,50,10,48,48,48,48,48,48,48,48,49,48,32,48,48,48,48,48,32,110,32,10,48,48,48,48,48,48,48,48,48,48,32,48,48,48,48,48,32,102,32,10,116,114,97,105,108,101,114,60,60,47,82,111,111,116,32,49,32,48,32,82,62,62,32]⟩
def aZP:ByteArray:=⟨#[120,114,101,102,10,50,32,49,10,48,48,48,48,48,48,48,48,51,48,32,48,48,48,48,48,32,110,32,10,116,114,97,105,108,101,114,60,60,47,80,114,101,118,32,48,47,82,111,111,116,32,50,32,48,32,82,62,62]⟩
def bAO:ByteArray:=⟨#[120,114,101,102,32,116,114,97,105,108,101,114,60,60,47,80,114,101,118,32,48,62,62]⟩
theorem liv1:lV (aZO++aZP) 0 aCQ:=xJ kR
theorem liv2:lV (aZO++aZP) 72 aGU:=xJ kR
theorem liv3:lV bAO 0 bFY:=xJ kR
theorem aTB:pN (nE [aGU,aCQ])=[⟨1,1,10,0⟩,⟨2,1,30,0⟩]:=kR
theorem bEX:bR 2 [⟨1,1,10,0⟩,⟨2,1,30,0⟩]=some ⟨2,1,30,0⟩:=kR
theorem bEY:bR 3 [⟨1,1,10,0⟩,⟨2,1,30,0⟩]=none:=kR
theorem aTC:aZN [aGU,aCQ]=kY [([82,111,111,116],.mk 8 2 0 [] [] [])]:=kR
theorem aTD:∀s∈[aGU,aCQ],cE 25 s.trail:=by
 intro s hs;simp at hs;rcases hs with rfl|rfl<;>simp[cE,aCQ,aGU,Ob.keys,Ob.kids,Ob.s]
theorem aNO:(aZO++aZP).size=130:=kR
theorem bFZ{S:Nat->Prop}{d:Nat}{w:World}{k n g:Int}{s:L}{kv:Value}{p:Option Addr}{n2 c2:Nat}{o:Ob}(h:aI S d w (aB k n g s kv (.slice p n2 c2)) o)(i:Nat)(hi:i<o.kids.length) :
 ∃kb off,p=some ⟨kb,off,none⟩/\n2=o.kids.length/\kb<w.heap.size/\w.cell? ⟨kb,off+6*i+1,none⟩=some (.int .i64 (o.kids[i]).n):=by
 cases d with
 |zero=>exact h.elim
 |succ d =>
  obtain⟨kv',dv,h1,h2,h3⟩:=h;simp[aB] at h1;obtain⟨_,_,_,_,_,h6⟩:=h1;rcases h3 with⟨h3,_⟩|⟨b,off,c,h4,h5,h7⟩
  ·rw[h3] at hi;simp at hi
  ·rw[h4] at h6;simp at h6;obtain⟨ks,g1,g2,g3⟩:=h7 i hi;obtain⟨p1,n1,c1,p2,n2,c2,rfl⟩:=g3.shape;have hc:=g2 1 q121;have hlt:b<w.heap.size:=by
    apply Classical.byContradiction;intro hn
    simp[World.cell?,Array.getElem?_eq_none (Nat.not_lt.1 hn)] at hc
   exact⟨b,off,h6.1,h6.2.1,hlt,hc⟩
theorem aZQ(w:World)(m:Int)(hm:aF w m):Calls prog 4 #[] w fun e w'=>e=.returned (.bool true)/\Below w.heap.size w w':=by
 have HR2:=Lh (fun(W:World) (hW:aF W m)=>aSP (aZO++aZP) 72 aGU aCQ liv2 (by rw[aNO];decide) rfl dC liv1 dC dC dC (by rw[aNO];decide) W m hW);have HR3:=Lh (fun(W:World) (hW:aF W m)=>aKS bAO bFY liv3 rfl dC dC dC W m hW);unfold aZO aZP at HR2;unfold bAO at HR3;go_enter func4,ntmps4
 go_wp2_with fail;refine(HR2.out _ hm).mono ?_;rintro e w1 ⟨⟨p,c,vs,rfl,hR,hI⟩,hb1⟩;have hz1:=hb1.size;have HR:=Lh (fun(W:World) (hW:Below w1.heap.size w1 W)=>hR.below hW);have HI:=Lh (fun(W:World) (hW:Below w1.heap.size w1 W)=>hI.below (fun b h=>h.2) hW);have hm1:=hm.below hb1;obtain⟨x,hx⟩:∃x,vs[1]?=some x:=⟨_,bGE (by rw[hI.1];decide)⟩
 obtain⟨g,off,rfl,hg,a0,_⟩:=vT hR 1 x hx;have hat:x.at'=0:=(hI.2 1 x aCQ hx rfl).at';rw[hat] at a0;clear hR hI hx hat HR2;go_wp2_with fail;refine(HR3.out _ hm1).mono ?_;rintro e w2 ⟨rfl,hb2⟩;have hz2:=hb2.size;go_wp2_with fail;refine(qU _ _ dC _).mono ?_;rintro e w3 ⟨rfl,hb3⟩;have hz3:=hb3.size;have hb13:Below w1.heap.size w1 w3:=hb2.trans (hb3.mono hz2);clear hb2 hb3 HR3;go_upto_region 6 with fail
 obtain⟨w3',hw3⟩:=eX (w3.alloc (.cells #[.int .i64 0,.slice none 0 0,.int .i64 0,.int .i64 0,.int .i64 0,.string ⟨#[]⟩,.slice none 0 0,.slice none 0 0,.int .i64 0,.int .i64 0,.int .i64 0] 33));rw[hw3];have hb13':Below w1.heap.size w1 w3':=by rw[<-hw3];exact hb13.alloc oM _
 have hz3':=hb13'.size;clear hw3 hb13;go_wp2_with fail;refine(aVT _ 25 _ _ _ _ vs [aGU,aCQ] (HR.out _ hb13') (HI.out _ hb13') (fun b h=>q154) dC dC dC).mono ?_;rw[aTB];rintro e w4 ⟨v,rfl,hrow,hb4⟩;have hz4:=hb4.size;obtain⟨q,qc,rfl⟩:=aH hrow;have hRM:=aG.arg hrow;have HM:=Lh (fun(W:World) (hW:Below w4.heap.size w4 W)=>hRM.below hW);obtain⟨g2,off2,rfl,hg2,m0,m1,m2,m3⟩:=uQ hRM 0 dC;simp only[Nat.zero_mul,Nat.add_zero,List.getElem_cons_zero] at m0 m1 m2 m3;have hb14:Below w1.heap.size w1 w4:=hb13'.trans (hb4.mono hz3');clear hrow hRM hb4 hb13';go_wp2_with fail;refine(aGL _ _ 2 _ (HM.out _ (bGL _ _)) dC).mono ?_;rw[bEX];rintro e w5 ⟨rfl,hb5⟩;have hz5:=hb5.size;unfold slR slE;dsimp only[Option.getD_some,Option.isSome_some];go_upto_region 8 with fail
 obtain⟨w5',hw5⟩:=eX (w5.alloc (.cells #[.int .i64 2,.int .i64 1,.int .i64 30,.int .i64 0] 39));rw[hw5];have hF5:w5'.heap[w5.heap.size]?=some (.cells #[.int .i64 2,.int .i64 1,.int .i64 30,.int .i64 0] 39 (0,0)):=q114;have hb45:Below w4.heap.size w4 w5':=by rw[<-hw5];exact hb5.alloc hz5 _
 have hz5':w5.heap.size<w5'.heap.size:=by rw[<-hw5];simp
 clear hw5 hb5;go_wp2_with fail;refine(aGL _ _ 3 _ (HM.out _ hb45) dC).mono ?_;rw[bEY];rintro e w6 ⟨rfl,hb6⟩;have hz6:=hb6.size;unfold slR slE;dsimp only[Option.getD_none,Option.isSome_none];go_upto_region 9 with fail
 obtain⟨w6',hw6⟩:=eX (w6.alloc (.cells #[.int .i64 0,.int .i64 0,.int .i64 0,.int .i64 0] 39));rw[hw6];have hb56:Below w5'.heap.size w5' w6':=by rw[<-hw6];exact hb6.alloc hz6 _
 have hz6':=hb56.size;have hb46:=hb45.trans (hb56.mono oM);have hb16:=hb14.trans (hb46.mono oM);clear hw6 hb6 hb45;go_wp2_with fail;refine(aGT _ 24 _ _ _ _ vs [aGU,aCQ] (HR.out _ hb16) (HI.out _ hb16) (fun b h=>q154) aTD).mono ?_;rw[aTC];rintro e w7 ⟨q1,e1,f1,q2,e2,f2,rfl,hO,hb7⟩;have hz7:=hb7.size;obtain⟨kb,koff,rfl,hn2,hkb,hkn⟩:=bFZ hO 0 dC;obtain rfl:e2=1:=hn2;have hkn':w7.cell? ⟨kb,koff+1,none⟩=some (.int .i64 2):=hkn;have hF7:=(hb7.block _ oM).trans ((hb56.block _ hz5').trans hF5);have c0:=(hb7.cell (p:=⟨g,off+1*11,none⟩) (by show g<_;omega)).trans ((hb16.cell (p:=⟨g,off+1*11,none⟩) (by show g<_;omega)).trans a0);have hb47:=hb46.trans (hb7.mono oM);have n0:=(hb47.cell (p:=⟨g2,off2,none⟩) q271).trans m0;have n1:=(hb47.cell (p:=⟨g2,off2+1,none⟩) q271).trans m1;have n2:=(hb47.cell (p:=⟨g2,off2+2,none⟩) q271).trans m2;have n3:=(hb47.cell (p:=⟨g2,off2+3,none⟩) q271).trans m3;have hb17:Below w.heap.size w w7:=hb1.trans ((hb16.trans (hb7.mono oM)).mono hz1);obtain⟨k0,k1,k2,k3⟩:=vU hF7;clear hkn hO hb7 hF7 hF5 hb56 hb46 hb16 hb14 hb47 a0 m0 m1 m2 m3 HM HR HI hb1 hm1 hm;go_upto_region 10 with fail
 obtain⟨w8,hw8⟩:=eX (w7.alloc (.cells #[.int .i64 7,.int .i64 0,.int .i64 0,.string ⟨#[]⟩,.slice q1 e1 f1,.slice (some ⟨kb,koff,none⟩) 1 f2] 31));obtain⟨tb,htb⟩:=eX (w7.heap.size);obtain⟨fb,hfb⟩:=eX (w5.heap.size);rw[hw8];simp only[htb,hfb];have hO8:w8.heap[tb]?=some (.cells #[.int .i64 7,.int .i64 0,.int .i64 0,.string ⟨#[]⟩,.slice q1 e1 f1,.slice (some ⟨kb,koff,none⟩) 1 f2] 31 (0,0)):=by rw[<-hw8];exact aA _ _ _ htb.symm
 have hb78:Below w7.heap.size w7 w8:=by rw[<-hw8];exact bel
 obtain⟨t0,t1,t2,t3,t4,t5,tf⟩:=aD hO8;have d0:=(hb78.cell (p:=⟨g,off+1*11,none⟩) (by show g<_;omega)).trans c0;have d1:=(hb78.cell (p:=⟨g2,off2,none⟩) q271).trans n0;have d2:=(hb78.cell (p:=⟨g2,off2+1,none⟩) q271).trans n1;have d3:=(hb78.cell (p:=⟨g2,off2+2,none⟩) q271).trans n2;have d4:=(hb78.cell (p:=⟨g2,off2+3,none⟩) q271).trans n3;have d5:=(hb78.cell (p:=⟨kb,koff+1,none⟩) (by show kb<_;omega)).trans hkn';have d6:=(hb78.cell (p:=⟨w5.heap.size,0,none⟩) q272).trans k0;have d7:=(hb78.cell (p:=⟨w5.heap.size,1,none⟩) q272).trans k1;have d8:=(hb78.cell (p:=⟨w5.heap.size,2,none⟩) q272).trans k2;have d9:=(hb78.cell (p:=⟨w5.heap.size,3,none⟩) q272).trans k3;rw[hfb] at d6 d7 d8 d9;simp only[Nat.one_mul] at d0;have hbw8:Below w.heap.size w w8:=hb17.trans (hb78.mono (by have:=hb17.size;omega));clear hw8 hO8 hb78 c0 n0 n1 n2 n3 hkn' k0 k1 k2 k3 hb17 htb hfb;go_wp2;go_ret
 exact⟨rfl,hbw8⟩
end Go.Proofs.YtdjpkgccakgkbaaGreatDoor
