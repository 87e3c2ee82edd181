/- Parts. -/
import Derived.Test.YtdjpkgccakgkbaaGreatDoorPeTnC
import Derived.Test.YtdjpkgccakgkbaaGreatDoorPen
import Derived.Test.YtdjpkgccakgkbaaGreatDoorPey
import Derived.Test.YtdjpkgccakgkbaaGreatDoorPez
set_option linter.all false
set_option maxRecDepth 100000
set_option maxHeartbeats 8000000
section
variable{p:Prop}
theorem q261(h:p:=by simp[results,results14,go_sem,X0,X1,X2,X3,X4,X5,X6,X7,X8,X9,X10,Xf]):p:=h
theorem q342(h:p:=by
 have dz:(z==0)=false:=by simpa using hz0
 obtain⟨X0,X1,X2,X3,X4,X5,X6,X7,X8,X9,X10,Xf⟩:=aJ HJ.out.re;go_wp2_with fail;refine bGN (v:=.tuple #[.agg #[.int .i64 0,.slice none 0 0,.int .i64 0,.int .i64 0,.int .i64 0,.string ⟨#[]⟩,.slice none 0 0,.slice none 0 0,.int .i64 0,.int .i64 0,.int .i64 0],.int .i64 z]) q261 rfl ?_;refine⟨?_,.inr ⟨⟨0,none,0,0,0,0,0,⟨#[]⟩,none,0,0,none,0,0,0,0,0⟩,z,rfl,hz0⟩⟩;have hb:=HJ.out.bel;exact bel):p:=h
theorem q351(h:p:=by
 obtain⟨X0,X1,X2,X3,X4,X5,X6,X7,X8,X9,X10,Xf⟩:=aJ HJ.out.re;go_wp2_with fail;refine bGN (v:=.tuple #[.agg #[.int .i64 0,.slice none 0 0,.int .i64 0,.int .i64 0,.int .i64 0,.string ⟨#[]⟩,.slice none 0 0,.slice none 0 0,.int .i64 0,.int .i64 0,.int .i64 0],.int .i64 20]) q261 rfl ?_;refine⟨?_,.inr ⟨⟨0,none,0,0,0,0,0,⟨#[]⟩,none,0,0,none,0,0,0,0,0⟩,20,rfl,dC⟩⟩;have hb:=HJ.out.bel;exact bel):p:=h
end
namespace Go.Proofs.YtdjpkgccakgkbaaGreatDoor
open Go.Proofs.Tryz
open Go.RowKit Fo
def xF(a:Nat)(x:bN):Prop:=x.at'=a∧-1<=x.prev/\x.prev<=2147483647∧-1<=x.hyb/\x.hyb<=2147483647
def TRd(w:World)(a:Nat)(e:Ending)(w':World):Prop :=
 Below w.heap.size w w'/\((∃(x:bN) (z:Nat),e=.returned (.tuple #[.agg (aO.cells x).toArray,.int .i64 z,.int .i64 0])/\xF a x) \/
  (∃(x:bN),e=.returned (.tuple #[.agg (aO.cells x).toArray,.int .i64 0,.int .i64 19])))
theorem aSK(s:ByteArray)(a:Nat)(hpre:Lib.hasPrefix (s.data.toList.drop a) [120,114,101,102]=true)(ha:a<=s.size)(hs:s.size<=100000000)(m:Int)(w:World)(hm:aF w m) :
 Calls prog 12 #[.string s,.int .i64 a] w (TRd w a):=by
 have HSEC:Hid (∀(r:Nat) (W:World),aF W m->RdT W r s a->r≠1->Calls prog 24 #[.pointer (some ⟨r,0,none⟩)] W (TSc W r s a)):=Lh (fun r W hm hr hrm=>aBO r s a hpre ha hs m W hm hr hrm);clear hpre;have hMl:=hm.lt;go_enter func12,ntmps12
 go_wp2_with fail;have hwX:((w.alloc (.cells #[.int .i64 0,.slice none 0 0,.int .i64 0,.int .i64 0,.int .i64 0,.string ⟨#[]⟩,.slice none 0 0,.slice none 0 0,.int .i64 0,.int .i64 0,.int .i64 0] 33)).alloc (.cells #[.string s,.int .i64 a] 70)).heap[w.heap.size]?=some (.cells #[.int .i64 0,.slice none 0 0,.int .i64 0,.int .i64 0,.int .i64 0,.string ⟨#[]⟩,.slice none 0 0,.slice none 0 0,.int .i64 0,.int .i64 0,.int .i64 0] 33 (0,0)):=(bGM _ _ _ sI).trans (aA _ _ _ rfl);have hbA:Below w.heap.size w ((w.alloc (.cells #[.int .i64 0,.slice none 0 0,.int .i64 0,.int .i64 0,.int .i64 0,.string ⟨#[]⟩,.slice none 0 0,.slice none 0 0,.int .i64 0,.int .i64 0,.int .i64 0] 33)).alloc (.cells #[.string s,.int .i64 a] 70)):=bel;refine(HSEC.out (w.heap.size+1) _ (hm.below bel) (aA _ _ _ sI) oM).mono ?_;rintro e w2 ⟨hs2,hcase⟩;have hbw2:Below w.heap.size w w2:=eO hbA hs2 sI sO;have hz2:=hs2.size;simp at hz2;have hX2:=(hs2.block w.heap.size sO sI).trans hwX;clear hwX hbA hs2 HSEC;rcases hcase with⟨x,b,rfl,ha',hp1,hp2,hp3,hp4,ho,hb,hr2⟩|⟨x,rfl⟩
 rotate_left
 ·obtain⟨x0,sp,sn,sc,x2,x3,x4,x5,p1,n1,c1,p2,n2,c2,x8,x9,x10⟩:=x;unfold aO;dsimp only;go_upto_region 3 with fail
  obtain⟨w3,hw3⟩:=eX (w2.alloc (.cells #[.int .i64 x0,.slice sp sn sc,.int .i64 x2,.int .i64 x3,.int .i64 x4,.string x5,.slice p1 n1 c1,.slice p2 n2 c2,.int .i64 x8,.int .i64 x9,.int .i64 x10] 33));rw[hw3];have hb3:Below w2.heap.size w2 w3:=q126;have hX3:=(hb3.block w.heap.size oM).trans hX2;have hbw3:Below w.heap.size w w3:=hbw2.trans (hb3.mono oM);clear hw3 hX2 hbw2 hb3;obtain⟨X0,X1,X2,X3,X4,X5,X6,X7,X8,X9,X10,Xf⟩:=aJ hX3;go_wp2_with fail;refine bGN (v:=.tuple #[.agg #[.int .i64 0,.slice none 0 0,.int .i64 0,.int .i64 0,.int .i64 0,.string ⟨#[]⟩,.slice none 0 0,.slice none 0 0,.int .i64 0,.int .i64 0,.int .i64 0],.int .i64 0,.int .i64 19]) q179 rfl ?_;refine⟨?_,.inr ⟨⟨0,none,0,0,0,0,0,⟨#[]⟩,none,0,0,none,0,0,0,0,0⟩,rfl⟩⟩;exact q497
 have HX:=Lh (show xF a x from⟨ha',hp1,hp2,hp3,hp4⟩);clear ha' hp1 hp2 hp3 hp4 ho;obtain⟨x0,sp,sn,sc,x2,x3,x4,x5,p1,n1,c1,p2,n2,c2,x8,x9,x10⟩:=x;unfold aO;dsimp only;go_upto_region 5 with fail
 obtain⟨w3,hw3⟩:=eX (w2.alloc (.cells #[.int .i64 x0,.slice sp sn sc,.int .i64 x2,.int .i64 x3,.int .i64 x4,.string x5,.slice p1 n1 c1,.slice p2 n2 c2,.int .i64 x8,.int .i64 x9,.int .i64 x10] 33));rw[hw3];have hb3:Below w2.heap.size w2 w3:=q126;have hY3:w3.heap[w2.heap.size]?=some (.cells #[.int .i64 x0,.slice sp sn sc,.int .i64 x2,.int .i64 x3,.int .i64 x4,.string x5,.slice p1 n1 c1,.slice p2 n2 c2,.int .i64 x8,.int .i64 x9,.int .i64 x10] 33 (0,0)):=q127;have hX3:=(hb3.block w.heap.size oM).trans hX2;have hr3:=hr2.below hb3;have hz3:=hb3.size;have hbw3:Below w.heap.size w w3:=hbw2.trans (hb3.mono oM);have ne1:¬w2.heap.size=w.heap.size:=oM;have ne2:¬w.heap.size=w2.heap.size:=oM;have ne3:¬w.heap.size+1=w.heap.size:=oM;have ne4:¬w.heap.size=w.heap.size+1:=oM;have k1:=hr3.cell1;clear hw3 hX2 hr2 hbw2 hb3 hr3;obtain⟨X0,X1,X2,X3,X4,X5,X6,X7,X8,X9,X10,Xf⟩:=aJ hX3;obtain⟨Y0,Y1,Y2,Y3,Y4,Y5,Y6,Y7,Y8,Y9,Y10,Yf⟩:=aJ hY3
 go_region_held3 (fun w'=>w'.cell? ⟨w2.heap.size,0,none⟩=some (.int .i64 x0)/\w'.cell? ⟨w2.heap.size,1,none⟩=some (.slice sp sn sc)/\w'.cell? ⟨w2.heap.size,2,none⟩=some (.int .i64 x2)/\w'.cell? ⟨w2.heap.size,3,none⟩=some (.int .i64 x3)/\w'.cell? ⟨w2.heap.size,4,none⟩=some (.int .i64 x4)/\w'.cell? ⟨w2.heap.size,5,none⟩=some (.string x5)/\w'.cell? ⟨w2.heap.size,6,none⟩=some (.slice p1 n1 c1)/\w'.cell? ⟨w2.heap.size,7,none⟩=some (.slice p2 n2 c2)/\w'.cell? ⟨w2.heap.size,8,none⟩=some (.int .i64 x8)/\w'.cell? ⟨w2.heap.size,9,none⟩=some (.int .i64 x9)/\w'.cell? ⟨w2.heap.size,10,none⟩=some (.int .i64 x10)/\w'.cell? ⟨w.heap.size+1,1,none⟩=some (.int .i64 b)) (go_keep) (fail)
 go_wp2;refine bGN (v:=.tuple #[.agg #[.int .i64 x0,.slice sp sn sc,.int .i64 x2,.int .i64 x3,.int .i64 x4,.string x5,.slice p1 n1 c1,.slice p2 n2 c2,.int .i64 x8,.int .i64 x9,.int .i64 x10],.int .i64 b,.int .i64 0]) q179 rfl ?_;refine⟨?_,.inl ⟨⟨x0,sp,sn,sc,x2,x3,x4,x5,p1,n1,c1,p2,n2,c2,x8,x9,x10⟩,b,rfl,HX.out⟩⟩;exact q497
theorem xG:∀(ns:List L) (ps:List Pm) (s t:L),s.length<=1000000000->jW ns ps s=.good t->t.length<=1000000000
 |[],ps,s,t,hs,h=>by
  unfold jW at h;cases h;exact hs
 |n::ns,[],s,t,hs,h=>by
  unfold jW at h;cases h;exact hs
 |n::ns,p::ps,s,t,hs,h=>by
  unfold jW at h;have ho:=aGH n p s;cases hu:oB n p s with
  |bad k=>rw[hu] at h;cases h
  |good u =>
   rw[hu] at h ho;have ho2:u.length<=1048576:=ho;exact xG ns ps u t oM h
theorem aGJ{o:Ob}{t:L}(hs:o.s.length<=1000000000)(h:mW o=.good t):t.length<=1000000000:=by
 unfold mW at h;split at h
 ·cases h
 ·exact xG _ _ _ _ hs h
def CRd(w:World)(a:Nat)(e:Ending)(w':World):Prop :=
 Below w.heap.size w w'/\((∃x:bN,e=.returned (.tuple #[.agg (aO.cells x).toArray,.int .i64 0])/\xF a x) \/
  (∃(x:bN) (k:Int),e=.returned (.tuple #[.agg (aO.cells x).toArray,.int .i64 k])/\k≠0))
theorem aCJ.below{B bx:Nat}{W W':World}(h:aCJ B bx W)(hb:Below W.heap.size W W'):aCJ B bx W':=by
 obtain⟨a0,a1,a2,p,n,c,PR,prev,h1,h2,h3,h4,h5,h6,h7,h8,h9⟩:=h;exact⟨a0,a1,a2,p,n,c,PR,prev,(hb.block _ (bGJ h1)).trans h1,h2,h3,h4,h5,h6,h7,h8.grow (bGB _) hb.size (fun k _ hk=>hb.block k hk),h9⟩
structure RdJ (w W:World) (ic:Array Value):Prop where
 bel:Below w.heap.size w W
 it:W.heap[w.heap.size]?=some (.cells ic 52 (0,0))
 re:W.heap[w.heap.size+1]?=some (.cells #[.int .i64 0,.slice none 0 0,.int .i64 0,.int .i64 0,.int .i64 0,.string ⟨#[]⟩,.slice none 0 0,.slice none 0 0,.int .i64 0,.int .i64 0,.int .i64 0] 33 (0,0))
theorem RdJ.below{w W W':World}{ic:Array Value}(h:RdJ w W ic)(hb:Below W.heap.size W W'):RdJ w W' ic :=
 ⟨iX h.bel hb,(hb.block _ (bGJ h.it)).trans h.it,(hb.block _ (bGJ h.re)).trans h.re⟩
theorem RdJ.bes{w W W':World}{ic:Array Value}{r:Nat}(h:RdJ w W ic)(hb:Bes r W W')(hr:w.heap.size+1<r):RdJ w W' ic :=
 ⟨h.bel.trans ⟨hb.os,hb.tape,hb.output,hb.size,fun k hk=>hb.block k (bGA hk h.bel.size) oM⟩,(hb.block _ (bGJ h.it) oM).trans h.it,(hb.block _ (bGJ h.re) oM).trans h.re⟩
theorem RdJ.make(w:World)(ic:Array Value):RdJ w ((w.alloc (.cells ic 52)).alloc (.cells #[.int .i64 0,.slice none 0 0,.int .i64 0,.int .i64 0,.int .i64 0,.string ⟨#[]⟩,.slice none 0 0,.slice none 0 0,.int .i64 0,.int .i64 0,.int .i64 0] 33)) ic :=
 ⟨Go.Proofs.YtdjpkgccakgkbaaGreatDoor.bel,(bGM _ _ _ sI).trans (aA _ _ _ rfl),aA _ _ _ sI⟩
theorem aSL(S:Nat->Prop)(d:Nat)(w:World)(p1 p2:Option Addr)(n1 c1 n2 c2:Nat)(o:Ob)(h:aI S d w (aB o.kind o.n o.g o.s (.slice p1 n1 c1) (.slice p2 n2 c2)) o)(ht:cN d o)(hS:∀b,S b->b<w.heap.size)(num gen:Int)(a:Nat)(hsm:cE d o)(hs:o.s.length<=1000000000)(htab:fX w w.heap.size) :
 Calls prog 14 #[.agg #[.int .i64 num,.int .i64 gen,.int .i64 o.kind,.int .i64 o.n,.int .i64 o.g,.string ⟨o.s.toArray⟩,.slice p1 n1 c1,.slice p2 n2 c2],.int .i64 a] w (CRd w a):=by
 have HCK:=Lh (fun(W:World) (hW:Below w.heap.size w W)=>aKL S d num gen o.kind o.n o.g o.s p1 p2 n1 c1 n2 c2 o W (h.kept (fun b h=>hW.block b (hS b h)) d) hsm (fun b h=>bGA (hS b h) hW.size));have HDE:=Lh (fun(W:World) (hW:Below w.heap.size w W)=>aSJ S d W p1 p2 n1 c1 n2 c2 o (h.kept (fun b h=>hW.block b (hS b h)) d) ht (fun b h=>bGA (hS b h) hW.size) hs (htab.next hW));have HCL:=Lh (fun(W:World) (hW:Below w.heap.size w W)=>oP S d W _ o (h.kept (fun b h=>hW.block b (hS b h)) d) ht (fun b h=>bGA (hS b h) hW.size));unfold aB at HCL;have HDL:=Lh (fun t (hh:mW o=.good t)=>aGJ hs hh);have HR1:=Lh (fun(W:World) (hW:Below w.heap.size w W)=>aSE S d W p1 p2 n1 c1 n2 c2 o (h.kept (fun b h=>hW.block b (hS b h)) d) ht (fun b h=>bGA (hS b h) hW.size) num gen);clear h ht hS hsm hs htab;go_enter func14,ntmps14
 go_upto_region 3 with fail
 obtain⟨w0,hw0⟩:=eX ((w.alloc (.cells #[.int .i64 num,.int .i64 gen,.int .i64 o.kind,.int .i64 o.n,.int .i64 o.g,.string ⟨o.s.toArray⟩,.slice p1 n1 c1,.slice p2 n2 c2] 52)).alloc (.cells #[.int .i64 0,.slice none 0 0,.int .i64 0,.int .i64 0,.int .i64 0,.string ⟨#[]⟩,.slice none 0 0,.slice none 0 0,.int .i64 0,.int .i64 0,.int .i64 0] 33));have HJ:=Lh (show RdJ w w0 #[.int .i64 num,.int .i64 gen,.int .i64 o.kind,.int .i64 o.n,.int .i64 o.g,.string ⟨o.s.toArray⟩,.slice p1 n1 c1,.slice p2 n2 c2] by rw[<-hw0];exact RdJ.make w _);rw[hw0];clear hw0;obtain⟨i0,i1,i2,i3,i4,i5,i6,i7⟩:=jU HJ.out.it;go_wp2_with fail;refine(HCK.out _ HJ.out.bel).mono ?_;rintro e w1 ⟨⟨z,rfl⟩,hb1⟩;replace HJ:=Lh (HJ.out.below hb1);clear hb1 i0 i1 i2 i3 i4 i5 i6 i7;by_cases hz0:z=0
 rotate_left
 ·exact q342
 subst hz0;go_upto_region 7 with fail
 obtain⟨w2,hw2⟩:=eX (w1.alloc (.cells #[.int .i64 0,.int .i64 0,.int .i64 0,.slice none 0 0,.int .i64 0] 90));rw[hw2];have hx2:w2.heap[w1.heap.size]?=some (.cells #[.int .i64 0,.int .i64 0,.int .i64 0,.slice none 0 0,.int .i64 0] 90 (0,0)):=q176;have hq:=bGJ HJ.out.re;replace HJ:=Lh (show RdJ w w2 #[.int .i64 num,.int .i64 gen,.int .i64 o.kind,.int .i64 o.n,.int .i64 o.g,.string ⟨o.s.toArray⟩,.slice p1 n1 c1,.slice p2 n2 c2] by rw[<-hw2];exact HJ.out.below ((bGL _ _).alloc (bGB _) _));obtain⟨bx,hbx⟩:=eX (w1.heap.size);rw[hbx] at hx2 hq ⊢;have hbl:=bGJ hx2;clear hw2 hbx;have HCA:=Lh (aNJ bx 35 #[.pointer (some ⟨w.heap.size,0,none⟩),.pointer (some ⟨bx,0,none⟩)] w2 (aCJ (w2.heap.size+1) bx) hbl (enters_of func35 kR rfl)
  (fun W hW hlt=>HR1.out W (iX HJ.out.bel hW) w.heap.size bx (w2.heap.size+1) _ _ _ _ _ ((hW.block _ (bGJ HJ.out.it)).trans HJ.out.it) ((hW.block _ hbl).trans hx2) oM oM)
  (fun A o v hp=>hp.set oM oM o v))
 go_wp2_with fail;refine HCA.out.mono ?_;rintro e w3 ⟨hb3,⟨rfl,hk⟩|rfl⟩;rotate_left
 ·replace HJ:=Lh (HJ.out.bes hb3 hq);clear hb3 hx2 hbl;exact q351
 have HKX:=Lh hk;have hbl3:bx<w3.heap.size:=bGA hbl hb3.size;replace HJ:=Lh (HJ.out.bes hb3 hq);clear hb3 hk hx2 hbl;obtain⟨i0,i1,i2,i3,i4,i5,i6,i7⟩:=jU HJ.out.it;go_upto_region 10 with fail
 go_wp2_with fail;refine(HDE.out _ HJ.out.bel).mono ?_;rintro e w4 ⟨hb4,hcase⟩;obtain⟨DT,z,rfl,hDT⟩:∃(DT:ByteArray) (z:Int),e=.returned (.tuple #[.string DT,.int .i64 z])/\DT.size<=1000000000:=by
  cases hd:mW o with
  |good t=>rw[hd] at hcase;exact⟨_,_,hcase,by have:=HDL.out t hd;show t.toArray.size<=_;simpa using this⟩
  |bad k=>rw[hd] at hcase;exact⟨_,_,hcase,dC⟩
 clear hcase;replace HJ:=Lh (HJ.out.below hb4);replace HKX:=Lh (HKX.out.below hb4);replace hbl3:bx<w4.heap.size:=bGA hbl3 hb4.size;clear hb4 i0 i1 i2 i3 i4 i5 i6 i7;go_upto_region 11 with fail
 obtain⟨w5,hw5⟩:=eX (w4.alloc (.cells #[.string DT] 9));rw[hw5];have hd5:w5.heap[w4.heap.size]?=some (.cells #[.string DT] 9 (0,0)):=q114;have hb5:Below w4.heap.size w4 w5:=by rw[<-hw5];exact(bGL _ _).alloc (bGB _) _
 replace HJ:=Lh (HJ.out.below hb5);replace HKX:=Lh (HKX.out.below hb5);obtain⟨bd,hbd⟩:=eX (w4.heap.size);rw[hbd] at hd5 hbl3 ⊢;clear hw5 hb5 hbd;by_cases hz0:z=0
 rotate_left
 ·exact q342
 subst hz0;go_upto_region 14 with fail
 obtain⟨w6,hw6⟩:=eX (w5.alloc (.cells #[.slice none 0 0] 27));rw[hw6];have hl6:w6.heap[w5.heap.size]?=some (.cells #[.slice none 0 0] 27 (0,0)):=by rw[<-hw6];exact aA _ _ _ rfl
 have hb6:Below w5.heap.size w5 w6:=by rw[<-hw6];exact(bGL _ _).alloc (bGB _) _
 have hdl:=bGJ hd5;have hd6:=(hb6.block _ hdl).trans hd5;have hq2:=bGJ HJ.out.re;replace HJ:=Lh (HJ.out.below hb6);replace HKX:=Lh (HKX.out.below hb6);obtain⟨bl,hbl⟩:=eX (w5.heap.size);rw[hbl] at hl6 hdl hq2 ⊢;have hll:=bGJ hl6;clear hw6 hb6 hbl hd5;have HCB:=Lh (aNJ bl 38 #[.pointer (some ⟨bx,0,none⟩),.pointer (some ⟨bd,0,none⟩),.pointer (some ⟨bl,0,none⟩)] w6 (fun W=>∃(p:Option Addr) (n c:Nat),W.heap[bl]?=some (.cells #[.slice p n c] 27 (0,0))) hll (enters_of func38 kR rfl)
  (fun W hW hlt=>aSF _ bx bd bl DT W (HKX.out.below hW) ((hW.block _ oM).trans hd6) _ ((hW.block _ hll).trans hl6) oM)
  (fun A o v hp=>by obtain⟨p,n,c,hh⟩:=hp;exact⟨p,n,c,(bGK _ _ _ _ (by show bl≠w6.heap.size;omega)).trans hh⟩))
 go_wp2_with fail;refine HCB.out.mono ?_;rintro e w7 ⟨hb7,⟨rfl,lp,ln,lc,hL⟩|rfl⟩;rotate_left
 ·replace HJ:=Lh (HJ.out.bes hb7 oM);clear hb7 hl6 hll hd6;exact q351
 obtain⟨a0,a1,a2,kp,kn,kc,PR,prev,hxk,-,-,-,hp1,hp2,-⟩:=HKX.out;have hx7:=(hb7.block bx (bGJ hxk) oM).trans hxk;replace HJ:=Lh (HJ.out.bes hb7 oM);have hbz:bx<w7.heap.size:=bGJ hx7;have hlz:bl<w7.heap.size:=bGJ hL;clear hb7 hl6 hll hd6 hxk HCB HKX;obtain⟨i0,i1,i2,i3,i4,i5,i6,i7⟩:=jU HJ.out.it;go_wp2_with fail;refine(HCL.out _ HJ.out.bel).mono ?_;rintro e w8 ⟨q1,k1,q2,k2,rfl,-,hb8⟩;replace HJ:=Lh (HJ.out.below hb8);have hx8:=(hb8.block _ hbz).trans hx7;have hl8:=(hb8.block _ hlz).trans hL;have hbz8:=bGA hbz hb8.size;have hlz8:=bGA hlz hb8.size;have hre8:=bGJ HJ.out.re;clear hb8 hx7 hL hbz hlz i0 i1 i2 i3 i4 i5 i6 i7;go_upto_region 18 with fail
 obtain⟨w9,hw9⟩:=eX (w8.alloc (.cells #[.int .i64 o.kind,.int .i64 o.n,.int .i64 o.g,.string ⟨o.s.toArray⟩,.slice q1 o.keys.length k1,.slice q2 o.kids.length k2] 31));rw[hw9];have hT9:w9.heap[w8.heap.size]?=some (.cells #[.int .i64 o.kind,.int .i64 o.n,.int .i64 o.g,.string ⟨o.s.toArray⟩,.slice q1 o.keys.length k1,.slice q2 o.kids.length k2] 31 (0,0)):=by rw[<-hw9];exact aA _ _ _ rfl
 have hb9:Below w8.heap.size w8 w9:=by rw[<-hw9];exact(bGL _ _).alloc (bGB _) _
 replace HJ:=Lh (HJ.out.below hb9);have hx9:=(hb9.block _ hbz8).trans hx8;have hl9:=(hb9.block _ hlz8).trans hl8;obtain⟨bt,hbt⟩:=eX (w8.heap.size);rw[hbt] at hT9 hbz8 hlz8 hre8 ⊢;have n1:¬bt=bx:=oM;have n2:¬bx=bt:=oM;have n3:¬bt=bl:=oM;have n4:¬bl=bt:=oM;have n5:¬bt=w.heap.size:=oM;have n6:¬w.heap.size=bt:=oM;have n7:¬bt=w.heap.size+1:=oM;have n8:¬w.heap.size+1=bt:=oM;clear hw9 hb9 hx8 hl8 hbt;obtain⟨t0,t1,t2,t3,t4,t5,tf⟩:=aD hT9;obtain⟨x0,x1,x2,x3,x4,xf⟩:=aCK hx9;have l0:w9.cell? ⟨bl,0,none⟩=some (.slice lp ln lc):=by simp[World.cell?,hl9]
 obtain⟨i0,i1,i2,i3,i4,i5,i6,i7⟩:=jU HJ.out.it;obtain⟨X0,X1,X2,X3,X4,X5,X6,X7,X8,X9,X10,Xf⟩:=aJ HJ.out.re;clear hT9 hx9 hl9;go_wp2_with fail;refine bGN (v:=.tuple #[.agg #[.int .i64 a,.slice lp ln lc,.int .i64 7,.int .i64 o.n,.int .i64 o.g,.string ⟨#[]⟩,.slice q1 o.keys.length k1,.slice q2 o.kids.length k2,.int .i64 prev,.int .i64 (-1),.int .i64 num],.int .i64 0]) q261 rfl ?_;refine⟨?_,.inl ⟨⟨a,lp,ln,lc,7,o.n,o.g,⟨#[]⟩,q1,o.keys.length,k1,q2,o.kids.length,k2,prev,-1,num⟩,rfl,rfl,hp1,hp2,by show(-1:Int)≤-1;decide,by show(-1:Int)<=2147483647;decide⟩⟩;have hb:=HJ.out.bel;exact bel
