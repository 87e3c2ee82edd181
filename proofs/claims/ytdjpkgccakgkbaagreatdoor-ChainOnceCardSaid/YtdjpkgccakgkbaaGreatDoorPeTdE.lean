/- Parts of the proof: TdE. -/
import Derived.Test.YtdjpkgccakgkbaaGreatDoorPej
import Derived.Test.YtdjpkgccakgkbaaGreatDoorPek
import Derived.Test.YtdjpkgccakgkbaaGreatDoorPem
import Derived.Deep.CutRange
set_option linter.all false
set_option maxRecDepth 100000
set_option maxHeartbeats 8000000
section
variable{p:Prop}
theorem q172(h:p:=by rw[<-hw4,bGK _ _ _ _ (by show w.heap.size+1≠w.heap.size;omega)];exact hE3):p:=h
theorem q173(h:p:=by first|exact HB6.out|exact HB6.out.drew|exact bel):p:=h
theorem q174(h:p:=by first|exact HB6.out.size|exact HB6.out.drew.size|(have:=HB6.out.size;simp;omega)):p:=h
theorem q175(h:p:=by first|(show r≠w.heap.size;omega)|(show r≠w.heap.size+1;omega)):p:=h
theorem q464(h:p:=by
 rw[<-hw9]
 (repeat' (first|(with_reducible exact hbw8)|(with_reducible refine Bes.setCell_new ?_ ?_ _)|exact bGB _))):p:=h
theorem q476(h:p:=by
 intro b hb;rw[<-hw9];iterate 8 rw[bGK _ _ _ _ (by show b≠w.heap.size;exact hb)]):p:=h
theorem q493(h:p:=by rw[<-hw9,aC (aC (aC (aC (aC (aC (aC (aC hX8)))))))];rfl):p:=h
theorem q498(h:p:=by
 unfold RdT at *
 iterate 12 rw[bGK _ _ _ _ q175]
 exact hr9):p:=h
theorem q526(h:p:=by rw[<-hw1];exact(bGM _ _ _ sI).trans (aA _ _ _ rfl)):p:=h
theorem q559(h:p:=by
 cases c₀;simp_all [bodyPostS,results,results48]):p:=h
end
namespace Go.Proofs.YtdjpkgccakgkbaaGreatDoor
open Go.Proofs.Tryz
open Go.RowKit Fo
def gF(o:Ob)(key:L):Option Int:=match fE o key with
 |none=>some (-1)
 |some v=>if v.kind=2/\0<=v.n then some v.n else none
theorem wI(q:Addr)(w:World) :
 CallsD prog 48 #[.pointer (some q)] .returning w fun e u' w'=>e=.returned (.tuple #[])/\u'=.returning/\w'=w:=by
 refine callsD_of_wpS func48 rfl fun c₀ cs hu=>?_
 simp only[ntmps48,List.size_toArray,bHA,List.length_nil,Nat.reduceAdd,Nat.reduceSub,Array.replicate_succ,Array.replicate_zero,List.push_toArray,List.append_toArray,List.nil_append,List.cons_append];apply wpS_seq
 apply wpS_region
 simp[wpOpsS,go_sem,recoverD,hu,ntmps48,Exit.thenS];refine wpS_of_wp ?_;go_wp2;exact q559
theorem kI(S:Nat->Prop)(d:Nat)(w:World)(cs:List Value)(o:Ob)(key:L)(z:Int)(h:aI S (d+1) w cs o)(ht:cN (d+1) o)(hS:∀b,S b->b<w.heap.size)(hz:gF o key=some z) :
 Calls prog 53 #[.agg cs.toArray,.string ⟨key.toArray⟩] w fun e w'=>e=.returned (.int .i64 z)/\Below w.heap.size w w':=by
 have HG:=Lh (fun(W:World) (hW:Below w.heap.size w W)=>qS S d W cs o key (h.kept (fun b h=>hW.block b (hS b h)) (d+1)) ht (fun b h=>bGA (hS b h) hW.size));obtain⟨p1,n1,c1,p2,n2,c2,rfl⟩:=h.shape;unfold aB at HG;unfold aB;clear h ht hS;unfold gF at hz;cases hg:fE o key with
 |none =>
  rw[hg] at hz HG;cases hz;go_enter func53,ntmps53
  go_wp2_with fail;refine(HG.out _ bel).mono ?_;rintro e w1 ⟨rfl,hb1⟩;have hz1:=hb1.size;simp at hz1;exact q597
 |some v =>
  rw[hg] at hz HG;dsimp only at hz;split at hz
  ·rename_i hc
   cases hz;obtain⟨hk,hn⟩:=hc;have d0:decide (0<=v.n)=true:=bGI hn;clear hn hg;have HG2:=Lh (fun W hW=>(HG.out W hW).mono (R':=fun e w'=>∃p1 c1 p2 c2,e=.returned (.tuple #[.agg #[.int .i64 2,.int .i64 v.n,.int .i64 v.g,.string ⟨v.s.toArray⟩,.slice p1 v.keys.length c1,.slice p2 v.kids.length c2],.bool true])/\Below W.heap.size W w') (by
    rintro e w' ⟨p1,c1,p2,c2,rfl,_,hb⟩;exact⟨p1,c1,p2,c2,by rw[hk],hb⟩))
   clear HG hk;go_enter func53,ntmps53
   go_wp2_with fail;refine(HG2.out _ bel).mono ?_;rintro e w1 ⟨q1,e1,q2,e2,rfl,hb1⟩;have hz1:=hb1.size;simp at hz1;exact q588
  ·cases hz
theorem yZ{s:ByteArray}{a:Nat}{PS:List Sl}{o:Ob}{aP:L}(ha:a<=s.size)(h:vN (s.data.toList.drop a)=some (PS,o,aP)) :
 Lib.hasPrefix (s.data.toList.drop a) [120,114,101,102]=true/\∃(l:Nat) (n:Int) (f:Nat) (l2:L),lU s a ⟨5,l,n,vM⟩ a/\lR f (s.data.toList.drop (a+l)) []=some (PS,l2)/\fA l2=.good (o,aP)/\o.kind=7:=by
 unfold vN at h;split at h
 ·rename_i h4
  cases hw:mY (s.data.toList.drop a) vM with
  |none=>rw[hw] at h;cases h
  |some l1 =>
   rw[hw] at h;dsimp only at h;obtain⟨l,n,p,hT,rfl⟩:=qO ha hw;have hsk:(aM (s.data.toList.drop a)).1=0:=by
    cases hl:s.data.toList.drop a with
    |nil=>rw[hl] at h4;cases h4
    |cons c r =>
     rw[hl] at h4;have hc:c=120:=by simp[vM] at h4;exact h4.1
     subst hc;rfl
   obtain rfl:a=p:=by have:=hT.2.1;omega
   cases hs:lR ((s.data.toList.drop (a+l)).length+1) (s.data.toList.drop (a+l)) [] with
   |none=>rw[hs] at h;cases h
   |some y =>
    obtain⟨ps,l2⟩:=y;rw[hs] at h;dsimp only at h;cases hr:fA l2 with
    |bad e=>rw[hr] at h;cases h
    |good z =>
     obtain⟨o',l3⟩:=z;rw[hr] at h;dsimp only at h;split at h
     ·rename_i hk
      cases h;refine⟨?_,l,n,_,l2,hT,hs,hr,hk⟩;have:(s.data.toList.drop a)=vM++(s.data.toList.drop a).drop 4:=by rw[<-h4,List.take_append_drop]
      rw[this];simp[Lib.hasPrefix,vM]
     ·cases h
 ·cases h
theorem aJ{w:World}{b:Nat}{t:TypeId}{v0 v1 v2 v3 v4 v5 v6 v7 v8 v9 v10:Value}(h:w.heap[b]?=some (.cells #[v0,v1,v2,v3,v4,v5,v6,v7,v8,v9,v10] t (0,0))) :
 w.cell? ⟨b,0,none⟩=some v0/\w.cell? ⟨b,1,none⟩=some v1/\w.cell? ⟨b,2,none⟩=some v2/\w.cell? ⟨b,3,none⟩=some v3/\w.cell? ⟨b,4,none⟩=some v4/\w.cell? ⟨b,5,none⟩=some v5/\w.cell? ⟨b,6,none⟩=some v6/\w.cell? ⟨b,7,none⟩=some v7/\w.cell? ⟨b,8,none⟩=some v8/\w.cell? ⟨b,9,none⟩=some v9/\w.cell? ⟨b,10,none⟩=some v10/\∀o,w.frozen? ⟨b,o,none⟩=false:=by
 exact q374
theorem iW{B:Nat}{w0 w w':World}(h:Below B w0 w)(hb:Below w.heap.size w w')(hB:B<=w.heap.size):Below B w0 w':=h.trans (hb.mono hB)
def nW:L:=[80,114,101,118]
def tN:L:=[88,82,101,102,83,116,109]
def pD{α:Type}(S:Nat->Prop)(E:Enc α)(w:World)(v:Value)(xs:List α):Prop:=∃p c,v=.slice p xs.length c/\∀j (hj:j<xs.length),∃g off,p=some ⟨g,off,none⟩/\S g/\g<w.heap.size /\
 ∀i u,(E.cells xs[j])[i]?=some u->w.cell? ⟨g,off+j*E.k+i,none⟩=some u
theorem pD.arg{α:Type}{S:Nat->Prop}{E:Enc α}{w:World}{v:Value}{xs:List α}(h:pD S E w v xs):bC E w v xs:=by
 obtain⟨p,c,e,h⟩:=h;exact⟨p,c,e,fun j hj=>by obtain⟨g,off,h1,_,h2,h3⟩:=h j hj;exact⟨g,off,h1,h2,h3⟩⟩
theorem pD.of_row{α:Type}{E:Enc α}{t:TypeId}{w:World}{B:Nat}{v:Value}{xs:List α}(h:aG E t w B v xs):pD (fun b=>B<=b) E w v xs:=by
 obtain⟨p,c,e,h2⟩:=aG.arg h;refine⟨p,c,e,fun j hj=>?_⟩;obtain⟨g,off,h3,h4,h5⟩:=h2 j hj;refine⟨g,off,h3,aK h g (by rw[e,h3];rfl),h4,h5⟩
theorem pD.grow{α:Type}{S S':Nat->Prop}{E:Enc α}{w w':World}{v:Value}{xs:List α}(h:pD S E w v xs)(hk:∀b,S b->b<w.heap.size->S' b/\w'.heap[b]?=w.heap[b]?):pD S' E w' v xs:=by
 obtain⟨p,c,e,h2⟩:=h;refine⟨p,c,e,fun j hj=>?_⟩;obtain⟨g,off,h3,h4,h5,h6⟩:=h2 j hj;obtain⟨k1,k2⟩:=hk g h4 h5;refine⟨g,off,h3,k1,?_,fun i u hu=>?_⟩
 ·exact(Array.getElem?_eq_some_iff.1 (k2.trans (Array.getElem?_eq_getElem h5))).1
 ·rw[<-h6 i u hu];unfold World.cell?;rw[k2]
structure xR (S:Nat->Prop) (d:Nat) (w:World) (x:bN) (s:Sec):Prop where
 at':x.at'=s.at'
 prev:x.prev=s.prev
 hyb:x.hyb=s.hyb
 own:x.own=s.own
 len:x.sn=s.slots.length
 slots:pD S slE w (.slice x.sp x.sn x.sc) s.slots
 trail:aI S d w [.int .i64 x.k,.int .i64 x.n,.int .i64 x.g,.string x.s,.slice x.p1 x.n1 x.c1,.slice x.p2 x.n2 x.c2] s.trail
theorem xR.is{S:Nat->Prop}{d:Nat}{w:World}{x:bN}{s:Sec}(h:xR S d w x s):aED S d w x s:=⟨h.at',h.prev,h.hyb,h.own,h.len,h.slots.arg,h.trail⟩
theorem xR.grow{S S':Nat->Prop}{d:Nat}{w w':World}{x:bN}{s:Sec}(h:xR S d w x s)(hk:∀b,S b->b<w.heap.size->S' b/\w'.heap[b]?=w.heap[b]?):xR S' d w' x s :=
 ⟨h.at',h.prev,h.hyb,h.own,h.len,h.slots.grow hk,h.trail.grow hk⟩
def aWY(r:Nat)(s:ByteArray)(w:World)(y:Sec)(e:Ending)(w':World):Prop :=
 ∃x:bN,e=.returned (.tuple #[.agg (aO.cells x).toArray,.int .i64 0])/\xR (fun b=>w.heap.size<=b) 25 w' x y/\(∃b,b<=s.size/\RdT w' r s b)/\Bes r w w'
theorem xS(r:Nat)(s:ByteArray)(a:Nat)(PS:List Sl)(o:Ob)(aP:L)(prev hyb:Int)(h:vN (s.data.toList.drop a)=some (PS,o,aP))(hc:aT 24 o=0)(h1:gF o nW=some prev)(h2:gF o tN=some hyb)
 (ha:a<=s.size) (hs:s.size<=100000000) (m:Int) (w:World) (hm:aF w m) (hr:RdT w r s a) (hrm:r≠1) :
 Calls prog 24 #[.pointer (some ⟨r,0,none⟩)] w (aWY r s w ⟨a,PS,o,prev,hyb,0⟩):=by
 obtain⟨hpre,l,n,f,l2,hT,hS,hO,hk⟩:=yZ ha h;have hlt:=hr.lt;have hp1:=hT.2.2;have HB:=Lh (fun W=>dQ s ⟨#[120,114,101,102]⟩ a true hpre ha (show s.size<=maxLen from q26) W);have HT:=Lh hT;have HS:=Lh hS;have HO:=Lh (bGQ hO (bGQ hk (bGQ hc (bGQ h1 h2))));clear h hpre hT hS hO hk hc h1 h2;go_enter_defers func24,ntmps24
 have r1:=hr.cell1;have r0:=hr.cell0;have ner:¬r=w.heap.size:=oM;have ner2:¬r=w.heap.size+1:=oM;go_upto_region 3 with fail
 obtain⟨w1,hw1⟩:=eX ((w.alloc (.cells #[.int .i64 a,.slice none 0 0,.int .i64 0,.int .i64 0,.int .i64 0,.string ⟨#[]⟩,.slice none 0 0,.slice none 0 0,.int .i64 0,.int .i64 0,.int .i64 0] 33)).alloc (.cells #[.int .i64 0] 24));have hX1:w1.heap[w.heap.size]?=some (.cells #[.int .i64 a,.slice none 0 0,.int .i64 0,.int .i64 0,.int .i64 0,.string ⟨#[]⟩,.slice none 0 0,.slice none 0 0,.int .i64 0,.int .i64 0,.int .i64 0] 33 (0,0)):=by
  exact q526
 have hE1:w1.heap[w.heap.size+1]?=some (.cells #[.int .i64 0] 24 (0,0)):=by
  rw[<-hw1];exact aA _ _ _ sI
 have hbw1:Below w.heap.size w w1:=q33;have hz1:w1.heap.size=w.heap.size+2:=by rw[<-hw1];simp
 rw[hw1];have hr1:=hr.below hbw1;have hm1:=hm.below hbw1;have k1:=hr1.cell1;have k0:=hr1.cell0;clear hw1 r1 r0 ner ner2;go_wp2_with fail;go_quiet (first|(go_at_call 11;exact bHD (HB.out _))|(go_at_call 49;exact bHD (bD _)))
 obtain⟨v1,hv1⟩:=eX (w1.drewN nq);have hr1':RdT v1 r s a:=by rw[<-hv1];exact hr1
 have hm1':aF v1 m:=by rw[<-hv1];exact hm1
 have hX1':v1.heap[w.heap.size]?=some (.cells #[.int .i64 a,.slice none 0 0,.int .i64 0,.int .i64 0,.int .i64 0,.string ⟨#[]⟩,.slice none 0 0,.slice none 0 0,.int .i64 0,.int .i64 0,.int .i64 0] 33 (0,0)):=by rw[<-hv1];exact hX1
 have hE1':v1.heap[w.heap.size+1]?=some (.cells #[.int .i64 0] 24 (0,0)):=by rw[<-hv1];exact hE1
 have hbv1:Below w.heap.size w v1:=by rw[<-hv1];exact aN hbw1 nq
 have hzv1:v1.heap.size=w.heap.size+2:=by rw[<-hv1];exact hz1
 rw[hv1];clear hv1 hX1 hE1 hbw1 hm1 hr1 k0 k1 hz1;go_wp2_with fail;refine(eH r s a a l 5 n [120,114,101,102] HT.out ha oM m _ hm1' hr1').mono ?_;rintro e v2 ⟨rfl,hr2',hs2'⟩;go_upto_region 5 with fail
 obtain⟨w2,hw2⟩:=eX (v2.alloc (.cells #[.int .i64 5,.int .i64 a,.int .i64 ((a:Int)+l),.int .i64 n,.string ⟨#[120,114,101,102]⟩] 81));obtain⟨tb,htb⟩:=eX (v2.heap.size);have hb22:Below v2.heap.size v2 w2:=q171;have hT2:w2.heap[tb]?=some (.cells #[.int .i64 5,.int .i64 a,.int .i64 ((a:Int)+l),.int .i64 n,.string ⟨#[120,114,101,102]⟩] 81 (0,0)):=by rw[<-hw2];exact aA _ _ _ htb.symm
 have hz22:w2.heap.size=tb+1:=by rw[<-hw2,<-htb];simp
 have hzz2:=hs2'.size;rw[htb] at hzz2;rw[hw2];simp only[htb];have hr2:=hr2'.below hb22;replace hs2':=hs2'.trans (Bes.of_below (r:=r) hb22);clear hw2 htb hb22 hr2';obtain⟨T0,T1,T2,T3,T4,Tf⟩:=eM hT2;have hz2:=hs2'.size;have hX2:=(hs2'.block w.heap.size oM oM).trans hX1';have hE2:=(hs2'.block (w.heap.size+1) oM oM).trans hE1';have hm2:aF w2 m:=hm1'.bes hs2' hrm;have hbw2:Bes r w w2:=(Bes.of_below hbv1).trans hs2';obtain⟨X0,X1',X2',X3',X4',X5',X6',X7',X8',X9',X10',Xf⟩:=aJ hX2;clear hs2' hX1' hE1' hbv1 hm1' hr1' hT2;go_wp2_with(go_at_call 49;refine(bD _).mono ?_;rintro e w9 ⟨rfl,h9⟩;obtain rfl:=h9.symm)
 refine(aEH r s (a+l) f PS l2 HS.out hp1 hs m _ hm2 hr2 hrm).mono ?_;rintro e w3 ⟨⟨sv,rfl,hrow⟩,⟨b3,hb3,hl2,hr3⟩,hs3⟩;have hz3:=hs3.size;obtain⟨sp,sc,rfl⟩:=aH hrow;have hX3:w3.heap[w.heap.size]?=some (.cells #[.int .i64 a,.slice none 0 0,.int .i64 0,.int .i64 0,.int .i64 0,.string ⟨#[]⟩,.slice none 0 0,.slice none 0 0,.int .i64 0,.int .i64 0,.int .i64 0] 33 (0,0)):=(hs3.block w.heap.size oM oM).trans hX2;have hE3:w3.heap[w.heap.size+1]?=some (.cells #[.int .i64 0] 24 (0,0)):=(hs3.block (w.heap.size+1) oM oM).trans hE2;have hbw3:Bes r w w3:=hbw2.trans hs3;have hm3:aF w3 m:=hm2.bes hs3 hrm;have HROW:=Lh (hrow.low (show w.heap.size+2<=_ from oM));obtain⟨Y0,Y1,Y2,Y3,Y4,Y5,Y6,Y7,Y8,Y9,Y10,Yf⟩:=aJ hX3;clear hs3 hX2 hE2 hbw2 hm2 hr2 hrow T0 T1 T2 T3 T4 Tf X0 X1' X2' X3' X4' X5' X6' X7' X8' X9' X10' Xf;go_upto_region 7 with fail
 obtain⟨w4,hw4⟩:=eX (w3.setCell ⟨w.heap.size,1,none⟩ (.slice sp PS.length sc));rw[hw4];have hX4:w4.heap[w.heap.size]?=some (.cells #[.int .i64 a,.slice sp PS.length sc,.int .i64 0,.int .i64 0,.int .i64 0,.string ⟨#[]⟩,.slice none 0 0,.slice none 0 0,.int .i64 0,.int .i64 0,.int .i64 0] 33 (0,0)):=by rw[<-hw4,aC hX3];rfl
 have hE4:w4.heap[w.heap.size+1]?=some (.cells #[.int .i64 0] 24 (0,0)):=q172;have hr4:RdT w4 r s b3:=by rw[<-hw4];exact hr3.belowB (B:=r+1) xK oM
 have hbw4:Bes r w w4:=by rw[<-hw4];exact hbw3.setCell_new (bGB _) _
 have hz4:w3.heap.size<=w4.heap.size:=by rw[<-hw4];simp[World.setCell]
 have HROW4:=Lh (show aG slE 39 w4 (w.heap.size+2) (.slice sp PS.length sc) PS by rw[<-hw4];exact cG HROW.out oM);have hm4:aF w4 m:=hm.bes hbw4 hrm;have HOB:=Lh (fun W hW=>hl2▸sG s b3 hb3 oM m W hW);have hz42:w.heap.size+2<=w4.heap.size:=oM;clear hw4 hX3 hE3 hr3 hbw3 hm3 HROW Y0 Y1 Y2 Y3 Y4 Y5 Y6 Y7 Y8 Y9 Y10 Yf hz3 hz4;have k0:=hr4.cell0;have k1:=hr4.cell1;have hltr:=hr4.lt;have ne1:¬r=w4.heap.size:=oM;have ne2:¬w4.heap.size=r:=oM;go_cut [5,6,7] from 44 to 56 (fun s5 s6 s7 wx=>∃(g z:Nat) (p1:Option Addr) (n1 c1:Nat) (p2:Option Addr) (n2 c2:Nat),s5=.pointer (some ⟨g,0,none⟩)/\s6=.int .i64 z/\s7=.int .i64 0/\z<=s.size/\wx.heap[g]?=some (.cells #[.int .i64 o.kind,.int .i64 o.n,.int .i64 o.g,.string ⟨o.s.toArray⟩,.slice p1 n1 c1,.slice p2 n2 c2] 31 (0,0))/\w4.heap.size<=g /\
  Hid (aI (fun b=>w4.heap.size<=b) 25 wx (aB o.kind o.n o.g o.s (.slice p1 n1 c1) (.slice p2 n2 c2)) o)/\Below w4.heap.size w4 wx)
 case first =>
  go_region_held3 (fun w'=>w'.cell? ⟨r,0,none⟩=some (.string s)/\w'.cell? ⟨r,1,none⟩=some (.int .i64 b3)) (go_keep) ((go_at_call 52;refine(HOB.out _ (hm4.below bel)).mono ?_;intro e w5 hpost;rw[HO.out.1] at hpost;obtain⟨p1,n1,c1,p2,n2,c2,z,rfl,hz1,_,hO5,hb⟩:=hpost;obtain⟨hc,hf⟩:=aZ hb;have hz:=hb.size;simp at hz;have hbw:Below w4.heap.size w4 w5:=bel;have k0:=(hbw.cell (p:=⟨r,0,none⟩) hltr).trans k0;have k1:=(hbw.cell (p:=⟨r,1,none⟩) hltr).trans k1))
  all_goals go_wp2_with fail
  all_goals go_meet
  ·exact⟨w5.heap.size,z,p1,n1,c1,p2,n2,c2,rfl,rfl,rfl,hz1,aA _ _ _ rfl,hbw.size,Lh (hO5.grow (fun b h1 h2=>⟨h1,bGM _ _ _ h2⟩)),hbw.alloc hbw.size _⟩
  ·have B1:w5.heap[w4.heap.size]?=some (.cells #[.int .i64 0,.int .i64 0,.int .i64 0,.string ⟨#[]⟩,.slice none 0 0,.slice none 0 0] 31 (0,0)):=(hb.block _ sI).trans (aA w4 _ _ rfl);have hg6:=bA w5 w4.heap.size 0 1 2 3 4 5 (.int .i64 o.kind) (.int .i64 o.n) (.int .i64 o.g) (.string ⟨o.s.toArray⟩) (.slice p1 n1 c1) (.slice p2 n2 c2);exact⟨w4.heap.size,z,p1,n1,c1,p2,n2,c2,rfl,rfl,rfl,hz1,cL B1,bGB _,Lh (hO5.grow (fun b h1 h2=>⟨q162,hg6.block b h2 (fun e=>by simp at e h1;omega)⟩)),hbw.grown hg6 hbw.size (fun k e=>q125)⟩
 case rest =>
  obtain⟨g,z,p1,n1,c1,p2,n2,c2,rfl,rfl,rfl,hz1,hG,hg,HOA,hbx⟩:=hcut;obtain⟨w5,rfl⟩:∃w5,w5=wc:=⟨_,rfl⟩
  have hz5:=hbx.size;have hX5:=(hbx.block w.heap.size oM).trans hX4;have hE5:=(hbx.block (w.heap.size+1) oM).trans hE4;have hr5:=hr4.below hbx;have hbw5:Bes r w w5:=hbw4.trans (Bes.of_below hbx);have HROW5:=Lh (HROW4.out.below hbx);have hm5:=hm4.below hbx;have hgl:=bGJ hG;have hk7:(o.kind==7)=true:=by simpa using HO.out.2.1
  clear hX4 hE4 hr4 hbw4 HROW4 hm4 k0 k1 hltr ne1 ne2 HOB;obtain⟨g0,g1,g2,g3,g4,g5,gf⟩:=aD hG;have k1:=hr5.cell1;have kf:=hr5.frozen 1;have hkK:o.kind=7:=HO.out.2.1;rw[hkK] at g0;go_upto_region 10 with(go_at_call 49;refine(bD _).mono ?_;rintro e w9 ⟨rfl,h9⟩;obtain rfl:=h9.symm)
  obtain⟨w6,hw6⟩:=eX (w5.setCell ⟨r,1,none⟩ (.int .i64 z));rw[hw6];have hs56:Bes r w5 w6:=q163;have hz6:w5.heap.size=w6.heap.size:=q164;have hX6:=(hs56.block w.heap.size oM oM).trans hX5;have hE6:=(hs56.block (w.heap.size+1) oM oM).trans hE5;have hbw6:=hbw5.trans hs56;have hG6:=(hs56.block g oM oM).trans hG;have hr6:RdT w6 r s z:=by rw[<-hw6];exact hr5.set
  have HROW6:=Lh (show aG slE 39 w6 (w.heap.size+2) (.slice sp PS.length sc) PS by rw[<-hw6];exact cG HROW5.out oM);have HO6:=Lh (show aI (fun b=>w4.heap.size<=b/\b<w6.heap.size) 25 w6 (aB 7 o.n o.g o.s (.slice p1 n1 c1) (.slice p2 n2 c2)) o from hkK▸(HOA.out.grow (fun b h1 h2=>⟨⟨h1,oM⟩,hs56.block b oM oM⟩)));have hz46:w4.heap.size<=w6.heap.size:=oM;have htame:=oQ 25 24 _ o HO6.out HO.out.2.2.1;have HL1:=Lh (fun(W:World) (hW:Below w6.heap.size w6 W)=>kI _ 24 W _ o nW prev (HO6.out.kept (fun b h=>hW.block b h.2) 25) htame (fun b h=>bGA h.2 hW.size) HO.out.2.2.2.1);have HL2:=Lh (fun(W:World) (hW:Below w6.heap.size w6 W)=>kI _ 24 W _ o tN hyb (HO6.out.kept (fun b h=>hW.block b h.2) 25) htame (fun b h=>bGA h.2 hW.size) HO.out.2.2.2.2);unfold aB nW at HL1;unfold aB tN at HL2;clear hw6 hX5 hE5 hbw5 hG hr5 HROW5 HOA hz5 hm5 hs56 g0 g1 g2 g3 g4 g5 gf k1 kf htame hk7;obtain⟨g0,g1,g2,g3,g4,g5,gf⟩:=aD hG6;obtain⟨X0,X1',X2',X3',X4',X5',X6',X7',X8',X9',X10',Xf⟩:=aJ hX6;rw[hkK] at g0;have HB6:=Lh (bGL w6.heap.size w6);have ng1:¬g=w.heap.size:=oM;have ng2:¬w.heap.size=g:=oM;go_region_held3 (fun w'=>(w'.cell? ⟨g,0,none⟩=some (.int .i64 7)/\w'.cell? ⟨g,1,none⟩=some (.int .i64 o.n)/\w'.cell? ⟨g,2,none⟩=some (.int .i64 o.g)/\w'.cell? ⟨g,3,none⟩=some (.string ⟨o.s.toArray⟩)/\w'.cell? ⟨g,4,none⟩=some (.slice p1 n1 c1)/\w'.cell? ⟨g,5,none⟩=some (.slice p2 n2 c2))) (go_keep)
   (first
    |(go_at_call 53;(with_reducible refine(HL1.out _ q173).mono ?_);rintro e w7 ⟨rfl,hb⟩;replace HB6:Hid (Below w6.heap.size w6 w7):=Lh (iW q173 hb q174);clear hb g0 g1 g2 g3 g4 g5 gf X0 X1' X2' X3' X4' X5' X6' X7' X8' X9' X10' Xf;(obtain⟨g0,g1,g2,g3,g4,g5,gf⟩:=aD ((HB6.out.block _ oM).trans hG6));(obtain⟨X0,X1',X2',X3',X4',X5',X6',X7',X8',X9',X10',Xf⟩:=aJ ((HB6.out.block _ oM).trans hX6));rw[hkK] at g0)
    |(go_at_call 53;(with_reducible refine(HL2.out _ q173).mono ?_);rintro e w8 ⟨rfl,hb⟩;replace HB6:Hid (Below w6.heap.size w6 w8):=Lh (iW q173 hb q174);clear hb g0 g1 g2 g3 g4 g5 gf X0 X1' X2' X3' X4' X5' X6' X7' X8' X9' X10' Xf;(obtain⟨g0,g1,g2,g3,g4,g5,gf⟩:=aD ((HB6.out.block _ oM).trans hG6));(obtain⟨X0,X1',X2',X3',X4',X5',X6',X7',X8',X9',X10',Xf⟩:=aJ ((HB6.out.block _ oM).trans hX6));rw[hkK] at g0))
  have hz8:=HB6.out.size;have hX8:=(HB6.out.block w.heap.size oM).trans hX6;have hE8:=(HB6.out.block (w.heap.size+1) oM).trans hE6;have hbw8:Bes r w w8:=hbw6.trans (Bes.of_below HB6.out);have HROW8:=Lh (HROW6.out.below HB6.out);have HO8:=Lh (fun(W:World) (hW:∀b,w.heap.size+2<=b->W.heap[b]?=w8.heap[b]?)=>HO6.out.grow (w':=W) (S':=fun b=>w.heap.size<=b) (fun b h1 h2=>⟨q108,(hW b q108).trans (HB6.out.block b h1.2)⟩));have hr8:=hr6.below HB6.out;clear g0 g1 g2 g3 g4 g5 gf X0 X1' X2' X3' X4' X5' X6' X7' X8' X9' X10' Xf HB6 hX6 hE6 hbw6 HROW6 HO6 hr6 HL1 HL2 hG6 hbx ng1 ng2;obtain⟨w9,hw9⟩:=eX (((((((((w8.setCell ⟨w.heap.size,2,none⟩ (.int .i64 7)).setCell ⟨w.heap.size,3,none⟩ (.int .i64 o.n)).setCell ⟨w.heap.size,4,none⟩ (.int .i64 o.g)).setCell ⟨w.heap.size,5,none⟩ (.string ⟨o.s.toArray⟩)).setCell ⟨w.heap.size,6,none⟩ (.slice p1 n1 c1)).setCell ⟨w.heap.size,7,none⟩ (.slice p2 n2 c2)).setCell ⟨w.heap.size,8,none⟩ (.int .i64 prev)).setCell ⟨w.heap.size,9,none⟩ (.int .i64 hyb)));rw[hw9];have hX9:w9.heap[w.heap.size]?=some (.cells #[.int .i64 a,.slice sp PS.length sc,.int .i64 7,.int .i64 o.n,.int .i64 o.g,.string ⟨o.s.toArray⟩,.slice p1 n1 c1,.slice p2 n2 c2,.int .i64 prev,.int .i64 hyb,.int .i64 0] 33 (0,0)):=by
   exact q493
  have hO9:∀b,b≠w.heap.size->w9.heap[b]?=w8.heap[b]?:=by
   exact q476
  have hE9:=(hO9 (w.heap.size+1) oM).trans hE8;have hz9:w9.heap.size=w8.heap.size:=by rw[<-hw9];simp[World.setCell]
  have hbw9:Bes r w w9:=by
   exact q464
  have HROW9:=Lh (show aG slE 39 w9 (w.heap.size+2) (.slice sp PS.length sc) PS by
   rw[<-hw9]
   (repeat' (first|(with_reducible exact HROW8.out)|(with_reducible refine cG ?_ ?_)|omega)))
  have hr9:RdT w9 r s z:=by unfold RdT at *;rw[hO9 r oM];exact hr8
  have hl9:w.heap.size+1<w9.heap.size:=by have:=bGJ hE9;omega
  have HO9:=Lh (fun(W:World) (hW:∀b,w.heap.size+2<=b->W.heap[b]?=w9.heap[b]?)=>HO8.out W (fun b hb=>(hW b hb).trans (hO9 b oM)));clear hw9 hX8 hE8 hbw8 HROW8 HO8 hr8 hO9 hz9;obtain⟨X0,X1',X2',X3',X4',X5',X6',X7',X8',X9',X10',Xf⟩:=aJ hX9;have y0:w9.cell? ⟨w.heap.size+1,0,none⟩=some (.int .i64 0):=by simp[World.cell?,hE9]
  have yf:w9.frozen? ⟨w.heap.size+1,0,none⟩=false:=by simp[World.frozen?,hE9]
  clear hX9 hE9;go_wp2;refine bGW (f:=48) (args:=#[.pointer (some ⟨w.heap.size+1,0,none⟩)]) sI q39 ?_;refine(wI _ _).mono ?_;rintro e u' w'' ⟨rfl,rfl,rfl⟩;simp[Leaves,settle,results,results24,go_sem,X0,X1',X2',X3',X4',X5',X6',X7',X8',X9',X10',Xf,y0,yf];refine⟨⟨a,sp,PS.length,sc,7,o.n,o.g,⟨o.s.toArray⟩,p1,n1,c1,p2,n2,c2,prev,hyb,0⟩,rfl,⟨rfl,rfl,rfl,rfl,rfl,?_,?_⟩,⟨z,hz1,?_⟩,?_⟩
  ·refine pD.grow (S:=fun b=>w.heap.size+2<=b) (pD.of_row (t:=39) ?_) (fun b hb _=>⟨oM,rfl⟩)
   (repeat' (first|(with_reducible exact HROW9.out)|(with_reducible refine cG ?_ ?_)|omega))
  ·refine HO9.out _ (fun b hb=>?_);iterate 12 rw[bGK _ _ _ _ (by first|(show b≠w.heap.size;omega)|(show b≠w.heap.size+1;omega))]
  ·exact q498
  ·(repeat' (first|(with_reducible exact hbw9)|(with_reducible refine Bes.setCell_new ?_ ?_ _)|exact bGB _|exact Nat.le_succ _))
end Go.Proofs.YtdjpkgccakgkbaaGreatDoor
