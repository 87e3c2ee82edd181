/- Parts of the proof: VaC. -/
import Derived.Test.YtdjpkgccakgkbaaGreatDoorPel
import Derived.Deep.Cut
import Derived.Deep.CutBlock
set_option linter.all false
set_option maxRecDepth 100000
set_option maxHeartbeats 8000000
section
variable{p:Prop}
theorem q145(h:p:=by have:=HT.out;revert this;cases un<;>cases ug<;>cases us<;>cases uk<;>cases ud<;>cases ok<;>decide):p:=h
theorem q146(h:p:=by simp[hN,hG]):p:=h
theorem q147(h:p:=by simp[hN,hG,hK]):p:=h
theorem q148(h:p:=by simp[hN,hG,hK,hD]):p:=h
theorem q149(h:p:=by simp[hG,hK,hD]):p:=h
theorem q294(h:p:=by
 cases hG:(G==0)
 ·go_wp2_with(go_at_call 116;refine(cA _ _).mono ?_;rintro e w9 ⟨rfl,h9⟩;obtain rfl:=h9.symm)
  exact⟨rfl,HNo.out (by simp[hG]),HBW.out⟩
 ·
  rcases hSS with hs1|hs1
  ·have hS:=qR hs1;have hs2:=oO hs1;go_wp2_with(go_at_call 116;refine(cA _ _).mono ?_;rintro e w9 ⟨rfl,h9⟩;obtain rfl:=h9.symm)
   exact⟨rfl,HNo.out (by simp[hG,hS]),HBW.out⟩
  ·subst hs1;cases hK:((n2:Int)==0)
   ·go_wp2_with(go_at_call 116;refine(cA _ _).mono ?_;rintro e w9 ⟨rfl,h9⟩;obtain rfl:=h9.symm)
    exact⟨rfl,HNo.out (by simp[hG,hK]),HBW.out⟩
   ·
    cases hD:((nk:Int)==0)
    ·go_wp2_with(go_at_call 116;refine(cA _ _).mono ?_;rintro e w9 ⟨rfl,h9⟩;obtain rfl:=h9.symm)
     exact⟨rfl,HNo.out q149,HBW.out⟩
    ·
     cases hd1:(D==1)
     ·go_wp2_with(go_at_call 116;refine(cB _ _).mono ?_;rintro e w9 ⟨rfl,h9⟩;obtain rfl:=h9.symm)
      go_meet
      exact⟨rfl,HYes.out q149⟩
     ·go_wp2_with(go_at_call 116;refine(cB _ _).mono ?_;rintro e w9 ⟨rfl,h9⟩;obtain rfl:=h9.symm)
      go_meet
      exact⟨rfl,HYes.out q149⟩):p:=h
theorem q313(h:p:=by
 
 cases hD:((nk:Int)==0)
 ·go_wp2_with(go_at_call 116;refine(cA _ _).mono ?_;rintro e w9 ⟨rfl,h9⟩;obtain rfl:=h9.symm)
  exact⟨rfl,HNo.out q148,HBW.out⟩
 ·
  cases hd1:(D==1)
  ·go_wp2_with(go_at_call 116;refine(cB _ _).mono ?_;rintro e w9 ⟨rfl,h9⟩;obtain rfl:=h9.symm)
   go_meet
   exact⟨rfl,HYes.out q148⟩
  ·go_wp2_with(go_at_call 116;refine(cB _ _).mono ?_;rintro e w9 ⟨rfl,h9⟩;obtain rfl:=h9.symm)
   go_meet
   exact⟨rfl,HYes.out q148⟩):p:=h
theorem q325(h:p:=by
 go_wp2_with(go_at_call 116;refine(cA _ _).mono ?_;rintro e w9 ⟨rfl,h9⟩;obtain rfl:=h9.symm)
 exact⟨rfl,HNo.out (by simp[hN]),HBW.out⟩):p:=h
theorem q328(h:p:=by
 go_wp2_with(go_at_call 116;refine(cA _ _).mono ?_;rintro e w9 ⟨rfl,h9⟩;obtain rfl:=h9.symm)
 exact⟨rfl,HNo.out q146,HBW.out⟩):p:=h
theorem q353(h:p:=by
 have hS:=qR hs1;have hs2:=oO hs1;go_wp2_with(go_at_call 116;refine(cA _ _).mono ?_;rintro e w9 ⟨rfl,h9⟩;obtain rfl:=h9.symm)
 exact⟨rfl,HNo.out (by simp[hN,hG,hS]),HBW.out⟩):p:=h
theorem q355(h:p:=by
 go_wp2_with(go_at_call 116;refine(cA _ _).mono ?_;rintro e w9 ⟨rfl,h9⟩;obtain rfl:=h9.symm)
 exact⟨rfl,HNo.out q147,HBW.out⟩):p:=h
theorem q394(h:p:=by
 go_wp2_with(go_at_call 116;refine(cA _ _).mono ?_;rintro e w9 ⟨rfl,h9⟩;obtain rfl:=h9.symm)
 exact⟨rfl,HC.out,hBW⟩):p:=h
theorem q426(h:p:=by
 go_wp2_with(go_at_call 116;refine(cB _ _).mono ?_;rintro e w9 ⟨rfl,h9⟩;obtain rfl:=h9.symm)
 go_meet
 exact⟨rfl,HYes.out (by simp[hK,hD])⟩):p:=h
theorem q432(h:p:=by
 go_wp2_with(go_at_call 116;refine(cB _ _).mono ?_;rintro e w9 ⟨rfl,h9⟩;obtain rfl:=h9.symm)
 go_meet
 exact⟨rfl,HYes.out q147⟩):p:=h
theorem q434(h:p:=by
 go_wp2_with(go_at_call 116;refine(cB _ _).mono ?_;rintro e w9 ⟨rfl,h9⟩;obtain rfl:=h9.symm)
 go_meet
 exact⟨rfl,HYes.out q146⟩):p:=h
theorem q543(h:p:=by cases e;exact⟨_,_,rfl⟩):p:=h
theorem q579(h:p:=by
 cases hN:(N==0)
 ·exact q325
 ·
  cases hG:(G==0)
  ·exact q328
  ·
   cases hK:((n2:Int)==0)
   ·exact q355
   ·exact q313):p:=h
theorem q585(h:p:=by
 obtain⟨hl2,hBW,q0,q1,q2,q3,q4,q5,v3⟩:=vX hl1 hl2 hBW hbk q0 q1 q2 q3 q4 q5 v3;clear hbk;exact q394):p:=h
end
namespace Go.Proofs.YtdjpkgccakgkbaaGreatDoor
open Go.Proofs.Tryz
open Go.RowKit Fo
def jZ(k:Int)(e:Ending):Prop:=(k=0/\e=.returned (.tuple #[]))\/(k≠0/\e=(.panicked [{ v:=.iface 188 (.agg #[.int .i64 k]),recovered:=false }]))
theorem jZ.bad{k:Int}(h:k≠0):jZ k (.panicked [{ v:=.iface 188 (.agg #[.int .i64 k]),recovered:=false }]):=.inr ⟨h,rfl⟩
theorem jZ.good:jZ 0 (.returned (.tuple #[])):=.inl ⟨rfl,rfl⟩
def aBB(S:Nat->Prop)(n:Nat):Prop:=∀(d:Nat) (w:World) (cs:List Value) (o:Ob),aI S d w cs o->cE d o->(∀b,S b->b<w.heap.size) ->
 Calls prog 79 #[.agg cs.toArray,.int .i64 (25-(n:Int))] w fun e w'=>jZ (aT n o) e/\Below w.heap.size w w'
theorem aEO(S:Nat->Prop):aBB S 0:=by
 intro d w cs o h _ _;obtain⟨p1,c1,p2,c2,rfl⟩:=h.form2;unfold aB;go_enter func79,ntmps79
 go_wp2_with(go_at_call 116;refine(cA _ _).mono ?_;rintro e w9 ⟨rfl,h9⟩;obtain rfl:=h9.symm)
 exact⟨rfl,jZ.bad (by unfold aT;decide),bel⟩
def aEP(o:Ob):Bool:=let u:=mZ o.kind
 u.2.2.2.2.2&&(u.1||o.n==0)&&(u.2.1||o.g==0)&&(u.2.2.1||o.s.isEmpty)&&(u.2.2.2.1||o.keys.isEmpty)&&(u.2.2.2.2.1||o.kids.isEmpty)
theorem vW(o:Ob):aEP o=eT o:=by
 unfold aEP eT eB mZ;by_cases h0:o.kind=0
 ·simp[h0,Bool.and_assoc]
 by_cases h1:o.kind=1\/o.kind=2\/o.kind=3
 ·simp[h0,h1,Bool.and_assoc]
 by_cases h4:o.kind=4\/o.kind=5
 ·simp[h0,h1,h4,Bool.and_assoc]
 by_cases h6:o.kind=6
 ·simp[h6,Bool.and_assoc]
 by_cases h7:o.kind=7
 ·simp[h7,Bool.and_assoc]
 by_cases h8:o.kind=8
 ·simp[h8,Bool.and_assoc]
 by_cases h9:o.kind=9
 ·simp[h9,Bool.and_assoc]
 ·simp[h0,h1,h4,h6,h7,h8,h9]
theorem aWI(o:Ob)(h:eT o=true):aAZ o.kind o.s.length=!decide (gO o.kind<o.s.length):=by
 rw[<-vW] at h;unfold aEP mZ at h;unfold aAZ gO;by_cases h4:o.kind=4
 ·simp[h4];rw[Bool.eq_iff_iff];simp
 by_cases h5:o.kind=5
 ·simp[h5];rw[Bool.eq_iff_iff];simp
 by_cases h9:o.kind=9
 ·simp[h9];rw[Bool.eq_iff_iff];simp
 have he:o.s=[]:=by
  by_cases h0:o.kind=0
  ·simp[h0] at h;exact h.1.1.2
  by_cases h1:o.kind=1\/o.kind=2\/o.kind=3
  ·simp[h0,h1] at h;exact h.1.1.2
  by_cases h6:o.kind=6
  ·simp[h6] at h;exact h.1.2
  by_cases h7:o.kind=7
  ·simp[h7] at h;exact h.2
  by_cases h8:o.kind=8
  ·simp[h8] at h;exact h.1.1
  ·simp[h0,h1,h4,h5,h6,h7,h8,h9] at h
 simp[h4,h5,h9,he]
theorem aQE{w w1:World}{v0 v1 v2 v3 v4 v5 u0 u1 u2 u3 u4:Value}{t t2:TypeId}(hb1:Below (w.alloc (.cells #[v0,v1,v2,v3,v4,v5] t)).heap.size (w.alloc (.cells #[v0,v1,v2,v3,v4,v5] t)) w1) :
 ∃W3 B4,w1.alloc (.cells #[u0,u1,u2,u3,u4] t2)=W3/\w1.heap.size=B4/\w.heap.size<B4/\B4<W3.heap.size/\Below w.heap.size w W3 /\
  W3.cell? ⟨w.heap.size,0,none⟩=some v0/\W3.cell? ⟨w.heap.size,1,none⟩=some v1/\W3.cell? ⟨w.heap.size,2,none⟩=some v2/\W3.cell? ⟨w.heap.size,3,none⟩=some v3/\W3.cell? ⟨w.heap.size,4,none⟩=some v4/\W3.cell? ⟨w.heap.size,5,none⟩=some v5 /\
  W3.cell? ⟨B4,0,none⟩=some u0/\W3.cell? ⟨B4,1,none⟩=some u1/\W3.cell? ⟨B4,2,none⟩=some u2/\W3.cell? ⟨B4,3,none⟩=some u3/\W3.cell? ⟨B4,4,none⟩=some u4:=by
 have hz:=hb1.size;simp at hz;have k:∀o,(w1.alloc (.cells #[u0,u1,u2,u3,u4] t2)).cell? ⟨w.heap.size,o,none⟩=(w.alloc (.cells #[v0,v1,v2,v3,v4,v5] t)).cell? ⟨w.heap.size,o,none⟩:=fun o =>
  (bGO (a:=⟨w.heap.size,o,none⟩) (bGM _ _ _ (show w.heap.size<w1.heap.size from oM))).trans (bGO (a:=⟨w.heap.size,o,none⟩) (hb1.block _ sI))
 refine⟨_,_,rfl,rfl,oM,sI,?_,?_⟩
 ·exact((show Below w.heap.size w (w.alloc _) from(bGL _ _).alloc (bGB _) _).trans (hb1.mono sI)).alloc oM _
 ·refine⟨?_,?_,?_,?_,?_,?_,?_,?_,?_,?_,?_⟩;all_goals first|(rw[k];simp[World.cell?_alloc_at];done)|(simp[World.cell?_alloc_at];done)
theorem qR{s:L}(h:¬s=[]):s.isEmpty=false:=by
 cases s with
 |nil=>exact absurd rfl h
 |cons=>rfl
theorem oO{s:L}(h:¬s=[]):(s==[])=false:=q10
theorem bBG{K:Int}{a b c d e f:Bool}(h:mZ K=(a,b,c,d,e,f))(h0:¬K=0)(h1:¬K=1)(h2:¬K=2)(h3:¬K=3)(h4:¬K=4)(h5:¬K=5)(h6:¬K=6)(h7:¬K=7)(h8:¬K=8)(h9:¬K=9):f=false:=by
 unfold mZ at h;rw[bGU h0,bGU (by simp[h1,h2,h3]),bGU (by simp[h4,h5]),bGU h6,bGU h7,bGU h8,bGU h9] at h;simp only[Prod.mk.injEq] at h;exact h.2.2.2.2.2.symm
theorem yS{K:Int}{a b c d e f:Bool}(h:mZ K=(a,b,c,d,e,f)):d=decide (K=7\/K=9):=by
 unfold mZ at h;by_cases h0:K=0
 ·subst h0;simp at h;simp[<-h.2.2.2.1]
 by_cases h1:K=1\/K=2\/K=3
 ·rw[bGU h0,bGV h1] at h;simp only[Prod.mk.injEq] at h;rw[<-h.2.2.2.1];symm;rw[decide_eq_false_iff_not];omega
 by_cases h4:K=4\/K=5
 ·rw[bGU h0,bGU h1,bGV h4] at h;simp only[Prod.mk.injEq] at h;rw[<-h.2.2.2.1];symm;rw[decide_eq_false_iff_not];omega
 by_cases h6:K=6
 ·subst h6;simp at h;simp[<-h.2.2.2.1]
 by_cases h7:K=7
 ·subst h7;simp at h;simp[<-h.2.2.2.1]
 by_cases h8:K=8
 ·subst h8;simp at h;simp[<-h.2.2.2.1]
 by_cases h9:K=9
 ·subst h9;simp at h;simp[<-h.2.2.2.1]
 ·rw[bGU h0,bGU h1,bGU h4,bGU h6,bGU h7,bGU h8,bGU h9] at h;simp only[Prod.mk.injEq] at h;rw[<-h.2.2.2.1];symm;rw[decide_eq_false_iff_not];omega
theorem vX{w W W':World}{B4:Nat}{a0 a1 a2 a3 a4 a5 a6:Value}(hl1:w.heap.size<B4)(hl2:B4<W.heap.size)(hW:Below w.heap.size w W)(hb:Below W.heap.size W W')
 (q0:W.cell? ⟨w.heap.size,0,none⟩=some a0) (q1:W.cell? ⟨w.heap.size,1,none⟩=some a1) (q2:W.cell? ⟨w.heap.size,2,none⟩=some a2) (q3:W.cell? ⟨w.heap.size,3,none⟩=some a3) (q4:W.cell? ⟨w.heap.size,4,none⟩=some a4) (q5:W.cell? ⟨w.heap.size,5,none⟩=some a5) (v3:W.cell? ⟨B4,3,none⟩=some a6) :
 B4<W'.heap.size/\Below w.heap.size w W'/\W'.cell? ⟨w.heap.size,0,none⟩=some a0/\W'.cell? ⟨w.heap.size,1,none⟩=some a1/\W'.cell? ⟨w.heap.size,2,none⟩=some a2/\W'.cell? ⟨w.heap.size,3,none⟩=some a3/\W'.cell? ⟨w.heap.size,4,none⟩=some a4/\W'.cell? ⟨w.heap.size,5,none⟩=some a5/\W'.cell? ⟨B4,3,none⟩=some a6:=by
 have hz:=hb.size;have k:∀b o,b<W.heap.size->W'.cell? ⟨b,o,none⟩=W.cell? ⟨b,o,none⟩:=fun b o h=>bGO (a:=⟨b,o,none⟩) (hb.block b h)
 exact⟨oM,hW.trans (hb.mono hW.size),(k _ _ oM).trans q0,(k _ _ oM).trans q1,(k _ _ oM).trans q2,(k _ _ oM).trans q3,(k _ _ oM).trans q4,(k _ _ oM).trans q5,(k _ _ hl2).trans v3⟩
theorem aEQ(S:Nat->Prop)(n:Nat)(hn:n<24)(IH:aBB S n):aBB S (n+1):=by
 intro d w cs o hO hsm hS;cases d with
 |zero=>exact hO.elim
 |succ d =>
 obtain⟨kv,dv,rfl,hK,hR0⟩:=hO;have hR:cF S d w dv o.kids:=hR0;clear hR0;obtain⟨m1,m2,m3,m4,m5⟩:=hsm;have a1:∃p c,kv=.slice p o.keys.length c:=by
  exact q396
 have a2:∃p c,dv=.slice p o.kids.length c:=by
  exact q397
 obtain⟨p1,c1,rfl⟩:=a1;obtain⟨p2,c2,rfl⟩:=a2;have HFI:=Lh (fun W=>aWF o.kind o.n o.g o.s p1 p2 o.keys.length c1 o.kids.length c2 W);rw[bBF] at HFI;have HLO:=Lh (fun W=>aQB o.kind o.n o.g o.s p1 p2 o.keys.length c1 o.kids.length c2 W);have HKN:=Lh (fun W=>aAY o.s m3 W);have HKE:=Lh (fun W (hW:Below w.heap.size w W) h79=>aWG S d o _ _ W (hK.kept (fun b h=>hW.block b (hS b h))) (hR.kept (fun b h=>hW.block b (hS b h))) (fun b h=>bGA (hS b h) hW.size) m1 m4 h79);have HRW:=Lh (bGQ hR (bGQ m5 hS));obtain⟨C,hC⟩:=eX (aT (n+1) o);rw[hC];unfold aT at hC;have HSH:=Lh (aWI o);have HUP:=Lh (vW o);obtain⟨D,hD⟩:∃D:Int,25-((n+1:Nat):Int)=D:=⟨_,rfl⟩
 rw[hD];have hD1:1<=D:=oM;have hD2:D<=24:=oM;have hDn:D+1=25-(n:Int):=oM;have hn23:(n !=23)=!(D==1):=by
  rw[Bool.eq_iff_iff];simp;omega
 rw[hn23] at hC;have hNo:eT o=false\/(D==1||o.kind !=9)=false->jZ C (.panicked [{ v:=.iface 188 (.agg #[.int .i64 10]),recovered:=false }]):=by
  intro h;have:C=10:=by
   rw[<-hC,bGV];rcases h with h|h
   ·simp[h]
   ·simp at h;simp[h]
  rw[this];exact jZ.bad dC
 have hYes:eT o=true->(D==1||o.kind !=9)=true->(if !gN o then 2 else if gO o.kind<o.s.length then 5 else if 8191<o.kids.length then 6 else if !bV o then 3 else fD (o.kids.map (aT n)))=C:=by
  intro h1 h2;have e:(!eT o||o.kind==9&&!(D==1))=false:=by
   rw[h1];cases h3:(D==1)
   ·rw[h3] at h2;simp at h2 ⊢;exact h2
   ·simp
  have hC2:=hC;rw[e,bGU dC] at hC2;exact hC2
 clear hC hn23 hD;unfold aEP at HUP;obtain⟨K,hk0⟩:=eX (o.kind);obtain⟨nk,hnk⟩:=eX (o.kids.length);obtain⟨n2,hn2⟩:=eX (o.keys.length);obtain⟨N,hN0⟩:=eX (o.n);obtain⟨G,hG0⟩:=eX (o.g);obtain⟨s,hs0⟩:=eX (o.s);have ke:o.keys.isEmpty=((n2:Int)==0):=by rw[<-hn2];cases o.keys<;>simp;omega
 have de:o.kids.isEmpty=((nk:Int)==0):=by rw[<-hnk];cases o.kids<;>simp;omega
 have HUS:=Lh (fun W=>bBE K W);obtain⟨⟨un,ug,us,uk,ud,ok⟩,hT⟩:∃u,mZ K=u:=⟨_,rfl⟩
 unfold aB;rw[ke,de,hk0,hN0,hG0,hs0,hT] at HUP;rw[hk0,hN0,hG0,hs0,hn2,hnk];rw[hk0] at hNo hYes;have hSN:=HSH.out;rw[hk0,hs0] at hSN;rw[hk0,hN0,hG0,hs0,hn2,hnk] at HFI HLO HKE;rw[hs0] at HKN hYes;rw[hnk] at hYes m2;rw[hT] at HUS;have HNo:=Lh (fun(h:(ok&&(un||N==0)&&(ug||G==0)&&(us||s.isEmpty)&&(uk||(n2:Int)==0)&&(ud||(nk:Int)==0)&&(D==1||K !=9))=false)=>hNo ((Bool.and_eq_false_iff.1 h).imp_left (fun h=>HUP.out.symm.trans h)));have HYes:=Lh (fun(h:(ok&&(un||N==0)&&(ug||G==0)&&(us||s.isEmpty)&&(uk||(n2:Int)==0)&&(ud||(nk:Int)==0)&&(D==1||K !=9))=true)=>bGQ (HUP.out.symm.trans (Bool.and_eq_true_iff.1 h).1) (hYes (HUP.out.symm.trans (Bool.and_eq_true_iff.1 h).1) (Bool.and_eq_true_iff.1 h).2));have HT:=Lh hT;have HSN:=Lh hSN;have HNK:=Lh (bGQ hnk (bGQ hk0 hs0));have HDN:=Lh hDn;have hLGb:gO K<=1048576:=aWH K;have hd24:decide (D<=24)=true:=sO;have hSS:¬s=[]\/s=[]:=(Classical.em _).symm;clear hT hNo hYes hSN ke de hK hR hS m1 m4 m5 m3 hk0 hnk hN0 hG0 hs0 hn2 hDn HSH HUP;dsimp only[nU] at HUS;go_enter func79,ntmps79
 go_upto_region 3 with(first|(go_at_call 116;refine(cB _ _).mono ?_;rintro e w9 ⟨rfl,h9⟩;obtain rfl:=h9.symm)|(go_at_call 117;refine(HUS.out _).mono ?_;rintro e w1 ⟨rfl,hb1⟩;obtain⟨hc1,hf1⟩:=aZ hb1;have hz1:=hb1.size;simp at hz1))
 obtain⟨W3,B4,hW3,hB4,hl1,hl2,hBW,q0,q1,q2,q3,q4,q5,v0,v1,v2,v3,v4⟩:=aQE (u0:=.bool un) (u1:=.bool ug) (u2:=.bool us) (u3:=.bool uk) (u4:=.bool ud) (t2:=190) hb1;rw[hW3];simp only[hB4];have HBW:=Lh hBW;clear hW3 hB4 hc1 hf1 hb1 HUS hz1;go_cut [] from 11 (fun wc=>wc=W3/\Hid (eT o=true/\(if !gN o then 2 else if gO K<s.length then 5 else if 8191<nk then 6 else if !bV o then 3 else fD (o.kids.map (aT n)))=C))
 case first =>
  clear hBW HFI HLO HKN HKE HRW HSN HNK HDN;by_cases h0:K=0
  ·subst h0;obtain⟨rfl,rfl,rfl,rfl,rfl,rfl⟩:un=false/\ug=false/\us=false/\uk=false/\ud=false/\ok=true:=q145;cases hN:(N==0)
   ·exact q325
   ·
    cases hG:(G==0)
    ·exact q328
    ·
     rcases hSS with hs1|hs1
     ·exact q353
     ·subst hs1;cases hK:((n2:Int)==0)
      ·exact q355
      ·exact q313
  by_cases h1:K=1
  ·subst h1;obtain⟨rfl,rfl,rfl,rfl,rfl,rfl⟩:un=true/\ug=false/\us=false/\uk=false/\ud=false/\ok=true:=q145;exact q294
  by_cases h2:K=2
  ·subst h2;obtain⟨rfl,rfl,rfl,rfl,rfl,rfl⟩:un=true/\ug=false/\us=false/\uk=false/\ud=false/\ok=true:=q145;exact q294
  by_cases h3:K=3
  ·subst h3;obtain⟨rfl,rfl,rfl,rfl,rfl,rfl⟩:un=true/\ug=false/\us=false/\uk=false/\ud=false/\ok=true:=q145;exact q294
  by_cases h4:K=4
  ·subst h4;obtain⟨rfl,rfl,rfl,rfl,rfl,rfl⟩:un=false/\ug=false/\us=true/\uk=false/\ud=false/\ok=true:=q145;exact q579
  by_cases h5:K=5
  ·subst h5;obtain⟨rfl,rfl,rfl,rfl,rfl,rfl⟩:un=false/\ug=false/\us=true/\uk=false/\ud=false/\ok=true:=q145;exact q579
  by_cases h6:K=6
  ·subst h6;obtain⟨rfl,rfl,rfl,rfl,rfl,rfl⟩:un=false/\ug=false/\us=false/\uk=false/\ud=true/\ok=true:=q145;cases hN:(N==0)
   ·exact q325
   ·
    cases hG:(G==0)
    ·exact q328
    ·
     rcases hSS with hs1|hs1
     ·exact q353
     ·subst hs1;cases hK:((n2:Int)==0)
      ·exact q355
      ·
       cases hd1:(D==1)
       ·exact q432
       ·exact q432
  by_cases h7:K=7
  ·subst h7;obtain⟨rfl,rfl,rfl,rfl,rfl,rfl⟩:un=false/\ug=false/\us=false/\uk=true/\ud=true/\ok=true:=q145;cases hN:(N==0)
   ·exact q325
   ·
    cases hG:(G==0)
    ·exact q328
    ·
     rcases hSS with hs1|hs1
     ·exact q353
     ·subst hs1;cases hd1:(D==1)
      ·exact q434
      ·exact q434
  by_cases h8:K=8
  ·subst h8;obtain⟨rfl,rfl,rfl,rfl,rfl,rfl⟩:un=true/\ug=true/\us=false/\uk=false/\ud=false/\ok=true:=q145;rcases hSS with hs1|hs1
   ·have hS:=qR hs1;have hs2:=oO hs1;go_wp2_with(go_at_call 116;refine(cA _ _).mono ?_;rintro e w9 ⟨rfl,h9⟩;obtain rfl:=h9.symm)
    exact⟨rfl,HNo.out (by simp[hS]),HBW.out⟩
   ·subst hs1;cases hK:((n2:Int)==0)
    ·go_wp2_with(go_at_call 116;refine(cA _ _).mono ?_;rintro e w9 ⟨rfl,h9⟩;obtain rfl:=h9.symm)
     exact⟨rfl,HNo.out (by simp[hK]),HBW.out⟩
    ·
     cases hD:((nk:Int)==0)
     ·go_wp2_with(go_at_call 116;refine(cA _ _).mono ?_;rintro e w9 ⟨rfl,h9⟩;obtain rfl:=h9.symm)
      exact⟨rfl,HNo.out (by simp[hK,hD]),HBW.out⟩
     ·
      cases hd1:(D==1)
      ·exact q426
      ·exact q426
  by_cases h9:K=9
  ·subst h9;obtain⟨rfl,rfl,rfl,rfl,rfl,rfl⟩:un=false/\ug=false/\us=true/\uk=true/\ud=true/\ok=true:=q145;cases hN:(N==0)
   ·exact q325
   ·
    cases hG:(G==0)
    ·exact q328
    ·
     cases hd1:(D==1)
     ·go_wp2_with(go_at_call 116;refine(cA _ _).mono ?_;rintro e w9 ⟨rfl,h9⟩;obtain rfl:=h9.symm)
      exact⟨rfl,HNo.out (by simp[hN,hG,hd1]),HBW.out⟩
     ·go_wp2_with(go_at_call 116;refine(cB _ _).mono ?_;rintro e w9 ⟨rfl,h9⟩;obtain rfl:=h9.symm)
      go_meet
      exact⟨rfl,HYes.out (by simp[hN,hG,hd1])⟩
  obtain rfl:=bBG HT.out h0 h1 h2 h3 h4 h5 h6 h7 h8 h9;go_wp2_with(go_at_call 116;refine(cA _ _).mono ?_;rintro e w9 ⟨rfl,h9⟩;obtain rfl:=h9.symm)
  exact⟨rfl,HNo.out sI,HBW.out⟩
 case rest =>
  obtain⟨rfl,HP⟩:=hcut;have hC:=HP.out.2;have hsh:=HSN.out HP.out.1;have huk:=yS HT.out;have hKO:=HNK.out;clear HBW HT HSN HNo HYes HP v0 v1 v2 v4 hSS;cases hq3:gN o
  ·rw[hq3] at hC HFI;have HC:=Lh (show jZ C (.panicked [{ v:=.iface 188 (.agg #[.int .i64 2]),recovered:=false }]) by rw[show C=2 by rw[<-hC];rfl];exact jZ.bad dC);clear hC hq3 hsh huk hKO;go_wp2_with fail;refine(HFI.out _).mono ?_;rintro e w2 ⟨rfl,hbk⟩;exact q585
  rw[hq3] at hC HFI;rw[bGU dC] at hC;clear hq3;go_upto_region 5 with(first|(go_at_call 116;refine(cB _ _).mono ?_;rintro e w9 ⟨rfl,h9⟩;obtain rfl:=h9.symm)|((go_at_call 118;refine(HFI.out _).mono ?_);rintro e w2 ⟨rfl,hbk⟩))
  obtain⟨hl2,hBW,q0,q1,q2,q3,q4,q5,v3⟩:=vX hl1 hl2 hBW hbk q0 q1 q2 q3 q4 q5 v3;clear hbk;by_cases hq4:gO K<s.length
  ·rw[bGV hq4] at hC;rw[hsh,bGI hq4] at HLO;have HC:=Lh (show jZ C (.panicked [{ v:=.iface 188 (.agg #[.int .i64 5]),recovered:=false }]) by rw[<-hC];exact jZ.bad dC);clear hC hq4 hsh huk hKO;go_wp2_with fail;refine(HLO.out _).mono ?_;rintro e w3 ⟨rfl,hbk⟩;exact q585
  rw[bGU hq4] at hC;rw[hsh,bGH hq4] at HLO;clear hq4 hsh;go_upto_region 6 with(first|(go_at_call 116;refine(cB _ _).mono ?_;rintro e w9 ⟨rfl,h9⟩;obtain rfl:=h9.symm)|((go_at_call 119;refine(HLO.out _).mono ?_);rintro e w3 ⟨rfl,hbk⟩))
  obtain⟨hl2,hBW,q0,q1,q2,q3,q4,q5,v3⟩:=vX hl1 hl2 hBW hbk q0 q1 q2 q3 q4 q5 v3;clear hbk;by_cases hq5:8191<nk
  ·rw[bGV hq5] at hC;have hd5:decide ((nk:Int)<=8191)=false:=sO;have HC:=Lh (show jZ C (.panicked [{ v:=.iface 188 (.agg #[.int .i64 6]),recovered:=false }]) by rw[<-hC];exact jZ.bad dC);clear hC hq5 huk hKO;exact q394
  rw[bGU hq5] at hC;have hd5:decide ((nk:Int)<=8191)=true:=sO;go_upto_region 7 with(go_at_call 116;refine(cB _ _).mono ?_;rintro e w9 ⟨rfl,h9⟩;obtain rfl:=h9.symm)
  go_cut [] from 11 (fun wx=>Below w.heap.size w wx/\wx.cell? ⟨w.heap.size,5,none⟩=some (.slice p2 nk c2)/\Hid (bV o=true))
  case first =>
   have HC3:=Lh (show bV o=false->jZ C (.panicked [{ v:=.iface 188 (.agg #[.int .i64 3]),recovered:=false }]) from fun h=>by rw[show C=3 by rw[<-hC,h];rfl];exact jZ.bad dC);clear hC;by_cases h5:K=5
   ·subst h5;obtain rfl:uk=false:=by rw[huk];decide
    have HKB:=Lh (show bV o=gC s by unfold bV;rw[bGV hKO.2.1,hKO.2.2]);clear huk hKO;cases hnm:gC s
    ·rw[hnm] at HKN HKB;go_wp2_with(first|(go_at_call 120;refine(HKN.out _).mono ?_;rintro e w4 ⟨rfl,h9⟩;obtain rfl:=h9.symm)|(go_at_call 116;refine(cA _ _).mono ?_;rintro e w9 ⟨rfl,h9⟩;obtain rfl:=h9.symm))
     exact⟨rfl,HC3.out HKB.out,hBW⟩
    ·rw[hnm] at HKN HKB;go_wp2_with(first|(go_at_call 120;refine(HKN.out _).mono ?_;rintro e w4 ⟨rfl,h9⟩;obtain rfl:=h9.symm)|(go_at_call 116;refine(cB _ _).mono ?_;rintro e w9 ⟨rfl,h9⟩;obtain rfl:=h9.symm))
     go_meet
     exact⟨hBW,q5,Lh HKB.out⟩
   ·have e5:(K !=5)=true:=q136;by_cases h79:K=7\/K=9
    ·obtain rfl:uk=true:=by rw[huk];exact bGI h79
     have HKF:=Lh (HKE.out _ hBW h79);have h9b:w.heap.size<w3.heap.size:=oM;clear huk hKO h79 HKE h5;cases hkb:bV o
     ·rw[hkb] at HKF;go_wp2_with(first|((go_at_call 121;refine(HKF.out).mono ?_);rintro e w4 ⟨rfl,hbk⟩)|(go_at_call 116;refine(cA _ _).mono ?_;rintro e w9 ⟨rfl,h9⟩;obtain rfl:=h9.symm))
      exact⟨rfl,HC3.out hkb,hBW.trans (hbk.mono hBW.size)⟩
     ·rw[hkb] at HKF;go_wp2_with(first|((go_at_call 121;refine(HKF.out).mono ?_);rintro e w4 ⟨rfl,hbk⟩)|(go_at_call 116;refine(cB _ _).mono ?_;rintro e w9 ⟨rfl,h9⟩;obtain rfl:=h9.symm))
      go_meet
      exact⟨hBW.trans (hbk.mono hBW.size),(bGO (a:=⟨w.heap.size,5,none⟩) (hbk.block _ h9b)).trans q5,Lh hkb⟩
    ·obtain rfl:uk=false:=by rw[huk];exact bGH h79
     have HKB:=Lh (show bV o=true by
      unfold bV;rw[bGU (by rw[hKO.2.1];exact h5),bGV ⟨by rw[hKO.2.1];omega,by rw[hKO.2.1];omega⟩])
     clear huk hKO h79 h5;go_wp2_with(go_at_call 116;refine(cB _ _).mono ?_;rintro e w9 ⟨rfl,h9⟩;obtain rfl:=h9.symm)
     go_meet
     exact⟨hBW,q5,HKB⟩
  case rest =>
   clear q0 q1 q2 q3 q4 q5 hBW hl2;obtain⟨hBW,q5,HKB⟩:=hcut;rw[HKB.out] at hC;have HC:=Lh (show fD (o.kids.map (aT n))=C from hC);have HNK:=Lh hKO;have HSX:=Lh (bGQ HRW.out.2.2 hBW);clear hC hKO huk HKB HFI HLO HKN HKE;go_wp2;clear q5;go_loopw [107] (fun i wr=>∃k:Nat,k<=nk/\i=.int .i64 k/\Below w.heap.size w wr/\Hid (∀x∈o.kids.take k,aT n x=0)) (fun i _=>nk-(intOf i).toNat)
   case atStart=>exact⟨0,bGF _,rfl,hBW,Lh sI⟩
   case round =>
    obtain⟨k,hk,rfl,hb,HA⟩:=hrel;by_cases hlt:k<nk
    ·have hRw:cF S d wr (.slice p2 nk c2) o.kids := by
      have:=HRW.out.1.kept (fun b h=>hb.block b (HRW.out.2.2 b h));rw[HNK.out.1] at this;exact this
     obtain⟨b,off,rfl⟩:∃b off,p2=some ⟨b,off,none⟩:=by
      rcases hRw with⟨e,_⟩|⟨b,off,c,e,_⟩
      ·have:=HNK.out.1;rw[e] at this;simp at this;omega
      ·exact q543
     obtain⟨x,p3,n3,e3,p4,n4,e4,hx,hxm,s1,O1,f0,f1,f2,f3,f4,f5⟩:=eN hRw HNK.out.1 k hlt;have hS2:∀b,S b->b<wr.heap.size:=fun b h=>bGA (HRW.out.2.2 b h) hb.size
     have HI:=Lh (fun(W:World) (hW:Below wr.heap.size wr W)=>HDN.out▸IH d W _ x (O1.kept (fun b h=>hW.block b (hS2 b h)) d) (HRW.out.2.1 x hxm) (fun b h=>bGA (hS2 b h) hW.size));have htk:o.kids.take (k+1)=o.kids.take k++[x]:=by
      have hk':k<o.kids.length:=by rw[HNK.out.1];exact hlt
      rw[List.take_succ_eq_append_getElem hk',<-hx];simp[List.getD,hk']
     have hdr:o.kids=o.kids.take k++x::o.kids.drop (k+1):=by
      have hk':k<o.kids.length:=by rw[HNK.out.1];exact hlt
      conv=>lhs;rw[<-List.take_append_drop k o.kids]
      rw[bHH hk',<-hx];simp[List.getD,hk']
     have HTT:=Lh (bGQ htk hdr);unfold aB at HI;obtain⟨y,hy⟩:=eX (aT n x);rw[hy] at HI;have HY:=Lh hy;have L1:=hS2 b s1;have hszr:=hb.size;clear hRw hx hxm O1 hS2 htk hdr hy;go_wp2_with fail;refine(HI.out _ bel).mono ?_;rintro e w4 ⟨⟨hy0,rfl⟩|⟨hy0,rfl⟩,hb4⟩
     ·have HY0:=Lh hy0;clear hy0;go_wp2;go_roundw
      case rel=>exact⟨k+1,oM,q12,bel,Lh (fun z hz=>by
       rw[HTT.out.1,List.mem_append] at hz;rcases hz with hz|hz
       ·exact HA.out z hz
       ·simp only[List.mem_singleton] at hz;subst hz;rw[HY.out];exact HY0.out)⟩
      case measure=>exact q339
     ·have HR1 := Lib.hid (show C=y by
       rw[<-HC.out,HTT.out.2,List.map_append,List.map_cons,HY.out];exact xP (fun z hz=>by obtain⟨u,hu,rfl⟩:=List.mem_map.1 hz;exact HA.out u hu) hy0 _)
      have HY0:=Lh hy0;clear hy0;go_wp2;exact⟨rfl,by rw[HR1.out];exact jZ.bad HY0.out,bel⟩
    ·have HR1 := Lib.hid (show C=0 by
      rw[<-HC.out];have hkn:k=nk:=oM;refine lB fun z hz=>?_
      obtain⟨u,hu,rfl⟩:=List.mem_map.1 hz;refine HA.out u ?_;rw[bHC (by rw[HNK.out.1];omega)];exact hu)
     go_wp2;go_end0
     exact⟨by rw[HR1.out];exact jZ.good,hb⟩
theorem yT(S:Nat->Prop):∀n,n<=24->aBB S n
 |0,_=>aEO S
 |n+1,h=>aEQ S n oM (yT S n oM)
end Go.Proofs.YtdjpkgccakgkbaaGreatDoor
