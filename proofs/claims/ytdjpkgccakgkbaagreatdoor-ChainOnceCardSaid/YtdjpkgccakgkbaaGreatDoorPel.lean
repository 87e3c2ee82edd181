/- Parts of the proof: CheckA CheckB VaA VaB CheckC. -/
import Derived.Test.YtdjpkgccakgkbaaGreatDoorPei
import Derived.Sort.Walk0
import Derived.Lib.IndexLaws
set_option linter.all false
set_option maxRecDepth 100000
set_option maxHeartbeats 8000000
section
variable{p:Prop}
theorem q133(h:p:=by rw[e];exact h):p:=h
theorem q134(h:p:=by simp[results,results117,go_sem,nU]):p:=h
theorem q135(h:p:=by simpa using h0):p:=h
theorem q136(h:p:=by simpa using h5):p:=h
theorem q137(h:p:=by simpa using h7):p:=h
theorem q138(h:p:=by rw[HN.out.1];exact hlt):p:=h
theorem q139(h:p:=by rw[hb.cell (p:=⟨w.heap.size,0,none⟩) (by show w.heap.size<_;omega)];simp[World.cell?_alloc_at]):p:=h
theorem q140(h:p:=by show w.heap.size<_;omega):p:=h
theorem q141(h:p:=by rw[hb.cell (p:=⟨w.heap.size,4,none⟩) (by show w.heap.size<_;omega)];simp[World.cell?_alloc_at]):p:=h
theorem q142(h:p:=by rw[hb.cell (p:=⟨w.heap.size,5,none⟩) (by show w.heap.size<_;omega)];simp[World.cell?_alloc_at]):p:=h
theorem q143(h:p:=by rw[HK0.out];decide):p:=h
theorem q144(h:p:=by rw[HC2.out];have a2:=HZ.out;first|(simp[bB];done)|(simp[bB] at a2 ⊢;exact a2)|(simp[bB,HW.out] at a2 ⊢;exact a2)):p:=h
theorem q292(h:p:=by
 have HZ:=Lh hz;by_cases h0:0<k
 ·have hp':=hp h0;have h1:=hle2 h0;clear hp hle2;go_wp2_with(go_at_call 120;refine(HNM.out _).mono ?_;rintro e w1 ⟨rfl,rfl⟩)
  go_roundw
  case rel=>exact⟨k+1,oM,q12,by exact hb,Lh (fun j hj=>by
   by_cases hjk:j<k
   ·exact HA.out j hjk
   ·have:j=k:=oM;subst this;rw[HC2.out];have a2:=HZ.out;first|(simp[bB];done)|(simp[bB] at a2 ⊢;exact a2)|(simp[bB,HW.out] at a2 ⊢;exact a2))⟩
  case measure=>simp[intOf];omega
 ·have hk0:k=0:=oM;subst hk0;simp only[Nat.add_zero,Nat.zero_mul] at g1 g2;clear hp hle2;go_wp2_with(go_at_call 120;refine(HNM.out _).mono ?_;rintro e w1 ⟨rfl,rfl⟩)
  go_roundw
  case rel=>exact⟨1,oM,q12,by exact hb,Lh (fun j hj=>by
   by_cases hjk:j<0
   ·exact HA.out j hjk
   ·have:j=0:=oM;subst this;rw[HC2.out];have a2:=HZ.out;first|(simp[bB];done)|(simp[bB] at a2 ⊢;exact a2)|(simp[bB,HW.out] at a2 ⊢;exact a2))⟩
  case measure=>simp[intOf];omega):p:=h
theorem q312(h:p:=by
 have HZ:=Lh hz;by_cases h0:0<k
 ·have hp':=hp h0;have h1:=hle2 h0;clear hp hle2;go_wp2_with(go_at_call 120;refine(HNM.out _).mono ?_;rintro e w1 ⟨rfl,rfl⟩)
  go_ret
  exact⟨bG (HF.out q144).symm,bel⟩
 ·have hk0:k=0:=oM;subst hk0;simp only[Nat.add_zero,Nat.zero_mul] at g1 g2;clear hp hle2;go_wp2_with(go_at_call 120;refine(HNM.out _).mono ?_;rintro e w1 ⟨rfl,rfl⟩)
  go_ret
  exact⟨bG (HF.out q144).symm,bel⟩):p:=h
theorem q315(h:p:=by
 clear hp hle2;go_wp2_with(go_at_call 120;refine(HNM.out _).mono ?_;rintro e w1 ⟨rfl,rfl⟩)
 go_ret
 exact⟨bG (HF.out q144).symm,bel⟩):p:=h
theorem q341(h:p:=by
 
 have HC:=Lh (show bV o=false by unfold bV;rw[bGU oM,bGU oM];simp[hl]);rw[hk];clear hk;have hl':((o.keys.length:Int) !=(o.kids.length:Int))=true:=sO;have hl2:¬o.keys.length=o.kids.length:=hl;obtain⟨n1,hn1⟩:∃n,o.keys.length=n:=⟨_,rfl⟩
 obtain⟨n2,hn2⟩:∃n,o.kids.length=n:=⟨_,rfl⟩
 rw[hn1,hn2] at hl' hl2;rw[hn1,hn2];clear hn1 hn2 hl;go_enter func121,ntmps121
 go_wp2;go_ret
 exact⟨bG HC.out.symm,bel⟩):p:=h
theorem q344(h:p:=by
 have h0:0<k:=by simp at hle;exact hle.1
 have h1:Op.bytesLess y x=false:=by simp at hle;exact hle.2
 have HF1 := Lib.hid (HF.out (by rw [HC.out, ← bytesLess_eq, h1]; have : k ≠ 0 := by omega
                                 simp[this]))
 have hp':=hp h0;clear hp hle;go_wp2_with(go_at_call 120;refine(HNM.out _).mono ?_;rintro e w1 ⟨rfl,rfl⟩)
 go_ret
 exact⟨bG HF1.out.symm,bel⟩):p:=h
theorem q378(h:p:=by
 have HE := Lib.hid (show bV o=true by
  have hkn:k=n:=oM;unfold bV;rw[bGU q143,bGU q143,HN.out.1,HN.out.2];simp only[beq_self_eq_true,Bool.true_and,bHB,List.mem_range];intro j hj;exact HA.out j oM)
 go_wp2;go_ret
 exact⟨bG HE.out.symm,bel⟩):p:=h
theorem q385(h:p:=by
 
 have HC:=Lh (show bV o=true by unfold bV;rw[bGU oM,bGU oM,h1,h2];simp);rw[hk];clear hk;rw[h1,h2];clear h1 h2;go_enter func121,ntmps121
 go_wp2;refine wp_loop_rounds 1 ?_;rw[rounds_succ];go_wp2;go_ret
 exact⟨bG HC.out.symm,bel⟩):p:=h
theorem q395(h:p:=by
 rw[hq] at HC HNM;have HF1:=Lh (HF.out (by rw[HC.out];simp));clear hp hq;go_wp2_with(go_at_call 120;refine(HNM.out _).mono ?_;rintro e w1 ⟨rfl,rfl⟩)
 all_goals go_ret
 all_goals exact⟨bG HF1.out.symm,bel⟩):p:=h
theorem q396(h:p:=by
 rcases hK with⟨e,p,c,h⟩|⟨b,o,c,h,_⟩
 ·exact⟨_,_,q133⟩
 ·exact⟨_,_,h⟩):p:=h
theorem q397(h:p:=by
 rcases hR with⟨e,p,c,h⟩|⟨b,o,c,h,_⟩
 ·exact⟨_,_,q133⟩
 ·exact⟨_,_,h⟩):p:=h
theorem q420(h:p:=by
 go_wp2;refine bGN (v:=nU (true,false,false,false,false,true)) q134 rfl ⟨rfl,bel⟩):p:=h
theorem q453(h:p:=by
 rw [← hx]; exact HX.out _ (by have : k < o.keys.length := by rw [HN.out.1]; exact hlt
                               simp[List.getD,this])):p:=h
theorem q490(h:p:=by
 go_wp2;refine bGN (v:=nU (false,false,true,false,false,true)) q134 rfl ⟨rfl,bel⟩):p:=h
theorem q509(h:p:=by
 go_wp2;all_goals go_ret
 all_goals exact⟨bG (by simp_all;try omega),rfl⟩):p:=h
theorem q550(h:p:=by exact⟨0,bGF _,rfl,bel,Lh (by intro j hj;omega)⟩):p:=h
theorem q578(h:p:=by
 have hw':(x==([76,101,110,103,116,104]:L))=false:=by simpa using hw
 have HW:=Lh hw';cases hz:(kk==0)
 ·exact q292
 ·exact q312):p:=h
end
namespace Go.Proofs.YtdjpkgccakgkbaaGreatDoor
open Go.Proofs.Tryz
open Go.RowKit Fo
theorem aI.form2{S:Nat->Prop}{d:Nat}{w:World}{cs:List Value}{o:Ob}(h:aI S d w cs o):∃p1 c1 p2 c2,cs=aB o.kind o.n o.g o.s (.slice p1 o.keys.length c1) (.slice p2 o.kids.length c2):=by
 cases d with
 |zero=>exact h.elim
 |succ d =>
  obtain⟨kv,dv,h1,h2,h3⟩:=h;have a1:∃p c,kv=.slice p o.keys.length c:=by
   rcases h2 with⟨e,p,c,h⟩|⟨b,o,c,h,_⟩
   ·exact⟨_,_,q133⟩
   ·exact⟨_,_,h⟩
  have a2:∃p c,dv=.slice p o.kids.length c:=by
   rcases h3 with⟨e,p,c,h⟩|⟨b,o,c,h,_⟩
   ·exact⟨_,_,q133⟩
   ·exact⟨_,_,h⟩
  obtain⟨p1,c1,rfl⟩:=a1;obtain⟨p2,c2,rfl⟩:=a2;exact⟨p1,c1,p2,c2,h1⟩
def aWE(K N G:Int):Bool :=
 if K=1 then N==0||N==1
 else if K=2 then decide (-2147483647<=N)&&decide (N<=2147483647)
 else if K=3 then decide (-1073741824<=N)&&decide (N<=1073741824)
 else if K=8 then decide (1<=N)&&decide (N<=8191)&&decide (0<=G)&&decide (G<=65535)
 else true
theorem aAX{S:Nat->Prop}{w:World}{b off n c:Nat}{ks:List L}(h:cU S w (.slice (some ⟨b,off,none⟩) n c) ks)(hn:ks.length=n)(k:Nat)(hk:k<n) :
 S b/\w.cell? ⟨b,off+k,none⟩=some (.string ⟨(ks.getD k []).toArray⟩):=by
 rcases h with⟨rfl,p,c',h1⟩|⟨b',off',c',h1,h2,h3⟩
 ·simp at hn;omega
 ·cases h1;have hk':k<ks.length:=oM;exact⟨h2,by have:=h3 k hk';simpa[List.getD,hk'] using this⟩
theorem aEN{S:Nat->Prop}{d:Nat}{w:World}{b off n c:Nat}{os:List Ob}(h:cF S d w (.slice (some ⟨b,off,none⟩) n c) os)(hn:os.length=n)(k:Nat)(hk:k<n) :
 S b/\w.cell? ⟨b,off+k*6,none⟩=some (.int .i64 (os.getD k .zero).kind):=by
 obtain⟨o,p1,n1,c1,p2,n2,c2,h1,h2,h3,h4,h5,_⟩:=eN h hn k hk;rw[h1];exact⟨h3,h5⟩
theorem tJ{o:Ob}{k:Nat}(h7:o.kind=7\/o.kind=9)(hk:k<o.keys.length)(h:jH o k=false):bV o=false:=by
 unfold bV;rw[bGU oM,bGU oM];rw[Bool.and_eq_false_iff];right;rw[List.all_eq_false];exact⟨k,List.mem_range.2 hk,by simp[h]⟩
theorem cB(k:Int)(w:World):Calls prog 116 #[.bool true,.int .i64 k] w fun e w'=>e=.returned (.tuple #[])/\w'=w:=by
 go_enter func116,ntmps116
 exact q418
theorem cA(k:Int)(w:World):Calls prog 116 #[.bool false,.int .i64 k] w fun e w'=>e=(.panicked [{ v:=.iface 188 (.agg #[.int .i64 k]),recovered:=false }])/\w'=w:=by
 go_enter func116,ntmps116
 exact q598
theorem aQA(n a b:Int)(w:World):Calls prog 160 #[.int .i64 n,.int .i64 a,.int .i64 b] w fun e w'=>e=.returned (.bool (decide (a<=n)&&decide (n<=b)))/\w'=w:=by
 go_enter func160,ntmps160
 exact q509
theorem aIL(n a b:Int)(w:World):Calls prog 161 #[.int .i64 n,.int .i64 a,.int .i64 b] w fun e w'=>e=.returned (.bool (decide (a<=n)&&decide (n<=b)))/\w'=w:=by
 go_enter func161,ntmps161
 exact q509
theorem bBD(l:L):decide (Lib.indexByte l 0<0)=l.all (· !=0):=by
 cases h:l.all (· !=0)
 ·rw[decide_eq_false_iff_not];intro hlt;have hge:=Lib.indexByte_ge l 0;have hn:=Lib.indexByte_none (show Lib.indexByte l 0=-1 from oM);rw[List.all_eq_false] at h;obtain⟨x,hx,hx0⟩:=h;obtain⟨k,hk,rfl⟩:=List.mem_iff_getElem.1 hx;refine hn k ?_;rw[bGE hk];simp at hx0;rw[hx0]
 ·rw[decide_eq_true_eq];apply Classical.byContradiction
  intro hnl;obtain⟨o,ho⟩:∃o:Nat,Lib.indexByte l 0=o:=⟨(Lib.indexByte l 0).toNat,oM⟩
  have:=(Lib.indexByte_some ho).1;obtain⟨hlt,he⟩:=List.getElem?_eq_some_iff.1 this;rw[bHB] at h;have:=h _ (bGG hlt);rw[he] at this;simp at this
theorem aAY(x:L)(hx:x.length<=140737488355328)(w:World):Calls prog 120 #[.string ⟨x.toArray⟩] w fun e w'=>e=.returned (.bool (gC x))/\w'=w:=by
 have H:=Lh (show gC x=(decide (x.length<=127)&&decide (Lib.indexByte x 0<0)) by rw[bBD,Bool.and_comm];rfl);by_cases h:x.length<=127
 ·have d1:decide ((x.length:Int)<=127)=true:=sO;have HR:=Lh (show gC x=decide (Lib.indexByte x 0<0) by rw[H.out,bGI h,Bool.true_and]);clear h hx;go_enter func120,ntmps120
  go_wp2_with(go_at_call 162;refine(Tryz.strings_IndexByte _ _ _).mono ?_;rintro e w' ⟨rfl,rfl⟩)
  go_ret
  exact⟨bG (by rw[HR.out]),rfl⟩
 ·have d1:decide ((x.length:Int)<=127)=false:=sO;have HR:=Lh (show gC x=false by rw[H.out,bGH h,Bool.false_and]);clear h hx;go_enter func120,ntmps120
  go_wp2;go_ret
  exact⟨bG HR.out.symm,rfl⟩
def mZ(K:Int):Bool×Bool×Bool×Bool×Bool×Bool :=
 if K=0 then(false,false,false,false,false,true)
 else if K=1\/K=2\/K=3 then(true,false,false,false,false,true)
 else if K=4\/K=5 then(false,false,true,false,false,true)
 else if K=6 then(false,false,false,false,true,true)
 else if K=7 then(false,false,false,true,true,true)
 else if K=8 then(true,true,false,false,false,true)
 else if K=9 then(false,false,true,true,true,true)
 else(false,false,false,false,false,false)
def nU(u:Bool×Bool×Bool×Bool×Bool×Bool):Value:=.tuple #[.agg #[.bool u.1,.bool u.2.1,.bool u.2.2.1,.bool u.2.2.2.1,.bool u.2.2.2.2.1],.bool u.2.2.2.2.2]
theorem bBE(K:Int)(w:World):Calls prog 117 #[.int .i64 K] w fun e w'=>e=.returned (nU (mZ K))/\Below w.heap.size w w':=by
 by_cases h0:K=0
 ·subst h0;go_enter func117,ntmps117
  go_wp2;refine bGN (v:=nU (false,false,false,false,false,true)) q134 rfl ⟨rfl,bel⟩
 by_cases h1:K=1
 ·subst h1;go_enter func117,ntmps117
  exact q420
 by_cases h2:K=2
 ·subst h2;go_enter func117,ntmps117
  exact q420
 by_cases h3:K=3
 ·subst h3;go_enter func117,ntmps117
  exact q420
 by_cases h4:K=4
 ·subst h4;go_enter func117,ntmps117
  exact q490
 by_cases h5:K=5
 ·subst h5;go_enter func117,ntmps117
  exact q490
 by_cases h6:K=6
 ·subst h6;go_enter func117,ntmps117
  go_wp2;refine bGN (v:=nU (false,false,false,false,true,true)) q134 rfl ⟨rfl,bel⟩
 by_cases h7:K=7
 ·subst h7;go_enter func117,ntmps117
  go_wp2;refine bGN (v:=nU (false,false,false,true,true,true)) q134 rfl ⟨rfl,bel⟩
 by_cases h8:K=8
 ·subst h8;go_enter func117,ntmps117
  go_wp2;refine bGN (v:=nU (true,true,false,false,false,true)) q134 rfl ⟨rfl,bel⟩
 by_cases h9:K=9
 ·subst h9;go_enter func117,ntmps117
  go_wp2;refine bGN (v:=nU (false,false,true,true,true,true)) q134 rfl ⟨rfl,bel⟩
 rw[show mZ K=(false,false,false,false,false,false) by simp_all [mZ]];have e0:(K==0)=false:=q135;have e1:(K==1)=false:=q37;have e2:(K==2)=false:=q97;have e3:(K==3)=false:=by simpa using h3
 have e4:(K==4)=false:=by simpa using h4
 have e5:(K==5)=false:=q136;have e6:(K==6)=false:=by simpa using h6
 have e7:(K==7)=false:=q137;have e8:(K==8)=false:=by simpa using h8
 have e9:(K==9)=false:=by simpa using h9
 clear h0 h1 h2 h3 h4 h5 h6 h7 h8 h9;go_enter func117,ntmps117
 go_wp2;refine bGN (v:=nU (false,false,false,false,false,false)) q134 rfl ⟨rfl,bel⟩
theorem aWF(K N G:Int)(s:L)(p1 p2:Option Addr)(n1 c1 n2 c2:Nat)(w:World) :
 Calls prog 118 #[.agg #[.int .i64 K,.int .i64 N,.int .i64 G,.string ⟨s.toArray⟩,.slice p1 n1 c1,.slice p2 n2 c2]] w fun e w'=>e=.returned (.bool (aWE K N G))/\Below w.heap.size w w':=by
 have HW:=Lh (fun n a b W=>aQA n a b W);have HI:=Lh (fun n a b W=>aIL n a b W);go_enter func118,ntmps118
 go_wp2_with(first|(go_at_call 160;refine(HW.out _ _ _ _).mono ?_;rintro e w1 ⟨rfl,rfl⟩)|(go_at_call 161;refine(HI.out _ _ _ _).mono ?_;rintro e w1 ⟨rfl,rfl⟩))
 all_goals go_ret
 all_goals exact⟨bG (by unfold aWE;simp_all;try (first|omega|(rw[Bool.eq_iff_iff];simp;omega))),bel⟩
def aAZ(K:Int)(n:Nat):Bool:=if K=4 then decide (n<=32767) else if K=5 then decide (n<=127) else decide (n<=1048576)
theorem aQB(K N G:Int)(s:L)(p1 p2:Option Addr)(n1 c1 n2 c2:Nat)(w:World) :
 Calls prog 119 #[.agg #[.int .i64 K,.int .i64 N,.int .i64 G,.string ⟨s.toArray⟩,.slice p1 n1 c1,.slice p2 n2 c2]] w fun e w'=>e=.returned (.bool (aAZ K s.length))/\Below w.heap.size w w':=by
 obtain⟨ss,hss⟩:∃ss:ByteArray,ss=⟨s.toArray⟩:=⟨_,rfl⟩
 have hsz:s.length=ss.size:=by rw[hss];rfl
 rw[<-hss,hsz];clear hss hsz;go_enter func119,ntmps119
 go_wp2;all_goals go_ret
 all_goals exact⟨bG (by unfold aAZ;simp_all;try omega),bel⟩
theorem aIM(S:Nat->Prop)(d:Nat)(o:Ob)(b1 f1 c1 b2 f2 c2:Nat)(w:World)(hK:cU S w (.slice (some ⟨b1,f1,none⟩) o.keys.length c1) o.keys)(hR:cF S d w (.slice (some ⟨b2,f2,none⟩) o.kids.length c2) o.kids)(hS:∀b,S b->b<w.heap.size)(hk:o.kind=7)(hl:o.keys.length=o.kids.length)(hle:o.keys.length<=140737488355328)(hx:∀x∈o.keys,x.length<=140737488355328):Calls prog 121 #[.agg #[.int .i64 o.kind,.int .i64 o.n,.int .i64 o.g,.string ⟨o.s.toArray⟩,.slice (some ⟨b1,f1,none⟩) o.keys.length c1,.slice (some ⟨b2,f2,none⟩) o.kids.length c2]] w fun e w'=>e=.returned (.bool (bV o))/\Below w.heap.size w w':=by
 obtain⟨n,hn⟩:=eX (o.keys.length);have HK:=Lh hK;have HR:=Lh hR;have HS:=Lh hS;have HX:=Lh hx;rw[<-hl,hn];rw[hn] at hle;have HN:=Lh (bGQ hn (hl.symm.trans hn));rw[hk];have HK0:=Lh hk;clear hK hR hS hn hl hx hk;go_enter func121,ntmps121
 go_wp2;go_loopw [15] (fun i wr=>∃k:Nat,k<=n/\i=.int .i64 k/\Below (w.heap.size+1) (w.alloc (.cells #[.int .i64 7,.int .i64 o.n,.int .i64 o.g,.string ⟨o.s.toArray⟩,.slice (some ⟨b1,f1,none⟩) n c1,.slice (some ⟨b2,f2,none⟩) n c2] 31)) wr/\Hid (∀j,j<k->jH o j=true)) (fun i _=>n-(intOf i).toNat)
 case atStart=>exact q550
 case round =>
  obtain⟨k,hk,rfl,hb,HA⟩:=hrel;by_cases hlt:k<n
  ·have hbw:Below w.heap.size w wr:=(show Below w.heap.size w (w.alloc _) from bel).trans (hb.mono oM);obtain⟨s1,g1⟩:=aAX (HK.out.kept (fun b h=>hbw.block b (HS.out b h))) rfl k q138;obtain⟨s2,g2⟩:=aEN (HR.out.kept (fun b h=>hbw.block b (HS.out b h))) rfl k (by rw[HN.out.2];exact hlt);have hp:0<k->wr.cell? ⟨b1,f1+(k-1),none⟩=some (.string ⟨(o.keys.getD (k-1) []).toArray⟩):=fun h=>(aAX (HK.out.kept (fun b h=>hbw.block b (HS.out b h))) rfl (k-1) (by rw[HN.out.1];omega)).2
   obtain⟨x,hx⟩:=eX (o.keys.getD k []);obtain⟨y,hy⟩:=eX (o.keys.getD (k-1) []);obtain⟨kk,hkk⟩:=eX ((o.kids.getD k .zero).kind);rw[hx] at g1;rw[hy] at hp;rw[hkk] at g2;have c0:wr.cell? ⟨w.heap.size,0,none⟩=some (.int .i64 7):=q139;have c4:wr.cell? ⟨w.heap.size,4,none⟩=some (.slice (some ⟨b1,f1,none⟩) n c1):=q141;have c5:wr.cell? ⟨w.heap.size,5,none⟩=some (.slice (some ⟨b2,f2,none⟩) n c2):=q142;have hxm:x.length<=140737488355328:=by
    exact q453
   have HNM:=Lh (fun W=>aAY x hxm W);have HC:=Lh (show jH o k=(gC x&&(k==0||decide (y<x))&&!(x==bB&&o.kind==9)&&kk !=0) by unfold jH;rw[hx,hy,hkk]);have HF:=Lh (fun h=>tJ (o:=o) (k:=k) q143 q138 h);have hk9:=HK0.out;rw[hk9] at HC;clear hx hy hkk hxm hbw hk9;cases hq:gC x
   ·exact q395
   ·rw[hq] at HC HNM;cases hle:(decide (0<k)&&!(Op.bytesLess y x))
    ·have hle2:0<k->Op.bytesLess y x=true:=fun h=>by simpa[h] using hle
     have HC2:=Lh (show jH o k=(!(x==bB&&(7:Int)==9)&&kk !=0) by
      rw[HC.out];by_cases h0:k=0
      ·subst h0;simp
      ·have:=hle2 oM;rw[bytesLess_eq] at this;rw[this];simp)
     clear hle HC;have HZ0:=Lh (show kk=0\/¬kk=0 from Classical.em _);by_cases hw:x=([76,101,110,103,116,104]:L)
     ·subst hw;cases hz:(kk==0)
      ·exact q292
      ·exact q312
     ·exact q578
    ·exact q344
  ·exact q378
theorem aBA(S:Nat->Prop)(d:Nat)(o:Ob)(b1 f1 c1 b2 f2 c2:Nat)(w:World)(hK:cU S w (.slice (some ⟨b1,f1,none⟩) o.keys.length c1) o.keys)(hR:cF S d w (.slice (some ⟨b2,f2,none⟩) o.kids.length c2) o.kids)(hS:∀b,S b->b<w.heap.size)(hk:o.kind=9)(hl:o.keys.length=o.kids.length)(hle:o.keys.length<=140737488355328)(hx:∀x∈o.keys,x.length<=140737488355328):Calls prog 121 #[.agg #[.int .i64 o.kind,.int .i64 o.n,.int .i64 o.g,.string ⟨o.s.toArray⟩,.slice (some ⟨b1,f1,none⟩) o.keys.length c1,.slice (some ⟨b2,f2,none⟩) o.kids.length c2]] w fun e w'=>e=.returned (.bool (bV o))/\Below w.heap.size w w':=by
 obtain⟨n,hn⟩:=eX (o.keys.length);have HK:=Lh hK;have HR:=Lh hR;have HS:=Lh hS;have HX:=Lh hx;rw[<-hl,hn];rw[hn] at hle;have HN:=Lh (bGQ hn (hl.symm.trans hn));rw[hk];have HK0:=Lh hk;clear hK hR hS hn hl hx hk;go_enter func121,ntmps121
 go_wp2;go_loopw [15] (fun i wr=>∃k:Nat,k<=n/\i=.int .i64 k/\Below (w.heap.size+1) (w.alloc (.cells #[.int .i64 9,.int .i64 o.n,.int .i64 o.g,.string ⟨o.s.toArray⟩,.slice (some ⟨b1,f1,none⟩) n c1,.slice (some ⟨b2,f2,none⟩) n c2] 31)) wr/\Hid (∀j,j<k->jH o j=true)) (fun i _=>n-(intOf i).toNat)
 case atStart=>exact q550
 case round =>
  obtain⟨k,hk,rfl,hb,HA⟩:=hrel;by_cases hlt:k<n
  ·have hbw:Below w.heap.size w wr:=(show Below w.heap.size w (w.alloc _) from bel).trans (hb.mono oM);obtain⟨s1,g1⟩:=aAX (HK.out.kept (fun b h=>hbw.block b (HS.out b h))) rfl k q138;obtain⟨s2,g2⟩:=aEN (HR.out.kept (fun b h=>hbw.block b (HS.out b h))) rfl k (by rw[HN.out.2];exact hlt);have hp:0<k->wr.cell? ⟨b1,f1+(k-1),none⟩=some (.string ⟨(o.keys.getD (k-1) []).toArray⟩):=fun h=>(aAX (HK.out.kept (fun b h=>hbw.block b (HS.out b h))) rfl (k-1) (by rw[HN.out.1];omega)).2
   obtain⟨x,hx⟩:=eX (o.keys.getD k []);obtain⟨y,hy⟩:=eX (o.keys.getD (k-1) []);obtain⟨kk,hkk⟩:=eX ((o.kids.getD k .zero).kind);rw[hx] at g1;rw[hy] at hp;rw[hkk] at g2;have c0:wr.cell? ⟨w.heap.size,0,none⟩=some (.int .i64 9):=q139;have c4:wr.cell? ⟨w.heap.size,4,none⟩=some (.slice (some ⟨b1,f1,none⟩) n c1):=q141;have c5:wr.cell? ⟨w.heap.size,5,none⟩=some (.slice (some ⟨b2,f2,none⟩) n c2):=q142;have hxm:x.length<=140737488355328:=by
    exact q453
   have HNM:=Lh (fun W=>aAY x hxm W);have HC:=Lh (show jH o k=(gC x&&(k==0||decide (y<x))&&!(x==bB&&o.kind==9)&&kk !=0) by unfold jH;rw[hx,hy,hkk]);have HF:=Lh (fun h=>tJ (o:=o) (k:=k) q143 q138 h);have hk9:=HK0.out;rw[hk9] at HC;clear hx hy hkk hxm hbw hk9;cases hq:gC x
   ·exact q395
   ·rw[hq] at HC HNM;cases hle:(decide (0<k)&&!(Op.bytesLess y x))
    ·have hle2:0<k->Op.bytesLess y x=true:=fun h=>by simpa[h] using hle
     have HC2:=Lh (show jH o k=(!(x==bB&&(9:Int)==9)&&kk !=0) by
      rw[HC.out];by_cases h0:k=0
      ·subst h0;simp
      ·have:=hle2 oM;rw[bytesLess_eq] at this;rw[this];simp)
     clear hle HC;have HZ0:=Lh (show kk=0\/¬kk=0 from Classical.em _);by_cases hw:x=([76,101,110,103,116,104]:L)
     ·subst hw;have HZ:=HZ0;by_cases h0:0<k
      ·have hp':=hp h0;have h1:=hle2 h0;exact q315
      ·have hk0:k=0:=oM;subst hk0;simp only[Nat.add_zero,Nat.zero_mul] at g1 g2;exact q315
     ·exact q578
    ·exact q344
  ·exact q378
theorem aQC(o:Ob)(p1 p2:Option Addr)(c1 c2:Nat)(w:World)(h:o.kind=7\/o.kind=9)(hl:o.keys.length≠o.kids.length) :
 Calls prog 121 #[.agg #[.int .i64 o.kind,.int .i64 o.n,.int .i64 o.g,.string ⟨o.s.toArray⟩,.slice p1 o.keys.length c1,.slice p2 o.kids.length c2]] w fun e w'=>e=.returned (.bool (bV o))/\Below w.heap.size w w':=by
 rcases h with hk|hk
 ·exact q341
 ·exact q341
theorem aQD(o:Ob)(p1 p2:Option Addr)(c1 c2:Nat)(w:World)(h:o.kind=7\/o.kind=9)(h1:o.keys.length=0)(h2:o.kids.length=0) :
 Calls prog 121 #[.agg #[.int .i64 o.kind,.int .i64 o.n,.int .i64 o.g,.string ⟨o.s.toArray⟩,.slice p1 o.keys.length c1,.slice p2 o.kids.length c2]] w fun e w'=>e=.returned (.bool (bV o))/\Below w.heap.size w w':=by
 rcases h with hk|hk
 ·exact q385
 ·exact q385
theorem aWG(S:Nat->Prop)(d:Nat)(o:Ob)(kv dv:Value)(w:World)(hK:cU S w kv o.keys)(hR:cF S d w dv o.kids)
 (hS:∀b,S b->b<w.heap.size) (hle:o.keys.length<=140737488355328) (hx:∀x∈o.keys,x.length<=140737488355328) (h79:o.kind=7\/o.kind=9) :
 Calls prog 121 #[.agg #[.int .i64 o.kind,.int .i64 o.n,.int .i64 o.g,.string ⟨o.s.toArray⟩,kv,dv]] w fun e w'=>e=.returned (.bool (bV o))/\Below w.heap.size w w':=by
 have a1:∃p c,kv=.slice p o.keys.length c:=by
  exact q396
 have a2:∃p c,dv=.slice p o.kids.length c:=by
  exact q397
 by_cases hl:o.keys.length=o.kids.length
 ·by_cases h0:o.keys.length=0
  ·obtain⟨p1,c1,rfl⟩:=a1;obtain⟨p2,c2,rfl⟩:=a2;exact aQD o p1 p2 c1 c2 w h79 h0 oM
  ·have hK':=hK;have hR':=hR;rcases hK with⟨e,_⟩|⟨b1,f1,c1,rfl,_⟩
   ·rw[e] at h0;exact absurd rfl h0
   ·rcases hR with⟨e,_⟩|⟨b2,f2,c2,rfl,_⟩
    ·rw[e] at hl;simp at hl;simp[hl] at h0
    ·rcases h79 with h|h
     ·exact aIM S d o b1 f1 c1 b2 f2 c2 w hK' hR' hS h hl hle hx
     ·exact aBA S d o b1 f1 c1 b2 f2 c2 w hK' hR' hS h hl hle hx
 ·obtain⟨p1,c1,rfl⟩:=a1;obtain⟨p2,c2,rfl⟩:=a2;exact aQC o p1 p2 c1 c2 w h79 hl
theorem bBF(o:Ob):aWE o.kind o.n o.g=gN o:=rfl
theorem aWH(k:Int):gO k<=1048576:=by unfold gO;split<;>(try split)<;>omega
theorem xP{l:List Int}{x:Int}(h:∀y∈l,y=0)(hx:x≠0)(r:List Int):fD (l++x::r)=x:=by
 unfold fD;rw[List.find?_append,List.find?_eq_none.2 (fun y hy=>by simp[h y hy])];simp[hx]
end Go.Proofs.YtdjpkgccakgkbaaGreatDoor
