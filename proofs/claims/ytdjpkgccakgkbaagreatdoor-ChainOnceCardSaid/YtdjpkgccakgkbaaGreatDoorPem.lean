/- Parts of the proof: VaD VaE VaF VaG DoA. -/
import Derived.Test.YtdjpkgccakgkbaaGreatDoorPeVaC
import Derived.Recover
import Derived.Test.YtdjpkgccakgkbaaGreatDoorPea
import Derived.OwnWalk
import Derived.Deep.Cut
import Derived.Test.YtdjpkgccakgkbaaGreatDoorPee
set_option linter.all false
set_option maxRecDepth 100000
set_option maxHeartbeats 8000000
section
variable{p:Prop}
theorem q151(h:p:=by rw[<-hw0];simp):p:=h
theorem q152(h:p:=by cases h;exact bGB _):p:=h
theorem q153(h:p:=by cases h;omega):p:=h
theorem q154(h:p:=by have:=h.2;omega):p:=h
theorem q155(h:p:=by have:=h.1;omega):p:=h
theorem q156(h:p:=by simp[results,results46,go_sem,s0,s1,s2,s3,s4,s5]):p:=h
theorem q157(h:p:=by rw[HN.out];omega):p:=h
theorem q299(h:p:=by
 go_wp2;obtain⟨w9,hw9⟩:=eX (((((((w1.setCell ⟨w.heap.size+1,0,none⟩ (.int .i64 0)).setCell ⟨w.heap.size+1,1,none⟩ (.int .i64 0)).setCell ⟨w.heap.size+1,2,none⟩ (.int .i64 0)).setCell ⟨w.heap.size+1,3,none⟩ (.string ⟨#[]⟩)).setCell ⟨w.heap.size+1,4,none⟩ (.slice none 0 0)).setCell ⟨w.heap.size+1,5,none⟩ (.slice none 0 0)));rw[hw9];have sg9:=bA w1 (w.heap.size+1) 0 1 2 3 4 5 (.int .i64 0) (.int .i64 0) (.int .i64 0) (.string ⟨#[]⟩) (.slice none 0 0) (.slice none 0 0);have Z1:=cL (v0:=.int .i64 0) (v1:=.int .i64 0) (v2:=.int .i64 0) (v3:=.string ⟨#[]⟩) (v4:=.slice none 0 0) (v5:=.slice none 0 0) B1;rw[hw9] at sg9 Z1;have hbw9:Below w.heap.size w w9:=hbw1.grown sg9 hbw1.size (fun k h=>q153);clear hw9 b0 b1 b2 b3 b4 b5 bf r0 r1 r2 r3 r4 r5 rf;obtain⟨s0,s1,s2,s3,s4,s5,sf⟩:=aD Z1;refine bGN (v:=.tuple #[.agg #[.int .i64 0,.int .i64 0,.int .i64 0,.string ⟨#[]⟩,.slice none 0 0,.slice none 0 0],.bool false]) q156 rfl ⟨rfl,hbw9⟩):p:=h
theorem q348(h:p:=by
 refine callsD_of_wpS func115 rfl fun c₀ cs hu=>?_
 simp only[ntmps115,List.size_toArray,bHA,List.length_nil,Nat.reduceAdd,Nat.reduceSub,Array.replicate_succ,Array.replicate_zero,List.push_toArray,List.append_toArray,List.nil_append,List.cons_append];apply wpS_seq
 apply wpS_region
 simp[wpOpsS,go_sem,recoverD,hu,ntmps115,Exit.thenS];refine wpS_of_wp ?_;go_wp2;cases c₀;simp_all [bodyPostS,results,results115]):p:=h
theorem q359(h:p:=by rw[<-hw0,bGM _ _ _ sI];exact aA _ _ _ rfl):p:=h
theorem q413(h:p:=by rw[<-hw0];exact aA _ _ _ sI):p:=h
theorem q507(h:p:=by exact⟨q1,e1,q2,e2,rfl,HO.out.grow (fun b h1 h2=>⟨oM,sg9.block b h2 sO⟩),hbw9⟩):p:=h
theorem q580(h:p:=by
 unfold eY;go_wp2_with fail;refine(HIX.out _ hbw1).mono ?_;rintro e w2 ⟨rfl,h2⟩;obtain rfl:=h2.symm;exact q299):p:=h
end
namespace Go.Proofs.YtdjpkgccakgkbaaGreatDoor
open Go.Proofs.Tryz
open Go.RowKit Fo
theorem sH(w:World)(o:Obj):(w.alloc o).heap[w.heap.size]?=some o:=bGP w o
theorem aBC(p:Addr)(w:World) :
 CallsD prog 115 #[.pointer (some p)] .returning w fun e u' w'=>e=.returned (.tuple #[])/\u'=.returning/\w'=w:=by
 exact q348
theorem xQ(b:Nat)(x y:Int)(older:List PanicEntry)(w:World)(hb:b<w.heap.size)(c0:w.cell? ⟨b,0,none⟩=some (.int .i64 y))(f0:w.frozen? ⟨b,0,none⟩=false) :
 CallsD prog 115 #[.pointer (some ⟨b,0,none⟩)] (.panicking ({ v:=.iface 188 (.agg #[.int .i64 x]),recovered:=false }::older)) w fun e u' w' =>
  e=.returned (.tuple #[])/\u'=.panicking ({ v:=.iface 188 (.agg #[.int .i64 x]),recovered:=true }::older)/\w'=(w.setCell ⟨b,0,none⟩ (.int .i64 x)).alloc (.cells #[.int .i64 x] 188):=by
 have hta:∀(x:Int) (w:World),(Instr.typeAssert (.iface 188 (.agg #[.int .i64 x])) 20 188 true).run prog w=.ok (.tuple #[.agg #[.int .i64 x],.bool true]) w:=fun _ _=>kR
 have n1:¬b=w.heap.size:=oM;have n2:¬w.heap.size=b:=oM;exact q348
def aMF(w:World)(b:Nat)(cs:List Value):Prop:=w.heap[b]?=some (.cells cs.toArray 31 (0,0))
theorem aQF{w:World}{b:Nat}{v0 v1 v2 v3 v4 v5:Value}(h:aMF w b [v0,v1,v2,v3,v4,v5]) :
 w.cell? ⟨b,0,none⟩=some v0/\w.cell? ⟨b,1,none⟩=some v1/\w.cell? ⟨b,2,none⟩=some v2/\w.cell? ⟨b,3,none⟩=some v3/\w.cell? ⟨b,4,none⟩=some v4/\w.cell? ⟨b,5,none⟩=some v5:=by
 unfold aMF at h;simp[World.cell?,h]
theorem aIN(S:Nat->Prop)(d b:Nat)(w:World)(cs:List Value)(o:Ob)(hB:aMF w b cs)(h:aI S d w cs o)(hsm:cE d o)(hS:∀b,S b->b<w.heap.size) :
 Calls prog 78 #[.pointer (some ⟨b,0,none⟩)] w fun e w'=>jZ (aT 24 o) e/\Below w.heap.size w w':=by
 have HC:=Lh (yT S 24 dC d w cs o h hsm hS);obtain⟨p1,c1,p2,c2,rfl⟩:=h.form2;unfold aB at HC hB;obtain⟨q0,q1,q2,q3,q4,q5⟩:=aQF hB;rw[show(25-((24:Nat):Int))=1 by decide] at HC;clear h hS hsm hB;go_enter func78,ntmps78
 go_wp2_with fail;refine HC.out.mono ?_;rintro e w1 ⟨⟨hy,rfl⟩|⟨hy,rfl⟩,hb1⟩
 ·have HY:=Lh (show jZ (aT 24 o) (.returned (.tuple #[])) by rw[hy];exact jZ.good);clear hy;go_wp2;go_end0
  exact⟨HY.out,hb1⟩
 ·have HY:=Lh (jZ.bad hy);clear hy;go_wp2;exact⟨rfl,HY.out,hb1⟩
theorem aIO(S:Nat->Prop)(d b:Nat)(w:World)(cs:List Value)(o:Ob)(hB:aMF w b cs)(h:aI S d w cs o)(hsm:cE d o)(hS:∀b,S b->b<w.heap.size)(hb:b<w.heap.size) :
 Calls prog 77 #[.func (.func 78) #[] #[.pointer (some ⟨b,0,none⟩)]] w fun e w'=>e=.returned (.int .i64 (aT 24 o))/\Below w.heap.size w w':=by
 have hmf:∀(fn:Fn) (first cap:Array Value) (w:World),(Instr.makeFunc fn first cap).run prog w=.ok (.func fn first cap) w:=fun _ _ _ _=>rfl
 have HC:=Lh (fun(W:World) (hW:Below w.heap.size w W)=>aIN S d b W cs o ((hW.block b hb).trans hB) (h.kept (fun b h=>hW.block b (hS b h)) d) hsm (fun b h=>bGA (hS b h) hW.size));clear hB h hS hsm;go_enter_defers func77,ntmps77
 go_wp2_with fail;refine(HC.out _ bel).mono ?_;rintro e w1 ⟨⟨hy,rfl⟩|⟨hy,rfl⟩,hb1⟩
 ·have hl1:=hb1.size;simp at hl1;have hk:w1.heap[w.heap.size]?=some (.cells #[.int .i64 0] 24 (0,0)):=by
   rw[hb1.block _ sI];exact sH _ _
  have y0:w1.cell? ⟨w.heap.size,0,none⟩=some (.int .i64 0):=by simp[World.cell?,hk]
  have yf:w1.frozen? ⟨w.heap.size,0,none⟩=false:=by simp[World.frozen?,hk]
  have HY:=Lh hy;clear hy hk;go_wp2;refine bGW (f:=115) (args:=#[.pointer (some ⟨w.heap.size,0,none⟩)]) sI q39 ?_;refine(aBC _ _).mono ?_;rintro e u' w'' ⟨rfl,rfl,rfl⟩;simp[Leaves,settle,results,results77,go_sem,y0,yf];exact⟨HY.out.symm,bel⟩
 ·have hl1:=hb1.size;simp at hl1;have hk:w1.heap[w.heap.size]?=some (.cells #[.int .i64 0] 24 (0,0)):=by
   rw[hb1.block _ sI];exact sH _ _
  have y0:w1.cell? ⟨w.heap.size,0,none⟩=some (.int .i64 0):=by simp[World.cell?,hk]
  have yf:w1.frozen? ⟨w.heap.size,0,none⟩=false:=by simp[World.frozen?,hk]
  have n1:¬w.heap.size=w1.heap.size:=oM;clear hy hk;go_wp2;refine bGW (f:=115) (args:=#[.pointer (some ⟨w.heap.size,0,none⟩)]) sI q39 ?_;refine(xQ _ _ 0 _ _ oM y0 yf).mono ?_;rintro e u' w'' ⟨rfl,rfl,rfl⟩;have z0:((w1.setCell ⟨w.heap.size,0,none⟩ (.int .i64 (aT 24 o))).alloc (.cells #[.int .i64 (aT 24 o)] 188)).cell? ⟨w.heap.size,0,none⟩=some (.int .i64 (aT 24 o)) :=
   (bGO (a:=⟨w.heap.size,0,none⟩) (bGM _ _ _ sO)).trans (World.cell?_setCell_same _ _ _ y0)
  simp[Leaves,settle,results,results77,go_sem,z0];exact bel
theorem jA(S:Nat->Prop)(d:Nat)(w:World)(cs:List Value)(o:Ob)(h:aI S d w cs o)(hsm:cE d o)(hS:∀b,S b->b<w.heap.size) :
 Calls prog 44 #[.agg cs.toArray] w fun e w'=>e=.returned (.int .i64 (aT 24 o))/\Below w.heap.size w w':=by
 have hmf:∀(fn:Fn) (first cap:Array Value) (w:World),(Instr.makeFunc fn first cap).run prog w=.ok (.func fn first cap) w:=fun _ _ _ _=>rfl
 have hbw:Below w.heap.size w (w.alloc (.cells cs.toArray 31)):=bel;have HC:=Lh (aIO S d w.heap.size (w.alloc (.cells cs.toArray 31)) cs o (sH _ _) (h.kept (fun b h=>hbw.block b (hS b h)) d) hsm (fun b h=>bGA (hS b h) hbw.size) sI);obtain⟨p1,c1,p2,c2,rfl⟩:=h.form2;unfold aB at HC;unfold aB;clear h hS hsm hbw;go_enter func44,ntmps44
 go_wp2_with fail;refine HC.out.mono ?_;rintro e w1 ⟨rfl,hb1⟩;exact q597
def cN:Nat->Ob->Prop
 |0,_=>False
 |d+1,o=>o.keys.length<=8192/\o.kids.length<=8192/\∀k∈o.kids,cN d k
theorem bDW(K N G:Int)(s:ByteArray)(p1 p2:Option Addr)(n1 c1 n2 c2:Nat)(w:World) :
 Calls prog 73 #[.agg #[.int .i64 K,.int .i64 N,.int .i64 G,.string s,.slice p1 n1 c1,.slice p2 n2 c2]] w fun e w'=>e=.returned (.agg #[.int .i64 K,.int .i64 N,.int .i64 G,.string s,.slice p1 n1 c1,.slice p2 n2 c2])/\Below w.heap.size w w':=by
 go_enter func73,ntmps73
 go_wp2;refine bGN (v:=.agg #[.int .i64 K,.int .i64 N,.int .i64 G,.string s,.slice p1 n1 c1,.slice p2 n2 c2]) (by simp[results,results73,go_sem]) rfl ⟨rfl,bel⟩
theorem aER(o:Ob)(p1 p2:Option Addr)(n1 c1 n2 c2:Nat)(w:World) :
 Calls prog 80 #[.agg #[.int .i64 o.kind,.int .i64 o.n,.int .i64 o.g,.string ⟨o.s.toArray⟩,.slice p1 n1 c1,.slice p2 n2 c2]] w fun e w'=>e=.returned (.bool (o.kind==7||o.kind==9))/\Below w.heap.size w w':=by
 generalize o.kind=K
 by_cases h7:K=7
 ·subst h7;go_enter func80,ntmps80
  exact q597
 ·have e7:(K==7)=false:=q137;clear h7;go_enter func80,ntmps80
  go_wp2;go_ret
  exact⟨bG (by rw[e7,Bool.false_or]),bel⟩
theorem aQG(S:Nat->Prop)(kv:Value)(ks:List L)(w:World)(h:cU S w kv ks)(hn:ks.length<=8192) :
 Calls prog 104 #[kv] w fun e w'=>∃p c,e=.returned (.slice p ks.length c)/\cU (fun b=>w.heap.size<=b) w' (.slice p ks.length c) ks/\Below w.heap.size w w':=by
 rcases h with⟨rfl,p,c,rfl⟩|⟨b,o,c,rfl,hb,hc⟩
 ·cases p with
  |none =>
   refine(Tryz.slices_Clone_string_nil 0 c w).mono ?_;rintro e w' ⟨rfl,rfl⟩;exact⟨none,0,rfl,.inl ⟨rfl,_,_,rfl⟩,bGL _ _⟩
  |some a =>
   refine(Tryz.slices_Clone_string_zero a c w).mono ?_;rintro e w' ⟨v',rfl,hown,_,hbe⟩;obtain⟨p,c,rfl⟩:=cY hown;exact⟨p,c,rfl,.inl ⟨rfl,_,_,rfl⟩,hbe⟩
 ·refine(Tryz.slices_Clone_string b o ks.length c (ks.map fun x=>(⟨x.toArray⟩:ByteArray)) w sI oM (fun j hj=>by
   have hj2:j<ks.length:=q14;rw[hc j hj2];simp[List.getD,hj2])).mono ?_
  rintro e w' ⟨v',rfl,hown,_,hbe⟩;obtain⟨p,c',rfl⟩:=cY hown;refine⟨p,c',rfl,?_,hbe⟩;have h0:=hown;rcases hown.2 with⟨h1,h2⟩|⟨g,cap,cur,h1,h2,h3,_⟩
  ·exact .inl ⟨bHI h2,_,_,by rw[h2]⟩
  ·simp only[Value.slice.injEq] at h1;obtain⟨rfl,_,rfl⟩:=h1;refine .inr ⟨g,0,c',rfl,h2,fun i hi=>?_⟩;have:=World.ownsRow.cellAt h0 i oM;rw[Nat.zero_add,this];rw[bHC sI];simp[hi]
theorem aWJ{z0 z1 z2 z3 z4 z5:Value}(n:Nat):(madeCells #[z0,z1,z2,z3,z4,z5] (n*6)).toList=(List.replicate n [z0,z1,z2,z3,z4,z5]).flatten:=by
 have h6:∀cs∈List.replicate n [z0,z1,z2,z3,z4,z5],cs.length=6:=by intro cs h;rw[List.eq_of_mem_replicate h];rfl
 have hl:=aTL h6;rw[bHK] at hl;refine List.ext_getElem? fun i=>?_
 by_cases hi:i<n*6
 ·have e:6*(i/6)+i % 6=i:=oM;have hq:(List.replicate n [z0,z1,z2,z3,z4,z5])[i/6]?=some [z0,z1,z2,z3,z4,z5]:=by
   rw[bGE sO];simp
  have r:=oG h6 hq (show i % 6<6 from oM);rw[e] at r;rw[r];have hm:i % 6<6:=oM;simp only[madeCells,Array.toList_map,Array.toList_range,List.getElem?_map,List.getElem?_range hi,Option.map_some];show some (#[z0,z1,z2,z3,z4,z5][i % 6]!)=_
  match i % 6,hm with
  |0,_=>rfl
  |1,_=>rfl
  |2,_=>rfl
  |3,_=>rfl
  |4,_=>rfl
  |5,_=>rfl
 ·rw[bGZ (by simp[size_madeCells];omega),bGZ oM]
def vY(d:Nat)(w:World)(o:Ob)(e:Ending)(w':World):Prop :=
 ∃p1 c1 p2 c2,e=.returned (.agg #[.int .i64 o.kind,.int .i64 o.n,.int .i64 o.g,.string ⟨o.s.toArray⟩,.slice p1 o.keys.length c1,.slice p2 o.kids.length c2]) /\
  aI (fun b=>w.heap.size<=b) d w' (aB o.kind o.n o.g o.s (.slice p1 o.keys.length c1) (.slice p2 o.kids.length c2)) o/\Below w.heap.size w w'
def aWK(S:Nat->Prop)(d:Nat):Prop:=∀(w:World) (cs:List Value) (o:Ob),aI S d w cs o->cN d o->(∀b,S b->b<w.heap.size) ->
 Calls prog 72 #[.agg cs.toArray,.func (.func 73) #[] #[]] w (vY d w o)
theorem aIP(S:Nat->Prop)(d:Nat)(IH:aWK S d):aWK S (d+1):=by
 intro w cs o hO ht hS;obtain⟨kv,dv,rfl,hK,hR0⟩:=hO;have hR:cF S d w dv o.kids:=hR0;clear hR0;obtain⟨t1,t2,t3⟩:=ht;have a1:∃p c,kv=.slice p o.keys.length c:=by
  exact q396
 have a2:∃p c,dv=.slice p o.kids.length c:=by
  exact q397
 obtain⟨p1,c1,rfl⟩:=a1;obtain⟨p2,c2,rfl⟩:=a2;have HID:=Lh (fun W=>bDW o.kind o.n o.g ⟨o.s.toArray⟩ p1 p2 o.keys.length c1 o.kids.length c2 W);have HKC:=Lh (fun W (hW:Below w.heap.size w W)=>aQG S _ o.keys W (hK.kept (fun b h=>hW.block b (hS b h))) t1);have HRW:=Lh (bGQ hR (bGQ t3 hS));obtain⟨nk,hnk⟩:=eX (o.kids.length);obtain⟨n2,hn2⟩:=eX (o.keys.length);unfold aB;unfold vY;rw[hnk,hn2];rw[hnk,hn2] at HID;rw[hn2] at HKC;rw[hnk] at HRW t2;have HN:=Lh (bGQ hnk hn2);clear hK hR hS t1 t3 hnk hn2;obtain⟨K,hk0⟩:=eX (o.kind);obtain⟨N,hN0⟩:=eX (o.n);obtain⟨G,hG0⟩:=eX (o.g);obtain⟨ss,hs0⟩:∃ss:ByteArray,(⟨o.s.toArray⟩:ByteArray)=ss:=⟨_,rfl⟩
 rw[hk0,hN0,hG0,hs0] at HID ⊢;have HE:=Lh (bGQ hk0 (bGQ hN0 (bGQ hG0 hs0)));clear hk0 hN0 hG0 hs0;go_enter func72,ntmps72
 go_upto_region 1 with fail
 obtain⟨w0,hw0⟩:=eX (((w.alloc (.cells #[.int .i64 K,.int .i64 N,.int .i64 G,.string ss,.slice p1 n2 c1,.slice p2 nk c2] 31)).alloc (.cells #[.int .i64 0,.int .i64 0,.int .i64 0,.string ⟨#[]⟩,.slice none 0 0,.slice none 0 0] 31)));rw[hw0];have A0:w0.heap[w.heap.size]?=some (.cells #[.int .i64 K,.int .i64 N,.int .i64 G,.string ss,.slice p1 n2 c1,.slice p2 nk c2] 31 (0,0)):=by
  exact q359
 have A1:w0.heap[w.heap.size+1]?=some (.cells #[.int .i64 0,.int .i64 0,.int .i64 0,.string ⟨#[]⟩,.slice none 0 0,.slice none 0 0] 31 (0,0)):=by
  exact q413
 have hbw:Below w.heap.size w w0:=q150;have hz0:w.heap.size+2<=w0.heap.size:=q151;clear hw0;obtain⟨b0,b1,b2,b3,b4,b5,bf⟩:=aD A0;go_wp2_with fail;refine(HID.out _).mono ?_;rintro e w1 ⟨rfl,hb1⟩;have B0:=(hb1.block _ oM).trans A0;have B1:=(hb1.block _ oM).trans A1;have hbw1:=hbw.trans (hb1.mono hbw.size);have hz1:=hb1.size;clear b0 b1 b2 b3 b4 b5 bf A0 A1 hbw hb1 HID;obtain⟨b0,b1,b2,b3,b4,b5,bf⟩:=aD B0;go_upto_region 2 with fail
 obtain⟨w2,hw2⟩:=eX (((((((w1.setCell ⟨w.heap.size,0,none⟩ (.int .i64 K)).setCell ⟨w.heap.size,1,none⟩ (.int .i64 N)).setCell ⟨w.heap.size,2,none⟩ (.int .i64 G)).setCell ⟨w.heap.size,3,none⟩ (.string ss)).setCell ⟨w.heap.size,4,none⟩ (.slice p1 n2 c1)).setCell ⟨w.heap.size,5,none⟩ (.slice p2 nk c2)));rw[hw2];have sg:=bA w1 w.heap.size 0 1 2 3 4 5 (.int .i64 K) (.int .i64 N) (.int .i64 G) (.string ss) (.slice p1 n2 c1) (.slice p2 nk c2);have C0:=cL (v0:=.int .i64 K) (v1:=.int .i64 N) (v2:=.int .i64 G) (v3:=.string ss) (v4:=.slice p1 n2 c1) (v5:=.slice p2 nk c2) B0;rw[hw2] at sg C0;have C1:=(sg.block _ (bGJ B1) sI).trans B1;have hbw2:Below w.heap.size w w2:=hbw1.grown sg hbw1.size (fun k h=>q152);have hz2:w.heap.size+2<=w2.heap.size:=by have:=sg.size;omega
 clear hw2 sg b0 b1 b2 b3 b4 b5 bf B0 B1 hbw1 hz1 hz0;obtain⟨b0,b1,b2,b3,b4,b5,bf⟩:=aD C0;go_wp2_with fail;refine(HKC.out w2 hbw2).mono ?_;rintro e w3 ⟨p3,c3,rfl,hK3,hb3⟩;have D0:=(hb3.block _ oM).trans C0;have D1:=(hb3.block _ oM).trans C1;have hbw3:=hbw2.trans (hb3.mono hbw2.size);have HK3:=Lh (cU.weaken (S':=fun b=>w2.heap.size<=b/\b<w3.heap.size) hK3 (fun b h h2=>⟨h,h2⟩));have hz3:=hb3.size;clear b0 b1 b2 b3 b4 b5 bf C0 C1 hb3 hK3 hbw2;obtain⟨b0,b1,b2,b3,b4,b5,bf⟩:=aD D0;go_upto_region 3 with fail
 obtain⟨w4,hw4⟩:=eX (w3.setCell ⟨w.heap.size,4,none⟩ (.slice p3 n2 c3));rw[hw4];have sg:=eF (a:=w3) (w:=w3) (b:=w.heap.size) ⟨rfl,rfl,rfl,bGB _,fun _ _ _=>rfl⟩ 4 (.slice p3 n2 c3);have E0:=vC (v:=.slice p3 n2 c3) D0;rw[hw4] at sg E0;have E1:=(sg.block _ (bGJ D1) sI).trans D1;have hbw4:Below w.heap.size w w4:=hbw3.grown sg hbw3.size (fun k h=>q152);have hz4:=sg.size;have HK4:=Lh (HK3.out.kept (w':=w4) (fun b h=>sg.block b h.2 (by have:=h.1;simp;omega)));clear hw4 sg b0 b1 b2 b3 b4 b5 bf D0 D1 hbw3 HK3 HKC;obtain⟨b0,b1,b2,b3,b4,b5,bf⟩:=aD E0;obtain⟨r0,r1,r2,r3,r4,r5,rf⟩:=aD E1;have hne:¬w.heap.size=w.heap.size+1:=oM;have hne2:¬w.heap.size+1=w.heap.size:=oM;cases p2 with
 |none =>
  have HF:=Lh (show o.kids=[] from by
   rcases HRW.out.1 with⟨e,_⟩|⟨b,off,c,e,_⟩
   ·exact e
   ·cases e)
  have h0:nk=0:=by rw[<-HN.out.1,HF.out];rfl
  subst h0;go_wp2;obtain⟨w9,hw9⟩:=eX (((((((w4.setCell ⟨w.heap.size+1,0,none⟩ (.int .i64 K)).setCell ⟨w.heap.size+1,1,none⟩ (.int .i64 N)).setCell ⟨w.heap.size+1,2,none⟩ (.int .i64 G)).setCell ⟨w.heap.size+1,3,none⟩ (.string ss)).setCell ⟨w.heap.size+1,4,none⟩ (.slice p3 n2 c3)).setCell ⟨w.heap.size+1,5,none⟩ (.slice none 0 c2)));rw[hw9];have sg9:=bA w4 (w.heap.size+1) 0 1 2 3 4 5 (.int .i64 K) (.int .i64 N) (.int .i64 G) (.string ss) (.slice p3 n2 c3) (.slice none 0 c2);have Z1:=cL (v0:=.int .i64 K) (v1:=.int .i64 N) (v2:=.int .i64 G) (v3:=.string ss) (v4:=.slice p3 n2 c3) (v5:=.slice none 0 c2) E1;rw[hw9] at sg9 Z1;have hbw9:Below w.heap.size w w9:=hbw4.grown sg9 hbw4.size (fun k h=>q153);clear hw9;obtain⟨s0,s1,s2,s3,s4,s5,sf⟩:=aD Z1;refine bGN (v:=.agg #[.int .i64 K,.int .i64 N,.int .i64 G,.string ss,.slice p3 n2 c3,.slice none 0 c2]) (by simp[results,results72,go_sem,s0,s1,s2,s3,s4,s5]) rfl ?_;have HK9:=HK4.out.kept (w':=w9) (fun b h=>sg9.block b q154 (by have:=h.1;simp;omega));refine⟨p3,c3,none,c2,rfl,⟨.slice p3 n2 c3,.slice none 0 c2,?_,HK9.weaken (fun b h _=>q155),.inl ⟨HF.out,none,c2,rfl⟩⟩,hbw9⟩;rw[<-HE.out.1,<-HE.out.2.1,<-HE.out.2.2.1]
 |some a =>
  obtain⟨i0,hi0,y0,y1,y2⟩:=info_parts Tryz.infoOb;have hb88:i0.bytes*nk<=281474976710656:=by rw[y2];omega
  go_upto_region 5 with(at_make;go_must (refine wpList_make_full _ rfl _ _ 29 rfl w.heap.size 31 i0 (.agg #[.int .i64 0,.int .i64 0,.int .i64 0,.string ⟨#[]⟩,.slice none 0 0,.slice none 0 0]) 6 underlying29 hi0 y0 y1 .i64 .i64 nk nk nk rfl rfl rfl rfl hb88 q26 oM ?_);intro w5 own5 hg5)
  obtain⟨g,hg⟩:=eX (w4.heap.size);have hwg:w.heap.size+1<g:=by have:=bGJ E1;omega
  have F0:=(hg5.block _ (bGJ E0) sI).trans E0;have F1:=(hg5.block _ (bGJ E1) sI).trans E1;have hbg:Below g w4 w5:=(bGL _ _).grown hg5 oM (fun k h=>q96);have HK5:=Lh (HK4.out.kept (w':=w5) (fun b h=>hg5.block b q154 sI));have hbw5:Below w.heap.size w w5:=hbw4.trans (hbg.mono oM);rw[show(madeCells (Value.agg #[.int .i64 0,.int .i64 0,.int .i64 0,.string ⟨#[]⟩,.slice none 0 0,.slice none 0 0]).cells (nk*6)).toList=(List.replicate nk [.int .i64 0,.int .i64 0,.int .i64 0,.string ⟨#[]⟩,.slice none 0 0,.slice none 0 0]).flatten from aWJ nk] at own5;rw[hg] at own5 ⊢;have hgw:w2.heap.size<=g/\w3.heap.size<=g:=oM;clear b0 b1 b2 b3 b4 b5 bf r0 r1 r2 r3 r4 r5 rf E0 E1 hg5 hb88 y0 y1 y2 hi0 hbw4 HK4 hz3 hz4;obtain⟨b0,b1,b2,b3,b4,b5,bf⟩:=aD F0;go_wp2;go_loopw [25] (fun i wr=>∃(k:Nat) (css:List (List Value)),k<=nk/\i=.int .i64 k/\Below g w5 wr/\wr.ownsRow w.heap.size 31 6 (.slice (some ⟨g,0,none⟩) nk nk) nk css.flatten /\
   Hid (css.length=nk/\(∀cs∈css,cs.length=6)/\∀j cs x,j<k->css[j]?=some cs->o.kids[j]?=some x->aI (fun b=>g<b) d wr cs x)) (fun i _=>nk-(intOf i).toNat)
  case atStart=>exact⟨0,_,bGF _,rfl,bGL _ _,own5,Lh ⟨sI,fun cs h=>by rw[List.eq_of_mem_replicate h];rfl,fun j _ _ h=>absurd h (Nat.not_lt_zero _)⟩⟩
  case round =>
   obtain⟨k,css,hk,rfl,hbr,own,HC⟩:=hrel;have hbwr:Below w.heap.size w wr:=hbw5.trans (hbr.mono oM);have hgr:g<wr.heap.size:=(World.ownsRow.lt own g rfl).2;by_cases hlt:k<nk
   ·have hRw:cF S d wr (.slice (some a) nk c2) o.kids:=HRW.out.1.kept (fun b h=>hbwr.block b (HRW.out.2.2 b h));obtain⟨b,off,rfl⟩:∃b off,a=⟨b,off,none⟩:=by
     rcases hRw with⟨e,_⟩|⟨b,off,c,e,_⟩
     ·have:=HN.out.1;rw[e] at this;simp at this;omega
     ·exact q543
    obtain⟨x,p5,n5,e5,p6,n6,e6,hx,hxm,s1,O1,f0,f1,f2,f3,f4,f5⟩:=eN hRw HN.out.1 k hlt;have hS2:∀b,S b->b<wr.heap.size:=fun b h=>bGA (HRW.out.2.2 b h) hbwr.size
    have HI:=Lh (fun(W:World) (hW:Below wr.heap.size wr W)=>IH W _ x (O1.kept (fun b h=>hW.block b (hS2 b h)) d) (HRW.out.2.1 x hxm) (fun b h=>bGA (hS2 b h) hW.size));have hxk:o.kids[k]?=some x:=by
     have hk':k<o.kids.length:=q138;rw[bGE hk'];rw[bGX,bGE hk'] at hx;exact congrArg some hx
    have HX:=Lh hxk;have L1:=hS2 b s1;unfold aB at HI;clear hRw hx hxm O1 hS2 hxk F0 F1 b0 b1 b2 b3 b4 b5 bf;go_wp2_with fail;refine(HI.out _ bel).mono ?_;rintro e w6 ⟨p7,c7,p8,c8,rfl,O6,hb6⟩;have hz6:=hb6.size;simp at hz6;have own6:w6.ownsRow w.heap.size 31 6 (.slice (some ⟨g,0,none⟩) nk nk) nk css.flatten :=
     World.ownsRow.kept (row:=none) (own.alloc (.cells #[.int .i64 x.kind,.int .i64 x.n,.int .i64 x.g,.string ⟨x.s.toArray⟩,.slice p5 n5 e5,.slice p6 n6 e6] 31)) ⟨hb6.os,hb6.tape,hb6.output,hb6.size,fun k hk _=>hb6.block k hk⟩ (Classical.em _)
    obtain⟨vv,hvv⟩:∃y,css[k]?=some y:=⟨_,bGE (by rw[HC.out.1];exact hlt)⟩
    obtain⟨a0,a1,a2,a3,a4,a5,rfl⟩:∃a0 a1 a2 a3 a4 a5,vv=[a0,a1,a2,a3,a4,a5]:=by
     have:=HC.out.2.1 vv (bHG hvv);match vv,this with
     |[a0,a1,a2,a3,a4,a5],_=>exact⟨_,_,_,_,_,_,rfl⟩
    have mm:∀j,j<6->w6.cell? ⟨g,6*k+j,none⟩=[a0,a1,a2,a3,a4,a5][j]?:=fun j hj=>(own6.cellAt _ oM).trans (oG HC.out.2.1 hvv hj)
    have m0:w6.cell? ⟨g,k*6,none⟩=some a0:=by rw[bHL];exact mm 0 oM
    have m1:w6.cell? ⟨g,k*6+1,none⟩=some a1:=by rw[bHL];exact mm 1 oM
    have m2:w6.cell? ⟨g,k*6+2,none⟩=some a2:=by rw[bHL];exact mm 2 oM
    have m3:w6.cell? ⟨g,k*6+3,none⟩=some a3:=by rw[bHL];exact mm 3 oM
    have m4:w6.cell? ⟨g,k*6+4,none⟩=some a4:=by rw[bHL];exact mm 4 oM
    have m5:w6.cell? ⟨g,k*6+5,none⟩=some a5:=by rw[bHL];exact mm 5 oM
    have mf:=own6.frozenAt;have HVV:=Lh hvv;have HB6:=Lh ((hbr.alloc (by have:=hbr.size;omega) (.cells #[.int .i64 x.kind,.int .i64 x.n,.int .i64 x.g,.string ⟨x.s.toArray⟩,.slice p5 n5 e5,.slice p6 n6 e6] 31)).trans (hb6.mono sO));have HF6:=Lh (show∀b,g<b->b<wr.heap.size->w6.heap[b]?=wr.heap[b]? from fun b _ h2=>(hb6.block b sO).trans (bGM _ _ _ h2));have HO6:=Lh O6;clear mm hvv O6 hb6 f0 f1 f2 f3 f4 f5 own;go_upto_region 9 with fail
    obtain⟨w7,hw7⟩:=eX (((((((w6.setCell ⟨g,k*6,none⟩ (.int .i64 x.kind)).setCell ⟨g,k*6+1,none⟩ (.int .i64 x.n)).setCell ⟨g,k*6+2,none⟩ (.int .i64 x.g)).setCell ⟨g,k*6+3,none⟩ (.string ⟨x.s.toArray⟩)).setCell ⟨g,k*6+4,none⟩ (.slice p7 x.keys.length c7)).setCell ⟨g,k*6+5,none⟩ (.slice p8 x.kids.length c8)));have t5:=((((((own6.stored (k*6) (.int .i64 x.kind)).1.stored (k*6+1) (.int .i64 x.n)).1.stored (k*6+2) (.int .i64 x.g)).1.stored (k*6+3) (.string ⟨x.s.toArray⟩)).1.stored (k*6+4) (.slice p7 x.keys.length c7)).1.stored (k*6+5) (.slice p8 x.kids.length c8)).1;rw[aNR HC.out.2.1 (by rw[HC.out.1];exact hlt)] at t5;have sg7:=bA w6 g (k*6) (k*6+1) (k*6+2) (k*6+3) (k*6+4) (k*6+5) (.int .i64 x.kind) (.int .i64 x.n) (.int .i64 x.g) (.string ⟨x.s.toArray⟩) (.slice p7 x.keys.length c7) (.slice p8 x.kids.length c8);rw[hw7] at t5 sg7;first
    |rw[hw7]
    | (simp only [Nat.zero_mul, Nat.zero_add] at hw7
       rw[hw7])
    have HB7:=Lh (HB6.out.grown sg7 oM (fun k h=>q152));have HOA:=Lh (show∀j cs y,j<k+1->(css.set k [.int .i64 x.kind,.int .i64 x.n,.int .i64 x.g,.string ⟨x.s.toArray⟩,.slice p7 x.keys.length c7,.slice p8 x.kids.length c8])[j]?=some cs->o.kids[j]?=some y->aI (fun b=>g<b) d w7 cs y from fun j cs y hj h1 h2=>by
     by_cases hjk:j=k
     ·subst hjk;rw[List.getElem?_set_self (by rw[HC.out.1];exact hlt)] at h1;obtain rfl:=Option.some.inj h1;rw[HX.out] at h2;obtain rfl:=Option.some.inj h2;exact HO6.out.grow (fun b h1 h2=>by
       simp only[World.size_alloc] at h1;exact⟨oM,sg7.block b h2 sO⟩)
     ·rw[List.getElem?_set_ne oM] at h1;exact(HC.out.2.2 j cs y oM h1 h2).grow (fun b h1 h2=>⟨h1,(sg7.block b oM sO).trans (HF6.out b h1 h2)⟩))
    have HLE:=Lh (show(css.set k [.int .i64 x.kind,.int .i64 x.n,.int .i64 x.g,.string ⟨x.s.toArray⟩,.slice p7 x.keys.length c7,.slice p8 x.kids.length c8]).length=nk/\∀cs∈css.set k [.int .i64 x.kind,.int .i64 x.n,.int .i64 x.g,.string ⟨x.s.toArray⟩,.slice p7 x.keys.length c7,.slice p8 x.kids.length c8],cs.length=6 from
     ⟨by rw[List.length_set];exact HC.out.1,fun cs h=>by
      rcases List.mem_or_eq_of_mem_set h with h|rfl
      ·exact HC.out.2.1 cs h
      ·rfl⟩)
    clear hw7 sg7 m0 m1 m2 m3 m4 m5 mf own6 HB6 HF6 HO6 HVV;go_wp2;go_roundw
    case rel=>exact⟨k+1,_,oM,q12,HB7.out,t5,Lh ⟨HLE.out.1,HLE.out.2,HOA.out⟩⟩
    case measure=>exact q339
   ·obtain rfl:k=nk:=oM;have G0:=(hbr.block _ oM).trans F0;have G1:=(hbr.block _ oM).trans F1;have HK6:=Lh (HK5.out.kept (w':=wr) (fun b h=>hbr.block b q154));clear b0 b1 b2 b3 b4 b5 bf F0 F1 hbr;obtain⟨b0,b1,b2,b3,b4,b5,bf⟩:=aD G0;obtain⟨r0,r1,r2,r3,r4,r5,rf⟩:=aD G1;go_upto_region 11 with fail
    obtain⟨w8,hw8⟩:=eX (wr.setCell ⟨w.heap.size,5,none⟩ (.slice (some ⟨g,0,none⟩) k k));rw[hw8];have sg8:=eF (a:=wr) (w:=wr) (b:=w.heap.size) ⟨rfl,rfl,rfl,bGB _,fun _ _ _=>rfl⟩ 5 (.slice (some ⟨g,0,none⟩) k k);have H0:=sA (v:=.slice (some ⟨g,0,none⟩) k k) G0;rw[hw8] at sg8 H0;have H1:=(sg8.block _ (bGJ G1) sI).trans G1;have hbw8:Below w.heap.size w w8:=hbwr.grown sg8 hbwr.size (fun k h=>q152);clear hw8 b0 b1 b2 b3 b4 b5 bf r0 r1 r2 r3 r4 r5 rf G0 G1;obtain⟨b0,b1,b2,b3,b4,b5,bf⟩:=aD H0;obtain⟨r0,r1,r2,r3,r4,r5,rf⟩:=aD H1;go_wp2;obtain⟨w9,hw9⟩:=eX (((((((w8.setCell ⟨w.heap.size+1,0,none⟩ (.int .i64 K)).setCell ⟨w.heap.size+1,1,none⟩ (.int .i64 N)).setCell ⟨w.heap.size+1,2,none⟩ (.int .i64 G)).setCell ⟨w.heap.size+1,3,none⟩ (.string ss)).setCell ⟨w.heap.size+1,4,none⟩ (.slice p3 n2 c3)).setCell ⟨w.heap.size+1,5,none⟩ (.slice (some ⟨g,0,none⟩) k k)));rw[hw9];have sg9:=bA w8 (w.heap.size+1) 0 1 2 3 4 5 (.int .i64 K) (.int .i64 N) (.int .i64 G) (.string ss) (.slice p3 n2 c3) (.slice (some ⟨g,0,none⟩) k k);have Z1:=cL (v0:=.int .i64 K) (v1:=.int .i64 N) (v2:=.int .i64 G) (v3:=.string ss) (v4:=.slice p3 n2 c3) (v5:=.slice (some ⟨g,0,none⟩) k k) H1;rw[hw9] at sg9 Z1;have hbw9:Below w.heap.size w w9:=hbw8.grown sg9 hbw8.size (fun k h=>q153);clear hw9;obtain⟨s0,s1,s2,s3,s4,s5,sf⟩:=aD Z1
    refine bGN (v:=.agg #[.int .i64 K,.int .i64 N,.int .i64 G,.string ss,.slice p3 n2 c3,.slice (some ⟨g,0,none⟩) k k]) (by simp[results,results72,go_sem,s0,s1,s2,s3,s4,s5]) rfl ?_;have HK9:=HK6.out.kept (w':=w9) (fun b h=>(sg9.block b (by have:=h.2;have:=sg8.size;omega) (by have:=h.1;simp;omega)).trans (sg8.block b q154 (by have:=h.1;simp;omega)));have own9:=World.ownsRow.kept (World.ownsRow.kept own sg8 (.inr (by simp[Value.ownBlock];omega))) sg9 (.inr (by simp[Value.ownBlock];omega));have hsz8:=sg8.size;have HKA:bJ (fun b=>g<b) d w9 css o.kids:=⟨by rw[HC.out.1,HN.out.1],fun i cs y h1 h2=>⟨HC.out.2.1 cs (bHG h1),(HC.out.2.2 i cs y (by have:=(List.getElem?_eq_some_iff.1 h1).1;rw[HC.out.1] at this;exact this) h1 h2).grow (fun b h1 h2 =>
     ⟨h1,(sg9.block b oM sO).trans (sg8.block b h2 sO)⟩)⟩⟩
    have HKR:=uM (S':=fun b=>w.heap.size<=b) (acc:=o.kids) (by rw[HN.out.1];exact own9) HKA (fun b h=>oM) (fun b h=>h);refine⟨p3,c3,some ⟨g,0,none⟩,k,rfl,⟨.slice p3 n2 c3,.slice (some ⟨g,0,none⟩) k k,?_,HK9.weaken (fun b h _=>q155),HKR⟩,hbw9⟩;rw[<-HE.out.1,<-HE.out.2.1,<-HE.out.2.2.1]
theorem aES(S:Nat->Prop):∀d,aWK S d
 |0=>fun _ _ _ h=>h.elim
 |d+1=>aIP S d (aES S d)
theorem oP(S:Nat->Prop)(d:Nat)(w:World)(cs:List Value)(o:Ob)(h:aI S d w cs o)(ht:cN d o)(hS:∀b,S b->b<w.heap.size) :
 Calls prog 40 #[.agg cs.toArray] w (vY d w o):=by
 have HC:=Lh (fun(W:World) (hW:Below w.heap.size w W)=>aES S d W cs o (h.kept (fun b h=>hW.block b (hS b h)) d) ht (fun b h=>bGA (hS b h) hW.size));obtain⟨p1,n1,c1,p2,n2,c2,rfl⟩:=h.shape;unfold aB at HC;unfold aB;clear h ht hS;go_enter func40,ntmps40
 go_upto_region 1 with fail
 obtain⟨w0,hw0⟩:=eX (((w.alloc (.cells #[.int .i64 o.kind,.int .i64 o.n,.int .i64 o.g,.string ⟨o.s.toArray⟩,.slice p1 n1 c1,.slice p2 n2 c2] 31)).alloc (.cells #[.int .i64 0,.int .i64 0,.int .i64 0,.string ⟨#[]⟩,.slice none 0 0,.slice none 0 0] 31)));rw[hw0];have A0:w0.heap[w.heap.size]?=some (.cells #[.int .i64 o.kind,.int .i64 o.n,.int .i64 o.g,.string ⟨o.s.toArray⟩,.slice p1 n1 c1,.slice p2 n2 c2] 31 (0,0)):=by
  exact q359
 have A1:w0.heap[w.heap.size+1]?=some (.cells #[.int .i64 0,.int .i64 0,.int .i64 0,.string ⟨#[]⟩,.slice none 0 0,.slice none 0 0] 31 (0,0)):=by
  exact q413
 have hbw:Below w.heap.size w w0:=q150;have hz0:w.heap.size+2<=w0.heap.size:=q151;clear hw0;obtain⟨b0,b1,b2,b3,b4,b5,bf⟩:=aD A0;go_wp2_with fail;refine(HC.out _ hbw).mono ?_;rintro e w1 ⟨q1,e1,q2,e2,rfl,O1,hb1⟩;have B1:=(hb1.block _ oM).trans A1;have hbw1:=hbw.trans (hb1.mono hbw.size);have hz1:=hb1.size;clear b0 b1 b2 b3 b4 b5 bf A0 A1 hbw hb1;obtain⟨b0,b1,b2,b3,b4,b5,bf⟩:=aD B1;have HO:=Lh O1;clear O1;go_wp2;obtain⟨w9,hw9⟩:=eX (((((((w1.setCell ⟨w.heap.size+1,0,none⟩ (.int .i64 o.kind)).setCell ⟨w.heap.size+1,1,none⟩ (.int .i64 o.n)).setCell ⟨w.heap.size+1,2,none⟩ (.int .i64 o.g)).setCell ⟨w.heap.size+1,3,none⟩ (.string ⟨o.s.toArray⟩)).setCell ⟨w.heap.size+1,4,none⟩ (.slice q1 o.keys.length e1)).setCell ⟨w.heap.size+1,5,none⟩ (.slice q2 o.kids.length e2)));rw[hw9];have sg9:=bA w1 (w.heap.size+1) 0 1 2 3 4 5 (.int .i64 o.kind) (.int .i64 o.n) (.int .i64 o.g) (.string ⟨o.s.toArray⟩) (.slice q1 o.keys.length e1) (.slice q2 o.kids.length e2);have Z1:=cL (v0:=.int .i64 o.kind) (v1:=.int .i64 o.n) (v2:=.int .i64 o.g) (v3:=.string ⟨o.s.toArray⟩) (v4:=.slice q1 o.keys.length e1) (v5:=.slice q2 o.kids.length e2) B1;rw[hw9] at sg9 Z1;have hbw9:Below w.heap.size w w9:=hbw1.grown sg9 hbw1.size (fun k h=>q153);clear hw9 b0 b1 b2 b3 b4 b5 bf;obtain⟨s0,s1,s2,s3,s4,s5,sf⟩:=aD Z1
 refine bGN (v:=.agg #[.int .i64 o.kind,.int .i64 o.n,.int .i64 o.g,.string ⟨o.s.toArray⟩,.slice q1 o.keys.length e1,.slice q2 o.kids.length e2]) (by simp[results,results40,go_sem,s0,s1,s2,s3,s4,s5]) rfl ?_;exact q507
theorem aWL(k:L):∀(ks:List L) (i:Nat),Lib.idxFromS (ks.map fun x=>(⟨x.toArray⟩:ByteArray)) ⟨k.toArray⟩ i=match nD ks k with|none=>-1|some j=>((i+j:Nat):Int)
 |[],i=>by simp[Lib.idxFromS,nD]
 |x::ks,i=>by
  have ih:=aWL k ks (i+1);have e:((⟨x.toArray⟩:ByteArray)=⟨k.toArray⟩)↔x=k:=by
   constructor
   ·intro h;have:=congrArg (fun b:ByteArray=>b.data.toList) h;simpa using this
   ·rintro rfl;rfl
  by_cases h:x=k
  ·subst h;simp[Lib.idxFromS,nD]
  ·have hb:¬((⟨x.toArray⟩:ByteArray)=⟨k.toArray⟩):=fun h'=>h (e.1 h')
   rw[List.map_cons,Lib.idxFromS,nD,bGU h];first|rw[bGU hb]|rw[bGU (by simpa using hb)]
   rw[ih];cases nD ks k with
   |none=>rfl
   |some j=>show((i+1+j:Nat):Int)=((i+(j+1):Nat):Int);congr 1;omega
def bBH(r:Option Nat):Int:=match r with|none=>-1|some j=>(j:Int)
theorem aIQ(S:Nat->Prop)(kv:Value)(ks:List L)(key:L)(w:World)(h:cU S w kv ks)(hn:ks.length<=8192) :
 Calls prog 81 #[kv,.string ⟨key.toArray⟩] w fun e w'=>e=.returned (.int .i64 (bBH (nD ks key)))/\w'=w:=by
 rcases h with⟨rfl,p,c,rfl⟩|⟨b,o,c,rfl,hb,hc⟩
 ·exact Tryz.slices_Index_string_empty p c ⟨key.toArray⟩ w
 ·refine(Tryz.slices_Index_string b o ks.length c (ks.map fun x=>(⟨x.toArray⟩:ByteArray)) ⟨key.toArray⟩ w sI oM (fun j hj=>by
   have hj2:j<ks.length:=q14;rw[hc j hj2];simp[List.getD,hj2])).mono ?_
  rintro e w' ⟨rfl,rfl⟩;refine⟨?_,rfl⟩;rw[bHC sI];have:=aWL key ks 0;unfold Lib.idxOfS;rw[this];unfold bBH;cases nD ks key with
  |none=>rfl
  |some j=>simp
def eY(d:Nat)(w:World)(r:Option Ob)(e:Ending)(w':World):Prop :=
 match r with
 |none=>e=.returned (.tuple #[.agg #[.int .i64 0,.int .i64 0,.int .i64 0,.string ⟨#[]⟩,.slice none 0 0,.slice none 0 0],.bool false])/\Below w.heap.size w w'
 |some x=>∃p1 c1 p2 c2,e=.returned (.tuple #[.agg #[.int .i64 x.kind,.int .i64 x.n,.int .i64 x.g,.string ⟨x.s.toArray⟩,.slice p1 x.keys.length c1,.slice p2 x.kids.length c2],.bool true]) /\
  aI (fun b=>w.heap.size<=b) d w' (aB x.kind x.n x.g x.s (.slice p1 x.keys.length c1) (.slice p2 x.kids.length c2)) x/\Below w.heap.size w w'
theorem qS(S:Nat->Prop)(d:Nat)(w:World)(cs:List Value)(o:Ob)(key:L)(h:aI S (d+1) w cs o)(ht:cN (d+1) o)(hS:∀b,S b->b<w.heap.size) :
 Calls prog 46 #[.agg cs.toArray,.string ⟨key.toArray⟩] w (eY d w (fE o key)):=by
 obtain⟨kv,dv,rfl,hK,hR0⟩:=h;have hR:cF S d w dv o.kids:=hR0;clear hR0;obtain⟨t1,t2,t3⟩:=ht;have a1:∃p c,kv=.slice p o.keys.length c:=by
  exact q396
 have a2:∃p c,dv=.slice p o.kids.length c:=by
  exact q397
 obtain⟨p1,c1,rfl⟩:=a1;obtain⟨p2,c2,rfl⟩:=a2;have HKD:=Lh (fun W=>aER o p1 p2 o.keys.length c1 o.kids.length c2 W);have HIX:=Lh (fun W (hW:Below w.heap.size w W)=>aIQ S _ o.keys key W (hK.kept (fun b h=>hW.block b (hS b h))) t1);have HRW:=Lh (bGQ hR (bGQ t3 hS));obtain⟨R,hRR⟩:=eX (fE o key);rw[hRR];have HG:=Lh (show(if jI o then(match nD o.keys key with|none=>none|some i=>o.kids[i]?) else none)=R from hRR);have HT1:=Lh t1;have HDB:=Lh (show jI o=(o.kind==7||o.kind==9) from rfl);rw[<-HDB.out] at HKD;unfold aB;obtain⟨nk,hnk⟩:=eX (o.kids.length);obtain⟨n2,hn2⟩:=eX (o.keys.length);obtain⟨ss,hs0⟩:∃ss:ByteArray,(⟨o.s.toArray⟩:ByteArray)=ss:=⟨_,rfl⟩
 obtain⟨ke,hke⟩:∃ke:ByteArray,(⟨key.toArray⟩:ByteArray)=ke:=⟨_,rfl⟩
 rw[hnk,hn2,hs0] at HKD ⊢;rw[hn2,hke] at HIX;rw[hnk] at HRW t2;rw[hke];have HN:=Lh hnk;clear hK hR hS t1 t3 hnk hn2 hs0 hke hRR;obtain⟨K,hk0⟩:=eX (o.kind);obtain⟨N,hN0⟩:=eX (o.n);obtain⟨G,hG0⟩:=eX (o.g);rw[hk0,hN0,hG0] at HKD ⊢;clear hk0 hN0 hG0;go_enter func46,ntmps46
 go_upto_region 1 with fail
 obtain⟨w0,hw0⟩:=eX (((w.alloc (.cells #[.int .i64 K,.int .i64 N,.int .i64 G,.string ss,.slice p1 n2 c1,.slice p2 nk c2] 31)).alloc (.cells #[.int .i64 0,.int .i64 0,.int .i64 0,.string ⟨#[]⟩,.slice none 0 0,.slice none 0 0] 31)));rw[hw0];have A0:w0.heap[w.heap.size]?=some (.cells #[.int .i64 K,.int .i64 N,.int .i64 G,.string ss,.slice p1 n2 c1,.slice p2 nk c2] 31 (0,0)):=by
  exact q359
 have A1:w0.heap[w.heap.size+1]?=some (.cells #[.int .i64 0,.int .i64 0,.int .i64 0,.string ⟨#[]⟩,.slice none 0 0,.slice none 0 0] 31 (0,0)):=by
  exact q413
 have hbw:Below w.heap.size w w0:=q150;have hz0:w.heap.size+2<=w0.heap.size:=q151;clear hw0;obtain⟨b0,b1,b2,b3,b4,b5,bf⟩:=aD A0;go_wp2_with fail;refine(HKD.out _).mono ?_;rintro e w1 ⟨rfl,hb1⟩;have B0:=(hb1.block _ oM).trans A0;have B1:=(hb1.block _ oM).trans A1;have hbw1:=hbw.trans (hb1.mono hbw.size);have hz1:=hb1.size;clear b0 b1 b2 b3 b4 b5 bf A0 A1 hbw hb1 HKD;obtain⟨b0,b1,b2,b3,b4,b5,bf⟩:=aD B0;obtain⟨r0,r1,r2,r3,r4,r5,rf⟩:=aD B1;have hG:=HG.out;cases hdb:jI o
 ·obtain rfl:none=R:=by rw[<-hG,hdb];rfl
  clear hG hdb HG HIX HRW;unfold eY;exact q299
 ·rw[hdb,bGV rfl] at hG;cases hix:nD o.keys key with
  |none =>
   rw[hix] at hG HIX;obtain rfl:none=R:=hG;unfold bBH at HIX;clear hdb HG HRW hix;exact q580
  |some i =>
   rw[hix] at hG HIX;have hli:i<8193:=by
    have h1:=(sD hix).1;have h2:=HT1.out;omega
   unfold bBH at HIX;have d0:decide ((i:Int)<0)=false:=sI;clear hdb HG hix;by_cases hin:i<nk
   ·have d1:decide (nk<=i)=false:=sO;have hRw:cF S d w1 (.slice p2 nk c2) o.kids:=HRW.out.1.kept (fun b h=>hbw1.block b (HRW.out.2.2 b h));obtain⟨b,off,rfl⟩:∃b off,p2=some ⟨b,off,none⟩:=by
     rcases hRw with⟨e,_⟩|⟨b,off,c,e,_⟩
     ·have:=HN.out;rw[e] at this;simp at this;omega
     ·exact q543
    obtain⟨x,p5,n5,e5,p6,n6,e6,hx,hxm,s1,O1,f0,f1,f2,f3,f4,f5⟩:=eN hRw HN.out i hin;have hS2:∀b,S b->b<w1.heap.size:=fun b h=>bGA (HRW.out.2.2 b h) hbw1.size
    have HCL:=Lh (oP S d w1 _ x O1 (HRW.out.2.1 x hxm) hS2);obtain rfl:some x=R:=by
     rw[<-hG];have hk':i<o.kids.length:=by rw[HN.out];exact hin
     rw[bGX,bGE hk'] at hx;show some x=o.kids[i]?
     rw[bGE hk'];exact congrArg some hx.symm
    unfold aB at HCL;unfold eY;clear hRw hx hxm O1 hS2 hG HRW B0 r0 r1 r2 r3 r4 r5 rf;go_wp2_with((go_at_call 81;refine(HIX.out _ hbw1).mono ?_);rintro e w2 ⟨rfl,h2⟩;obtain rfl:=h2.symm)
    refine HCL.out.mono ?_;rintro e w3 ⟨q1,e1,q2,e2,rfl,O3,hb3⟩;have C1:=(hb3.block _ oM).trans B1;have hbw3:=hbw1.trans (hb3.mono hbw1.size);have HO:=Lh O3;have hz3:=hb3.size;clear O3 hb3 B1 b0 b1 b2 b3 b4 b5 bf f0 f1 f2 f3 f4 f5;obtain⟨r0,r1,r2,r3,r4,r5,rf⟩:=aD C1;go_wp2;obtain⟨w9,hw9⟩:=eX (((((((w3.setCell ⟨w.heap.size+1,0,none⟩ (.int .i64 x.kind)).setCell ⟨w.heap.size+1,1,none⟩ (.int .i64 x.n)).setCell ⟨w.heap.size+1,2,none⟩ (.int .i64 x.g)).setCell ⟨w.heap.size+1,3,none⟩ (.string ⟨x.s.toArray⟩)).setCell ⟨w.heap.size+1,4,none⟩ (.slice q1 x.keys.length e1)).setCell ⟨w.heap.size+1,5,none⟩ (.slice q2 x.kids.length e2)));rw[hw9];have sg9:=bA w3 (w.heap.size+1) 0 1 2 3 4 5 (.int .i64 x.kind) (.int .i64 x.n) (.int .i64 x.g) (.string ⟨x.s.toArray⟩) (.slice q1 x.keys.length e1) (.slice q2 x.kids.length e2);have Z1:=cL (v0:=.int .i64 x.kind) (v1:=.int .i64 x.n) (v2:=.int .i64 x.g) (v3:=.string ⟨x.s.toArray⟩) (v4:=.slice q1 x.keys.length e1) (v5:=.slice q2 x.kids.length e2) C1;rw[hw9] at sg9 Z1;have hbw9:Below w.heap.size w w9:=hbw3.grown sg9 hbw3.size (fun k h=>q153);clear hw9 r0 r1 r2 r3 r4 r5 rf;obtain⟨s0,s1,s2,s3,s4,s5,sf⟩:=aD Z1;refine bGN (v:=.tuple #[.agg #[.int .i64 x.kind,.int .i64 x.n,.int .i64 x.g,.string ⟨x.s.toArray⟩,.slice q1 x.keys.length e1,.slice q2 x.kids.length e2],.bool true]) q156 rfl ?_;exact q507
   ·have d1:decide (nk<=i)=true:=sO;obtain rfl:none=R:=by
     rw[<-hG];show none=o.kids[i]?
     rw[bGZ q157]
    clear hG HRW;exact q580
theorem oQ{S:Nat->Prop}{w:World}:∀(d n:Nat) (cs:List Value) (o:Ob),aI S d w cs o->aT n o=0->cN d o
 |0,_,_,_,h,_=>h.elim
 |d+1,n,cs,o,h,hc=>by
  obtain⟨kv,dv,_,_,h3⟩:=h;cases n with
  |zero=>unfold aT at hc;cases hc
  |succ n =>
   have hk:=(dJ n o).1 hc;refine⟨?_,bGC hk.many dC,fun x hx=>?_⟩
   ·have hu:=hk.uses;by_cases h79:o.kind=7\/o.kind=9
    ·have:=((lQ o h79).1 hk.keys).len;have:=hk.many;omega
    ·have he:o.keys=[] := by
      rw[<-vW] at hu;unfold aEP at hu;obtain⟨⟨un,ug,us,uk,ud,ok⟩,hT⟩:∃u,mZ o.kind=u:=⟨_,rfl⟩
      have huk:=yS hT;rw[hT] at hu;rw[bGH h79] at huk;subst huk;simp at hu;simp_all
     rw[he];decide
   ·rcases h3 with⟨e,_⟩|⟨b,off,c,_,_,h6⟩
    ·rw[e] at hx;cases hx
    ·obtain⟨i,hi,rfl⟩:=List.mem_iff_getElem.1 hx;obtain⟨ks,_,_,g3⟩:=h6 i hi;exact oQ d n ks _ g3 (hk.kids _ (bGG hi))
end Go.Proofs.YtdjpkgccakgkbaaGreatDoor
