/- Parts of the proof: TnC. -/
import Derived.Test.YtdjpkgccakgkbaaGreatDoorPeaa
set_option linter.all false
set_option maxRecDepth 100000
set_option maxHeartbeats 8000000
section
variable{p:Prop}
theorem q273(h:p:=by
 rintro e w7 ⟨rfl,hb⟩;have HB7:=Lh (iW HBD.out hb HBD.out.size);have HX:=Lh ((HB7.out.block w.heap.size oM).trans hX6);have HE:=Lh ((HB7.out.block (w.heap.size+1) oM).trans hE6);have HBe:=Lh (hbw6.trans (Bes.of_below HB7.out));dsimp only[aWZ];rintro⟨tm,df⟩ hd hk2 hk3
 (dsimp only at hd hk2 hk3)
 subst hd;refine bGW (f:=48) (args:=#[.pointer (some ⟨w.heap.size+1,0,none⟩)]) sI q39 ?_;refine(nY (w.heap.size+1) _ _ _ HE.out).mono ?_;rintro e u' w'' ⟨rfl,rfl,hE',hbf⟩;obtain⟨x0,x1,x2,x3,x4,x5,x6,x7,x8,x9,x10,xf⟩:=aJ ((hbf.block w.heap.size (bGJ HX.out) oM).trans HX.out);have y0:w''.cell? ⟨w.heap.size+1,0,none⟩=some (.int .i64 19):=q177;simp[Leaves,settle,results,results24,go_sem,x0,x1,x2,x3,x4,x5,x6,x7,x8,x9,x10,xf,y0,hk2,hk3];exact⟨⟨(hbf.os).trans HBe.out.os,(hbf.tape).trans HBe.out.tape,hbf.output.trans HBe.out.output,bGC HBe.out.size hbf.size,fun k h1 h2=>(hbf.block k (bGA h1 HBe.out.size) oM).trans (HBe.out.block k h1 h2)⟩,.inr ⟨⟨a,sp,sn,sc,0,0,0,⟨#[]⟩,none,0,0,none,0,0,0,0,0⟩,rfl⟩⟩):p:=h
theorem q276(h:p:=by exact⟨⟨(hbf.os).trans HBe.out.os,(hbf.tape).trans HBe.out.tape,hbf.output.trans HBe.out.output,bGC HBe.out.size hbf.size,fun k h1 h2=>(hbf.block k (bGA h1 HBe.out.size) oM).trans (HBe.out.block k h1 h2)⟩,.inr ⟨⟨a,sp,sn,sc,0,0,0,⟨#[]⟩,none,0,0,none,0,0,0,0,0⟩,rfl⟩⟩):p:=h
theorem q286(h:p:=by
 refine bGW (f:=48) (args:=#[.pointer (some ⟨w.heap.size+1,0,none⟩)]) sI q39 ?_;refine(nY (w.heap.size+1) _ _ _ HE.out).mono ?_;rintro e u' w'' ⟨rfl,rfl,hE',hbf⟩;obtain⟨x0,x1,x2,x3,x4,x5,x6,x7,x8,x9,x10,xf⟩:=aJ ((hbf.block w.heap.size (bGJ HX.out) oM).trans HX.out);have y0:w''.cell? ⟨w.heap.size+1,0,none⟩=some (.int .i64 19):=q177;simp[Leaves,settle,results,results24,go_sem,x0,x1,x2,x3,x4,x5,x6,x7,x8,x9,x10,xf,y0];exact⟨⟨(hbf.os).trans HBe.out.os,(hbf.tape).trans HBe.out.tape,hbf.output.trans HBe.out.output,bGC HBe.out.size hbf.size,fun k h1 h2=>(hbf.block k (bGA h1 HBe.out.size) oM).trans (HBe.out.block k h1 h2)⟩,.inr ⟨⟨a,none,0,0,0,0,0,⟨#[]⟩,none,0,0,none,0,0,0,0,0⟩,rfl⟩⟩):p:=h
theorem q363(h:p:=by
 simp only[List.mem_toArray,List.mem_cons,List.not_mem_nil,or_false] at ho;intro a w d w';rcases ho with rfl|rfl|rfl|rfl|rfl|rfl|rfl|rfl|rfl|rfl|rfl
 all_goals first
  |exact aBM rfl _ _ _ _
  |exact xT rfl _ _ _ _
  |exact xU rfl _ _ _ _
  |exact aBN rfl HEN _ _ _ _):p:=h
theorem q368(h:p:=by
 go_enter func53,ntmps53
 go_wp2_with fail;refine(HG.out _ bel).mono ?_;rintro e w1 ⟨q1,e1,q2,e2,rfl,_,hb1⟩;have hz1:=hb1.size;simp at hz1;go_wp2_with(go_at_call 49;(with_reducible refine(dL _).mono ?_);rintro e w9 ⟨rfl,h9⟩;obtain rfl:=h9.symm)
 exact⟨rfl,rfl,bel⟩):p:=h
theorem q563(h:p:=by
 refine bHF rfl (fun K hK=>?_) ?_
 ·(go_simp;go_at_call 53;(with_reducible refine(HG1.out _ HBD.out).mono ?_);rintro e w7 ⟨rfl,hb⟩;replace HBD:Hid (Below w6.heap.size w6 w7):=Lh (iW HBD.out hb HBD.out.size);clear hb d0 d1 d2 d3 d4 d5 df;(obtain⟨d0,d1,d2,d3,d4,d5,df⟩:=aD ((HBD.out.block g oM).trans hG6));rw[hkK] at d0;refine hK _ _ ?_;clear hK K)
  refine wpAny_ready (rs:=[4]) kR sI ?_;refine bHF rfl (fun K hK=>?_) ?_
  ·skip
   go_simp;go_at_call 53
   (with_reducible refine(HN2.out _ HBD.out).mono ?_)
   exact q273
  exact AllReady.nil
 exact AllReady.nil):p:=h
theorem q566(h:p:=by
 refine bHF rfl (fun K hK=>?_) ?_
 ·skip
  go_simp;go_at_call 53
  (with_reducible refine(HN2.out _ HBD.out).mono ?_)
  exact q273
 exact AllReady.nil):p:=h
theorem q568(h:p:=by
 refine bHF rfl (fun K hK=>?_) ?_
 ·skip
  go_simp;go_at_call 53
  (with_reducible refine(HN1.out _ HBD.out).mono ?_)
  exact q273
 exact AllReady.nil):p:=h
theorem q569(h:p:=by
 skip
 go_simp;go_at_call 53
 (with_reducible refine(HN1.out _ HBD.out).mono ?_)
 exact q273):p:=h
theorem q571(h:p:=by
 go_wp2_with(go_at_call 49;(with_reducible refine(dL _).mono ?_);rintro e w9 ⟨rfl,h9⟩;obtain rfl:=h9.symm)
 go_wp2;refine bGW (f:=48) (args:=#[.pointer (some ⟨w.heap.size+1,0,none⟩)]) sI q39 ?_;refine(nY (w.heap.size+1) _ _ _ HE.out).mono ?_;rintro e u' w'' ⟨rfl,rfl,hE',hbf⟩;obtain⟨x0,x1,x2,x3,x4,x5,x6,x7,x8,x9,x10,xf⟩:=aJ ((hbf.block w.heap.size (bGJ HX.out) oM).trans HX.out);have y0:w''.cell? ⟨w.heap.size+1,0,none⟩=some (.int .i64 19):=q177;simp[Leaves,settle,results,results24,go_sem,x0,x1,x2,x3,x4,x5,x6,x7,x8,x9,x10,xf,y0];exact q276):p:=h
theorem q581(h:p:=by
 go_wp2_with(go_at_call 49;(with_reducible refine(dL _).mono ?_);rintro e w9 ⟨rfl,h9⟩;obtain rfl:=h9.symm)
 go_wp2;exact q286):p:=h
theorem q599(h:p:=by
 refine bHF rfl (fun K hK=>?_) ?_
 ·(go_simp;refine hK _ _ ?_;clear hK K)
  refine wpAny_ready (rs:=[0,2]) kR sI ?_;refine bHF rfl (fun K hK=>?_) ?_
  ·(go_simp;refine hK _ _ ?_;clear hK K)
   refine wpAny_take (i:=5) (v:=.pointer (some ⟨w.heap.size,2,none⟩)) rfl kR kR kR (fun _ _ _ h=>h) (Or.inl ⟨by rfl,fun w=>q178⟩) ?_;refine wpAny_ready (rs:=[2]) kR sI ?_;exact q563
  refine bHF rfl (fun K hK=>?_) ?_
  ·(go_simp;go_at_call 53;(with_reducible refine(HG1.out _ HBD.out).mono ?_);rintro e w7 ⟨rfl,hb⟩;replace HBD:Hid (Below w6.heap.size w6 w7):=Lh (iW HBD.out hb HBD.out.size);clear hb d0 d1 d2 d3 d4 d5 df;(obtain⟨d0,d1,d2,d3,d4,d5,df⟩:=aD ((HBD.out.block g oM).trans hG6));rw[hkK] at d0;refine hK _ _ ?_;clear hK K)
   refine wpAny_ready (rs:=[0,4]) kR sI ?_;refine bHF rfl (fun K hK=>?_) ?_
   ·(go_simp;refine hK _ _ ?_;clear hK K)
    refine wpAny_take (i:=5) (v:=.pointer (some ⟨w.heap.size,2,none⟩)) rfl kR kR kR (fun _ _ _ h=>h) (Or.inl ⟨by rfl,fun w=>q178⟩) ?_;refine wpAny_ready (rs:=[4]) kR sI ?_;exact q566
   exact q566
  exact AllReady.nil
 exact AllReady.nil):p:=h
theorem q600(h:p:=by
 refine bHF rfl (fun K hK=>?_) ?_
 ·(go_simp;go_at_call 53;(with_reducible refine(HG1.out _ HBD.out).mono ?_);rintro e w7 ⟨rfl,hb⟩;replace HBD:Hid (Below w6.heap.size w6 w7):=Lh (iW HBD.out hb HBD.out.size);clear hb d0 d1 d2 d3 d4 d5 df;(obtain⟨d0,d1,d2,d3,d4,d5,df⟩:=aD ((HBD.out.block g oM).trans hG6));rw[hkK] at d0;refine hK _ _ ?_;clear hK K)
  refine wpAny_ready (rs:=[3]) kR sI ?_;refine bHF rfl (fun K hK=>?_) ?_
  ·(go_simp;refine hK _ _ ?_;clear hK K)
   refine wpAny_ready (rs:=[4]) kR sI ?_;exact q566
  exact AllReady.nil
 refine bHF rfl (fun K hK=>?_) ?_
 ·(go_simp;refine hK _ _ ?_;clear hK K)
  refine wpAny_ready (rs:=[2]) kR sI ?_;exact q563
 exact AllReady.nil):p:=h
theorem q602(h:p:=by
 refine bHF rfl (fun K hK=>?_) ?_
 ·(go_simp;refine hK _ _ ?_;clear hK K)
  refine wpAny_ready (rs:=[2]) kR sI ?_;exact q563
 exact AllReady.nil):p:=h
theorem q603(h:p:=by
 refine bHF rfl (fun K hK=>?_) ?_
 ·(go_simp;refine hK _ _ ?_;clear hK K)
  refine wpAny_ready (rs:=[2]) kR sI ?_;exact q568
 exact AllReady.nil):p:=h
theorem q604(h:p:=by
 refine bHF rfl (fun K hK=>?_) ?_
 ·(go_simp;refine hK _ _ ?_;clear hK K)
  refine wpAny_ready (rs:=[0,2]) kR sI ?_;refine bHF rfl (fun K hK=>?_) ?_
  ·(go_simp;refine hK _ _ ?_;clear hK K)
   refine wpAny_take (i:=5) (v:=.pointer (some ⟨w.heap.size,2,none⟩)) rfl kR kR kR (fun _ _ _ h=>h) (Or.inl ⟨by rfl,fun w=>q178⟩) ?_;refine wpAny_ready (rs:=[2]) kR sI ?_;exact q568
  exact q568
 exact AllReady.nil):p:=h
theorem q606(h:p:=by
 refine bHF rfl (fun K hK=>?_) ?_
 ·exact q569
 exact q603):p:=h
end
namespace Go.Proofs.YtdjpkgccakgkbaaGreatDoor
open Go.Proofs.Tryz
open Go.RowKit Fo
theorem aJE:∀{n:Nat} {v:Ob},aT n v=0->v.kind=2→-2147483647<=v.n/\v.n<=2147483647
 |0,_,h,_=>by unfold aT at h;cases h
 |n+1,v,h,hk=>by
  have hf:=((dJ n v).1 h).fits;unfold gN at hf;rw[hk] at hf;simpa using hf
theorem zB{o:Ob}{key:L}{z:Int}(hc:aT 24 o=0)(h:gF o key=some z):-1<=z/\z<=2147483647:=by
 unfold gF at h;cases hg:fE o key with
 |none=>rw[hg] at h;cases h;omega
 |some v =>
  rw[hg] at h;dsimp only at h;split at h
  ·rename_i hv
   cases h;have hm:v∈o.kids:=by
    unfold fE at hg;split at hg
    ·split at hg
     ·cases hg
     ·exact bHG hg
    ·cases hg
   have:=aJE (((dJ 23 o).1 hc).kids v hm) hv.1;omega
  ·cases h
theorem wJ(S:Nat->Prop)(d:Nat)(w:World)(cs:List Value)(o:Ob)(key:L)(h:aI S (d+1) w cs o)(ht:cN (d+1) o)(hS:∀b,S b->b<w.heap.size)(hz:gF o key=none) :
 Calls prog 53 #[.agg cs.toArray,.string ⟨key.toArray⟩] w fun e w'=>e=.panicked [{ v:=.iface 145 (.agg #[]),recovered:=false }]/\Below w.heap.size w w':=by
 have HG:=Lh (fun(W:World) (hW:Below w.heap.size w W)=>qS S d W cs o key (h.kept (fun b h=>hW.block b (hS b h)) (d+1)) ht (fun b h=>bGA (hS b h) hW.size));obtain⟨p1,n1,c1,p2,n2,c2,rfl⟩:=h.shape;unfold aB at HG;unfold aB;clear h ht hS;unfold gF at hz;cases hg:fE o key with
 |none=>rw[hg] at hz;cases hz
 |some v =>
  rw[hg] at hz HG;dsimp only at hz;split at hz
  ·cases hz
  ·rename_i hc
   unfold eY at HG;have hd:(v.kind==2)=false\/((v.kind==2)=true/\decide (0<=v.n)=false):=by
    by_cases h2:v.kind=2
    ·exact .inr ⟨q97,bGH (fun h0=>hc ⟨h2,h0⟩)⟩
    ·exact .inl q97
   clear hc hz hg;rcases hd with hd|⟨hd,hd2⟩
   ·exact q368
   ·exact q368
theorem nY(b:Nat)(y:Int)(older:List PanicEntry)(w:World)(h:w.heap[b]?=some (.cells #[.int .i64 y] 24 (0,0))) :
 CallsD prog 48 #[.pointer (some ⟨b,0,none⟩)] (.panicking ({ v:=.iface 145 (.agg #[]),recovered:=false }::older)) w fun e u' w' =>
  e=.returned (.tuple #[])/\u'=.panicking ({ v:=.iface 145 (.agg #[]),recovered:=true }::older)/\w'.heap[b]?=some (.cells #[.int .i64 19] 24 (0,0))/\Bes b w w':=by
 have hta:∀(w:World),(Instr.typeAssert (.iface 145 (.agg #[])) 20 145 true).run prog w=.ok (.tuple #[.agg #[],.bool true]) w:=fun _=>kR
 have hlt:=bGJ h;have hne:¬b=w.heap.size:=oM;have a0:w.cell? ⟨b,0,none⟩=some (.int .i64 y):=by simp[World.cell?,h]
 have f0:w.frozen? ⟨b,0,none⟩=false:=by simp[World.frozen?,h]
 have H:=Lh h;clear h;refine callsD_of_wpS func48 rfl fun c₀ cs hu=>?_
 simp only[ntmps48,List.size_toArray,bHA,List.length_nil,Nat.reduceAdd,Nat.reduceSub,Array.replicate_succ,Array.replicate_zero,List.push_toArray,List.append_toArray,List.nil_append,List.cons_append];apply wpS_seq
 apply wpS_region
 simp[wpOpsS,go_sem,recoverD,hu,ntmps48,Exit.thenS];refine wpS_of_wp ?_;go_wp2;have HF:((w.setCell ⟨b,0,none⟩ (.int .i64 19)).alloc (.cells #[] 145)).heap[b]?=some (.cells #[.int .i64 19] 24 (0,0))/\Bes b w ((w.setCell ⟨b,0,none⟩ (.int .i64 19)).alloc (.cells #[] 145)):=by
  exact q461
 obtain⟨wf,hwf⟩:=eX (((w.setCell ⟨b,0,none⟩ (.int .i64 19)).alloc (.cells #[] 145)));rw[hwf] at HF;rw[hwf];clear hwf a0 f0 hne hlt H hta;exact q559
def TSc(w:World)(r:Nat)(s:ByteArray)(a:Nat)(e:Ending)(w':World):Prop :=
 Bes r w w'/\((∃(x:bN) (b:Nat),e=.returned (.tuple #[.agg (aO.cells x).toArray,.int .i64 0])/\x.at'=a∧-1<=x.prev/\x.prev<=2147483647∧-1<=x.hyb/\x.hyb<=2147483647/\x.own=0/\b<=s.size/\RdT w' r s b) \/
  (∃x:bN,e=.returned (.tuple #[.agg (aO.cells x).toArray,.int .i64 19])))
theorem aBO(r:Nat)(s:ByteArray)(a:Nat)(hpre:Lib.hasPrefix (s.data.toList.drop a) [120,114,101,102]=true)
 (ha:a<=s.size) (hs:s.size<=100000000) (m:Int) (w:World) (hm:aF w m) (hr:RdT w r s a) (hrm:r≠1) :
 Calls prog 24 #[.pointer (some ⟨r,0,none⟩)] w (TSc w r s a):=by
 have hlt:=hr.lt;have HB:=Lh (fun W=>dQ s ⟨#[120,114,101,102]⟩ a true hpre ha (show s.size<=maxLen from q26) W);clear hpre;go_enter_defers func24,ntmps24
 have r1:=hr.cell1;have r0:=hr.cell0;have ner:¬r=w.heap.size:=oM;have ner2:¬r=w.heap.size+1:=oM;go_upto_region 3 with fail
 obtain⟨w1,hw1⟩:=eX ((w.alloc (.cells #[.int .i64 a,.slice none 0 0,.int .i64 0,.int .i64 0,.int .i64 0,.string ⟨#[]⟩,.slice none 0 0,.slice none 0 0,.int .i64 0,.int .i64 0,.int .i64 0] 33)).alloc (.cells #[.int .i64 0] 24));have hX1:w1.heap[w.heap.size]?=some (.cells #[.int .i64 a,.slice none 0 0,.int .i64 0,.int .i64 0,.int .i64 0,.string ⟨#[]⟩,.slice none 0 0,.slice none 0 0,.int .i64 0,.int .i64 0,.int .i64 0] 33 (0,0)):=by
  exact q526
 have hE1:w1.heap[w.heap.size+1]?=some (.cells #[.int .i64 0] 24 (0,0)):=by
  rw[<-hw1];exact aA _ _ _ sI
 have hbw1:Below w.heap.size w w1:=q33;have hz1:w1.heap.size=w.heap.size+2:=by rw[<-hw1];simp
 rw[hw1];have hr1:=hr.below hbw1;have hm1:=hm.below hbw1;have k1:=hr1.cell1;have k0:=hr1.cell0;clear hw1 r1 r0 ner ner2;go_wp2_with fail;go_quiet (first|(go_at_call 11;exact bHD (HB.out _))|(go_at_call 49;exact bHD (bD _)))
 obtain⟨v1,hv1⟩:=eX (w1.drewN nq);have hr1':RdT v1 r s a:=by rw[<-hv1];exact hr1
 have hm1':aF v1 m:=by rw[<-hv1];exact hm1
 have hX1':v1.heap[w.heap.size]?=some (.cells #[.int .i64 a,.slice none 0 0,.int .i64 0,.int .i64 0,.int .i64 0,.string ⟨#[]⟩,.slice none 0 0,.slice none 0 0,.int .i64 0,.int .i64 0,.int .i64 0] 33 (0,0)):=by rw[<-hv1];exact hX1
 have hE1':v1.heap[w.heap.size+1]?=some (.cells #[.int .i64 0] 24 (0,0)):=by rw[<-hv1];exact hE1
 have hbv1:Below w.heap.size w v1:=by rw[<-hv1];exact aN hbw1 nq
 have hzv1:v1.heap.size=w.heap.size+2:=by rw[<-hv1];exact hz1
 rw[hv1];clear hv1 hX1 hE1 hbw1 hm1 hr1 k0 k1 hz1 HB;go_wp2_with fail;refine(jB r s a ha oM m _ hm1' hr1').mono ?_;rintro e v2 ⟨hs2',⟨tk,tl,tn,tx,tp,hT,rfl,hr2'⟩|rfl⟩;rotate_left
 ·have HX:=Lh ((hs2'.block w.heap.size oM oM).trans hX1');have HE:=Lh ((hs2'.block (w.heap.size+1) oM oM).trans hE1');have HBe:=Lh ((Bes.of_below (r:=r) hbv1).trans hs2');go_wp2;exact q286
 have hp1:=hT.2.2;have hap:a<=tp:=by have:=hT.2.1;omega
 dsimp only at hp1;go_upto_region 5 with fail
 obtain⟨w2,hw2⟩:=eX (v2.alloc (.cells #[.int .i64 tk,.int .i64 tp,.int .i64 ((tp:Int)+tl),.int .i64 tn,.string ⟨tx.toArray⟩] 81));obtain⟨tb,htb⟩:=eX (v2.heap.size);have hb22:Below v2.heap.size v2 w2:=q171;have hT2:w2.heap[tb]?=some (.cells #[.int .i64 tk,.int .i64 tp,.int .i64 ((tp:Int)+tl),.int .i64 tn,.string ⟨tx.toArray⟩] 81 (0,0)):=by rw[<-hw2];exact aA _ _ _ htb.symm
 have hz22:w2.heap.size=tb+1:=by rw[<-hw2,<-htb];simp
 have hzz2:=hs2'.size;rw[htb] at hzz2;rw[hw2];simp only[htb];have hr2:=hr2'.below hb22;replace hs2':=hs2'.trans (Bes.of_below (r:=r) hb22);clear hw2 htb hb22 hr2';obtain⟨T0,T1,T2,T3,T4,Tf⟩:=eM hT2;have hz2:=hs2'.size;have hX2:=(hs2'.block w.heap.size oM oM).trans hX1';have hE2:=(hs2'.block (w.heap.size+1) oM oM).trans hE1';have hm2:aF w2 m:=hm1'.bes hs2' hrm;have hbw2:Bes r w w2:=(Bes.of_below hbv1).trans hs2';obtain⟨X0,X1',X2',X3',X4',X5',X6',X7',X8',X9',X10',Xf⟩:=aJ hX2;clear hs2' hX1' hE1' hbv1 hm1' hr1' hT2;by_cases hgood:tk=5/\tx=[120,114,101,102]/\tp=a
 rotate_left
 ·have hd:(tk==5)=false\/((tk==5)=true/\(tx==[120,114,101,102])=false)\/((tk==5)=true/\(tx==[120,114,101,102])=true/\((tp:Int)==(a:Int))=false) := by
   by_cases h1:tk=5
   ·by_cases h2:tx=[120,114,101,102]
    ·exact .inr (.inr ⟨q37,q97,by have:¬tp=a:=fun h=>hgood ⟨h1,h2,h⟩;simp;omega⟩)
    ·exact .inr (.inl ⟨q37,q97⟩)
   ·exact .inl q37
  have HX:=Lh hX2;have HE:=Lh hE2;have HBe:=Lh hbw2;clear hgood hX2 hE2 hbw2;rcases hd with hd|⟨hd,hd2⟩|⟨hd,hd2,hd3⟩
  ·exact q581
  ·exact q581
  ·have hd4:(tp==a)=false:=by simp at hd3 ⊢;omega
   go_wp2_with(go_at_call 49;(with_reducible refine(dL _).mono ?_);rintro e w9 ⟨rfl,h9⟩;obtain rfl:=h9.symm)
   go_wp2;exact q286
 obtain⟨htk,htx,htp⟩:=hgood;obtain rfl:=htp.symm;subst htk;subst htx;have hT4:w2.cell? ⟨tb,4,none⟩=some (.string ⟨#[120,114,101,102]⟩):=T4;clear htp hap T4;go_wp2_with(go_at_call 49;(with_reducible refine(bD _).mono ?_);rintro e w9 ⟨rfl,h9⟩;obtain rfl:=h9.symm)
 refine(aJC r s (a+tl) hp1 hs m _ hm2 hr2 hrm).mono ?_;rintro e w3 ⟨hs3,⟨sv,PS,b3,rfl,hrow,hb3,hr3⟩|rfl⟩;rotate_left
 ·have HX:=Lh ((hs3.block w.heap.size oM oM).trans hX2);have HE:=Lh ((hs3.block (w.heap.size+1) oM oM).trans hE2);have HBe:=Lh (hbw2.trans hs3);go_wp2;exact q286
 have hz3:=hs3.size;obtain⟨sp,sc,rfl⟩:=aH hrow;obtain⟨sn,hsn⟩:=eX (PS.length);rw[hsn];have hX3:w3.heap[w.heap.size]?=some (.cells #[.int .i64 a,.slice none 0 0,.int .i64 0,.int .i64 0,.int .i64 0,.string ⟨#[]⟩,.slice none 0 0,.slice none 0 0,.int .i64 0,.int .i64 0,.int .i64 0] 33 (0,0)):=(hs3.block w.heap.size oM oM).trans hX2;have hE3:w3.heap[w.heap.size+1]?=some (.cells #[.int .i64 0] 24 (0,0)):=(hs3.block (w.heap.size+1) oM oM).trans hE2;have hbw3:Bes r w w3:=hbw2.trans hs3;have hm3:aF w3 m:=hm2.bes hs3 hrm;obtain⟨Y0,Y1,Y2,Y3,Y4,Y5,Y6,Y7,Y8,Y9,Y10,Yf⟩:=aJ hX3;clear hs3 hX2 hE2 hbw2 hm2 hr2 hrow hsn T0 T1 T2 T3 hT4 Tf X0 X1' X2' X3' X4' X5' X6' X7' X8' X9' X10' Xf;go_upto_region 7 with fail
 obtain⟨w4,hw4⟩:=eX (w3.setCell ⟨w.heap.size,1,none⟩ (.slice sp sn sc));rw[hw4];have hX4:w4.heap[w.heap.size]?=some (.cells #[.int .i64 a,.slice sp sn sc,.int .i64 0,.int .i64 0,.int .i64 0,.string ⟨#[]⟩,.slice none 0 0,.slice none 0 0,.int .i64 0,.int .i64 0,.int .i64 0] 33 (0,0)):=by rw[<-hw4,aC hX3];rfl
 have hE4:w4.heap[w.heap.size+1]?=some (.cells #[.int .i64 0] 24 (0,0)):=q172;have hr4:RdT w4 r s b3:=by rw[<-hw4];exact hr3.belowB (B:=r+1) xK oM
 have hbw4:Bes r w w4:=by rw[<-hw4];exact hbw3.setCell_new (bGB _) _
 have hz4:w3.heap.size<=w4.heap.size:=by rw[<-hw4];simp[World.setCell]
 have hm4:aF w4 m:=hm.bes hbw4 hrm;have hz42:w.heap.size+2<=w4.heap.size:=oM;obtain⟨RO,hRO⟩:=eX (fA (s.data.toList.drop b3));have HOB:=Lh (fun W hW=>hRO▸sG s b3 hb3 oM m W hW);have HCO:=Lh (fun k (h:RO=.bad k)=>kG (hRO.trans h));have HSM:=Lh (fun o aP (h:RO=.good (o,aP))=>(aUM (hRO.trans h)).1);clear hw4 hX3 hE3 hr3 hbw3 hm3 hRO Y0 Y1 Y2 Y3 Y4 Y5 Y6 Y7 Y8 Y9 Y10 Yf hz3 hz4;have k0:=hr4.cell0;have k1:=hr4.cell1;have hltr:=hr4.lt;have ne1:¬r=w4.heap.size:=oM;have ne2:¬w4.heap.size=r:=oM;cases RO with
 |bad k =>
  have dk:(k==0)=false:=by have:=HCO.out k rfl;simp;omega
  go_cut [5,7] from 44 to 56 (fun s5 s7 wx=>∃g,s5=.pointer (some ⟨g,0,none⟩)/\s7=.int .i64 k/\Below w4.heap.size w4 wx)
  case first =>
   go_region_held3 (fun w'=>w'.cell? ⟨r,0,none⟩=some (.string s)/\w'.cell? ⟨r,1,none⟩=some (.int .i64 b3)) (go_keep) ((go_at_call 52;refine(HOB.out _ (hm4.below bel)).mono ?_;rintro e w5 ⟨rfl,hb⟩;obtain⟨hc,hf⟩:=aZ hb;have hz:=hb.size;simp at hz;have hbw:Below w4.heap.size w4 w5:=bel;have k0:=(hbw.cell (p:=⟨r,0,none⟩) hltr).trans k0;have k1:=(hbw.cell (p:=⟨r,1,none⟩) hltr).trans k1))
   all_goals go_wp2_with fail
   all_goals go_meet
   all_goals exact⟨_,rfl,rfl,bel⟩
  case rest =>
   obtain⟨g,rfl,rfl,hbx⟩:=hcut;have HX:=Lh ((hbx.block w.heap.size oM).trans hX4);have HE:=Lh ((hbx.block (w.heap.size+1) oM).trans hE4);have HBe:=Lh (hbw4.trans (Bes.of_below hbx));exact q571
 |good y =>
  obtain⟨o,aP⟩:=y;have HOC:=Lh (HSM.out o aP rfl);go_cut [5,6,7] from 44 to 56 (fun s5 s6 s7 wx=>∃(g z:Nat) (p1:Option Addr) (n1 c1:Nat) (p2:Option Addr) (n2 c2:Nat),s5=.pointer (some ⟨g,0,none⟩)/\s6=.int .i64 z/\s7=.int .i64 0/\z<=s.size/\wx.heap[g]?=some (.cells #[.int .i64 o.kind,.int .i64 o.n,.int .i64 o.g,.string ⟨o.s.toArray⟩,.slice p1 n1 c1,.slice p2 n2 c2] 31 (0,0))/\w4.heap.size<=g /\
   Hid (aI (fun b=>w4.heap.size<=b) 25 wx (aB o.kind o.n o.g o.s (.slice p1 n1 c1) (.slice p2 n2 c2)) o)/\Below w4.heap.size w4 wx)
  case first =>
   go_region_held3 (fun w'=>w'.cell? ⟨r,0,none⟩=some (.string s)/\w'.cell? ⟨r,1,none⟩=some (.int .i64 b3)) (go_keep) ((go_at_call 52;refine(HOB.out _ (hm4.below bel)).mono ?_;rintro e w5 ⟨p1,n1,c1,p2,n2,c2,z,rfl,hz1,_,hO5,hb⟩;obtain⟨hc,hf⟩:=aZ hb;have hz:=hb.size;simp at hz;have hbw:Below w4.heap.size w4 w5:=bel;have k0:=(hbw.cell (p:=⟨r,0,none⟩) hltr).trans k0;have k1:=(hbw.cell (p:=⟨r,1,none⟩) hltr).trans k1))
   all_goals go_wp2_with fail
   all_goals go_meet
   ·exact⟨w5.heap.size,z,p1,n1,c1,p2,n2,c2,rfl,rfl,rfl,hz1,aA _ _ _ rfl,hbw.size,Lh (hO5.grow (fun b h1 h2=>⟨h1,bGM _ _ _ h2⟩)),hbw.alloc hbw.size _⟩
   ·have B1:w5.heap[w4.heap.size]?=some (.cells #[.int .i64 0,.int .i64 0,.int .i64 0,.string ⟨#[]⟩,.slice none 0 0,.slice none 0 0] 31 (0,0)):=(hb.block _ sI).trans (aA w4 _ _ rfl);have hg6:=bA w5 w4.heap.size 0 1 2 3 4 5 (.int .i64 o.kind) (.int .i64 o.n) (.int .i64 o.g) (.string ⟨o.s.toArray⟩) (.slice p1 n1 c1) (.slice p2 n2 c2);exact⟨w4.heap.size,z,p1,n1,c1,p2,n2,c2,rfl,rfl,rfl,hz1,cL B1,bGB _,Lh (hO5.grow (fun b h1 h2=>⟨q162,hg6.block b h2 (fun e=>by simp at e h1;omega)⟩)),hbw.grown hg6 hbw.size (fun k e=>q125)⟩
  case rest =>
   obtain⟨g,z,p1,n1,c1,p2,n2,c2,rfl,rfl,rfl,hz1,hG,hg,HOA,hbx⟩:=hcut;obtain⟨w5,rfl⟩:∃w5,w5=wc:=⟨_,rfl⟩
   have hz5:=hbx.size;have hX5:=(hbx.block w.heap.size oM).trans hX4;have hE5:=(hbx.block (w.heap.size+1) oM).trans hE4;have hr5:=hr4.below hbx;have hbw5:Bes r w w5:=hbw4.trans (Bes.of_below hbx);have hm5:=hm4.below hbx;have hgl:=bGJ hG;clear hX4 hE4 hr4 hbw4 hm4 k0 k1 hltr ne1 ne2 HOB;obtain⟨g0,g1,g2,g3,g4,g5,gf⟩:=aD hG;have k1:=hr5.cell1;have kf:=hr5.frozen 1;by_cases hk7:o.kind=7
   rotate_left
   ·have dk7:(o.kind==7)=false:=by simpa using hk7
    have HX:=Lh hX5;have HE:=Lh hE5;have HBe:=Lh hbw5;clear hk7;exact q571
   have dk7:(o.kind==7)=true:=by simpa using hk7
   have hkK:=hk7;rw[hkK] at g0;go_upto_region 10 with(go_at_call 49;(with_reducible refine(bD _).mono ?_);rintro e w9 ⟨rfl,h9⟩;obtain rfl:=h9.symm)
   obtain⟨w6,hw6⟩:=eX (w5.setCell ⟨r,1,none⟩ (.int .i64 z));rw[hw6];have hs56:Bes r w5 w6:=q163;have hz6:w5.heap.size=w6.heap.size:=q164;have hX6:=(hs56.block w.heap.size oM oM).trans hX5;have hE6:=(hs56.block (w.heap.size+1) oM oM).trans hE5;have hbw6:=hbw5.trans hs56;have hG6:=(hs56.block g oM oM).trans hG;have hr6:RdT w6 r s z:=by rw[<-hw6];exact hr5.set
   have HO6:=Lh (show aI (fun b=>w4.heap.size<=b/\b<w6.heap.size) 25 w6 (aB 7 o.n o.g o.s (.slice p1 n1 c1) (.slice p2 n2 c2)) o from hkK▸(HOA.out.grow (fun b h1 h2=>⟨⟨h1,oM⟩,hs56.block b oM oM⟩)));have hz46:w4.heap.size<=w6.heap.size:=oM;have htame:=oQ 25 24 _ o HO6.out HOC.out;obtain⟨RL1,hRL1⟩:=eX (gF o nW);obtain⟨RL2,hRL2⟩:=eX (gF o tN);have HG1:=Lh (fun prev (h:RL1=some prev) (W:World) (hW:Below w6.heap.size w6 W)=>show Calls prog 53 #[.agg #[.int .i64 7,.int .i64 o.n,.int .i64 o.g,.string ⟨o.s.toArray⟩,.slice p1 n1 c1,.slice p2 n2 c2],.string ⟨#[80,114,101,118]⟩] W (fun e w'=>e=.returned (.int .i64 prev)/\Below W.heap.size W w') from kI _ 24 W _ o nW prev (HO6.out.kept (fun b h=>hW.block b h.2) 25) htame (fun b h=>bGA h.2 hW.size) (hRL1.trans h));have HG2:=Lh (fun hyb (h:RL2=some hyb) (W:World) (hW:Below w6.heap.size w6 W)=>show Calls prog 53 #[.agg #[.int .i64 7,.int .i64 o.n,.int .i64 o.g,.string ⟨o.s.toArray⟩,.slice p1 n1 c1,.slice p2 n2 c2],.string ⟨#[88,82,101,102,83,116,109]⟩] W (fun e w'=>e=.returned (.int .i64 hyb)/\Below W.heap.size W w') from kI _ 24 W _ o tN hyb (HO6.out.kept (fun b h=>hW.block b h.2) 25) htame (fun b h=>bGA h.2 hW.size) (hRL2.trans h))
   have HN1:=Lh (fun(h:RL1=none) (W:World) (hW:Below w6.heap.size w6 W)=>show Calls prog 53 #[.agg #[.int .i64 7,.int .i64 o.n,.int .i64 o.g,.string ⟨o.s.toArray⟩,.slice p1 n1 c1,.slice p2 n2 c2],.string ⟨#[80,114,101,118]⟩] W (fun e w'=>e=.panicked [{ v:=.iface 145 (.agg #[]),recovered:=false }]/\Below W.heap.size W w') from wJ _ 24 W _ o nW (HO6.out.kept (fun b h=>hW.block b h.2) 25) htame (fun b h=>bGA h.2 hW.size) (hRL1.trans h));have HN2:=Lh (fun(h:RL2=none) (W:World) (hW:Below w6.heap.size w6 W)=>show Calls prog 53 #[.agg #[.int .i64 7,.int .i64 o.n,.int .i64 o.g,.string ⟨o.s.toArray⟩,.slice p1 n1 c1,.slice p2 n2 c2],.string ⟨#[88,82,101,102,83,116,109]⟩] W (fun e w'=>e=.panicked [{ v:=.iface 145 (.agg #[]),recovered:=false }]/\Below W.heap.size W w') from wJ _ 24 W _ o tN (HO6.out.kept (fun b h=>hW.block b h.2) 25) htame (fun b h=>bGA h.2 hW.size) (hRL2.trans h));have HBO:=Lh (bGQ (fun x (h:RL1=some x)=>zB HOC.out (hRL1.trans h)) (fun x (h:RL2=some x)=>zB HOC.out (hRL2.trans h)));clear hw6 hX5 hE5 hbw5 hG hr5 HOA hz5 hm5 hs56 g0 g1 g2 g3 g4 g5 gf k1 kf htame dk7 hRL1 hRL2;obtain⟨g0,g1,g2,g3,g4,g5,gf⟩:=aD hG6;obtain⟨X0,X1',X2',X3',X4',X5',X6',X7',X8',X9',X10',Xf⟩:=aJ hX6;rw[hkK] at g0;have HB6:=Lh (bGL w6.heap.size w6);have ng1:¬g=w.heap.size:=oM;have ng2:¬w.heap.size=g:=oM;cases RL1 with
   |none =>
    have HN1:=Lh (HN1.out rfl);have HEN:=enters_of func53 kR rfl;refine nX [2,3] kR kR (fun o ho=>?_) ?_
    ·exact q363
    ·obtain⟨wd,hwd⟩:=eX (w6.drew);have hbd:Below w6.heap.size w6 wd:=by rw[<-hwd];exact(bGL _ _).drew
     have hGd:=(hbd.block g oM).trans hG6;obtain⟨d0,d1,d2,d3,d4,d5,df⟩:=aD hGd;rw[hkK] at d0;have HBD:=Lh hbd;rw[hwd];clear hwd g0 g1 g2 g3 g4 g5 gf X0 X1' X2' X3' X4' X5' X6' X7' X8' X9' X10' Xf hbd hGd;refine wpAny_ready (rs:=[0,1,3]) kR sI ?_;refine bHF rfl (fun K hK=>?_) ?_
     ·(go_simp;refine hK _ _ ?_;clear hK K)
      refine wpAny_take (i:=5) (v:=.pointer (some ⟨w.heap.size,2,none⟩)) rfl kR kR kR (fun _ _ _ h=>h) (Or.inl ⟨by rfl,fun w=>q178⟩) ?_;refine wpAny_ready (rs:=[1,3]) kR sI ?_;refine bHF rfl (fun K hK=>?_) ?_
      ·(go_simp;refine hK _ _ ?_;clear hK K)
       refine wpAny_ready (rs:=[2,3]) kR sI ?_;exact q606
      refine bHF rfl (fun K hK=>?_) ?_
      ·(go_simp;refine hK _ _ ?_;clear hK K)
       refine wpAny_ready (rs:=[1]) kR sI ?_;exact q603
      exact AllReady.nil
     refine bHF rfl (fun K hK=>?_) ?_
     ·(go_simp;refine hK _ _ ?_;clear hK K)
      refine wpAny_ready (rs:=[0,2,3]) kR sI ?_;refine bHF rfl (fun K hK=>?_) ?_
      ·(go_simp;refine hK _ _ ?_;clear hK K)
       refine wpAny_take (i:=5) (v:=.pointer (some ⟨w.heap.size,2,none⟩)) rfl kR kR kR (fun _ _ _ h=>h) (Or.inl ⟨by rfl,fun w=>q178⟩) ?_;refine wpAny_ready (rs:=[2,3]) kR sI ?_;exact q606
      refine bHF rfl (fun K hK=>?_) ?_
      ·exact q569
      exact q604
     refine bHF rfl (fun K hK=>?_) ?_
     ·(go_simp;refine hK _ _ ?_;clear hK K)
      refine wpAny_ready (rs:=[0,1]) kR sI ?_;refine bHF rfl (fun K hK=>?_) ?_
      ·(go_simp;refine hK _ _ ?_;clear hK K)
       refine wpAny_take (i:=5) (v:=.pointer (some ⟨w.heap.size,2,none⟩)) rfl kR kR kR (fun _ _ _ h=>h) (Or.inl ⟨by rfl,fun w=>q178⟩) ?_;refine wpAny_ready (rs:=[1]) kR sI ?_;exact q603
      exact q604
     exact AllReady.nil
   |some prev =>
    have HG1:=Lh (HG1.out prev rfl);have HP1:=Lh (HBO.out.1 prev rfl);cases RL2 with
    |none =>
     have HN2:=Lh (HN2.out rfl);have HEN:=enters_of func53 kR rfl;refine nX [2,3] kR kR (fun o ho=>?_) ?_
     ·exact q363
     ·obtain⟨wd,hwd⟩:=eX (w6.drew);have hbd:Below w6.heap.size w6 wd:=by rw[<-hwd];exact(bGL _ _).drew
      have hGd:=(hbd.block g oM).trans hG6;obtain⟨d0,d1,d2,d3,d4,d5,df⟩:=aD hGd;rw[hkK] at d0;have HBD:=Lh hbd;rw[hwd];clear hwd g0 g1 g2 g3 g4 g5 gf X0 X1' X2' X3' X4' X5' X6' X7' X8' X9' X10' Xf hbd hGd;refine wpAny_ready (rs:=[0,1,3]) kR sI ?_;refine bHF rfl (fun K hK=>?_) ?_
      ·(go_simp;refine hK _ _ ?_;clear hK K)
       refine wpAny_take (i:=5) (v:=.pointer (some ⟨w.heap.size,2,none⟩)) rfl kR kR kR (fun _ _ _ h=>h) (Or.inl ⟨by rfl,fun w=>q178⟩) ?_;refine wpAny_ready (rs:=[1,3]) kR sI ?_;refine bHF rfl (fun K hK=>?_) ?_
       ·(go_simp;refine hK _ _ ?_;clear hK K)
        refine wpAny_ready (rs:=[2,3]) kR sI ?_;exact q600
       refine bHF rfl (fun K hK=>?_) ?_
       ·(go_simp;refine hK _ _ ?_;clear hK K)
        refine wpAny_ready (rs:=[1]) kR sI ?_;exact q602
       exact AllReady.nil
      refine bHF rfl (fun K hK=>?_) ?_
      ·(go_simp;refine hK _ _ ?_;clear hK K)
       refine wpAny_ready (rs:=[0,2,3]) kR sI ?_;refine bHF rfl (fun K hK=>?_) ?_
       ·(go_simp;refine hK _ _ ?_;clear hK K)
        refine wpAny_take (i:=5) (v:=.pointer (some ⟨w.heap.size,2,none⟩)) rfl kR kR kR (fun _ _ _ h=>h) (Or.inl ⟨by rfl,fun w=>q178⟩) ?_;refine wpAny_ready (rs:=[2,3]) kR sI ?_;exact q600
       refine bHF rfl (fun K hK=>?_) ?_
       ·(go_simp;go_at_call 53;(with_reducible refine(HG1.out _ HBD.out).mono ?_);rintro e w7 ⟨rfl,hb⟩;replace HBD:Hid (Below w6.heap.size w6 w7):=Lh (iW HBD.out hb HBD.out.size);clear hb d0 d1 d2 d3 d4 d5 df;(obtain⟨d0,d1,d2,d3,d4,d5,df⟩:=aD ((HBD.out.block g oM).trans hG6));rw[hkK] at d0;refine hK _ _ ?_;clear hK K)
        refine wpAny_ready (rs:=[0,3]) kR sI ?_;refine bHF rfl (fun K hK=>?_) ?_
        ·(go_simp;refine hK _ _ ?_;clear hK K)
         refine wpAny_take (i:=5) (v:=.pointer (some ⟨w.heap.size,2,none⟩)) rfl kR kR kR (fun _ _ _ h=>h) (Or.inl ⟨by rfl,fun w=>q178⟩) ?_;refine wpAny_ready (rs:=[3]) kR sI ?_;refine bHF rfl (fun K hK=>?_) ?_
         ·(go_simp;refine hK _ _ ?_;clear hK K)
          refine wpAny_ready (rs:=[4]) kR sI ?_;exact q566
         exact AllReady.nil
        refine bHF rfl (fun K hK=>?_) ?_
        ·(go_simp;refine hK _ _ ?_;clear hK K)
         refine wpAny_ready (rs:=[0,4]) kR sI ?_;refine bHF rfl (fun K hK=>?_) ?_
         ·(go_simp;refine hK _ _ ?_;clear hK K)
          refine wpAny_take (i:=5) (v:=.pointer (some ⟨w.heap.size,2,none⟩)) rfl kR kR kR (fun _ _ _ h=>h) (Or.inl ⟨by rfl,fun w=>q178⟩) ?_;refine wpAny_ready (rs:=[4]) kR sI ?_;exact q566
         exact q566
        exact AllReady.nil
       exact q599
      refine bHF rfl (fun K hK=>?_) ?_
      ·(go_simp;refine hK _ _ ?_;clear hK K)
       refine wpAny_ready (rs:=[0,1]) kR sI ?_;refine bHF rfl (fun K hK=>?_) ?_
       ·(go_simp;refine hK _ _ ?_;clear hK K)
        refine wpAny_take (i:=5) (v:=.pointer (some ⟨w.heap.size,2,none⟩)) rfl kR kR kR (fun _ _ _ h=>h) (Or.inl ⟨by rfl,fun w=>q178⟩) ?_;refine wpAny_ready (rs:=[1]) kR sI ?_;exact q602
       exact q599
      exact AllReady.nil
    |some hyb =>
     have HG2:=Lh (HG2.out hyb rfl);have HP2:=Lh (HBO.out.2 hyb rfl);go_region_held3 (fun w'=>(w'.cell? ⟨g,0,none⟩=some (.int .i64 7)/\w'.cell? ⟨g,1,none⟩=some (.int .i64 o.n)/\w'.cell? ⟨g,2,none⟩=some (.int .i64 o.g)/\w'.cell? ⟨g,3,none⟩=some (.string ⟨o.s.toArray⟩)/\w'.cell? ⟨g,4,none⟩=some (.slice p1 n1 c1)/\w'.cell? ⟨g,5,none⟩=some (.slice p2 n2 c2))) (go_keep)
      (first
       |(go_at_call 53;(with_reducible refine(HG1.out _ q173).mono ?_);rintro e w7 ⟨rfl,hb⟩;replace HB6:Hid (Below w6.heap.size w6 w7):=Lh (iW q173 hb q174);clear hb g0 g1 g2 g3 g4 g5 gf X0 X1' X2' X3' X4' X5' X6' X7' X8' X9' X10' Xf;(obtain⟨g0,g1,g2,g3,g4,g5,gf⟩:=aD ((HB6.out.block _ oM).trans hG6));(obtain⟨X0,X1',X2',X3',X4',X5',X6',X7',X8',X9',X10',Xf⟩:=aJ ((HB6.out.block _ oM).trans hX6));rw[hkK] at g0)
       |(go_at_call 53;(with_reducible refine(HG2.out _ q173).mono ?_);rintro e w8 ⟨rfl,hb⟩;replace HB6:Hid (Below w6.heap.size w6 w8):=Lh (iW q173 hb q174);clear hb g0 g1 g2 g3 g4 g5 gf X0 X1' X2' X3' X4' X5' X6' X7' X8' X9' X10' Xf;(obtain⟨g0,g1,g2,g3,g4,g5,gf⟩:=aD ((HB6.out.block _ oM).trans hG6));(obtain⟨X0,X1',X2',X3',X4',X5',X6',X7',X8',X9',X10',Xf⟩:=aJ ((HB6.out.block _ oM).trans hX6));rw[hkK] at g0))
     have hz8:=HB6.out.size;have hX8:=(HB6.out.block w.heap.size oM).trans hX6;have hE8:=(HB6.out.block (w.heap.size+1) oM).trans hE6;have hbw8:Bes r w w8:=hbw6.trans (Bes.of_below HB6.out);have hr8:=hr6.below HB6.out;clear g0 g1 g2 g3 g4 g5 gf X0 X1' X2' X3' X4' X5' X6' X7' X8' X9' X10' Xf HB6 hX6 hE6 hbw6 hr6 HG1 HG2 hG6 hbx ng1 ng2;obtain⟨w9,hw9⟩:=eX (((((((((w8.setCell ⟨w.heap.size,2,none⟩ (.int .i64 7)).setCell ⟨w.heap.size,3,none⟩ (.int .i64 o.n)).setCell ⟨w.heap.size,4,none⟩ (.int .i64 o.g)).setCell ⟨w.heap.size,5,none⟩ (.string ⟨o.s.toArray⟩)).setCell ⟨w.heap.size,6,none⟩ (.slice p1 n1 c1)).setCell ⟨w.heap.size,7,none⟩ (.slice p2 n2 c2)).setCell ⟨w.heap.size,8,none⟩ (.int .i64 prev)).setCell ⟨w.heap.size,9,none⟩ (.int .i64 hyb)));rw[hw9];have hX9:w9.heap[w.heap.size]?=some (.cells #[.int .i64 a,.slice sp sn sc,.int .i64 7,.int .i64 o.n,.int .i64 o.g,.string ⟨o.s.toArray⟩,.slice p1 n1 c1,.slice p2 n2 c2,.int .i64 prev,.int .i64 hyb,.int .i64 0] 33 (0,0)):=by
      exact q493
     have hO9:∀b,b≠w.heap.size->w9.heap[b]?=w8.heap[b]?:=by
      exact q476
     have hE9:=(hO9 (w.heap.size+1) oM).trans hE8;have hz9:w9.heap.size=w8.heap.size:=by rw[<-hw9];simp[World.setCell]
     have hbw9:Bes r w w9:=by
      exact q464
     have hr9:RdT w9 r s z:=by unfold RdT at *;rw[hO9 r oM];exact hr8
     have hl9:w.heap.size+1<w9.heap.size:=by have:=bGJ hE9;omega
     clear hw9 hX8 hE8 hbw8 hr8 hO9 hz9;obtain⟨X0,X1',X2',X3',X4',X5',X6',X7',X8',X9',X10',Xf⟩:=aJ hX9;have y0:w9.cell? ⟨w.heap.size+1,0,none⟩=some (.int .i64 0):=by simp[World.cell?,hE9]
     have yf:w9.frozen? ⟨w.heap.size+1,0,none⟩=false:=by simp[World.frozen?,hE9]
     clear hX9 hE9;go_wp2;refine bGW (f:=48) (args:=#[.pointer (some ⟨w.heap.size+1,0,none⟩)]) sI q39 ?_;refine(wI _ _).mono ?_;rintro e u' w'' ⟨rfl,rfl,rfl⟩;simp[Leaves,settle,results,results24,go_sem,X0,X1',X2',X3',X4',X5',X6',X7',X8',X9',X10',Xf,y0,yf];refine⟨?_,.inl ⟨⟨a,sp,sn,sc,7,o.n,o.g,⟨o.s.toArray⟩,p1,n1,c1,p2,n2,c2,prev,hyb,0⟩,z,rfl,rfl,HP1.out.1,HP1.out.2,HP2.out.1,HP2.out.2,rfl,hz1,?_⟩⟩
     ·(repeat' (first|(with_reducible exact hbw9)|(with_reducible refine Bes.setCell_new ?_ ?_ _)|exact bGB _|exact Nat.le_succ _))
     ·exact q498
end Go.Proofs.YtdjpkgccakgkbaaGreatDoor
