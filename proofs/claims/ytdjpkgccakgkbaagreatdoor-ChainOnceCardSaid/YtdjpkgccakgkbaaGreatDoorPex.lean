/- Parts of the proof: RgP CxD CxE RgR RgS CxT. -/
import Derived.Test.YtdjpkgccakgkbaaGreatDoorPea
import Derived.RangeFuncNested
import Derived.RangeFuncBound
import Derived.RangeFuncCalls
import Derived.RangeFuncLeaves
import Derived.Test.YtdjpkgccakgkbaaGreatDoorPew
import Derived.Test.YtdjpkgccakgkbaaGreatDoorPeh
import Derived.Orders
import Derived.OrdersIn
set_option linter.all false
set_option maxRecDepth 100000
set_option maxHeartbeats 8000000
section
variable{p:Prop}
theorem q237(h:p:=by have hb:=hbr;have hz:=hb.size;exact bel):p:=h
theorem q304(h:p:=by
 clear y di hi3 hi dp;by_cases hle:a+n<=s.size
 rotate_left
 ·have dle:decide ((a:Int)+(n:Int)<=(s.size:Int))=false:=bGH oM;clear hle;go_wp2_with(go_at_call 63;(with_reducible refine(iL _).mono ?_);rintro e w9 ⟨rfl,h9⟩;obtain rfl:=h9.symm)
  exact⟨rfl,Bes.refl _ _,.inr rfl⟩
 have dle:decide ((a:Int)+(n:Int)<=(s.size:Int))=true:=bGI oM;go_wp2_with(go_at_call 63;(with_reducible refine(dU _).mono ?_);rintro e w9 ⟨rfl,h9⟩;obtain rfl:=h9.symm)
 go_loopw [7,26] (fun v i wr=>∃(k:Nat) (x:Int),k<=n/\i=.int .i64 k/\v=.int .i64 x/\Hid (FdI wr b2 b6 b3 xc s (a+k))/\Hid (Bes b6 W wr)) (fun _ i _=>n-(intOf i).toNat)
 case atStart=>exact⟨0,0,bGF _,rfl,rfl,H,Lh (Bes.refl _ _)⟩
 case round =>
  obtain⟨k,x,hk,rfl,rfl,HF,HB⟩:=hrel;clear c6 f6 c3 hpl dle;obtain⟨c6,f6,c3⟩:=HF.out.cells;by_cases hkn:k<n
  ·obtain⟨q,hq⟩:=eX (a+k);have hq2:q<s.size:=oM;have hw:IntKind.i64.wrap ((q:Int)+1)=((q+1:Nat):Int):=q228;rw[hq] at HF c6;obtain⟨Q,hQ⟩:=eX (q+1);rw[hQ] at hw;go_wp2_with fail;go_roundw
   case rel=>exact⟨k+1,_,oM,q12,rfl,Lh (HF.out.bes ((Bes.refl b6 wr).setCell 0 _) (by rw[show a+(k+1)=Q from oM];exact aC HF.out.pl)),Lh (HB.out.setCell 0 _)⟩
   all_goals (simp[intOf];omega)
  ·obtain rfl:k=n:=oM;go_wp2_with fail;go_ret
   exact⟨HB.out,.inl ⟨x,a+k,rfl,hle,HF.out.pl⟩⟩):p:=h
theorem q366(h:p:=by
 go_wp2_with fail
 (go_ret;exact⟨⟨_,rfl⟩,q237⟩)):p:=h
theorem q475(h:p:=by exact⟨_,a₁,w₁,hq,.of_steps (.one h0 stepR_block) harr⟩):p:=h
theorem q535(h:p:=by
 go_wp2_with fail;go_ret
 exact⟨⟨_,rfl⟩,hbw1⟩):p:=h
theorem q555(h:p:=by exact⟨e',w'',fr',hR,ComesIn.of_steps hs₀ hs,hfn,hl⟩):p:=h
theorem q590(h:p:=by
 have d3:decide (2<kd)=true:=bGI c3;clear c0 c1 c2 c3;exact q366):p:=h
theorem q591(h:p:=by
 have d2:decide (kd<0)=true:=bGI c2;clear c0 c1 c2;exact q366):p:=h
theorem q592(h:p:=by
 have d1:decide (8191<N)=true:=bGI c1;clear c0 c1;exact q366):p:=h
theorem q593(h:p:=by
 have d0:decide (N<0)=true:=bGI c0;clear c0;exact q366):p:=h
end
namespace Go.Proofs.YtdjpkgccakgkbaaGreatDoor
open Go.Proofs.Tryz
open Go Go.RowKit
def aKH(P:Program)(l:Nat)(R:Ending->World->Prop):Exit->Act->World->Prop
 |.normal,_,w=>∃v w',(Instr.endRound l none).run P w=.ok v w'/\R (.returned v) w'
 |.panic ch,a,w=>a.defers=[]/\R (.panicked ch) w
 |_,_,_=>False
theorem aSB{F:Fence}{n:Nat}{P:Program}{l:Nat}{f:FuncId}{tmps:Array Value}{assign body:Code}{w:World}{R:Ending->World->Prop}(hF:F.fn f)(hfn:∃fn,P.funcs[f]?=some fn)
 (h:assign.wpIn (F.inRound l) n P (Exit.then (fun a₁ w₁=>∃w₂,(Instr.beginRound l).run P w₁=.ok () w₂/\body.wpIn (F.inRound l) n P (aKH P l R) a₁ w₂) (fun _ _ _=>False))
  { tmps:=tmps,defers:=[] } w) :
 RoundIn F n P l f tmps assign body w R:=by
 refine⟨hF,fun c cs hr=>?_⟩;let b:Frame:={ (default:Frame) with fn:=f,kind:=.normal,roundOf:=some l }
 have hb0:Frame.round l f tmps assign body .normal=b.atR { tmps:=tmps,defers:=[] } [.code assign,.beginRound,.code body]:=by
  simp[Frame.round,Frame.atR,b]
 have hr':(F.inRound l).room ((c::cs).length+1+n):=hr;have hF':(F.inRound l).fn b.fn:=hF;obtain⟨e,a₁,w₁,hq,harr⟩:=h b [.beginRound,.code body] (c::cs) rfl hF' hr';rw[<-hb0] at harr;cases e with
 |normal =>
  obtain⟨w₂,hbr,hbody⟩:=hq;have s1:StepsIn (Machine.fenced P (F.inRound l)) P (lone (b.atR a₁ [.beginRound,.code body]) (c::cs) w₁) (lone (b.atR a₁ [.code body]) (c::cs) w₂) :=
   .one (fenced_calm (fr:=b.atR a₁ [.beginRound,.code body]) hF' hr' rfl) (stepR_beginRound rfl hbr)
  obtain⟨e₂,a₂,w₃,hq₂,harr₂⟩:=hbody b [] (c::cs) rfl hF' hr';cases e₂ with
  |normal =>
   obtain⟨v,w₄,hend,hR⟩:=hq₂;exact⟨.returned v,w₄,hR,(StepsIn.trans harr s1).trans (StepsIn.trans harr₂ (.one (fenced_calm (fr:=b.atR a₂ []) hF' hr' rfl) (stepR_round_end rfl rfl hend)))⟩
  |panic ch =>
   obtain⟨hd,hR⟩:=hq₂;obtain⟨todo,hs⟩:=harr₂;have hleave:Frame.leaving P { b.atR a₂ todo with mode:=.panicking ch } w₃ (.panicked ch):=⟨rfl,hd,hfn⟩;have hl:(lone { b.atR a₂ todo with mode:=.panicking ch } (c::cs) w₃).fenced P (F.inRound l):=fenced_leaving hF' hr' hleave;exact⟨.panicked ch,w₃,hR,(StepsIn.trans harr s1).trans (StepsIn.trans hs (.one hl (step_leave_panicked hleave)))⟩
  |ret=>exact hq₂.elim
  |exit id=>exact hq₂.elim
  |goto t=>exact hq₂.elim
  |outgrown=>exact hq₂.elim
 |exit id=>exact hq.elim
 |goto t=>exact hq.elim
 |ret=>exact hq.elim
 |panic chain=>exact hq.elim
 |outgrown=>exact hq.elim
def bFQ{α:Type}(F:Fence)(n:Nat)(P:Program)(g:Nat)(lb:Array Value)(encs:α->Array Value)(Kp:World->World->Prop)(S:List α->Prop)(N:Nat)(w:World):Prop :=
 ∀(l:Nat) (J:List α->World->Prop) (Jp:List PanicEntry->World->Prop) (W:World),Below w.heap.size w W->AbidesFrom W.heap.size J ->
  (∀pre x W1,J pre W1->pre.length<N->YieldAt F (n-1) P l (encs x) W1 fun e W' =>
   (e=.returned (.bool true)/\J (pre++[x]) W'/\Kp W1 W')\/(∃ch,e=.panicked ch/\Jp ch W')) ->
  J [] W ->
  CallsIn F n P g (#[.func (.yield l) #[] #[]]++lb) W fun e W'=>((∃v,e=.returned v)/\∃xs,S xs/\J xs W')\/(∃ch,e=.panicked ch/\Jp ch W')
def aYP{α:Type}(Kp:World->World->Prop)(I:List α->World->Prop)(Ip:List PanicEntry->World->Prop)(xs:List α)(W:World):Exit->Act->World->Prop
 |.normal,_,W'=>KeepsOthers W W'/\Kp W W'/\I xs W'
 |.panic ch,a,W'=>a.defers=[]/\KeepsOthers W W'/\Ip ch W'
 |_,_,_=>False
variable {F:Fence} {n:Nat} {P:Program}
theorem sW{α:Type}{g:Operand}{ps:Array Tmp}{assign body:Code}{Q:Exit->Act->World->Prop}{a:Act}{w:World}
 (hro:F.round=none) (h1:1<=n) {gf:Nat} {lb:Array Value} (hg:a.eval g=.func (.func gf) #[] lb) (hFg:F.fn gf) (eg:∀args w,(callFunc gf args).run P w=.ok (.enter gf args) w)
 {encs:α->Array Value} {Kp:World->World->Prop} {S:List α->Prop} {N:Nat} {w0:World} (hseq:bFQ F (n-1) P gf lb encs Kp S N w0)
 (hKt:∀{A B C:World},Kp A B->Kp B C->Kp A C) (hKb:∀(W:World) (l:Nat) (o o':Obj),w.heap.size<=l->W.heap[l]?=some o->o.isCells=false->o.isWalk=false->Kp W (W.putObj l o')) (hb0:Below w0.heap.size w0 w) (hps:∀x,(encs x).size=ps.size)
 (I:List α->World->Prop) (Ip:List PanicEntry->World->Prop) (hI:OwnFrom w.heap.size I) (h0:I [] w) (a₁:α->Act)
 (hassign:∀(l:Nat) (x:α) (W:World) (K:Act->World->Prop),K (a₁ x) W ->
  assign.wpIn (F.inRound l) (n-1-1) P (Exit.then K (fun _ _ _=>False)) { tmps:=(ps.zip (encs x)).foldl (fun t (p,v)=>t.setIfInBounds p v) a.tmps,defers:=[] } W)
 (hbody:∀(l:Nat) (pre:List α) (x:α) (W:World),I pre W->pre.length<N->body.wpIn (F.inRound l) (n-1-1) P (aYP Kp I Ip (pre++[x]) W) (a₁ x) W)
 (hdone:∀(D:Nat) (xs:List α) (W:World),w.heap.size<=D->S xs->I xs W->W.heap[D]?=some (.deferred (some []))->Q .normal { a with defers:={ target:=.collected D,args:=#[] }::a.defers } W)
 (hpan:∀(D:Nat) (ch:List PanicEntry) (W:World),w.heap.size<=D->Ip ch W->W.heap[D]?=some (.deferred (some []))->Q (.panic ch) { a with defers:={ target:=.collected D,args:=#[] }::a.defers } W) :
 ∀fn,F.fn fn->(∃x,P.funcs[fn]?=some x)->∃(l:Nat) (mark:List Deferred) (w₁:World) (d:Deferred) (w₁':World) (f:FuncId) (args:Array Value) (w₂:World),
  (Instr.enterLoop fn a.tmps ps assign body F.round).run P w=.ok (l,mark) w₁ /\
  (resolve a.eval (rangeCall g l) 0).run P w₁=.ok d w₁' /\
  (∀f',Target.leads P w₁' d.target d.args=some f'->F.fn f') /\
  (invoke d.target d.args).run P w₁'=.ok (.enter f args) w₂ /\
  (F.depth.isSome=true->1<=n) /\
  CallsIn F (n-1) P f args w₂ (rangePost F n P l Q { a with defers:=mark++a.defers }):=by
 intro fn hfn hx;rw[hro];obtain⟨rec,hrec⟩:∃rec:LoopState->Option Code->Loop,rec=fun st pe=>{ state:=st,pending:=pe,fn,tmps:=a.tmps,params:=ps,assign,body,defers:=w.heap.size }:=⟨_,rfl⟩
 obtain⟨W1,hW1⟩:=eX ((w.alloc (.deferred (some []))).alloc (.loop (rec .ready none)));have hL1:W1.heap[w.heap.size+1]?=some (.loop (rec .ready none)):=by
  rw[<-hW1];have:=World.alloc_heap_new (w.alloc (.deferred (some []))) (.loop (rec .ready none));rwa [World.size_alloc] at this
 have hK1:W1.heap[w.heap.size]?=some (.deferred (some [])):=by
  rw[<-hW1];exact(bGM _ _ _ sI).trans (World.alloc_heap_new w _)
 have hI1:I [] W1:=by rw[<-hW1];exact hI.alloc _ (hI.alloc _ h0)
 have hb1:Below w0.heap.size w0 W1:=by
  rw[<-hW1];exact hb0.trans ((((bGL _ w).alloc (bGB _) _).alloc sI _).mono hb0.size)
 refine⟨w.heap.size+1,[{ target:=.collected w.heap.size,args:=#[] }],W1,{ target:=.fn (.func gf) lb,args:=#[.func (.yield (w.heap.size+1)) #[] #[]] },W1,gf,
  #[.func (.yield (w.heap.size+1)) #[] #[]]++lb,W1,?_,?_,?_,?_,fun _=>h1,?_⟩
 ·rw[<-hW1,hrec];exact run_enterLoop_outer _ _ _ _ _
 ·simp only[resolve,hg];simp[go_sem]
 ·intro f' hf';simp[Target.leads] at hf';subst hf';exact hFg
 ·simp[invoke,go_sem,eg]
 ·have hnw:∀{A B:World} {row:Option Nat},(∀r,row=some r->W1.heap.size<=r/\∃o:Obj,A.heap[r]?=some o/\o.isWalk=true)->(∀r,row=some r->∃o:Obj,A.heap[r]?=some o/\o.isCells=false) :=
   fun hr r e=>by obtain⟨_,o,ho,hw⟩:=hr r e;exact⟨o,ho,Obj.not_cells_of_walk hw⟩
  refine(hseq (w.heap.size+1)
   (fun pre W=>I pre W/\W.heap[w.heap.size+1]?=some (.loop (rec .ready none))/\W.heap[w.heap.size]?=some (.deferred (some [])))
   (fun ch W=>Ip ch W/\W.heap[w.heap.size]?=some (.deferred (some [])))
   W1 hb1
   (fun s A B row hs hg' hr=>⟨hI s A B row hs.1 hg' (fun r e=>⟨by have:=(hr r e).1;rw[<-hW1] at this;simp at this;omega,hnw (B:=B) hr r e⟩),(grownBy_keeps hg' (fun r e=>(hr r e).2) hs.2.1 rfl).trans hs.2.1,(grownBy_keeps hg' (fun r e=>(hr r e).2) hs.2.2 rfl).trans hs.2.2⟩)
   ?_ ⟨hI1,hL1,hK1⟩).mono ?_
  ·rintro pre x W ⟨hi,hl,hk⟩ hlen;have hlt:w.heap.size+1<W.heap.size:=(Array.getElem?_eq_some_iff.1 hl).1;have hy:=run_yield (P:=P) (args:=encs x) hl (by rw[hrec];exact hps x);rw[hrec] at hy;refine⟨fn,_,assign,body,hy,aSB hfn hx (hassign _ x W _ ⟨_,run_beginRound hl (by rw[hrec]),?_⟩)⟩;have hl2:(W.putObj (w.heap.size+1) (.loop { rec .ready none with state:=.busy })).heap[w.heap.size+1]?=some (.loop { rec .ready none with state:=.busy }):=World.putObj_heap_same hlt;have hk2:(W.putObj (w.heap.size+1) (.loop { rec .ready none with state:=.busy })).heap[w.heap.size]?=some (.deferred (some [])):=(World.putObj_heap_other oM).trans hk;have hw2:Kp W (W.putObj (w.heap.size+1) (.loop { rec .ready none with state:=.busy })):=hKb _ _ _ _ oM hl rfl rfl;refine wpIn_mono (hbody _ pre x _ (hI.putObj _ hi (Nat.le_succ _) hl rfl) hlen) ?_;rintro e a3 W3 hp;cases e with
   |normal =>
    obtain⟨hk3,hkp3,hi3⟩:=hp;have hl3:=hk3.same _ _ hl2 rfl;have hr:=run_endRound (P:=P) none hl3;have hl4:(W3.putObj (w.heap.size+1) (.loop (rec .ready none))).heap[w.heap.size+1]?=some (.loop (rec .ready none)):=World.putObj_heap_same (Array.getElem?_eq_some_iff.1 hl3).1;have hk4:(W3.putObj (w.heap.size+1) (.loop (rec .ready none))).heap[w.heap.size]?=some (.deferred (some [])):=(World.putObj_heap_other oM).trans (hk3.same _ _ hk2 rfl);rw[hrec] at hr;refine⟨_,_,hr,.inl ⟨rfl,⟨?_,?_,?_⟩,hKt (hKt hw2 hkp3) (hKb _ _ _ _ oM hl3 rfl rfl)⟩⟩
    ·exact hI.putObj _ hi3 (Nat.le_succ _) hl3 rfl
    ·rw[hrec] at hl4 ⊢;exact hl4
    ·rw[hrec] at hk4;exact hk4
   |panic ch =>
    obtain⟨hd,hk3,hi3⟩:=hp;exact⟨hd,.inr ⟨ch,rfl,hi3,hk3.same _ _ hk2 rfl⟩⟩
   |ret=>exact hp.elim
   |exit id=>exact hp.elim
   |goto t=>exact hp.elim
   |outgrown=>exact hp.elim
  ·rintro e W2 (⟨⟨v,rfl⟩,xs,hS,hi,hl,hk⟩|⟨ch,rfl,hi,hk⟩)
   ·exact⟨none,_,by have:=run_endLoop (P:=P) hl (by rw[hrec];simp);rw[hrec] at this;exact this,hdone _ xs _ (bGB _) hS (hI.putObj _ hi (Nat.le_succ _) hl rfl) ((World.putObj_heap_other oM).trans hk)⟩
   ·exact hpan _ ch _ (bGB _) hi hk
open Go.Shelf Fo
attribute [local go_sem] Oper.semAt_some
structure mD (n₀ Bs Bm:Nat) (W W':World):Prop where
 below:Below n₀ W W'
 other:∀(b:Nat) (cur:Array Value) (t:TypeId),qP Bs W b cur t->b≠Bm->qP Bs W' b cur t
 safe:aAN Bs W->aAN Bs W'
theorem mD.trans{n₀ Bs Bm:Nat}{A B C:World}(h:mD n₀ Bs Bm A B)(k:mD n₀ Bs Bm B C):mD n₀ Bs Bm A C :=
 ⟨h.below.trans k.below,fun b cur t x hne=>k.other b cur t (h.other b cur t x hne) hne,fun x=>k.safe (h.safe x)⟩
theorem mD.of_C{n₀ Bs Bm:Nat}{W W':World}(h:aDV n₀ Bs W W'):mD n₀ Bs Bm W W':=⟨h.below,fun b cur t x _=>h.other b cur t x,h.safe⟩
theorem mD.of_bes{n₀ Bs Bm:Nat}{W W':World}(hB:Bs<W.heap.size)(hne:Bs≠Bm)(hn:n₀<=Bm)(hn2:n₀<=W.heap.size)(hb:Bes Bm W W'):mD n₀ Bs Bm W W':=by
 have hBs:=hb.block Bs hB hne;refine⟨⟨hb.os,hb.tape,hb.output,hb.size,fun k hk=>hb.block k oM oM⟩,fun b cur t x hbm=>⟨(hb.block b (bGJ x.at') hbm).trans x.at',x.ne,fun y=>x.own ((nP.iff hBs b).1 y)⟩,fun x b y=>bGA (x b ((nP.iff hBs b).1 y)) hb.size⟩
def bFR(x:Nat):Array Value:=#[.int .i64 x]
structure HN (w0:World) (Bs Bm Bn:Nat) (xc:Array Value) (W:World):Prop where
 base:Below w0.heap.size w0 W
 lt:Bs<W.heap.size
 safe:aAN Bs W
 bn:qP Bs W Bn xc 90
 nem:Bn≠Bm
 ltm:Bm<W.heap.size
theorem HN.below{w0 W W':World}{Bs Bm Bn:Nat}{xc:Array Value}(h:HN w0 Bs Bm Bn xc W)(hb:Below W.heap.size W W'):HN w0 Bs Bm Bn xc W' :=
 ⟨h.base.trans (hb.mono h.base.size),bGA h.lt hb.size,h.safe.below h.lt hb,h.bn.below h.lt hb,h.nem,bGA h.ltm hb.size⟩
theorem HN.keep{w0 W W':World}{Bs Bm Bn:Nat}{xc:Array Value}(h:HN w0 Bs Bm Bn xc W)(k:mD w0.heap.size Bs Bm W W'):HN w0 Bs Bm Bn xc W' :=
 ⟨h.base.trans k.below,bGA h.lt k.below.size,k.safe h.safe,k.other _ _ _ h.bn h.nem,h.nem,bGA h.ltm k.below.size⟩
theorem zV(l:List (Nat×Nat))(i:Nat)(hi:i<l.length):mT (l.take (i+1))=mT (l.take i)+l[i].2:=by
 rw[List.take_succ,bGE hi];exact tY _ _
theorem bDA(l:List (Nat×Nat)):∀i,mT (l.take i)<=mT l:=by
 induction l with
 |nil=>intro i;simp
 |cons a l ih =>
  intro i;cases i with
  |zero=>simp[mT]
  |succ i=>simp only[List.take_succ_cons,mT];have:=ih i;omega
theorem aCH(w0 W0:World)(Bs Bm Bn:Nat)(a0 a1 a2:Nat)(p:Option Addr)(c:Nat)(prev:Int)(PR:List (Nat×Nat))(n:Nat)(hn:PR.length=n)(hP:fZ 0 w0 (.slice p n c) PR)(hPI:oV PR)
 (h0:HN w0 Bs Bm Bn #[.int .i64 a0,.int .i64 a1,.int .i64 a2,.slice p n c,.int .i64 prev] W0) (hlen:n<=1000000) :
 bFQ Fence.wide 5 prog 102 #[.pointer (some ⟨Bn,0,none⟩)] bFR (mD w0.heap.size Bs Bm) (fun _=>True) 8192 W0:=by
 intro l J Jp W hW hAJ hY hJ0;have hro:Fence.wide.round=none:=rfl;have hJ:∀pre W W',J pre W->Below W.heap.size W W'->J pre W':=fun pre A B h hb=>hAJ pre A B none h ⟨hb.os,hb.tape,hb.output,hb.size,fun k hk _=>hb.block k hk⟩ (fun r e=>by cases e)
 have hHW:=h0.below hW;have HP:=Lh (show∀j (hj:j<PR.length),∃g off,p=some ⟨g,off,none⟩/\g<w0.heap.size/\w0.cell? ⟨g,off+j*2,none⟩=some (.int .i64 PR[j].1)/\w0.cell? ⟨g,off+j*2+1,none⟩=some (.int .i64 PR[j].2) from by
  obtain⟨p',c',e,h⟩:=hP;cases e;intro j hj;obtain⟨g,off,h1,_,h3,h4,h5⟩:=h j hj;exact⟨g,off,h1,h3,h4,h5⟩)
 have HPI:=Lh hPI;have HNn:=Lh hn;have HY:=Lh hY;have HJ:=Lh hJ;clear hP hPI h0 hW hAJ hY hJ hn;have hb0:=hHW.bn.at';have x3:W.cell? ⟨Bn,3,none⟩=some (.slice p n c):=by simp[World.cell?,hb0]
 clear hb0;refine callsIn_of_wp func102 rfl trivial ?_ hro;simp only[ntmps102,List.size_toArray,bHA,List.length_nil,Nat.reduceAdd,Nat.reduceSub,Array.replicate_succ,Array.replicate_zero,List.push_toArray,List.append_toArray,List.nil_append,List.cons_append];gi_wp2
 gi_loopw [9] (fun i wr=>∃(k:Nat) (pre:List Nat),k<=n/\i=.int .i64 k/\HN w0 Bs Bm Bn #[.int .i64 a0,.int .i64 a1,.int .i64 a2,.slice p n c,.int .i64 prev] wr/\Hid (pre.length=mT (PR.take k))/\J pre wr)
  (fun i _=>n-(intOf i).toNat)
 case atStart=>exact⟨0,[],bGF _,rfl,hHW,Lh rfl,hJ0⟩
 case round =>
  obtain⟨k,pre,hk,rfl,hWr,hpre,hJr⟩:=hrel;by_cases hlk:k<n
  ·have hk2:k<PR.length:=by rw[HNn.out];exact hlk
   obtain⟨g,off,rfl,hg,q0,q1⟩:=HP.out k hk2;have hk':=fun o=>bGO (a:=⟨g,o,none⟩) (hWr.base.block g hg)
   replace q0:=(hk' _).trans q0;replace q1:=(hk' _).trans q1;obtain⟨u,hu⟩:=eX (PR[k].1);obtain⟨v,hv⟩:=eX (PR[k].2);have huv:u+v<=8192:=by rw[<-hu,<-hv];exact HPI.out.2.1 _ (bGG hk2)
   have hsum:mT (PR.take k)+v<=8192:=by
    have h1:=zV PR k hk2;have h2:=bDA PR (k+1);have h3:=HPI.out.1;rw[hv] at h1;omega
   have HSM:=Lh (show mT (PR.take (k+1))=mT (PR.take k)+v by rw[zV PR k hk2,hv]);rw[hu] at q0;rw[hv] at q1;clear hk' hu hv hk2;have hX2:qP Bs (wr.alloc (.cells #[.int .i64 u,.int .i64 v] 124)) wr.heap.size #[.int .i64 u,.int .i64 v] 124:=qP.new hWr.safe hWr.lt ((bGL _ _).alloc (bGB _) _) (bGB _) (aA _ _ _ rfl);have hW2:=hWr.below (W':=wr.alloc (.cells #[.int .i64 u,.int .i64 v] 124)) ((bGL _ _).alloc (bGB _) _);have hJ2:=HJ.out _ _ _ hJr (show Below wr.heap.size wr (wr.alloc (.cells #[.int .i64 u,.int .i64 v] 124)) from(bGL _ _).alloc (bGB _) _);have hBm:wr.heap.size≠Bm:=by have:=hWr.ltm;omega
   obtain⟨Bx,hBx⟩:=eX (wr.heap.size);rw[hBx] at hX2 hBm;gi_wp2
   clear hBx;gi_loopw [15] (fun i wr2=>∃(j:Nat) (pre2:List Nat),j<=v/\i=.int .i64 j/\HN w0 Bs Bm Bn #[.int .i64 a0,.int .i64 a1,.int .i64 a2,.slice (some ⟨g,off,none⟩) n c,.int .i64 prev] wr2/\qP Bs wr2 Bx #[.int .i64 u,.int .i64 v] 124/\Hid (pre2.length=mT (PR.take k)+j)/\J pre2 wr2)
    (fun i _=>v-(intOf i).toNat)
   case atStart=>exact⟨0,pre,bGF _,rfl,hW2,hX2,Lh (by rw[hpre.out];rfl),hJ2⟩
   case round =>
    obtain⟨j,pre2,hj,rfl,hW3,hX3,hp2,hJ3⟩:=hrel;by_cases hjv:j<v
    ·have z0:=hX3.at';have y0:wr.cell? ⟨Bx,0,none⟩=some (.int .i64 u):=by simp[World.cell?,z0]
     have hl2:pre2.length<8192:=by rw[hp2.out];omega
     have hwr:IntKind.i64.wrap ((u:Int)+(j:Int))=((u+j:Nat):Int):=q228;have hYY:YieldAt Fence.wide 4 prog l #[.int .i64 ((u+j:Nat):Int)] wr _:=HY.out _ (u+j) wr hJ3 hl2;obtain⟨um,hum⟩:=eX (u+j);rw[hum] at hYY hwr;obtain⟨fn,tmps,assign,body,hy,hRR⟩:=hYY;have HW3:=Lh hW3;have HX3:=Lh hX3;clear z0 hW3 hX3 hJ3;gi_wp2
     refine hRR.mono ?_;rintro e W7 (⟨rfl,hJ7,hk7⟩|⟨ch,rfl,hJp⟩)
     ·have hW7:=HW3.out.keep hk7;have hX7:=hk7.other _ _ _ HX3.out hBm;clear hk7 hy hRR;gi_wp2
      go_roundw
      case rel=>exact⟨j+1,pre2++[um],oM,q12,hW7,hX7,Lh (by rw[bGR,hp2.out];rfl),hJ7⟩
      case measure=>exact q339
     ·exact⟨rfl,.inr ⟨ch,rfl,hJp⟩⟩
    ·obtain rfl:j=v:=oM;gi_wp2
     go_roundw
     case rel=>exact⟨k+1,pre2,oM,q12,hW3,Lh (by rw[hp2.out,HSM.out]),hJ3⟩
     case measure=>exact q339
  ·obtain rfl:k=n:=oM;gi_wp2
   go_end0
   exact .inl ⟨⟨_,rfl⟩,_,trivial,hJr⟩
structure FdI (W:World) (b2 b6 b3:Nat) (xc:Array Value) (s:ByteArray) (a:Nat):Prop where
 st:W.heap[b2]?=some (.cells xc 90 (0,0))
 pl:W.heap[b6]?=some (.cells #[.int .i64 a] 3 (0,0))
 da:W.heap[b3]?=some (.cells #[.string s] 9 (0,0))
 n1:b2≠b6
 n2:b3≠b6
theorem FdI.bes{W W':World}{b2 b6 b3:Nat}{xc:Array Value}{s:ByteArray}{a a':Nat}(h:FdI W b2 b6 b3 xc s a)(hb:Bes b6 W W')(hp:W'.heap[b6]?=some (.cells #[.int .i64 a'] 3 (0,0))):FdI W' b2 b6 b3 xc s a' :=
 ⟨(hb.block _ (bGJ h.st) h.n1).trans h.st,hp,(hb.block _ (bGJ h.da) h.n2).trans h.da,h.n1,h.n2⟩
theorem FdI.cells{W:World}{b2 b6 b3:Nat}{xc:Array Value}{s:ByteArray}{a:Nat}(h:FdI W b2 b6 b3 xc s a):W.cell? ⟨b6,0,none⟩=some (.int .i64 a)/\(∀o,W.frozen? ⟨b6,o,none⟩=false)/\W.cell? ⟨b3,0,none⟩=some (.string s):=by
 refine⟨?_,fun o=>?_,?_⟩
 ·simp[World.cell?,h.pl]
 ·simp[World.frozen?,h.pl]
 ·simp[World.cell?,h.da]
def FdO(W:World)(b6:Nat)(s:ByteArray)(e:Ending)(W':World):Prop:=Bes b6 W W'/\((∃(v:Int) (a:Nat),e=.returned (.int .i64 v)/\a<=s.size/\W'.heap[b6]?=some (.cells #[.int .i64 a] 3 (0,0)))\/e=.panicked [{ v:=.iface 120 (.agg #[]),recovered:=false }])
theorem aKI(W:World)(b2 b6 b3:Nat)(xc:Array Value)(s:ByteArray)(a i n:Nat)(h:FdI W b2 b6 b3 xc s a)(hi:i<=2)(hx:xc[i]?=some (.int .i64 n))(hn:n<=4)(ha:a<=s.size)(hs:s.size<=140737488355327) :
 Calls prog 69 #[.int .i64 i,.pointer (some ⟨b2,0,none⟩),.pointer (some ⟨b6,0,none⟩),.pointer (some ⟨b3,0,none⟩)] W (FdO W b6 s):=by
 have y:W.cell? ⟨b2,i,none⟩=some (.int .i64 n):=by simp[World.cell?,h.st,hx]
 obtain⟨c6,f6,c3⟩:=h.cells;have H:=Lh h;have di:decide ((i:Int)<3)=true:=bGI oM;have hi3:i<3:=oM;have hpl:=h.pl;clear h hx;go_enter func69,ntmps69
 by_cases hn0:n=0
 ·by_cases hi0:i=0
  ·subst hn0;subst hi0;go_wp2_with fail;go_ret
   exact⟨Bes.refl _ _,.inl ⟨1,a,rfl,ha,hpl⟩⟩
  have dn:((n:Int)==0)=true:=by subst hn0;rfl
  have dp:((i:Int)==0)=false:=beq_false_of_ne oM;clear hn0;go_upto_region 4 with fail
  clear dn;exact q304
 ·have dp:((n:Int)==0)=false:=beq_false_of_ne oM;go_upto_region 4 with fail
  exact q304
theorem bDB{P:Program}{row:String}{args:Array Value}{w:World}{n:Nat}{R:Value->World->Prop}(h:Rows P row args w R):RowsIn Fence.wide n P row args w R :=
 fun c cs _=>let ⟨v,w',r,s⟩:=h c cs;⟨v,w',r,stepsIn_wide.2 s⟩
theorem aKJ{P:Program}{l n:Nat}{o:Oper}{a:Act}{w:World}{K K':Act->World->Prop}{Q:Exit->Act->World->Prop}(hnd:∀c,o.op≠.defer c)(hk:∀a w,K a w->K' a w)(h:o.wp P a w K Q) :
 o.wpIn (Fence.wide.inRound l) n P a w K' Q:=by
 unfold Oper.wp at h;unfold Oper.wpIn;rw[show o.semAt (Fence.wide.inRound l).round a.eval=execOp a.eval o from Oper.semAt_some l _ _ hnd];refine⟨fun _ _=>trivial,?_⟩;generalize (execOp a.eval o).run P w=r at *
 cases r with
 |ok x w' =>
  cases x with
  |value v=>exact hk _ _ h
  |skip=>exact hk _ _ h
  |defer d=>exact hk _ _ h
  |enter f args =>
   refine⟨fun hh=>?_,CallsIn.inRound l (callsIn_wide.2 (Calls.mono h (fun e w'' he=>?_)))⟩
   ·simp[Fence.wide] at hh
   ·cases e with
    |returned v=>exact hk _ _ he
    |panicked ch=>exact he
    |outgrown=>exact he
  |row r args =>
   refine⟨fun hh=>?_,bDB (Rows.mono h (fun v w'' he=>hk _ _ he))⟩;simp[Fence.wide] at hh
  |_=>exact h.elim
 |halt x w' =>
  cases x with
  |panic v=>exact h
  |_=>exact h.elim
theorem kV{P:Program}{md:Region.Mode}{ops:Array Oper}{Q:Exit->Act->World->Prop}{l n:Nat}(hnd:∀(o:Oper),o∈ops->∀c,o.op≠.defer c)(hlo:¬LetsOut Q) :
 ∀(fuel:Nat) (listed:Array Bool) (a:Act) (w:World),wpAny P md ops Q fuel listed a w->wpAnyIn (Fence.wide.inRound l) n P md ops Q fuel listed a w
 |0,_,_,_,h=>h
 |fuel+1,listed,a,w,h=>by
  refine⟨h.1,fun i hi=>?_⟩;have h2:=h.2 i hi;unfold wpOp at h2;unfold wpOpIn;split
  ·rename_i ho
   rw[ho] at h2;exact kV hnd hlo fuel _ _ _ h2
  ·rename_i o ho
   rw[ho] at h2;dsimp only at h2;have hm:o∈ops:=Array.mem_of_getElem? ho;split
   ·rename_i hw
    rw[bGV hw] at h2;rcases h2 with h2|h2
    ·exact aKJ (hnd o hm) (fun a w h=>kV hnd hlo fuel _ a w h) h2
    ·exact absurd h2.2 hlo
   ·rename_i hw
    rw[bGU hw] at h2;exact⟨fun _ _=>trivial,kV hnd hlo fuel _ _ _ h2⟩
theorem uK{P:Program}{ops:Array Oper}{Q:Exit->Act->World->Prop}{l n id:Nat}{a:Act}{w:World}(hm:P.follows .mixedOrders=true)(hnd:∀(o:Oper),o∈ops->∀c,o.op≠.defer c)(hlo:¬LetsOut Q)
 (h:wpAny P .any ops Q ops.size (Array.replicate ops.size false) a w.drew):(Code.region id ops true).wpIn (Fence.wide.inRound l) n P Q a w :=
 wpIn_region_any hm (kV hnd hlo _ _ _ _ h)
def wpG(G:FuncId->Prop)(P:Program)(c:Code)(Q:Exit->Act->World->Prop)(a:Act)(w:World):Prop :=
 ∀(b:Frame) (k:List Item) (cs:List Frame),b.roundOf=none->G b.fn ->
  ∃e a' w',Q e a' w'/\ArrivesIn (Machine.fenced P Fence.wide) P (lone (b.atR a (.code c::k)) cs w) b k cs e a' w'
variable {G:FuncId->Prop} {P:Program} {Q:Exit->Act->World->Prop} {a:Act} {w:World}
theorem aYQ{n:Nat}{c:Code}(h:c.wpIn Fence.wide n P Q a w):wpG G P c Q a w:=fun b k cs hro _=>h b k cs hro trivial (room_wide _)
theorem aNI{x y:Code}(h:wpG G P x (Exit.then (wpG G P y Q) Q) a w):wpG G P (Code.seq x y) Q a w:=by
 intro b k cs hro hb;have h0:=fenced_wide P (lone (b.atR a (.code (.seq x y)::k)) cs w);obtain⟨e,a₁,w₁,hq,harr⟩:=h b (.code y::k) cs hro hb;cases e with
 |normal =>
  obtain⟨e₂,a₂,w₂,hq₂,harr₂⟩:=hq b k cs hro hb;exact⟨e₂,a₂,w₂,hq₂,.of_steps (.head h0 stepR_seq harr) harr₂⟩
 |_=>exact⟨_,a₁,w₁,hq,.of_steps (.one h0 stepR_seq) (.pass (x:=.code y) rfl (fun _ _=>.inl sI) harr)⟩
theorem aGC(n:Nat){x y:Code}(h:∀K:Act->World->Prop,(∀a w,wpG G P y Q a w->K a w)->x.wpIn Fence.wide n P (Exit.then K Q) a w):wpG G P (Code.seq x y) Q a w:=aNI (aYQ (h _ fun _ _ h=>h))
theorem aSC{id:Nat}{c:Code}(h:wpG G P c (Exit.inBlock id Q) a w):wpG G P (Code.block id c) Q a w:=by
 intro b k cs hro hb;have h0:=fenced_wide P (lone (b.atR a (.code (.block id c)::k)) cs w);obtain⟨e,a₁,w₁,hq,harr⟩:=h b (.inBlock id::k) cs hro hb;cases e with
 |normal=>exact⟨.normal,a₁,w₁,hq,.head h0 stepR_block (StepsIn.trans harr (.one (fenced_wide P _) stepR_inBlock))⟩
 |exit id' =>
  by_cases hid:id'=id
  ·simp only[Exit.inBlock,hid,if_true] at hq;exact⟨.normal,a₁,w₁,hq,.head h0 stepR_block (harr.1 k (by simp[exitTo,hid]))⟩
  ·simp only[Exit.inBlock,hid,if_false] at hq;have this:(id==id')=false:=by simp;exact fun h=>hid h.symm
   have hx:exitTo id' (.inBlock id::k)=exitTo id' k:=by simp[exitTo,this]
   exact⟨.exit id',a₁,w₁,hq,fun k' hk=>.head h0 stepR_block (harr.1 k' (by rw[hx];exact hk)),
    fun hr' hk=>let ⟨k₁,h1,h2⟩:=harr.2 hr' (by rw[hx];exact hk);⟨k₁,h1,.head h0 stepR_block h2⟩⟩
 |goto l=>exact⟨_,a₁,w₁,hq,.of_steps (.one h0 stepR_block) ⟨fun k' hk=>harr.1 k' (by simpa[gotoIn] using hk),fun hr hk=>harr.2 hr (by simpa[gotoIn] using hk)⟩⟩
 |ret=>exact q475
 |panic ch=>exact q475
 |outgrown=>exact q475
theorem pY{n:Nat}{f:FuncId}{fn:Func}{c:Code}{args:Array Value}{R:Ending->World->Prop}(hG:G f)(hf:P.funcs[f]?=some fn)(hb:fn.body=some c)
 (h:wpG G P c (bodyPostM Fence.wide n P fn R) { tmps:=args++Array.replicate (fn.ntmps-args.size) undef,defers:=[] } w):Calls P f args w R:=by
 refine(callsIn_wide (n:=n)).1 ⟨trivial,fun cs hr=>?_⟩;let b:Frame:={ (default:Frame) with fn:=f,kind:=.normal,roundOf:=none }
 have henter:Frame.enter P f args .normal =
  b.atR { tmps:=args++Array.replicate (fn.ntmps-args.size) undef,defers:=[] } [.code c]:=by
  simp[Frame.enter,Frame.atR,hf,hb,b]
 have hF:Fence.wide.fn f:=trivial;obtain⟨e,a',w',hq,harr⟩:=h b [] cs rfl hG;rw[<-henter] at harr;cases e with
 |normal =>
  obtain⟨e',w'',fr',hR,hs,hfn,hl⟩:=leaves_stepsInM a'.defers .returning w' { b.atR a' [] with mode:=.returning } cs rfl rfl rfl hf rfl hF hr hq;exact⟨e',w'',fr',hR,ComesIn.of_steps (StepsIn.trans harr (.one (fenced_wide P _) (stepR_end rfl))) hs,hfn,hl⟩
 |ret =>
  obtain⟨todo,hs₀⟩:=harr.1 rfl;obtain⟨e',w'',fr',hR,hs,hfn,hl⟩:=leaves_stepsInM a'.defers .returning w' { b.atR a' todo with mode:=.returning } cs rfl rfl rfl hf rfl hF hr hq;exact q555
 |panic chain =>
  obtain⟨todo,hs₀⟩:=harr;obtain⟨e',w'',fr',hR,hs,hfn,hl⟩:=leaves_stepsInM a'.defers (.panicking chain) w' { b.atR a' todo with mode:=.panicking chain } cs rfl rfl rfl hf rfl hF hr hq;exact q555
 |exit id=>exact hq.elim
 |goto l=>exact hq.elim
 |outgrown=>exact⟨.outgrown,w',b,hq,harr.resolve_left (by simp[b]),rfl,trivial⟩
theorem xX{n:Nat}{g:Operand}{ps:Array Tmp}{assign body:Code}(hfns:∀fn,G fn->∃x,P.funcs[fn]?=some x)
 (h:∀fn,Fence.wide.fn fn->(∃x,P.funcs[fn]?=some x)->∃(l:Nat) (mark:List Deferred) (w₁:World) (d:Deferred) (w₁':World) (f:FuncId) (args:Array Value) (w₂:World),
  (Instr.enterLoop fn a.tmps ps assign body Fence.wide.round).run P w=.ok (l,mark) w₁ /\
  (resolve a.eval (rangeCall g l) 0).run P w₁=.ok d w₁' /\
  (∀f',Target.leads P w₁' d.target d.args=some f'->Fence.wide.fn f') /\
  (invoke d.target d.args).run P w₁'=.ok (.enter f args) w₂ /\
  (Fence.wide.depth.isSome=true->1<=n) /\
  CallsIn Fence.wide (n-1) P f args w₂ (rangePost Fence.wide n P l Q { a with defers:=mark++a.defers })) :
 wpG G P (Code.rangeFunc g ps assign body) Q a w:=by
 intro b k cs hro hb;obtain⟨l,mark,w₁,d,w₁',f,args,w₂,he,hres,-,hinv,-,hF,hcall⟩:=h b.fn trivial (hfns _ hb);rw[show Fence.wide.round=none from rfl,<-hro] at he;have h0:=fenced_wide P (lone (b.atR a (.code (.rangeFunc g ps assign body)::k)) cs w);have henter:=stepR_rangeFunc (P:=P) (b:=b) (a:=a) (k:=k) (cs:=cs) (w:=w) he hres hinv;obtain⟨e,w₃,fr,hR,hsteps,hfn,hleave⟩:=hcall (b.atR { a with defers:=mark++a.defers } (.inRangeFunc l::k)::cs) (room_wide _);cases e with
 |outgrown =>
  obtain⟨a₀,w₀,hq⟩:=hR;exact⟨.outgrown,a₀,w₀,hq,.inr (Outgrown.of_steps (.one henter) hsteps)⟩
 |returned v =>
  obtain⟨jump,w₄,hend,hj⟩:=hR;have sback:StepsIn (Machine.fenced P Fence.wide) P (lone (b.atR a (.code (.rangeFunc g ps assign body)::k)) cs w) (lone (b.atR { a with defers:=mark++a.defers } ((jump.map Item.code).toList++k)) cs w₄):=by
   refine .head h0 henter (StepsIn.trans hsteps (.head (fenced_wide P _) ?_ (.one (fenced_wide P _) (stepR_endRangeFunc hend))));rw[<-finish_atR_inRangeFunc l v];exact step_leave_returned hleave
  cases jump with
  |none=>exact⟨.normal,_,w₄,hj,sback⟩
  |some c =>
   obtain⟨e',a'',w₅,hq,harr⟩:=hj b k cs hro trivial (room_wide _);exact⟨e',a'',w₅,hq,.of_steps sback harr⟩
 |panicked chain =>
  refine⟨.panic chain,_,w₃,hR,.inRangeFunc l::k,.head h0 henter (StepsIn.trans hsteps (.one (fenced_wide P _) ?_))⟩;rw[<-Frame.raise_atR];exact step_leave_panicked hleave
def mE:Enc (Int×Int×Int×Int):=⟨4,fun x=>[.int .i64 x.1,.int .i64 x.2.1,.int .i64 x.2.2.1,.int .i64 x.2.2.2],fun _=>rfl,fun x u hu=>by simp only[List.mem_cons,List.not_mem_nil,or_false] at hu;rcases hu with rfl|rfl|rfl|rfl<;>rfl⟩
theorem rP{w:World}{b:Nat}{t:TypeId}{v0 v1 v2 v3:Value}(h:w.heap[b]?=some (.cells #[v0,v1,v2,v3] t (0,0))) :
 w.cell? ⟨b,0,none⟩=some v0/\w.cell? ⟨b,1,none⟩=some v1/\w.cell? ⟨b,2,none⟩=some v2/\w.cell? ⟨b,3,none⟩=some v3/\∀o,w.frozen? ⟨b,o,none⟩=false:=by
 refine⟨?_,?_,?_,?_,fun o=>?_⟩<;>simp[World.cell?,World.frozen?,h]
def bDC(e:Ending):Prop:=∃b:Bool,e=.returned (.bool b)
theorem bDC.mk(b:Bool):bDC (.returned (.bool b)):=⟨b,rfl⟩
theorem aYR(N kd a g:Int)(w:World):Calls prog 103 #[.agg #[.int .i64 N,.int .i64 kd,.int .i64 a,.int .i64 g]] w fun e w'=>bDC e/\Below w.heap.size w w':=by
 go_enter func103,ntmps103
 go_wp2;all_goals go_ret
 all_goals exact⟨bDC.mk _,bel⟩
theorem aYS{w:World}{p:Option Addr}{n c:Nat}{xs:List (Int×Int×Int×Int)}(h:bC mE w (.slice p n c) xs)(k:Nat)(hk:k<xs.length) :
 ∃b off,p=some ⟨b,off,none⟩/\b<w.heap.size/\w.cell? ⟨b,off+k*4,none⟩=some (.int .i64 xs[k].1)/\w.cell? ⟨b,off+k*4+1,none⟩=some (.int .i64 xs[k].2.1)/\w.cell? ⟨b,off+k*4+2,none⟩=some (.int .i64 xs[k].2.2.1)/\w.cell? ⟨b,off+k*4+3,none⟩=some (.int .i64 xs[k].2.2.2):=by
 exact q459
theorem aKK(v:Value)(l:List (Int×Int×Int×Int))(w:World)(hv:bC mE w v l)(hl:l.length<=8192) :
 Calls prog 71 #[v] w fun e w'=>(∃z:Int,e=.returned (.int .i64 z))/\Below w.heap.size w w':=by
 obtain⟨p,cp,rfl,_⟩:=id hv;obtain⟨n,hn⟩:=eX (l.length);have HV:=Lh hv;have HN:=Lh hn;have hn1:n<=8192:=oM;rw[hn] at HV;rw[hn];clear hv hn hl;go_enter func71,ntmps71
 go_wp2;go_loopw [7] (fun i wr=>∃k:Nat,k<=n/\i=.int .i64 k/\Below w.heap.size w wr) (fun i _=>n-(intOf i).toNat)
 case atStart=>exact⟨0,bGF _,rfl,bGL _ _⟩
 case round =>
  obtain⟨k,hk,rfl,hbr⟩:=hrel;have hzr:=hbr.size;by_cases hlk:k<n
  ·have hvr:bC mE wr (.slice p n cp) l:=HV.out.below hbr;have hk':k<l.length:=by rw[HN.out];exact hlk
   obtain⟨b,off,rfl,hblt,a0,a1,a2,a3⟩:=aYS hvr k hk';obtain⟨N,hNe⟩:=eX (l[k].1);obtain⟨kd,hke⟩:∃N,l[k].2.1=N:=⟨_,rfl⟩
   obtain⟨a,hae⟩:∃N,l[k].2.2.1=N:=⟨_,rfl⟩
   obtain⟨g,hge⟩:∃N,l[k].2.2.2=N:=⟨_,rfl⟩
   have HFT:=Lh (fun W=>aYR N kd a g W);rw[hNe] at a0;rw[hke] at a1;rw[hae] at a2;rw[hge] at a3;have hbne:¬b=wr.heap.size:=oM;cases k with
   |zero =>
    clear hvr hNe hke hae hge;simp only[Nat.zero_mul,Nat.add_zero] at a0 a1 a2 a3;by_cases c0:N<0
    ·exact q593
    have d0:decide (N<0)=false:=bGH c0;by_cases c1:8191<N
    ·exact q592
    have d1:decide (8191<N)=false:=bGH c1;by_cases c2:kd<0
    ·exact q591
    have d2:decide (kd<0)=false:=bGH c2;by_cases c3:2<kd
    ·exact q590
    have d3:decide (2<kd)=false:=bGH c3;clear c0 c1 c2 c3;go_wp2_with fail;refine(HFT.out _).mono ?_;rintro e w1 ⟨⟨fb,rfl⟩,hb1⟩;have hz1:=hb1.size;simp at hz1;have X1:=(hb1.block _ sI).trans (aA wr (.cells #[.int .i64 N,.int .i64 kd,.int .i64 a,.int .i64 g] 39) _ rfl);obtain⟨z0,z1,z2,z3,zf⟩:=rP X1;have hbw1:Below w.heap.size w w1:=hbr.trans (((bGL _ wr).alloc (bGB _) (.cells #[.int .i64 N,.int .i64 kd,.int .i64 a,.int .i64 g] 39)).trans (hb1.mono sI) |>.mono hbr.size);have hbz1:Below wr.heap.size wr w1:=((bGL _ wr).alloc (bGB _) (.cells #[.int .i64 N,.int .i64 kd,.int .i64 a,.int .i64 g] 39)).trans (hb1.mono sI);clear X1 hb1 d0 d1 d2 d3;cases fb with
    |false =>
     exact q535
    |true =>
     go_wp2_with fail;go_region
     go_wp2;go_region
     go_wp2;go_roundw
     case rel=>exact⟨1,oM,q12,hbw1.drew.drew⟩
     case measure=>exact q339
   |succ j =>
    have hj':j<l.length:=oM;obtain⟨b',off',e',_,q0,_⟩:=aYS hvr j hj';cases e';obtain⟨M,hMe⟩:∃N,l[j].1=N:=⟨_,rfl⟩
    rw[hMe] at q0;have wj:IntKind.i64.wrap (j:Int)=j:=IntWalk.i64_in _ oM;have gj:decide (0<(j:Int)+1)=true:=by rw[decide_eq_true_eq];omega
    clear hvr hNe hke hae hge hMe;by_cases c0:N<0
    ·exact q593
    have d0:decide (N<0)=false:=bGH c0;by_cases c1:8191<N
    ·exact q592
    have d1:decide (8191<N)=false:=bGH c1;by_cases c2:kd<0
    ·exact q591
    have d2:decide (kd<0)=false:=bGH c2;by_cases c3:2<kd
    ·exact q590
    have d3:decide (2<kd)=false:=bGH c3;clear c0 c1 c2 c3;go_wp2_with fail;refine(HFT.out _).mono ?_;rintro e w1 ⟨⟨fb,rfl⟩,hb1⟩;have hz1:=hb1.size;simp at hz1;have X1:=(hb1.block _ sI).trans (aA wr (.cells #[.int .i64 N,.int .i64 kd,.int .i64 a,.int .i64 g] 39) _ rfl);obtain⟨z0,z1,z2,z3,zf⟩:=rP X1;have hbw1:Below w.heap.size w w1:=hbr.trans (((bGL _ wr).alloc (bGB _) (.cells #[.int .i64 N,.int .i64 kd,.int .i64 a,.int .i64 g] 39)).trans (hb1.mono sI) |>.mono hbr.size);have hbz1:Below wr.heap.size wr w1:=((bGL _ wr).alloc (bGB _) (.cells #[.int .i64 N,.int .i64 kd,.int .i64 a,.int .i64 g] 39)).trans (hb1.mono sI);clear X1 hb1 d0 d1 d2 d3;cases fb with
    |false =>
     exact q535
    |true =>
     go_wp2_with fail;have pj:w1.cell? ⟨b,off+j*4,none⟩=some (.int .i64 M):=(bGO (a:=⟨b,off+j*4,none⟩) (hbz1.block b hblt)).trans q0;by_cases c4:N=M
     ·have d4:decide (N=M)=true:=bGI c4;have d4':(N==M)=true:=by simpa using c4
      clear c4;go_region
      go_wp2_with fail;go_ret
      exact⟨⟨_,rfl⟩,hbw1.drew⟩
     have d4:decide (N=M)=false:=bGH c4;by_cases c5:N<M
     ·have d5:decide (N<M)=true:=bGI c5;clear c5;go_region
      go_wp2;go_region
      go_wp2_with fail;go_ret
      exact⟨⟨_,rfl⟩,hbw1.drew.drew⟩
     have d5:decide (N<M)=false:=bGH c5;clear c5;go_region
     go_wp2;go_region
     go_wp2;go_roundw
     case rel=>exact⟨j+2,oM,q12,hbw1.drew.drew⟩
     case measure=>exact q339
  ·go_wp2;go_ret
   exact⟨⟨_,rfl⟩,hbr⟩
end Go.Proofs.YtdjpkgccakgkbaaGreatDoor
