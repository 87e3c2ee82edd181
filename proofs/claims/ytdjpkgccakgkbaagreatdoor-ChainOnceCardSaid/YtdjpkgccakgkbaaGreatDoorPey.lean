/- Parts of the proof: CxF CxG CxH CxI. -/
import Derived.Test.YtdjpkgccakgkbaaGreatDoorPex
import Derived.Test.YtdjpkgccakgkbaaGreatDoorPem
set_option linter.all false
set_option maxRecDepth 100000
set_option maxHeartbeats 8000000
section
variable{p:Prop}
theorem q238(h:p:=by simp[World.cell?,HS.out]):p:=h
theorem q239(h:p:=by obtain⟨pl0,-,hf⟩:=HF.out;exact⟨pl,hpl,hf.bes hb hc⟩):p:=h
theorem q240(h:p:=by rw[<-hg];exact HB.out.size):p:=h
theorem q241(h:p:=by rw[<-hw9,aC (aC (aC (aC HG.out.1)))];rfl):p:=h
theorem q243(h:p:=by rw[World.size_alloc] at hob;exact hob):p:=h
theorem q244(h:p:=by rw[bGR];exact hlt):p:=h
theorem q245(h:p:=by rw[bGR,bGR,hxl];rfl):p:=h
theorem q246(h:p:=by have:=HG.out.2;omega):p:=h
theorem q247(h:p:=by rw[hH];exact hbE.trans (belowK_b (w:=w) oM _ D _ _ oM hK2 rfl rfl)):p:=h
theorem q274(h:p:=by
 refine wpAnyH_ready (rs:=[9]) kR sI ?_;refine AllReadyH.cons rfl (fun K hK=>?_) ?_
 ·skip
  obtain⟨z0,z1,z2,z3,zf⟩:=rP HG.out.1;go_simp;obtain⟨w9,hw9⟩:=eX ((((w7.setCell ⟨g,0,none⟩ (.int .i64 x)).setCell ⟨g,1,none⟩ (.int .i64 x1)).setCell ⟨g,2,none⟩ (.int .i64 x2)).setCell ⟨g,3,none⟩ (.int .i64 x3));rw[hw9];have hgW:=HG.out.2;have HG9:w9.heap[g]?=some (.cells #[.int .i64 x,.int .i64 x1,.int .i64 x2,.int .i64 x3] 39 (0,0)):=q241;have hO9:∀b,b≠g->w9.heap[b]?=w7.heap[b]?:=by
   intro b hb;rw[<-hw9];iterate 4 rw[bGK _ _ _ _ (by show b≠g;exact hb)]
  have HB9:Bes (H+1+1+1) W w9:=by
   rw[<-hw9]
   (repeat' (first|exact HB.out|(with_reducible refine Bes.setCell_new ?_ ?_ _)|exact hgW))
  have HS9:=(hO9 (H+1+1+1+1) oM).trans HS.out;have HF9:∃pl,pl<=s.size/\FdI w9 H (H+1+1+1) (H+1) #[.int .i64 a0,.int .i64 a1,.int .i64 a2,.slice p n c,.int .i64 prev] s pl:=by
   obtain⟨pl0,h1,hf⟩:=HF.out;exact⟨pl0,h1,⟨(hO9 _ oM).trans hf.st,(hO9 _ oM).trans hf.pl,(hO9 _ oM).trans hf.da,hf.n1,hf.n2⟩⟩
  clear hw9 hO9 z0 z1 z2 z3 zf HB HS HF HG;refine hK.out _ _ (by simp[World.cell?,HS9]) (fun hS=>?_);clear hK K hS;refine wpAnyH_done kR ?_ _;have hl9:=HB9.size;obtain⟨v,xs,hxl,hv0,hrow0⟩:=HRow.out;have hv:Boxed w9 (H+1+1) 27 v:=(HB9.block _ oM oM).trans hv0;have hrow:w9.ownsRow H 39 4 v pre.length (mE.row xs):=by
   refine hrow0.kept (row:=some (H+1+1+1)) ⟨HB9.os,HB9.tape,HB9.output,HB9.size,fun k h1 h2=>HB9.block k h1 (fun e=>h2 (by rw[e]))⟩ ?_;rcases hrow0.2 with⟨rfl,_⟩|⟨g1,cap,cur,rfl,_,hgb,_⟩
   ·exact .inl rfl
   ·refine .inr (fun e=>?_);have e2:g1=H+1+1+1:=q242;rw[e2,HC3.out] at hgb;cases hgb
  have hN:∀b cur t,w9.heap[b]?=some (.cells cur t (0,0))->t≠39->b≠H+1+1->qP (H+1+1) w9 b cur t:=fun b cur t h1 h2 h3=>⟨h1,h3,bDD hv hrow h1 h2⟩
  obtain⟨v0',v1',v2',v3',vf'⟩:=rP HG9;have hc:=hv.cell;have HL:=Lh hlt;have HLW:=Lh hHW;gi_wp2_with (gi_at_builtin;refine wpListIn_append_own_at _ rfl _ _ 27 rfl H 39 i0 (.agg #[.int .i64 0,.int .i64 0,.int .i64 0,.int .i64 0]) 4 32 underlying27 hi hzA hzB hzC rfl dC _ _ _ rfl (hrow.alloc _) ⟨w9.heap.size,0,none⟩ 1 1 (mE.cells ((x:Int),x1,x2,x3)) rfl rfl (World.news_of_block (cs:=(mE.cells ((x:Int),x1,x2,x3)).toArray) (t:=39) (fr:=(0,0)) (bGP w9 _)) (mE.one _) q26 oM sO ?_;intro v' w1 hown' hgrow _ hob;obtain⟨g',cap',rfl⟩:=ownsRow_succ hown';obtain⟨hv1,hv2,hr2,hk2,hb2⟩:=hv.appended dC hrow oM oM hown' hgrow;have hc1:=hv1.cell;have hf1:=hv1.frozen)
  have hlt1:∀b,(Value.slice (some ⟨g',0,none⟩) (pre.length+1) cap').ownBlock=some b->b<w1.heap.size:=by
   intro b e;rcases hown'.2 with⟨h,_⟩|⟨g2,cap,cur,h,_,hgb,_⟩
   ·cases h
   ·cases h;cases e;exact bGJ hgb
  have hK9:=aDW hv hv2 hgrow q243 hlt1 hb2;refine⟨(aYT HC3.out HB9).trans hk2,(mD.of_bes oM oM oM oM HB9).trans (mD.of_C hK9),q244,HBL.out.trans ((rQ HB9 oM oM).trans hb2),?_,(hK9.other _ _ _ (hN _ _ _ HS9 dC oM)).at',⟨_,xs++[((x:Int),x1,x2,x3)],q245,hv2,?_⟩⟩
  ·obtain⟨pl,h1,hf⟩:=HF9;exact⟨pl,h1,⟨(hK9.other _ _ _ (hN _ _ _ hf.st dC oM)).at',(hK9.other _ _ _ (hN _ _ _ hf.pl dC oM)).at',(hK9.other _ _ _ (hN _ _ _ hf.da dC oM)).at',hf.n1,hf.n2⟩⟩
  ·rw[bGR,mE.row_append];simpa[Enc.row] using hr2
 exact AllReadyH.nil):p:=h
theorem q323(h:p:=by exact⟨rfl,aYT HC3.out (HB.out.trans hb),rfl,HBL.out.trans (rQ (HB.out.trans hb) oM oM)⟩):p:=h
theorem q357(h:p:=by
 obtain⟨pl0,h1,hf⟩:=HF.out;exact⟨pl0,h1,hf.bes ((Bes.refl _ _).alloc _) ((bGM _ _ _ (bGJ hf.pl)).trans hf.pl)⟩):p:=h
theorem q451(h:p:=by
 go_wp2_with fail;go_ret
 exact⟨aYU.mk _,hbw0⟩):p:=h
theorem q547(h:p:=by
 go_ret
 exact⟨aYU.mk _,bel⟩):p:=h
theorem q560(h:p:=by
 cases c₀;simp_all [bodyPostS,results,results62]):p:=h
theorem q567(h:p:=by
 refine hK.out _ _ q238 (fun hS=>?_);clear hK K;refine wpAnyH_ready (rs:=[6]) kR sI ?_;refine AllReadyH.cons rfl (fun K hK=>?_) ?_
 ·skip
  go_simp;go_at_call 69
  (with_reducible refine(HFD.out 2 _ (2:Int) sI dC rfl h2 _ HF.out).mono ?_)
  rintro e w7 ⟨hb,⟨x3,pl,rfl,hpl,hc⟩|rfl⟩;rotate_left
  ·exact q323
  replace HB:=Lh (HB.out.trans hb);replace HS:=Lh ((hb.block _ (bGJ HS.out) oM).trans HS.out);replace HF:=Lh (show∃pl,pl<=s.size/\FdI w7 H (H+1+1+1) (H+1) #[.int .i64 a0,.int .i64 a1,.int .i64 a2,.slice p n c,.int .i64 prev] s pl from q239);have HG:=Lh (bGQ ((hb.block g (bGJ HG.out.1) q246).trans HG.out.1) HG.out.2);clear hb hc hpl hS;refine hK.out _ _ q238 (fun hS=>?_);clear hK K;refine wpAnyH_take (i:=7) (v:=.agg #[.int .i64 x,.int .i64 x1,.int .i64 x2,.int .i64 x3]) rfl kR kR kR (fun _ _ _ h=>h) (Or.inl ⟨by rfl,fun w' hS=>q178⟩) hS ?_;exact q274
 exact AllReadyH.nil):p:=h
theorem q601(h:p:=by
 refine hK.out _ _ q238 (fun hS=>?_);clear hK K;refine wpAnyH_ready (rs:=[4]) kR sI ?_;refine AllReadyH.cons rfl (fun K hK=>?_) ?_
 ·skip
  go_simp;go_at_call 69
  (with_reducible refine(HFD.out 1 _ (1:Int) sI dC rfl h1 _ HF.out).mono ?_)
  rintro e w7 ⟨hb,⟨x2,pl,rfl,hpl,hc⟩|rfl⟩;rotate_left
  ·exact q323
  replace HB:=Lh (HB.out.trans hb);replace HS:=Lh ((hb.block _ (bGJ HS.out) oM).trans HS.out);replace HF:=Lh (show∃pl,pl<=s.size/\FdI w7 H (H+1+1+1) (H+1) #[.int .i64 a0,.int .i64 a1,.int .i64 a2,.slice p n c,.int .i64 prev] s pl from q239);have HG:=Lh (bGQ ((hb.block g (bGJ HG.out.1) q246).trans HG.out.1) HG.out.2);clear hb hc hpl hS;exact q567
 exact AllReadyH.nil):p:=h
end
namespace Go.Proofs.YtdjpkgccakgkbaaGreatDoor
open Go.Proofs.Tryz
open Go.RowKit Go.Shelf Fo
attribute [local go_sem] Oper.semAt_some
theorem aGD(a0 a1 a2:Int)(p:Option Addr)(n c:Nat)(prev:Int)(w:World) :
 CallsIn Fence.wide 5 prog 70 #[.agg #[.int .i64 a0,.int .i64 a1,.int .i64 a2,.slice p n c,.int .i64 prev]] w fun e w'=>e=.returned (.func (.func 102) #[] #[.pointer (some ⟨w.heap.size,0,none⟩)]) /\
  w'=w.alloc (.cells #[.int .i64 a0,.int .i64 a1,.int .i64 a2,.slice p n c,.int .i64 prev] 90):=by
 have hmf:∀(fn:Fn) (first cap:Array Value) (w:World),(Instr.makeFunc fn first cap).run prog w=.ok (.func fn first cap) w:=fun _ _ _ _=>rfl
 refine callsIn_of_wp func70 rfl trivial ?_ rfl;simp only[ntmps70,List.size_toArray,bHA,List.length_nil,Nat.reduceAdd,Nat.reduceSub,Array.replicate_succ,Array.replicate_zero,List.push_toArray,List.append_toArray,List.nil_append,List.cons_append];gi_wp2
 exact q393
theorem Tryz.infoSl:(prog.info? 39).map (fun i=>(i.zero,i.size,i.bytes))=some (some (.agg #[.int .i64 0,.int .i64 0,.int .i64 0,.int .i64 0]),4,32):=kR
structure RI (w:World) (H:Nat) (xc:Array Value) (s:ByteArray) (FN:Value) (m:Nat) (W:World):Prop where
 le:m<=8192
 bel:Below H w W
 fd:∃pl,pl<=s.size/\FdI W H (H+1+1+1) (H+1) xc s pl
 fnb:W.heap[H+1+1+1+1]?=some (.cells #[FN] 133 (0,0))
 row:∃v,∃xs:List (Int×Int×Int×Int),xs.length=m/\Boxed W (H+1+1) 27 v/\W.ownsRow H 39 4 v m (mE.row xs)
theorem mU{A B:World}{row:Option Nat}{b:Nat}{c:Array Value}{t:TypeId}{fr:Nat×Nat}(h:A.heap[b]?=some (.cells c t fr))(hg:A.grownBy B row)(hrow:∀r,row=some r->∃o:Obj,A.heap[r]?=some o/\o.isCells=false):B.heap[b]?=some (.cells c t fr) :=
 (grownBy_keeps_cells hg hrow h rfl).trans h
theorem RI.own{w:World}{H B:Nat}{xc:Array Value}{s:ByteArray}{FN:Value}(hw:H<=w.heap.size)(hB:H<=B):OwnFrom B (fun(pre:List Nat) W=>RI w H xc s FN pre.length W):=by
 intro pre X Y row h hg hr;have hr2:∀r,row=some r->∃o:Obj,X.heap[r]?=some o/\o.isCells=false:=fun r e=>(hr r e).2
 obtain⟨pl,hpl,hf⟩:=h.fd;obtain⟨v,xs,hx,hv,ho⟩:=h.row;refine⟨h.le,ownFrom_below hw hB () X Y row h.bel hg hr,⟨pl,hpl,⟨mU hf.st hg hr2,mU hf.pl hg hr2,mU hf.da hg hr2,hf.n1,hf.n2⟩⟩,mU h.fnb hg hr2,?_⟩;obtain⟨v',h1,h2,-⟩:=holdsRow_own H (H+1+1) 27 39 4 (fun _:Unit=>pre.length) (fun _=>mE.row xs) (fun _ _=>True) () X Y row ⟨v,hv,ho,trivial⟩ hg hr2;exact⟨v',xs,hx,h1,h2⟩
theorem bDD{W:World}{Bs H m b:Nat}{T t e:TypeId}{v:Value}{cur:Array Value}{ys:List Value}(hv:Boxed W Bs T v)(hrow:W.ownsRow H e 4 v m ys)(hb:W.heap[b]?=some (.cells cur t (0,0)))(hne:t≠e):¬nP Bs W b:=fun h=>by
 have h1:=(nQ hv b).1 h;rcases hrow.2 with⟨rfl,_⟩|⟨g1,cap,cur1,rfl,_,hgb,_⟩
 ·cases h1
 ·have e2:g1=b:=by simpa[Value.ownBlock] using h1
  rw[e2,hb] at hgb;cases hgb;exact hne rfl
theorem aYT{r:Nat}{W W':World}{c:Array Value}{t:TypeId}{fr:Nat×Nat}(h:W.heap[r]?=some (.cells c t fr))(hb:Bes r W W'):KeepsOthers W W' :=
 ⟨hb.size,fun k o hk ho=>(hb.block k (Array.getElem?_eq_some_iff.1 hk).1 (fun e=>by subst e;rw[h] at hk;cases hk;cases ho)).trans hk⟩
theorem rQ{n₀ r:Nat}{W W':World}(hb:Bes r W W')(h:n₀<=r)(h2:n₀<=W.heap.size):Below n₀ W W':=⟨hb.os,hb.tape,hb.output,hb.size,fun k hk=>hb.block k oM oM⟩
def RwO(w:World)(e:Ending)(w':World):Prop:=Below w.heap.size w w'/\((∃(p:Option Addr) (n c:Nat),e=.returned (.slice p n c))\/e=.panicked [{ v:=.iface 120 (.agg #[]),recovered:=false }])
theorem aSD(w:World)(a0 a1 a2:Nat)(p:Option Addr)(n c:Nat)(prev:Int)(PR:List (Nat×Nat))(s:ByteArray)(hn:PR.length=n)(hP:fZ 0 w (.slice p n c) PR)(hPI:oV PR)(hlen:n<=1000000)
 (h0:a0<=4) (h1:a1<=4) (h2:a2<=4) (hs:s.size<=140737488355327) :
 Calls prog 39 #[.agg #[.int .i64 a0,.int .i64 a1,.int .i64 a2,.slice p n c,.int .i64 prev],.string s] w (RwO w):=by
 have hmf:∀(fn:Fn) (first cap:Array Value) (w:World),(Instr.makeFunc fn first cap).run prog w=.ok (.func fn first cap) w:=fun _ _ _ _=>rfl
 have hsf:∀(m:Mode) (ad:Addr) (fn:Fn) (f c:Array Value) (w:World),(store ad (.func fn f c) m).run prog w=stored prog w ad (.func fn f c) m:=fun m ad fn f c w=>run_store prog w ad _ m rfl
 refine pY (n:=6) (G:=fun f=>f=39) rfl func39 rfl ?_;simp only[ntmps39,List.size_toArray,bHA,List.length_nil,Nat.reduceAdd,Nat.reduceSub,Array.replicate_succ,Array.replicate_zero,List.push_toArray,List.append_toArray,List.nil_append,List.cons_append];iterate 4 (refine aGC 6 (fun K hK=>?_);gi_wp2)
 refine aNI ?_;refine aGC 6 (fun K hK=>?_);gi_wp2_with (refine⟨trivial,?_⟩;gi_at_call 70;refine(aGD _ _ _ _ _ _ _ _).mono ?_;rintro e w' ⟨rfl,rfl⟩)
 refine aSC ?_;obtain⟨H,hH⟩:=eX (w.heap.size);rw[hH];obtain⟨W0,hW0⟩:=eX (((((((w.alloc (.cells #[.int .i64 a0,.int .i64 a1,.int .i64 a2,.slice p n c,.int .i64 prev] 90)).alloc (.cells #[.string s] 9)).alloc (.cells #[.slice none 0 0] 27)).alloc (.cells #[.int .i64 0] 3)).alloc (.cells #[(.func (.func 69) #[] #[.pointer (some ⟨H,0,none⟩),.pointer (some ⟨H+1+1+1,0,none⟩),.pointer (some ⟨H+1,0,none⟩)])] 133)).alloc (.cells #[.int .i64 a0,.int .i64 a1,.int .i64 a2,.slice p n c,.int .i64 prev] 90)));rw[hW0];have hB0:Below H w W0:=by rw[<-hW0,<-hH];exact bel
 have hz0:W0.heap.size=H+6:=by rw[<-hW0,<-hH];simp
 have b0:W0.heap[H]?=some (.cells #[.int .i64 a0,.int .i64 a1,.int .i64 a2,.slice p n c,.int .i64 prev] 90 (0,0)):=by(rw[<-hW0]);(iterate 5 (rw[bGM _ _ _ sO]));exact aA _ _ _ oM
 have b1:W0.heap[H+1]?=some (.cells #[.string s] 9 (0,0)):=by(rw[<-hW0]);(iterate 4 (rw[bGM _ _ _ sO]));exact aA _ _ _ sO
 have b2:W0.heap[H+1+1]?=some (.cells #[.slice none 0 0] 27 (0,0)):=by(rw[<-hW0]);(iterate 3 (rw[bGM _ _ _ sO]));exact aA _ _ _ sO
 have b3:W0.heap[H+1+1+1]?=some (.cells #[.int .i64 0] 3 (0,0)):=by(rw[<-hW0]);(iterate 2 (rw[bGM _ _ _ sO]));exact aA _ _ _ sO
 have b4:W0.heap[H+1+1+1+1]?=some (.cells #[(.func (.func 69) #[] #[.pointer (some ⟨H,0,none⟩),.pointer (some ⟨H+1+1+1,0,none⟩),.pointer (some ⟨H+1,0,none⟩)])] 133 (0,0)):=by rw[<-hW0];rw[bGM _ _ _ sO];exact aA _ _ _ sO
 have b5:W0.heap[H+1+1+1+1+1]?=some (.cells #[.int .i64 a0,.int .i64 a1,.int .i64 a2,.slice p n c,.int .i64 prev] 90 (0,0)):=by rw[<-hW0];exact aA _ _ _ sO
 clear hW0;have hno:∀b,¬nP (H+1+1) W0 b:=fun b h=>by
  obtain⟨v,hv,hb⟩:=h;have hc:W0.cell? ⟨H+1+1,0,none⟩=some (.slice none 0 0):=by simp[World.cell?,b2]
  rw[hc] at hv;cases hv;cases hb
 have hHN:HN w (H+1+1) (H+1+1+1) (H+1+1+1+1+1) #[.int .i64 a0,.int .i64 a1,.int .i64 a2,.slice p n c,.int .i64 prev] W0:=⟨by rw[hH];exact hB0,oM,fun b h=>absurd h (hno b),⟨b5,oM,hno _⟩,oM,oM⟩;have hseq:=aCH w W0 (H+1+1) (H+1+1+1) (H+1+1+1+1+1) a0 a1 a2 p c prev PR n hn hP hPI hHN hlen;rw[hH] at hseq;have hRI0:RI w H #[.int .i64 a0,.int .i64 a1,.int .i64 a2,.slice p n c,.int .i64 prev] s (.func (.func 69) #[] #[.pointer (some ⟨H,0,none⟩),.pointer (some ⟨H+1+1+1,0,none⟩),.pointer (some ⟨H+1,0,none⟩)]) 0 W0:=⟨bGF _,hB0,⟨0,bGF _,⟨b0,b3,b1,oM,oM⟩⟩,b4,⟨_,[],rfl,b2,World.ownsRow_nil _ _ _ _⟩⟩;clear hHN hno b0 b1 b2 b3 b4 b5 hP hPI hn hlen;refine xX (n:=6) (fun fn h=>by subst h;exact⟨_,rfl⟩) ?_;refine sW rfl oM (gf:=102) (lb:=#[.pointer (some ⟨H+1+1+1+1+1,0,none⟩)]) rfl trivial (enters_of func102 kR rfl)
  hseq (fun h k=>h.trans k) (fun W l o o' hl ho h1 h2=>mD.of_C (aDV.putObj oM oM ho h1)) (bGL _ _) (fun _=>rfl)
  (fun pre W=>RI w H #[.int .i64 a0,.int .i64 a1,.int .i64 a2,.slice p n c,.int .i64 prev] s (.func (.func 69) #[] #[.pointer (some ⟨H,0,none⟩),.pointer (some ⟨H+1+1+1,0,none⟩),.pointer (some ⟨H+1,0,none⟩)]) pre.length W)
  (fun ch W=>ch=[{ v:=.iface 120 (.agg #[]),recovered:=false }]/\Below H w W)
  (RI.own oM oM) hRI0
  (fun x=>{ tmps:=#[.agg #[.int .i64 a0,.int .i64 a1,.int .i64 a2,.slice p n c,.int .i64 prev],.string s,.pointer (some ⟨H,0,none⟩),.pointer (some ⟨H+1,0,none⟩),.slice none 0 0,.pointer (some ⟨H+1+1,0,none⟩),.pointer (some ⟨H+1+1+1,0,none⟩),.pointer (some ⟨H+1+1+1+1,0,none⟩),.int .i64 x,undef,undef,undef,(.func (.func 69) #[] #[.pointer (some ⟨H,0,none⟩),.pointer (some ⟨H+1+1+1,0,none⟩),.pointer (some ⟨H+1,0,none⟩)]),.agg #[.int .i64 a0,.int .i64 a1,.int .i64 a2,.slice p n c,.int .i64 prev],.func (.func 102) #[] #[.pointer (some ⟨H+1+1+1+1+1,0,none⟩)],.int .i64 x,undef,undef,undef,undef,undef,undef,undef,undef,undef,undef,undef,undef,undef,undef,undef,undef,undef,undef,undef,undef,undef,undef,undef,undef,undef,undef,undef,undef],defers:=[] })
  ?assign ?body ?done ?pan
 case assign =>
  intro l x W K hK;dsimp only[bFR];gi_wp2
  exact hK
 case body =>
  intro l pre x W hRI hlt;dsimp only;have HBL:=Lh hRI.bel;obtain⟨pl0,hpl0,hf0⟩:=hRI.fd;have HC3:=Lh hf0.pl;have HFD:=Lh (fun(i nn:Nat) (zi:Int) (hzi:zi=(i:Int)) (hi:i<=2) (hx:(#[.int .i64 a0,.int .i64 a1,.int .i64 a2,.slice p n c,.int .i64 prev]:Array Value)[i]?=some (.int .i64 nn)) (hn:nn<=4) (W':World) (hF:∃pl,pl<=s.size/\FdI W' H (H+1+1+1) (H+1) #[.int .i64 a0,.int .i64 a1,.int .i64 a2,.slice p n c,.int .i64 prev] s pl)=>show Calls prog 69 #[.int .i64 zi,.pointer (some ⟨H,0,none⟩),.pointer (some ⟨H+1+1+1,0,none⟩),.pointer (some ⟨H+1,0,none⟩)] W' (FdO W' (H+1+1+1) s) from by
   subst hzi;obtain⟨pl,h1,hf⟩:=hF;exact aKI W' H (H+1+1+1) (H+1) _ s pl i nn hf hi hx hn h1 hs)
  have HF:=Lh (show∃pl,pl<=s.size/\FdI W.drew H (H+1+1+1) (H+1) #[.int .i64 a0,.int .i64 a1,.int .i64 a2,.slice p n c,.int .i64 prev] s pl from⟨pl0,hpl0,⟨hf0.st,hf0.pl,hf0.da,hf0.n1,hf0.n2⟩⟩);have HS:=Lh (show W.drew.heap[H+1+1+1+1]?=some (.cells #[(.func (.func 69) #[] #[.pointer (some ⟨H,0,none⟩),.pointer (some ⟨H+1+1+1,0,none⟩),.pointer (some ⟨H+1,0,none⟩)])] 133 (0,0)) from hRI.fnb);have HB:=Lh (show Bes (H+1+1+1) W W.drew from(Bes.refl _ _).drew);have HRow:=Lh hRI.row;have hW3:=bGJ hRI.fnb;have hHW:H<=W.heap.size:=oM;obtain⟨i0,hi,hzA,hzB,hzC⟩:=info_parts Tryz.infoSl;clear hRI hf0 hpl0;gi_wp2
  refine uK kR (fun o ho c=>?_) ?_ ?_
  ·simp only[List.mem_toArray,List.mem_cons,List.not_mem_nil,or_false] at ho;rcases ho with rfl|rfl|rfl|rfl|rfl|rfl|rfl|rfl|rfl|rfl
   all_goals (intro h;cases h)
  ·rintro⟨a,w,h⟩;exact h
  ·refine wpAny_of_held (S:=fun W'=>W'.cell? ⟨H+1+1+1+1,0,none⟩=some (.func (.func 69) #[] #[.pointer (some ⟨H,0,none⟩),.pointer (some ⟨H+1+1+1,0,none⟩),.pointer (some ⟨H+1,0,none⟩)])) _ _ _ _ ?_;have hS:W.drew.cell? ⟨H+1+1+1+1,0,none⟩=some (.func (.func 69) #[] #[.pointer (some ⟨H,0,none⟩),.pointer (some ⟨H+1+1+1,0,none⟩),.pointer (some ⟨H+1,0,none⟩)]):=q238;obtain⟨w7,hw7⟩:=eX (W.drew);rw[hw7] at HF HS HB hS ⊢;clear hw7;refine wpAnyH_take (i:=0) (v:=.int .i64 x) rfl kR kR kR (fun _ _ _ h=>h) (Or.inl ⟨by rfl,fun w' hS=>q178⟩) hS ?_;refine wpAnyH_take (i:=1) (v:=(.func (.func 69) #[] #[.pointer (some ⟨H,0,none⟩),.pointer (some ⟨H+1+1+1,0,none⟩),.pointer (some ⟨H+1,0,none⟩)])) rfl kR kR kR (fun _ _ _ h=>h) (Or.inl ⟨by rfl,fun w' hS=>by(dsimp only at hS;go_simp)⟩) hS ?_;refine wpAnyH_take (i:=3) (v:=(.func (.func 69) #[] #[.pointer (some ⟨H,0,none⟩),.pointer (some ⟨H+1+1+1,0,none⟩),.pointer (some ⟨H+1,0,none⟩)])) rfl kR kR kR (fun _ _ _ h=>h) (Or.inl ⟨by rfl,fun w' hS=>by(dsimp only at hS;go_simp)⟩) hS ?_;refine wpAnyH_take (i:=5) (v:=(.func (.func 69) #[] #[.pointer (some ⟨H,0,none⟩),.pointer (some ⟨H+1+1+1,0,none⟩),.pointer (some ⟨H+1,0,none⟩)])) rfl kR kR kR (fun _ _ _ h=>h) (Or.inl ⟨by rfl,fun w' hS=>by(dsimp only at hS;go_simp)⟩) hS ?_;refine wpAnyH_ready (rs:=[2,8]) kR sI ?_;refine AllReadyH.cons rfl (fun K hK=>?_) ?_
   ·skip
    go_simp;go_at_call 69
    (with_reducible refine(HFD.out 0 _ (0:Int) sI dC rfl h0 _ HF.out).mono ?_)
    rintro e w7 ⟨hb,⟨x1,pl,rfl,hpl,hc⟩|rfl⟩;rotate_left
    ·exact q323
    replace HB:=Lh (HB.out.trans hb);replace HS:=Lh ((hb.block _ (bGJ HS.out) oM).trans HS.out);replace HF:=Lh (show∃pl,pl<=s.size/\FdI w7 H (H+1+1+1) (H+1) #[.int .i64 a0,.int .i64 a1,.int .i64 a2,.slice p n c,.int .i64 prev] s pl from q239);skip
    clear hb hc hpl hS;refine hK.out _ _ q238 (fun hS=>?_);clear hK K;refine wpAnyH_ready (rs:=[4,8]) kR sI ?_;refine AllReadyH.cons rfl (fun K hK=>?_) ?_
    ·skip
     go_simp;go_at_call 69
     (with_reducible refine(HFD.out 1 _ (1:Int) sI dC rfl h1 _ HF.out).mono ?_)
     rintro e w7 ⟨hb,⟨x2,pl,rfl,hpl,hc⟩|rfl⟩;rotate_left
     ·exact q323
     replace HB:=Lh (HB.out.trans hb);replace HS:=Lh ((hb.block _ (bGJ HS.out) oM).trans HS.out);replace HF:=Lh (show∃pl,pl<=s.size/\FdI w7 H (H+1+1+1) (H+1) #[.int .i64 a0,.int .i64 a1,.int .i64 a2,.slice p n c,.int .i64 prev] s pl from q239);skip
     clear hb hc hpl hS;refine hK.out _ _ q238 (fun hS=>?_);clear hK K;refine wpAnyH_ready (rs:=[6,8]) kR sI ?_;refine AllReadyH.cons rfl (fun K hK=>?_) ?_
     ·skip
      go_simp;go_at_call 69
      (with_reducible refine(HFD.out 2 _ (2:Int) sI dC rfl h2 _ HF.out).mono ?_)
      rintro e w7 ⟨hb,⟨x3,pl,rfl,hpl,hc⟩|rfl⟩;rotate_left
      ·exact q323
      replace HB:=Lh (HB.out.trans hb);replace HS:=Lh ((hb.block _ (bGJ HS.out) oM).trans HS.out);replace HF:=Lh (show∃pl,pl<=s.size/\FdI w7 H (H+1+1+1) (H+1) #[.int .i64 a0,.int .i64 a1,.int .i64 a2,.slice p n c,.int .i64 prev] s pl from q239);skip
      clear hb hc hpl hS;refine hK.out _ _ q238 (fun hS=>?_);clear hK K;refine wpAnyH_take (i:=7) (v:=.agg #[.int .i64 x,.int .i64 x1,.int .i64 x2,.int .i64 x3]) rfl kR kR kR (fun _ _ _ h=>h) (Or.inl ⟨by rfl,fun w' hS=>q178⟩) hS ?_;refine wpAnyH_ready (rs:=[8]) kR sI ?_;refine AllReadyH.cons rfl (fun K hK=>?_) ?_
      ·skip
       go_simp;obtain⟨g,hg⟩:=eX (w7.heap.size);rw[hg];have HB8:=HB.out.alloc (.cells #[.int .i64 0,.int .i64 0,.int .i64 0,.int .i64 0] 39);have HS8:=(bGM w7 (.cells #[.int .i64 0,.int .i64 0,.int .i64 0,.int .i64 0] 39) _ (bGJ HS.out)).trans HS.out;have HF8:∃pl,pl<=s.size/\FdI (w7.alloc (.cells #[.int .i64 0,.int .i64 0,.int .i64 0,.int .i64 0] 39)) H (H+1+1+1) (H+1) #[.int .i64 a0,.int .i64 a1,.int .i64 a2,.slice p n c,.int .i64 prev] s pl:=by
        exact q357
       have HG8:(w7.alloc (.cells #[.int .i64 0,.int .i64 0,.int .i64 0,.int .i64 0] 39)).heap[g]?=some (.cells #[.int .i64 0,.int .i64 0,.int .i64 0,.int .i64 0] 39 (0,0)):=aA _ _ _ hg.symm;have hgW:W.heap.size<=g:=q240;obtain⟨w8,hw8⟩:=eX (w7.alloc (.cells #[.int .i64 0,.int .i64 0,.int .i64 0,.int .i64 0] 39));rw[hw8] at HB8 HS8 HF8 HG8 ⊢;clear hw8 HB HS HF hg hS;obtain⟨w7,rfl⟩:∃w7,w7=w8:=⟨_,rfl⟩
       have HB:=Lh HB8;have HS:=Lh HS8;have HF:=Lh HF8;have HG:=Lh (bGQ HG8 hgW);clear HB8 HS8 HF8 HG8;refine hK.out _ _ q238 (fun hS=>?_);clear hK K;exact q274
      exact AllReadyH.nil
     refine AllReadyH.cons rfl (fun K hK=>?_) ?_
     ·skip
      go_simp;obtain⟨g,hg⟩:=eX (w7.heap.size);rw[hg];have HB8:=HB.out.alloc (.cells #[.int .i64 0,.int .i64 0,.int .i64 0,.int .i64 0] 39);have HS8:=(bGM w7 (.cells #[.int .i64 0,.int .i64 0,.int .i64 0,.int .i64 0] 39) _ (bGJ HS.out)).trans HS.out;have HF8:∃pl,pl<=s.size/\FdI (w7.alloc (.cells #[.int .i64 0,.int .i64 0,.int .i64 0,.int .i64 0] 39)) H (H+1+1+1) (H+1) #[.int .i64 a0,.int .i64 a1,.int .i64 a2,.slice p n c,.int .i64 prev] s pl:=by
       exact q357
      have HG8:(w7.alloc (.cells #[.int .i64 0,.int .i64 0,.int .i64 0,.int .i64 0] 39)).heap[g]?=some (.cells #[.int .i64 0,.int .i64 0,.int .i64 0,.int .i64 0] 39 (0,0)):=aA _ _ _ hg.symm;have hgW:W.heap.size<=g:=q240;obtain⟨w8,hw8⟩:=eX (w7.alloc (.cells #[.int .i64 0,.int .i64 0,.int .i64 0,.int .i64 0] 39));rw[hw8] at HB8 HS8 HF8 HG8 ⊢;clear hw8 HB HS HF hg hS;obtain⟨w7,rfl⟩:∃w7,w7=w8:=⟨_,rfl⟩
      have HB:=Lh HB8;have HS:=Lh HS8;have HF:=Lh HF8;have HG:=Lh (bGQ HG8 hgW);clear HB8 HS8 HF8 HG8;exact q567
     exact AllReadyH.nil
    refine AllReadyH.cons rfl (fun K hK=>?_) ?_
    ·skip
     go_simp;obtain⟨g,hg⟩:=eX (w7.heap.size);rw[hg];have HB8:=HB.out.alloc (.cells #[.int .i64 0,.int .i64 0,.int .i64 0,.int .i64 0] 39);have HS8:=(bGM w7 (.cells #[.int .i64 0,.int .i64 0,.int .i64 0,.int .i64 0] 39) _ (bGJ HS.out)).trans HS.out;have HF8:∃pl,pl<=s.size/\FdI (w7.alloc (.cells #[.int .i64 0,.int .i64 0,.int .i64 0,.int .i64 0] 39)) H (H+1+1+1) (H+1) #[.int .i64 a0,.int .i64 a1,.int .i64 a2,.slice p n c,.int .i64 prev] s pl:=by
      exact q357
     have HG8:(w7.alloc (.cells #[.int .i64 0,.int .i64 0,.int .i64 0,.int .i64 0] 39)).heap[g]?=some (.cells #[.int .i64 0,.int .i64 0,.int .i64 0,.int .i64 0] 39 (0,0)):=aA _ _ _ hg.symm;have hgW:W.heap.size<=g:=q240;obtain⟨w8,hw8⟩:=eX (w7.alloc (.cells #[.int .i64 0,.int .i64 0,.int .i64 0,.int .i64 0] 39));rw[hw8] at HB8 HS8 HF8 HG8 ⊢;clear hw8 HB HS HF hg hS;obtain⟨w7,rfl⟩:∃w7,w7=w8:=⟨_,rfl⟩
     have HB:=Lh HB8;have HS:=Lh HS8;have HF:=Lh HF8;have HG:=Lh (bGQ HG8 hgW);clear HB8 HS8 HF8 HG8;exact q601
    exact AllReadyH.nil
   refine AllReadyH.cons rfl (fun K hK=>?_) ?_
   ·skip
    go_simp;obtain⟨g,hg⟩:=eX (w7.heap.size);rw[hg];have HB8:=HB.out.alloc (.cells #[.int .i64 0,.int .i64 0,.int .i64 0,.int .i64 0] 39);have HS8:=(bGM w7 (.cells #[.int .i64 0,.int .i64 0,.int .i64 0,.int .i64 0] 39) _ (bGJ HS.out)).trans HS.out;have HF8:∃pl,pl<=s.size/\FdI (w7.alloc (.cells #[.int .i64 0,.int .i64 0,.int .i64 0,.int .i64 0] 39)) H (H+1+1+1) (H+1) #[.int .i64 a0,.int .i64 a1,.int .i64 a2,.slice p n c,.int .i64 prev] s pl:=by
     exact q357
    have HG8:(w7.alloc (.cells #[.int .i64 0,.int .i64 0,.int .i64 0,.int .i64 0] 39)).heap[g]?=some (.cells #[.int .i64 0,.int .i64 0,.int .i64 0,.int .i64 0] 39 (0,0)):=aA _ _ _ hg.symm;have hgW:W.heap.size<=g:=q240;obtain⟨w8,hw8⟩:=eX (w7.alloc (.cells #[.int .i64 0,.int .i64 0,.int .i64 0,.int .i64 0] 39));rw[hw8] at HB8 HS8 HF8 HG8 ⊢;clear hw8 HB HS HF hg hS;obtain⟨w7,rfl⟩:∃w7,w7=w8:=⟨_,rfl⟩
    have HB:=Lh HB8;have HS:=Lh HS8;have HF:=Lh HF8;have HG:=Lh (bGQ HG8 hgW);clear HB8 HS8 HF8 HG8;refine hK.out _ _ q238 (fun hS=>?_);clear hK K;refine wpAnyH_ready (rs:=[2]) kR sI ?_;refine AllReadyH.cons rfl (fun K hK=>?_) ?_
    ·skip
     go_simp;go_at_call 69
     (with_reducible refine(HFD.out 0 _ (0:Int) sI dC rfl h0 _ HF.out).mono ?_)
     rintro e w7 ⟨hb,⟨x1,pl,rfl,hpl,hc⟩|rfl⟩;rotate_left
     ·exact q323
     replace HB:=Lh (HB.out.trans hb);replace HS:=Lh ((hb.block _ (bGJ HS.out) oM).trans HS.out);replace HF:=Lh (show∃pl,pl<=s.size/\FdI w7 H (H+1+1+1) (H+1) #[.int .i64 a0,.int .i64 a1,.int .i64 a2,.slice p n c,.int .i64 prev] s pl from q239);have HG:=Lh (bGQ ((hb.block g (bGJ HG.out.1) q246).trans HG.out.1) HG.out.2);clear hb hc hpl hS;exact q601
    exact AllReadyH.nil
   exact AllReadyH.nil
 case done =>
  rintro D ys W hD _ hRI hK;dsimp only[Exit.inBlock,Exit.then];refine aYQ (n:=6) ?_;obtain⟨v,xs,hxl,hv,hrow⟩:=hRI.row;have hbW:=hRI.bel;have hm:=hRI.le;obtain⟨m,hmm⟩:=eX (ys.length);rw[hmm] at hxl hrow hm;obtain⟨vp,vc,rfl⟩:=cY hrow;have HR:=Lh (show bC mE W (.slice vp m vc) xs from by
   have h1:aG mE 39 W H (.slice vp m vc) xs:=by unfold aG;rw[hxl];exact hrow
   exact h1.arg)
  have HX:=Lh hxl;have hDl:D<W.heap.size:=(Array.getElem?_eq_some_iff.1 hK).1;have HK:=Lh hK;have hc:=hv.cell;have hHW:H<=W.heap.size:=by have:=hbW.size;omega
  have HV:=Lh hv;have HBW:=Lh hbW;clear hRI hrow hv hxl hmm hK hbW;gi_wp2_with fail
  gi_loopw [30] (fun i wr=>∃k:Nat,k<=m/\i=.int .i64 k/\Hid (Below W.heap.size W wr)) (fun i _=>m-(intOf i).toNat)
  case atStart=>exact⟨0,bGF _,rfl,Lh (bGL _ _)⟩
  case round =>
   obtain⟨k,hk,rfl,hbr⟩:=hrel;have hzr:=hbr.out.size;by_cases hlk:k<m
   ·have hvr:bC mE wr (.slice vp m vc) xs:=HR.out.below hbr.out;have hk':k<xs.length:=by rw[HX.out];exact hlk
    obtain⟨b,off,rfl,hblt,e0,e1,e2,e3⟩:=aYS hvr k hk';obtain⟨N,hNe⟩:=eX (xs[k].1);obtain⟨kd,hke⟩:∃N,xs[k].2.1=N:=⟨_,rfl⟩
    obtain⟨a,hae⟩:∃N,xs[k].2.2.1=N:=⟨_,rfl⟩
    obtain⟨g,hge⟩:∃N,xs[k].2.2.2=N:=⟨_,rfl⟩
    rw[hNe] at e0;rw[hke] at e1;rw[hae] at e2;rw[hge] at e3;have hbr2:=hbr.out.trans ((Below.alloc (bGL _ wr) (bGB _) (.cells #[.int .i64 N,.int .i64 kd,.int .i64 a,.int .i64 g] 39)).mono hzr);clear hvr hNe hke hae hge;by_cases c2:kd<=2
    ·have d2:decide (kd<=2)=true:=bGI c2;clear c2;gi_wp2_with (refine⟨trivial,?_⟩;gi_at_call 63;refine(callsIn_wide.2 (dU _)).mono ?_;rintro e w9 ⟨rfl,h9⟩;obtain rfl:=h9.symm)
     go_roundw
     case rel=>exact⟨k+1,oM,q12,Lh hbr2⟩
     case measure=>exact q339
    ·have d2:decide (kd<=2)=false:=bGH c2;clear c2;gi_wp2_with (refine⟨trivial,?_⟩;gi_at_call 63;refine(callsIn_wide.2 (iL _)).mono ?_;rintro e w9 ⟨rfl,h9⟩;obtain rfl:=h9.symm)
     have hK2:=(hbr2.block D hDl).trans HK.out;refine⟨sI,.inl ⟨_,_,rfl,run_takeDeferred hK2,?_⟩⟩;have hbE:=HBW.out.trans (hbr2.mono hHW);exact⟨q247,.inr rfl⟩
   ·obtain rfl:k=m:=oM;have hcr:wr.cell? ⟨H+1+1,0,none⟩=some (.slice vp k vc):=(bGO (hbr.out.block (H+1+1) (bGJ HV.out))).trans hc;have HTC:=Lh (aKK _ xs wr (HR.out.below hbr.out) (by rw[HX.out];exact hm));clear hc;gi_wp2_with fail
    refine⟨trivial,?_⟩;refine(callsIn_wide.2 HTC.out).mono ?_;rintro e w9 ⟨⟨z,rfl⟩,hb9⟩;have hbT:=hbr.out.trans (hb9.mono hzr);have hK2:=(hbT.block D hDl).trans HK.out;have hbE:=HBW.out.trans (hbT.mono hHW);have hcT:w9.cell? ⟨H+1+1,0,none⟩=some (.slice vp k vc):=(bGO (hb9.block (H+1+1) (by rw[<-Nat.not_le];intro hle;simp[World.cell?,Array.getElem?_eq_none hle] at hcr))).trans hcr;have hDT:D<w9.heap.size:=bGA hDl hbT.size;clear hcr hb9;by_cases hz:z=0
    ·subst hz;gi_wp2_with (refine⟨trivial,?_⟩;gi_at_call 63;refine(callsIn_wide.2 (dU _)).mono ?_;rintro e w9 ⟨rfl,h9⟩;obtain rfl:=h9.symm)
     refine⟨sI,.inl ⟨_,_,rfl,run_takeDeferred hK2,?_⟩⟩;exact⟨_,results_tmp rfl _ _ _,q247,.inl ⟨_,_,_,rfl⟩⟩
    ·have dz:(z==0)=false:=by simpa using hz
     clear hz;gi_wp2_with (refine⟨trivial,?_⟩;gi_at_call 63;refine(callsIn_wide.2 (iL _)).mono ?_;rintro e w9 ⟨rfl,h9⟩;obtain rfl:=h9.symm)
     refine⟨sI,.inl ⟨_,_,rfl,run_takeDeferred hK2,?_⟩⟩;exact⟨q247,.inr rfl⟩
 case pan =>
  rintro D ch W hD ⟨rfl,hb⟩ hK;refine⟨sI,.inl ⟨_,_,rfl,run_takeDeferred hK,?_⟩⟩;exact⟨by rw[hH];exact hb.trans (belowK_b (w:=w) oM W D _ _ oM hK rfl rfl),.inr rfl⟩
theorem aGE(q:Addr)(w:World) :
 CallsD prog 62 #[.pointer (some q)] .returning w fun e u' w'=>e=.returned (.tuple #[])/\u'=.returning/\w'=w:=by
 refine callsD_of_wpS func62 rfl fun c₀ cs hu=>?_
 simp only[ntmps62,List.size_toArray,bHA,List.length_nil,Nat.reduceAdd,Nat.reduceSub,Array.replicate_succ,Array.replicate_zero,List.push_toArray,List.append_toArray,List.nil_append,List.cons_append];apply wpS_seq
 apply wpS_region
 simp[wpOpsS,go_sem,recoverD,hu,ntmps62,Exit.thenS];refine wpS_of_wp ?_;go_wp2;exact q560
theorem aCI(b:Nat)(y:Int)(older:List PanicEntry)(w:World)(h:w.heap[b]?=some (.cells #[.int .i64 y] 24 (0,0))) :
 CallsD prog 62 #[.pointer (some ⟨b,0,none⟩)] (.panicking ({ v:=.iface 120 (.agg #[]),recovered:=false }::older)) w fun e u' w' =>
  e=.returned (.tuple #[])/\u'=.panicking ({ v:=.iface 120 (.agg #[]),recovered:=true }::older)/\w'.heap[b]?=some (.cells #[.int .i64 20] 24 (0,0))/\Bes b w w':=by
 have hta:∀(w:World),(Instr.typeAssert (.iface 120 (.agg #[])) 20 120 true).run prog w=.ok (.tuple #[.agg #[],.bool true]) w:=fun _=>kR
 have hlt:=bGJ h;have hne:¬b=w.heap.size:=oM;have a0:w.cell? ⟨b,0,none⟩=some (.int .i64 y):=by simp[World.cell?,h]
 have f0:w.frozen? ⟨b,0,none⟩=false:=by simp[World.frozen?,h]
 have H:=Lh h;clear h;refine callsD_of_wpS func62 rfl fun c₀ cs hu=>?_
 simp only[ntmps62,List.size_toArray,bHA,List.length_nil,Nat.reduceAdd,Nat.reduceSub,Array.replicate_succ,Array.replicate_zero,List.push_toArray,List.append_toArray,List.nil_append,List.cons_append];apply wpS_seq
 apply wpS_region
 simp[wpOpsS,go_sem,recoverD,hu,ntmps62,Exit.thenS];refine wpS_of_wp ?_;go_wp2;have HF:((w.setCell ⟨b,0,none⟩ (.int .i64 20)).alloc (.cells #[] 120)).heap[b]?=some (.cells #[.int .i64 20] 24 (0,0))/\Bes b w ((w.setCell ⟨b,0,none⟩ (.int .i64 20)).alloc (.cells #[] 120)):=by
  exact q461
 obtain⟨wf,hwf⟩:=eX (((w.setCell ⟨b,0,none⟩ (.int .i64 20)).alloc (.cells #[] 120)));rw[hwf] at HF;rw[hwf];clear hwf a0 f0 hne hlt H hta;exact q560
theorem aNJ(r f:Nat)(caps:Array Value)(w:World)(Pg:World->Prop)(hr:r<w.heap.size)(hent:∀args w,(callFunc f args).run prog w=.ok (.enter f args) w)
 (hdo:∀W,Below w.heap.size w W->w.heap.size<W.heap.size->Calls prog f caps W (fun e W'=>Bes r W W'/\((e=.returned (.tuple #[])/\Pg W')\/e=.panicked [{ v:=.iface 120 (.agg #[]),recovered:=false }])))
 (hPg:∀A o v,Pg A->Pg (A.setCell ⟨w.heap.size,o,none⟩ v)) :
 Calls prog 34 #[.func (.func f) #[] caps] w (fun e W'=>Bes r w W'/\((e=.returned (.int .i64 0)/\Pg W')\/e=.returned (.int .i64 20))):=by
 have HD:=Lh hdo;have HPg:=Lh hPg;clear hdo hPg;go_enter_defers func34,ntmps34
 go_wp2_with fail;refine(HD.out _ bel sI).mono ?_;rintro e w1 ⟨hb1,hcase⟩;have hE:w1.heap[w.heap.size]?=some (.cells #[.int .i64 0] 24 (0,0)):=(hb1.block _ sI oM).trans (aA w _ _ rfl);have hbw:Bes r w w1:=(Bes.of_below (r:=r) (show Below w.heap.size w (w.alloc (.cells #[.int .i64 0] 24)) from bel)).trans hb1;rcases hcase with⟨rfl,hp⟩|rfl
 ·have y0:w1.cell? ⟨w.heap.size,0,none⟩=some (.int .i64 0):=by simp[World.cell?,hE]
  have yf:w1.frozen? ⟨w.heap.size,0,none⟩=false:=q248;clear hE hb1;go_wp2_with fail;refine bGW (f:=62) (args:=#[.pointer (some ⟨w.heap.size,0,none⟩)]) sI q39 ?_;refine(aGE _ _).mono ?_;rintro e u' w'' ⟨rfl,rfl,rfl⟩;simp[Leaves,settle,results,results34,go_sem,y0,yf];exact⟨hbw.setCell_new (bGB _) _,HPg.out _ _ _ hp⟩
 ·have HEE:=Lh hE;go_wp2;refine bGW (f:=62) (args:=#[.pointer (some ⟨w.heap.size,0,none⟩)]) sI q39 ?_;refine(aCI w.heap.size _ _ _ HEE.out).mono ?_;rintro e u' w'' ⟨rfl,rfl,hE',hbf⟩;have y0:w''.cell? ⟨w.heap.size,0,none⟩=some (.int .i64 20):=q177;simp[Leaves,settle,results,results34,go_sem,y0];exact⟨(hbf.os).trans hbw.os,(hbf.tape).trans hbw.tape,hbf.output.trans hbw.output,bGC hbw.size hbf.size,fun k h1 h2=>(hbf.block k (bGA h1 hbw.size) oM).trans (hbw.block k h1 h2)⟩
def aCJ(B bx:Nat)(W:World):Prop:=∃(a0 a1 a2:Nat) (p:Option Addr) (n c:Nat) (PR:List (Nat×Nat)) (prev:Int),W.heap[bx]?=some (.cells #[.int .i64 a0,.int .i64 a1,.int .i64 a2,.slice p n c,.int .i64 prev] 90 (0,0)) /\
 a0<=4/\a1<=4/\a2<=4∧-1<=prev/\prev<=2147483647/\PR.length=n/\fZ B W (.slice p n c) PR/\oV PR
theorem aCJ.set{B bx b:Nat}{W:World}(h:aCJ B bx W)(hb:b≠bx)(hB:b<B)(o:Nat)(v:Value):aCJ B bx (W.setCell ⟨b,o,none⟩ v):=by
 obtain⟨a0,a1,a2,p,n,c,PR,prev,h1,h2,h3,h4,h5,h6,h7,h8,h9⟩:=h;refine⟨a0,a1,a2,p,n,c,PR,prev,?_,h2,h3,h4,h5,h6,h7,h8.grow (bGB _) q18 (fun k hk _=>?_),h9⟩
 ·rw[bGK _ _ _ _ (by show bx≠b;omega)];exact h1
 ·rw[bGK _ _ _ _ (by show k≠b;omega)]
theorem jU{w:World}{b:Nat}{t:TypeId}{v0 v1 v2 v3 v4 v5 v6 v7:Value}(h:w.heap[b]?=some (.cells #[v0,v1,v2,v3,v4,v5,v6,v7] t (0,0))) :
 w.cell? ⟨b,0,none⟩=some v0/\w.cell? ⟨b,1,none⟩=some v1/\w.cell? ⟨b,2,none⟩=some v2/\w.cell? ⟨b,3,none⟩=some v3/\w.cell? ⟨b,4,none⟩=some v4/\w.cell? ⟨b,5,none⟩=some v5/\w.cell? ⟨b,6,none⟩=some v6/\w.cell? ⟨b,7,none⟩=some v7:=by
 refine⟨?_,?_,?_,?_,?_,?_,?_,?_⟩<;>simp[World.cell?,h]
theorem aCK{w:World}{b:Nat}{t:TypeId}{v0 v1 v2 v3 v4:Value}(h:w.heap[b]?=some (.cells #[v0,v1,v2,v3,v4] t (0,0))) :
 w.cell? ⟨b,0,none⟩=some v0/\w.cell? ⟨b,1,none⟩=some v1/\w.cell? ⟨b,2,none⟩=some v2/\w.cell? ⟨b,3,none⟩=some v3/\w.cell? ⟨b,4,none⟩=some v4/\∀o,w.frozen? ⟨b,o,none⟩=false:=by
 refine⟨?_,?_,?_,?_,?_,fun o=>?_⟩<;>simp[World.cell?,World.frozen?,h]
theorem aSE(S:Nat->Prop)(d:Nat)(w:World)(p1 p2:Option Addr)(n1 c1 n2 c2:Nat)(o:Ob)(h:aI S d w (aB o.kind o.n o.g o.s (.slice p1 n1 c1) (.slice p2 n2 c2)) o)(ht:cN d o)(hS:∀b,S b->b<w.heap.size)(num gen:Int)(bi bx B:Nat)(u0 u1 u2 u3 u4:Value)(hi:w.heap[bi]?=some (.cells #[.int .i64 num,.int .i64 gen,.int .i64 o.kind,.int .i64 o.n,.int .i64 o.g,.string ⟨o.s.toArray⟩,.slice p1 n1 c1,.slice p2 n2 c2] 52 (0,0)))(hx:w.heap[bx]?=some (.cells #[u0,u1,u2,u3,u4] 90 (0,0)))(hB:bx<B)(hB2:B<=w.heap.size) :
 Calls prog 35 #[.pointer (some ⟨bi,0,none⟩),.pointer (some ⟨bx,0,none⟩)] w (fun e W'=>Bes bx w W'/\((e=.returned (.tuple #[])/\aCJ B bx W')\/e=.panicked [{ v:=.iface 120 (.agg #[]),recovered:=false }])):=by
 have HK:=Lh (aSA S d w p1 p2 n1 c1 n2 c2 o h ht hS);obtain⟨i0,i1,i2,i3,i4,i5,i6,i7⟩:=jU hi;clear h ht hS hi;go_enter func35,ntmps35
 go_wp2_with fail;refine HK.out.mono ?_;rintro e w1 ⟨hb1,⟨a0,a1,a2,v,PR,prev,rfl,h0,h1,h2,h3,h4,hP,hPI⟩|rfl⟩;rotate_left
 ·exact⟨rfl,Bes.of_below hb1,.inr rfl⟩
 have hX:=(hb1.block _ (bGJ hx)).trans hx;obtain⟨p,c,rfl,-⟩:=id hP;obtain⟨x0,x1,x2,x3,x4,xf⟩:=aCK hX;obtain⟨n,hn⟩:=eX (PR.length);rw[hn] at hP ⊢;have HP:=Lh hP;have HX:=Lh hX;clear i0 i1 i2 i3 i4 i5 i6 i7 hP hX hx;go_wp2_with fail;go_end0
 refine⟨?_,.inl ⟨rfl,a0,a1,a2,p,n,c,PR,prev,?_,h0,h1,h2,h3,h4,hn,HP.out.grow (B':=B) oM q18 (fun k hk _=>?_),hPI⟩⟩
 ·exact(((((Bes.of_below hb1).setCell _ _).setCell _ _).setCell _ _).setCell _ _).setCell _ _
 ·rw[aC (aC (aC (aC (aC HX.out))))];rfl
 ·iterate 5 rw[bGK _ _ _ _ (by show k≠bx;omega)]
theorem aSF(B bx bd bl:Nat)(s:ByteArray)(w:World)(hk:aCJ B bx w)(hd:w.heap[bd]?=some (.cells #[.string s] 9 (0,0)))(u:Value)(hl:w.heap[bl]?=some (.cells #[u] 27 (0,0)))(hs:s.size<=140737488355327) :
 Calls prog 38 #[.pointer (some ⟨bx,0,none⟩),.pointer (some ⟨bd,0,none⟩),.pointer (some ⟨bl,0,none⟩)] w (fun e W'=>Bes bl w W'/\((e=.returned (.tuple #[])/\∃(p:Option Addr) (n c:Nat),W'.heap[bl]?=some (.cells #[.slice p n c] 27 (0,0)))\/e=.panicked [{ v:=.iface 120 (.agg #[]),recovered:=false }])):=by
 obtain⟨a0,a1,a2,p,n,c,PR,prev,hx,h0,h1,h2,h3,h4,hn,hP,hPI⟩:=hk;have HR:=Lh (aSD w a0 a1 a2 p n c prev PR s hn (hP.grow (B':=0) (bGF _) (bGB _) (fun _ _ _=>rfl)) hPI (by have:=hPI.2.2;omega) h0 h1 h2 hs);obtain⟨x0,x1,x2,x3,x4,xf⟩:=aCK hx;have d0:w.cell? ⟨bd,0,none⟩=some (.string s):=by simp[World.cell?,hd]
 have hll:=bGJ hl;clear hP hPI h0 h1 h2 h3 h4 hn hd hx;go_enter func38,ntmps38
 go_wp2_with fail;refine HR.out.mono ?_;rintro e w1 ⟨hb1,⟨q,m,k,rfl⟩|rfl⟩;rotate_left
 ·exact⟨rfl,Bes.of_below hb1,.inr rfl⟩
 have hL:=(hb1.block _ hll).trans hl;have l0:w1.cell? ⟨bl,0,none⟩=some u:=by simp[World.cell?,hL]
 have lf:w1.frozen? ⟨bl,0,none⟩=false:=by simp[World.frozen?,hL]
 have HL:=Lh hL;clear hL hl x0 x1 x2 x3 x4 xf d0;go_wp2_with fail;go_end0
 refine⟨(Bes.of_below hb1).setCell _ _,.inl ⟨rfl,q,m,k,?_⟩⟩;rw[aC HL.out];rfl
def aYU(e:Ending):Prop:=∃z:Int,e=.returned (.int .i64 z)
theorem aYU.mk(z:Int):aYU (.returned (.int .i64 z)):=⟨z,rfl⟩
theorem aKL(S:Nat->Prop)(d:Nat)(num gen k n g:Int)(s:L)(p1 p2:Option Addr)(m1 c1 m2 c2:Nat)(o:Ob)(w:World)
 (ho:aI S d w [.int .i64 k,.int .i64 n,.int .i64 g,.string ⟨s.toArray⟩,.slice p1 m1 c1,.slice p2 m2 c2] o) (hsm:cE d o) (hS:∀b,S b->b<w.heap.size) :
 Calls prog 33 #[.agg #[.int .i64 num,.int .i64 gen,.int .i64 k,.int .i64 n,.int .i64 g,.string ⟨s.toArray⟩,.slice p1 m1 c1,.slice p2 m2 c2]] w fun e w'=>aYU e/\Below w.heap.size w w':=by
 have HC:=Lh (fun(W:World) (hW:Below w.heap.size w W)=>jA S d W _ o (ho.kept (fun b h=>hW.block b (hS b h)) d) hsm (fun b h=>bGA (hS b h) hW.size));have X:=Lh (aA w (.cells #[.int .i64 num,.int .i64 gen,.int .i64 k,.int .i64 n,.int .i64 g,.string ⟨s.toArray⟩,.slice p1 m1 c1,.slice p2 m2 c2] 52) _ rfl);have hbw0:Below w.heap.size w (w.alloc (.cells #[.int .i64 num,.int .i64 gen,.int .i64 k,.int .i64 n,.int .i64 g,.string ⟨s.toArray⟩,.slice p1 m1 c1,.slice p2 m2 c2] 52)):=(bGL _ w).alloc (bGB _) _;clear ho hsm hS;by_cases hr:num<1\/8191<num\/gen<0\/65535<gen
 ·go_enter func33,ntmps33
  by_cases h1:num<1
  ·have d1:decide (num<1)=true:=bGI h1;clear h1 hr;exact q451
  have d1:decide (num<1)=false:=bGH h1;by_cases h2:8191<num
  ·have d2:decide (8191<num)=true:=bGI h2;clear h1 h2 hr;exact q451
  have d2:decide (8191<num)=false:=bGH h2;by_cases h3:gen<0
  ·have d3:decide (gen<0)=true:=bGI h3;clear h1 h2 h3 hr;exact q451
  have d3:decide (gen<0)=false:=bGH h3;have d4:decide (65535<gen)=true:=bGI oM;clear h1 h2 h3 hr;exact q451
 have d1:decide (num<1)=false:=bGH oM;have d2:decide (8191<num)=false:=bGH oM;have d3:decide (gen<0)=false:=bGH oM;have d4:decide (65535<gen)=false:=bGH oM;obtain⟨R,hR⟩:=eX (aT 24 o);rw[hR] at HC;clear hr hR;go_enter func33,ntmps33
 go_wp2_with fail;refine(HC.out _ hbw0).mono ?_;rintro e w1 ⟨rfl,hb1⟩;obtain⟨z0,z1,z2,z3,z4,z5,z6,z7⟩:=jU ((hb1.block _ sI).trans X.out);have hb:=hbw0.trans (hb1.mono sI);have hz:=hb.size;clear hb1 X d1 d2 d3 d4 HC;by_cases h0:R=0
 ·subst h0;by_cases h8:k=8
  ·subst h8;go_wp2_with fail;exact q547
  ·have d8:(k==8)=false:=by simpa using h8
   clear h8;go_wp2_with fail;exact q547
 ·have d0:(R==0)=false:=q135;have d0':(R !=0)=true:=q135;clear h0;go_wp2_with fail;exact q547
end Go.Proofs.YtdjpkgccakgkbaaGreatDoor
