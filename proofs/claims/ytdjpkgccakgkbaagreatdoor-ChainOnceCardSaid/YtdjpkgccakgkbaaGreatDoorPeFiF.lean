/- Parts of the proof: FiF. -/
import Derived.Test.YtdjpkgccakgkbaaGreatDoorPew
set_option linter.all false
set_option maxRecDepth 100000
set_option maxHeartbeats 8000000
namespace Go.Proofs.YtdjpkgccakgkbaaGreatDoor
open Go.Proofs.Tryz
open Go.RowKit Fo
def nG(o:Ob):Res Pm :=
 if o.kind=0 then .good ⟨1,1,1⟩ else if o.kind≠7 then .bad 10 else
 match bR o aNE,bR o uX,bR o aNF with
 |.good a,.good b,.good c=>.good ⟨a,b,c⟩
 |_,_,_=>.bad 10
theorem aYV{o:Ob}{key:L}{k:Int}(h:bR o key=.bad k):k=10:=by
 unfold bR at h;split at h
 ·cases h
 ·split at h
  ·cases h
  ·cases h;rfl
def bEW(w:World)(R:Res Pm)(e:Ending)(w':World):Prop:=Below w.heap.size w w'/\match R with
 |.good p=>e=.returned (.agg #[.int .i64 p.pred,.int .i64 p.colors,.int .i64 p.columns])
 |.bad _=>e=.panicked [{ v:=.iface 161 (.agg #[.int .i64 10]),recovered:=false }]
def RN(R:Res Int):Ending:=match R with|.good n=>.returned (.int .i64 n)|.bad _=>.panicked [{ v:=.iface 161 (.agg #[.int .i64 10]),recovered:=false }]
theorem iA(HF:Hid False)(P:Program)(f:FuncId)(args:Array Value)(v:Value){w:World}:Calls P f args w (fun e w'=>e=.returned v/\w'=w):=HF.out.elim
theorem zW{W W':World}{a b:Nat}{x y:Go.Obj}(h:W.heap[a]?=some x/\W.heap[b]?=some y/\a<W.heap.size/\b<W.heap.size)(hb:Below W.heap.size W W'):W'.heap[a]?=some x/\W'.heap[b]?=some y/\a<W'.heap.size/\b<W'.heap.size:=by
 have hz:=hb.size;exact⟨(hb.block _ h.2.2.1).trans h.1,(hb.block _ h.2.2.2).trans h.2.1,oM,oM⟩
theorem bDE(S:Nat->Prop)(d:Nat)(w:World)(p1 p2:Option Addr)(n1 c1 n2 c2:Nat)(o:Ob)(h:aI S d w (aB o.kind o.n o.g o.s (.slice p1 n1 c1) (.slice p2 n2 c2)) o)(ht:cN d o)(hS:∀b,S b->b<w.heap.size):Calls prog 141 #[.agg #[.int .i64 o.kind,.int .i64 o.n,.int .i64 o.g,.string ⟨o.s.toArray⟩,.slice p1 n1 c1,.slice p2 n2 c2]] w (bEW w (nG o)):=by
 have HN:=Lh (fun key (W:World) (hW:Below w.heap.size w W)=>(aKC S d W p1 p2 n1 c1 n2 c2 o (h.kept (fun b h=>hW.block b (hS b h)) d) ht (fun b h=>bGA (hS b h) hW.size) key).mono (R':=fun e w'=>e=RN (bR o key)/\Below W.heap.size W w') (by
  rintro e w' ⟨h1,h2⟩;refine⟨?_,h1⟩;unfold RN;cases hx:bR o key with
  |good n=>rw[hx] at h2;exact h2
  |bad k=>rw[hx] at h2;obtain rfl:=aYV hx;exact h2))
 obtain⟨V,hV⟩:=eX (nG o);rw[hV];unfold nG at hV;have HV:=Lh hV;clear hV h ht hS;by_cases h0:o.kind=0
 ·have dk:(o.kind==0)=true:=q135;have HRE:=Lh (show V=.good ⟨1,1,1⟩ from by rw[<-HV.out];exact bGV h0);clear HV h0 HN;go_enter func141,ntmps141
  go_wp2_with fail;refine(zU _).mono ?_;rintro e w1 ⟨rfl,hb1⟩;have HB1:=Lh (show Below w.heap.size w w1 from bHE bel (hb1.mono q249));have hA:=(hb1.block (w.heap.size+1) sI).trans (heap_alloc2_new _ _ _);obtain⟨r0,r1,r2,rf⟩:=aE hA;clear hb1 hA;go_wp2_with fail;refine bGN (v:=.agg #[.int .i64 1,.int .i64 1,.int .i64 1]) (by simp[results,results141,go_sem,r0,r1,r2,rf]) rfl ?_;have hb:=HB1.out;have hz:=hb.size;exact⟨bel,q161⟩
 ·by_cases h7:o.kind=7
  ·have d0:(o.kind==0)=false:=q135;have d7:(o.kind==7)=true:=q137;have HV2:=HV.out;rw[bGU h0,bGU (fun x=>x h7)] at HV2;have HRE:=Lh HV2;clear HV HV2 h0 h7;obtain⟨A,hA⟩:=eX (bR o aNE);obtain⟨B,hB⟩:=eX (bR o uX);obtain⟨C,hC⟩:=eX (bR o aNF);have HN1:=Lh (HN.out aNE);have HN2:=Lh (HN.out uX);have HN3:=Lh (HN.out aNF);rw[hA] at HN1 HRE;rw[hB] at HN2 HRE;rw[hC] at HN3 HRE;unfold aNE at HN1;unfold uX at HN2;unfold aNF at HN3;have HN1:=Lh (fun W hW=>HN1.out W hW);clear hA hB hC HN;go_enter func141,ntmps141
   go_wp2_with fail;refine(dD _ _).mono ?_;rintro e w1 ⟨rfl,h1⟩;obtain rfl:=h1.symm;go_upto_region 4 with fail
   obtain⟨W0,hW0⟩:=eX (((w.alloc (.cells #[.int .i64 o.kind,.int .i64 o.n,.int .i64 o.g,.string ⟨o.s.toArray⟩,.slice p1 n1 c1,.slice p2 n2 c2] 31)).alloc (.cells #[.int .i64 0,.int .i64 0,.int .i64 0] 131)));have hX0:=heap_alloc2_old w (.cells #[.int .i64 o.kind,.int .i64 o.n,.int .i64 o.g,.string ⟨o.s.toArray⟩,.slice p1 n1 c1,.slice p2 n2 c2] 31) (.cells #[.int .i64 0,.int .i64 0,.int .i64 0] 131);have hX1:=heap_alloc2_new w (.cells #[.int .i64 o.kind,.int .i64 o.n,.int .i64 o.g,.string ⟨o.s.toArray⟩,.slice p1 n1 c1,.slice p2 n2 c2] 31) (.cells #[.int .i64 0,.int .i64 0,.int .i64 0] 131);have HB0:=Lh (show Below w.heap.size w W0 by rw[<-hW0];exact bel);have hz0:w.heap.size+2=W0.heap.size:=by rw[<-hW0];simp
   rw[hW0] at hX0 hX1 ⊢;clear hW0;have HX0:=Lh (show W0.heap[w.heap.size]?=some _/\W0.heap[w.heap.size+1]?=some _/\w.heap.size<W0.heap.size/\w.heap.size+1<W0.heap.size from⟨hX0,hX1,oM,oM⟩);obtain⟨b0,b1,b2,b3,b4,b5,bf⟩:=aD hX0;obtain⟨r0,r1,r2,rf⟩:=aE hX1;clear hX0 hX1;cases A with
   |bad k =>
    have HRE:=Lh (show V=.bad 10 from HRE.out.symm);go_region_law (first|(go_simp;go_at_call 189;(with_reducible refine(iA HF _ _ _ (.int .i64 0)).mono ?_);rintro e w9 ⟨rfl,h9⟩;obtain rfl:=h9.symm)|(go_simp;go_at_call 189;refine kN (fun HF=>?_) (by(with_reducible refine(HN1.out _ ?_).mono ?_);(first|exact HB3.out|exact HB2.out|exact HB1.out|exact HB0.out|exact Below.drew HB1.out|exact Below.drew HB0.out|exact HB0.out.trans (cO _));rintro e w1 ⟨rfl,hb1⟩;exact⟨rfl,HB0.out.trans (bHE q204 (hb1.mono HB0.out.size)),q161⟩);(go_simp;go_at_call 189;(with_reducible refine(iA HF _ _ _ (.int .i64 0)).mono ?_);rintro e w9 ⟨rfl,h9⟩;obtain rfl:=h9.symm)))
    all_goals exact q392
   |good a =>
    cases B with
    |bad k =>
     have HRE:=Lh (show V=.bad 10 from HRE.out.symm);have HN1:=Lh (show∀W,Below w.heap.size w W->Calls prog 189 #[.agg #[.int .i64 o.kind,.int .i64 o.n,.int .i64 o.g,.string ⟨o.s.toArray⟩,.slice p1 n1 c1,.slice p2 n2 c2],.string ⟨#[80,114,101,100,105,99,116,111,114]⟩] W fun e w'=>e=.returned (.int .i64 a)/\Below W.heap.size W w' from HN1.out);go_region_law (first|(go_simp;go_at_call 189;(with_reducible refine(iA HF _ _ _ (.int .i64 0)).mono ?_);rintro e w9 ⟨rfl,h9⟩;obtain rfl:=h9.symm)|(go_simp;go_at_call 189;(with_reducible refine(HN1.out _ ?_).mono ?_);(first|exact HB3.out|exact HB2.out|exact HB1.out|exact HB0.out|exact Below.drew HB1.out|exact Below.drew HB0.out|exact HB0.out.trans (cO _));rintro e w1 ⟨rfl,hb1⟩;(replace hb1:=show Below W0.heap.size W0 w1 from bHE q204 hb1);(have HB1:=Lh (HB0.out.trans (hb1.mono HB0.out.size)));(have HX1:=zW HX0.out hb1);(obtain⟨b0,b1,b2,b3,b4,b5,bf⟩:=aD HX1.1);(obtain⟨r0,r1,r2,rf⟩:=aE HX1.2.1);(have HX1:=Lh HX1);clear hb1)|(go_simp;go_at_call 189;refine kN (fun HF=>?_) (by(with_reducible refine(HN2.out _ ?_).mono ?_);(first|exact HB3.out|exact HB2.out|exact HB1.out|exact HB0.out|exact Below.drew HB1.out|exact Below.drew HB0.out|exact HB0.out.trans (cO _));rintro e w2 ⟨rfl,hb2⟩;exact⟨rfl,HB1.out.trans (bHE q204 (hb2.mono HB1.out.size)),q161⟩);(go_simp;go_at_call 189;(with_reducible refine(iA HF _ _ _ (.int .i64 0)).mono ?_);rintro e w9 ⟨rfl,h9⟩;obtain rfl:=h9.symm)))
     all_goals exact q392
    |good b =>
     have HN1:=Lh (show∀W,Below w.heap.size w W->Calls prog 189 #[.agg #[.int .i64 o.kind,.int .i64 o.n,.int .i64 o.g,.string ⟨o.s.toArray⟩,.slice p1 n1 c1,.slice p2 n2 c2],.string ⟨#[80,114,101,100,105,99,116,111,114]⟩] W fun e w'=>e=.returned (.int .i64 a)/\Below W.heap.size W w' from HN1.out);have HN2:=Lh (show∀W,Below w.heap.size w W->Calls prog 189 #[.agg #[.int .i64 o.kind,.int .i64 o.n,.int .i64 o.g,.string ⟨o.s.toArray⟩,.slice p1 n1 c1,.slice p2 n2 c2],.string ⟨#[67,111,108,111,114,115]⟩] W fun e w'=>e=.returned (.int .i64 b)/\Below W.heap.size W w' from HN2.out);cases C with
     |bad k =>
      have HRE:=Lh (show V=.bad 10 from HRE.out.symm)
      go_region_law (first|(go_simp;go_at_call 189;(with_reducible refine(iA HF _ _ _ (.int .i64 0)).mono ?_);rintro e w9 ⟨rfl,h9⟩;obtain rfl:=h9.symm)|(go_simp;go_at_call 189;(with_reducible refine(HN1.out _ ?_).mono ?_);(first|exact HB3.out|exact HB2.out|exact HB1.out|exact HB0.out|exact Below.drew HB1.out|exact Below.drew HB0.out|exact HB0.out.trans (cO _));rintro e w1 ⟨rfl,hb1⟩;(replace hb1:=show Below W0.heap.size W0 w1 from bHE q204 hb1);(have HB1:=Lh (HB0.out.trans (hb1.mono HB0.out.size)));(have HX1:=zW HX0.out hb1);(obtain⟨b0,b1,b2,b3,b4,b5,bf⟩:=aD HX1.1);(obtain⟨r0,r1,r2,rf⟩:=aE HX1.2.1);(have HX1:=Lh HX1);clear hb1)|(go_simp;go_at_call 189;(with_reducible refine(HN2.out _ ?_).mono ?_);(first|exact HB3.out|exact HB2.out|exact HB1.out|exact HB0.out|exact Below.drew HB1.out|exact Below.drew HB0.out|exact HB0.out.trans (cO _));rintro e w2 ⟨rfl,hb2⟩;(replace hb2:=show Below w1.heap.size w1 w2 from bHE q204 hb2);(have HB2:=Lh (HB1.out.trans (hb2.mono HB1.out.size)));(have HX2:=zW HX1.out hb2);(obtain⟨b0,b1,b2,b3,b4,b5,bf⟩:=aD HX2.1);(obtain⟨r0,r1,r2,rf⟩:=aE HX2.2.1);(have HX2:=Lh HX2);clear hb2)|(go_simp;go_at_call 189;refine kN (fun HF=>?_) (by(with_reducible refine(HN3.out _ ?_).mono ?_);(first|exact HB3.out|exact HB2.out|exact HB1.out|exact HB0.out|exact Below.drew HB1.out|exact Below.drew HB0.out|exact HB0.out.trans (cO _));rintro e w3 ⟨rfl,hb3⟩;exact⟨rfl,HB2.out.trans (bHE q204 (hb3.mono HB2.out.size)),q161⟩);(go_simp;go_at_call 189;(with_reducible refine(iA HF _ _ _ (.int .i64 0)).mono ?_);rintro e w9 ⟨rfl,h9⟩;obtain rfl:=h9.symm)))
      all_goals exact q392
     |good c =>
      have HRE:=Lh (show V=.good ⟨a,b,c⟩ from HRE.out.symm);have HN3:=Lh (show∀W,Below w.heap.size w W->Calls prog 189 #[.agg #[.int .i64 o.kind,.int .i64 o.n,.int .i64 o.g,.string ⟨o.s.toArray⟩,.slice p1 n1 c1,.slice p2 n2 c2],.string ⟨#[67,111,108,117,109,110,115]⟩] W fun e w'=>e=.returned (.int .i64 c)/\Below W.heap.size W w' from HN3.out)
      go_region_law (first|(go_simp;go_at_call 189;(with_reducible refine(HN1.out _ ?_).mono ?_);(first|exact HB3.out|exact HB2.out|exact HB1.out|exact HB0.out|exact Below.drew HB1.out|exact Below.drew HB0.out|exact HB0.out.trans (cO _));rintro e w1 ⟨rfl,hb1⟩;(replace hb1:=show Below W0.heap.size W0 w1 from bHE q204 hb1);(have HB1:=Lh (HB0.out.trans (hb1.mono HB0.out.size)));(have HX1:=zW HX0.out hb1);(obtain⟨b0,b1,b2,b3,b4,b5,bf⟩:=aD HX1.1);(obtain⟨r0,r1,r2,rf⟩:=aE HX1.2.1);(have HX1:=Lh HX1);clear hb1)|(go_simp;go_at_call 189;(with_reducible refine(HN2.out _ ?_).mono ?_);(first|exact HB3.out|exact HB2.out|exact HB1.out|exact HB0.out|exact Below.drew HB1.out|exact Below.drew HB0.out|exact HB0.out.trans (cO _));rintro e w2 ⟨rfl,hb2⟩;(replace hb2:=show Below w1.heap.size w1 w2 from bHE q204 hb2);(have HB2:=Lh (HB1.out.trans (hb2.mono HB1.out.size)));(have HX2:=zW HX1.out hb2);(obtain⟨b0,b1,b2,b3,b4,b5,bf⟩:=aD HX2.1);(obtain⟨r0,r1,r2,rf⟩:=aE HX2.2.1);(have HX2:=Lh HX2);clear hb2)|(go_simp;go_at_call 189;(with_reducible refine(HN3.out _ ?_).mono ?_);(first|exact HB3.out|exact HB2.out|exact HB1.out|exact HB0.out|exact Below.drew HB1.out|exact Below.drew HB0.out|exact HB0.out.trans (cO _));rintro e w3 ⟨rfl,hb3⟩;(replace hb3:=show Below w2.heap.size w2 w3 from bHE q204 hb3);(have HB3:=Lh (HB2.out.trans (hb3.mono HB2.out.size)));(have HX3:=zW HX2.out hb3);(obtain⟨b0,b1,b2,b3,b4,b5,bf⟩:=aD HX3.1);(obtain⟨r0,r1,r2,rf⟩:=aE HX3.2.1);(have HX3:=Lh HX3);clear hb3))
      all_goals go_wp2_with fail
      all_goals refine bGN (v:=.agg #[.int .i64 a,.int .i64 b,.int .i64 c]) (by simp[results,results141,go_sem,r0,r1,r2,rf]) rfl ?_
      all_goals have hb:=HB3.out
      all_goals have hz:=hb.size
      all_goals exact⟨bel,q161⟩
  ·have d0:(o.kind==0)=false:=q135;have d7:(o.kind==7)=false:=q137;have HRE:=Lh (show V=.bad 10 from by rw[<-HV.out,bGU h0,bGV h7]);clear HV h0 h7 HN;go_enter func141,ntmps141
   go_wp2_with fail;refine(mC _ _).mono ?_;rintro e w1 ⟨rfl,h1⟩;obtain rfl:=h1.symm;refine⟨rfl,?_⟩;exact⟨bel,q161⟩
end Go.Proofs.YtdjpkgccakgkbaaGreatDoor
