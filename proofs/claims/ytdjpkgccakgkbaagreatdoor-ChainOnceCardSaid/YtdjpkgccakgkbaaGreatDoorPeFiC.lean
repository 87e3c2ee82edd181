/- Parts of the proof: FiC. -/
import Derived.Test.YtdjpkgccakgkbaaGreatDoorPev
set_option linter.all false
set_option maxRecDepth 100000
set_option maxHeartbeats 8000000
section
variable{p:Prop}
theorem q221(h:p:=by simp[results,results101,go_sem,r0,r1,rf,sz0]):p:=h
theorem q293(h:p:=by
 go_wp2_with fail;with_reducible refine(bCV _ _ _ rfl).mono ?_
 rintro e w3 ⟨rfl,hb3⟩;have HB3:=Lh (HB0.out.trans (hb3.mono HB0.out.size));have hz3:=hb3.size;have hw3:=(hb3.block (w.heap.size+1) oM).trans hA1;clear hb3;go_wp2_with fail;with_reducible refine(bCW _ _ _ rfl).mono ?_
 rintro e w4 ⟨rfl,hb4,hlt4,hc4⟩;have HB4:=Lh (HB3.out.trans (hb4.mono HB3.out.size));have HC4:=Lh (bGQ hlt4 hc4);have hw4:=(hb4.block (w.heap.size+1) oM).trans hw3;obtain⟨r0,r1,rf⟩:=iE hw4;clear hb4 hlt4 hc4;go_wp2_with fail;refine bGN (v:=.tuple #[.agg #[.func (.func 190) #[] #[.pointer (some ⟨W0.heap.size,0,none⟩)],.func (.func 192) #[] #[.pointer (some ⟨w3.heap.size,0,none⟩)]],.int .i64 0]) q221 rfl ?_;have hb:=HB4.out;have hn1:w.heap.size+1≠w3.heap.size:=oM;have hn2:w3.heap.size≠w.heap.size+1:=oM;refine⟨bel,?_⟩;rw[HRF.out];simp only[HE.out.1,HE.out.2.1,HE.out.2.2,if_true,Bool.false_eq_true,if_false];refine⟨_,_,_,_,rfl,by simp;exact HC4.out.1,?_⟩;rw[World.cell?_setCell_far _ _ _ _ hn1,World.cell?_setCell_far _ _ _ _ hn1];exact HC4.out.2):p:=h
end
namespace Go.Proofs.YtdjpkgccakgkbaaGreatDoor
open Go.Proofs.Tryz
open Go.RowKit Fo
theorem bCV(w:World)(v:Value)(k:Nat)(hv:v=.func (.func k) #[] #[]):Calls prog 145 #[v] w fun e w'=>e=.returned (.func (.func 190) #[] #[.pointer (some ⟨w.heap.size,0,none⟩)])/\Below w.heap.size w w':=by
 subst hv;have hmf:∀(fn:Fn) (first cap:Array Value) (w:World),(Instr.makeFunc fn first cap).run prog w=.ok (.func fn first cap) w:=fun _ _ _ _=>rfl
 go_enter func145,ntmps145
 exact q597
theorem bCW(w:World)(v:Value)(k:Nat)(hv:v=.func (.func k) #[] #[]):Calls prog 147 #[v] w fun e w'=>e=.returned (.func (.func 192) #[] #[.pointer (some ⟨w.heap.size,0,none⟩)])/\Below w.heap.size w w'/\w.heap.size<w'.heap.size/\w'.cell? ⟨w.heap.size,0,none⟩=some v:=by
 subst hv;have hmf:∀(fn:Fn) (first cap:Array Value) (w:World),(Instr.makeFunc fn first cap).run prog w=.ok (.func fn first cap) w:=fun _ _ _ _=>rfl
 go_enter func147,ntmps147
 go_wp2;go_ret
 exact⟨rfl,bel,sI,sI⟩
def oB(name:L)(p:Pm)(s:L):Res L :=
 match iR name with
 |none=>.bad 15
 |some f=>if f==pF then lF s 1048576 else if f==lI then iD s 1048576 else if f==pG then lG s 1048576 else if fY p then pX p s else .bad 1
def bFP(w:World)(name:L)(p:Pm)(e:Ending)(w':World):Prop :=
 Below w.heap.size w w'/\match iR name with
 |none=>e=.returned (.tuple #[.agg #[.nilFunc,.nilFunc],.int .i64 15])
 |some f=>if f==pF then∃fn fs cs b,e=.returned (.tuple #[.agg #[.func fn fs cs,.func (.func 192) #[] #[.pointer (some ⟨b,0,none⟩)]],.int .i64 0])/\b<w'.heap.size/\w'.cell? ⟨b,0,none⟩=some (.func (.func 148) #[] #[])
  else if f==lI then∃fn fs cs b,e=.returned (.tuple #[.agg #[.func fn fs cs,.func (.func 192) #[] #[.pointer (some ⟨b,0,none⟩)]],.int .i64 0])/\b<w'.heap.size/\w'.cell? ⟨b,0,none⟩=some (.func (.func 150) #[] #[])
  else if f==pG then∃fn fs cs b,e=.returned (.tuple #[.agg #[.func fn fs cs,.func (.func 192) #[] #[.pointer (some ⟨b,0,none⟩)]],.int .i64 0])/\b<w'.heap.size/\w'.cell? ⟨b,0,none⟩=some (.func (.func 152) #[] #[])
  else∃fn fs cs,e=.returned (.tuple #[.agg #[.func fn fs cs,.func (.func 154) #[.agg #[.int .i64 p.pred,.int .i64 p.colors,.int .i64 p.columns]] #[]],.int .i64 (if fY p then 0 else 1)])
theorem bET(w:World)(name:L)(p:Pm) :
 Calls prog 101 #[.string ⟨name.toArray⟩,.agg #[.int .i64 p.pred,.int .i64 p.colors,.int .i64 p.columns]] w (bFP w name p):=by
 have HF:=Lh (fun W=>aND W name);have HC:=Lh (fun W=>zS W p);have hmf:∀(fn:Fn) (first cap:Array Value) (w:World),(Instr.makeFunc fn first cap).run prog w=.ok (.func fn first cap) w:=fun _ _ _ _=>rfl
 have hsn:∀(m:Mode) (ad:Addr) (w:World),(store ad .nilFunc m).run prog w=stored prog w ad .nilFunc m:=fun m ad w=>run_store prog w ad _ m rfl
 have hsf:∀(m:Mode) (ad:Addr) (fn:Fn) (f c:Array Value) (w:World),(store ad (.func fn f c) m).run prog w=stored prog w ad (.func fn f c) m:=fun m ad fn f c w=>run_store prog w ad _ m rfl
 obtain⟨a,b,c⟩:=p;unfold pmV at HC;dsimp only at HC ⊢;obtain⟨RF,hRF⟩:=eX (iR name);have HRF:=Lh hRF;rw[hRF] at HF;clear hRF;cases RF with
 |none =>
  go_enter func101,ntmps101
  go_wp2_with fail;refine(HF.out _).mono ?_;rintro e w1 ⟨rfl,rfl⟩;go_wp2_with fail;exact bGN (v:=.tuple #[.agg #[.nilFunc,.nilFunc],.int .i64 15]) (by simp[results,results101,go_sem]) rfl ⟨bel,by rw[HRF.out]⟩
 |some f =>
  have hl:(⟨f.toArray⟩:ByteArray).toList=f:=by rw[ByteArray.toList_eq]
  have q1:((⟨f.toArray⟩:ByteArray).toList==([65,83,67,73,73,72,101,120,68,101,99,111,100,101]:L))=(f==pF):=q219;have q3:((⟨f.toArray⟩:ByteArray).toList==([65,83,67,73,73,56,53,68,101,99,111,100,101]:L))=(f==lI):=q219;have q5:((⟨f.toArray⟩:ByteArray).toList==([82,117,110,76,101,110,103,116,104,68,101,99,111,100,101]:L))=(f==pG):=q219;obtain⟨t1,e1⟩:∃t,(f==pF)=t:=⟨_,rfl⟩
  obtain⟨t3,e3⟩:∃t,(f==lI)=t:=⟨_,rfl⟩
  obtain⟨t5,e5⟩:∃t,(f==pG)=t:=⟨_,rfl⟩
  have HE:=Lh (bGQ e1 (bGQ e3 e5));rw[e1] at q1;rw[e3] at q3;rw[e5] at q5;have HF2:=Lh (show∀W,Calls prog 98 #[.string ⟨name.toArray⟩] W fun e w'=>w'=W/\e=.returned (.tuple #[.string ⟨f.toArray⟩,.bool true]) from HF.out);clear hl e1 e3 e5 HF;generalize (⟨f.toArray⟩:ByteArray)=S at q1 q3 q5 HF2
  go_enter func101,ntmps101
  go_wp2_with fail;refine(HF2.out _).mono ?_;rintro e w1 ⟨rfl,rfl⟩;have hA1:=heap_alloc2_new w (.cells #[.int .i64 a,.int .i64 b,.int .i64 c] 131) (.cells #[.nilFunc,.nilFunc] 170);have hA0:=heap_alloc2_old w (.cells #[.int .i64 a,.int .i64 b,.int .i64 c] 131) (.cells #[.nilFunc,.nilFunc] 170);have sz0:((w.alloc (.cells #[.int .i64 a,.int .i64 b,.int .i64 c] 131)).alloc (.cells #[.nilFunc,.nilFunc] 170)).heap.size=w.heap.size+2:=sI;generalize hW0:(w.alloc _).alloc _=W0 at hA0 hA1 sz0 ⊢
  have HB0:=Lh (show Below w.heap.size w W0 by rw[<-hW0];exact bel);cases t1 with
  |true =>
   exact q293
  |false =>
   cases t3 with
   |true =>
    exact q293
   |false =>
    cases t5 with
    |true =>
     exact q293
    |false =>
     have HAx:=Lh (bGQ hA0 hA1);obtain⟨c0,c1,c2,cf⟩:=aE hA0;go_upto_region 12 with fail
     have hX0:=(heap_alloc_old W0 (.cells #[.int .i64 a,.int .i64 b,.int .i64 c] 223) oM).trans hA0;have hX1:=(heap_alloc_old W0 (.cells #[.int .i64 a,.int .i64 b,.int .i64 c] 223) oM).trans hA1;have hX2:=bGP W0 (.cells #[.int .i64 a,.int .i64 b,.int .i64 c] 223);rw[sz0] at hX2;have hb:=HB0.out;have HB1:=Lh (show Below w.heap.size w (W0.alloc (.cells #[.int .i64 a,.int .i64 b,.int .i64 c] 223)) from bel);have sz1:(W0.alloc (.cells #[.int .i64 a,.int .i64 b,.int .i64 c] 223)).heap.size=w.heap.size+3:=by simp[sz0]
     clear hb c0 c1 c2 cf;generalize (W0.alloc (.cells #[.int .i64 a,.int .i64 b,.int .i64 c] 223))=W1 at hX0 hX1 hX2 sz1 HB1 ⊢
     clear hW0 hA0 hA1 sz0 HB0 HAx;obtain⟨c0,c1,c2,cf⟩:=aE hX0;obtain⟨r0,r1,rf⟩:=iE hX1;obtain⟨d0,d1,d2,df⟩:=aE hX2;have HXX:=Lh (bGQ hX0 (bGQ hX1 hX2));clear hX0 hX1 hX2;obtain⟨VM,hVM⟩:∃VM:Int,(if fY ⟨a,b,c⟩=true then(0:Int) else 1)=VM:=⟨_,rfl⟩
     have HVM:=Lh hVM;rw[hVM] at HC;clear hVM;go_region_law (first
      |(go_simp;go_at_call 100;(with_reducible refine(HC.out _).mono ?_);rintro e w5 ⟨rfl,hb5⟩;(have HB5:=Lh (show Below W1.heap.size W1 w5 from bHE q204 hb5));(obtain⟨c0',c1',c2',cf'⟩:=aE ((HB5.out.block w.heap.size oM).trans HXX.out.1));(obtain⟨r0',r1',rf'⟩:=iE ((HB5.out.block (w.heap.size+1) oM).trans HXX.out.2.1));(obtain⟨d0',d1',d2',df'⟩:=aE ((HB5.out.block (w.heap.size+2) oM).trans HXX.out.2.2));clear hb5))
     all_goals go_wp2_with fail
     all_goals refine bGN (v:=.tuple #[.agg #[.func (.func 153) #[.agg #[.int .i64 a,.int .i64 b,.int .i64 c]] #[],.func (.func 154) #[.agg #[.int .i64 a,.int .i64 b,.int .i64 c]] #[]],.int .i64 VM]) (by simp[results,results101,go_sem,r0',r1',rf']) rfl ?_
     all_goals have hb:=bHE HB1.out (HB5.out.mono oM)
     all_goals refine⟨bel,?_⟩
     all_goals rw[HRF.out]
     all_goals simp only[HE.out.1,HE.out.2.1,HE.out.2.2,Bool.false_eq_true,if_false]
     all_goals rw[HVM.out]
     all_goals exact⟨_,_,_,rfl⟩
end Go.Proofs.YtdjpkgccakgkbaaGreatDoor
