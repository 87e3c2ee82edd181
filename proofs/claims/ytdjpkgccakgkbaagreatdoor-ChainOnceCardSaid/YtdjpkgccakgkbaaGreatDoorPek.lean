/- Parts of the proof: Parse FaceP Top. -/
import Derived.Test.YtdjpkgccakgkbaaGreatDoorPej
import Derived.Test.YtdjpkgccakgkbaaGreatDoorPeb
set_option linter.all false
set_option maxRecDepth 100000
set_option maxHeartbeats 8000000
section
variable{p:Prop}
theorem q347(h:p:=by
 refine callsD_of_wpS func122 rfl fun c₀ cs hu=>?_
 simp only[ntmps122,List.size_toArray,bHA,List.length_nil,Nat.reduceAdd,Nat.reduceSub,Array.replicate_succ,Array.replicate_zero,List.push_toArray,List.append_toArray,List.nil_append,List.cons_append];apply wpS_seq
 apply wpS_region
 simp[wpOpsS,go_sem,recoverD,hu,ntmps122,Exit.thenS];refine wpS_of_wp ?_;go_wp2;cases c₀;simp_all [bodyPostS,results,results122]):p:=h
theorem q401(h:p:=by
 rintro e w' ⟨he,hw⟩;exact aPW he hw ha hr):p:=h
theorem q466(h:p:=by rename_i e he;cases h;have:=tH he;omega):p:=h
theorem q521(h:p:=by rw[hs1.block _ sO oM,bGM _ _ _ sI];exact aA _ _ _ rfl):p:=h
end
namespace Go.Proofs.YtdjpkgccakgkbaaGreatDoor
open Go.Proofs.Tryz
open Go.RowKit Fo
theorem aPW{r:Nat}{s:ByteArray}{d a:Nat}{w w':World}{k n g:Int}{x:L}{e:Ending}(he:e=.returned (obV k n g x))(hb:Below w.heap.size w w')(ha:a<=s.size)(hr:aU w r s a) :
 lC r s (d+1) w (.good (.mk k n g x [] [],s.data.toList.drop a)) e w' :=
 ⟨_,a,he,ha,rfl,aUT _ d w' k n g x,hr.below hb,.of_below hb⟩
theorem aWB(s:ByteArray)(m:Int):aDN s m 0:=by
 intro r a p t w ha hm hr hp hk h6 h0;rw[dM];cases hb:bL t
 ·refine(yM r t p a (24-((0:Nat):Int)) hb w).mono ?_;rintro e w' ⟨he,hw⟩;exact⟨he,.of_below hw⟩
 ·refine(aDO r t p a hb w).mono ?_;rintro e w' ⟨he,hw⟩;exact⟨he,.of_below hw⟩
theorem aWC(s:ByteArray)(hs:s.size<=140737488355327)(m:Int)(d:Nat)(hd:d<24)(HA:bFE s m d)(HD:aVD s m d):aDN s m (d+1):=by
 intro r a p t w ha hm hr hp hk h6 h0;have hd0:(24:Int)-((d+1:Nat):Int)<24:=oM;rw[dM];cases hb:bL t
 ·refine(yM r t p a _ hb w).mono ?_;rintro e w' ⟨he,hw⟩;exact⟨he,.of_below hw⟩
 simp only[if_true];by_cases k1:t.kind=1
 ·rw[bGV k1];cases hn:uB t (s.data.toList.drop a) with
  |none =>
   refine(aHU s a a r t p _ hd0 hb w ha hs m hm hr k1 hn).mono ?_;exact q401
  |some x =>
   obtain⟨g,aP⟩:=x;refine(aHV s a a r t p _ hd0 hb w ha hs m hm hr k1 g aP hn).mono ?_;rintro e w' ⟨z,hz1,hz2,he,hR,hB⟩;exact⟨_,z,he,hz1,hz2.symm,aUT _ _ w' 8 t.n g [],hR,hB⟩
 rw[bGU k1];by_cases k2:t.kind=2
 ·rw[bGV k2];refine(aDP r t p a _ hd0 hb w k2).mono ?_;exact q401
 rw[bGU k2];by_cases k3:t.kind=3
 ·rw[bGV k3];refine(aHT r t p a _ hd0 hb w k3).mono ?_;exact q401
 rw[bGU k3];by_cases k4:t.kind=4
 ·rw[bGV k4];refine(aDQ r t p a _ hd0 hb w k4).mono ?_;exact q401
 rw[bGU k4];by_cases k5:t.kind=5
 ·rw[bGV k5];by_cases hn:t.s=vB
  ·rw[bGV hn];refine(aDR r t p a _ hd0 hb w k5 hn).mono ?_;exact q401
  ·rw[bGU hn];refine(aDS r t p a _ hd0 hb w k5 hn).mono ?_;exact q401
 rw[bGU k5];have k6:t.kind=6:=oM;by_cases hn:t.s=[91]
 ·rw[bGV hn];have:=aHW s a a r t p (24-((d+1:Nat):Int)) hd0 oM hb w hs m hm hr k6 hn (d+2) _ (fun W hW hR=>by
   have:=HA r a W ha hW hR;rw[show(24:Int)-((d+1:Nat):Int)+1=24-(d:Int) by omega];exact this)
  exact this
 ·rw[bGU hn];have:=aDT s a a r t p (24-((d+1:Nat):Int)) hd0 oM hb w hs m hm hr k6 hn (d+2) _ (fun W hW hR=>by
   have:=HD r a W ha hW hR;rw[show(24:Int)-((d+1:Nat):Int)+1=24-(d:Int) by omega];exact this)
  exact this
theorem aII(s:ByteArray)(hs:s.size<=140737488355327)(m:Int):∀d,d<=24->aDN s m d
 |0,_=>aWB s m
 |d+1,h=>aWC s hs m d oM (aVL s m d hs oM (aII s hs m d oM)) (bBB s m d hs oM (aII s hs m d oM))
theorem aIJ(q:Addr)(w:World) :
 CallsD prog 122 #[.pointer (some q)] .returning w fun e u' w'=>e=.returned (.tuple #[])/\u'=.returning/\w'=w:=by
 exact q347
theorem tG(q:Addr)(x:Int)(older:List PanicEntry)(w:World)(v1:Int)(c1:w.cell? q=some (.int .i64 v1))(f1:w.frozen? q=false) :
 CallsD prog 122 #[.pointer (some q)] (.panicking ({ v:=.iface 233 (.int .i64 x),recovered:=false }::older)) w fun e u' w' =>
  e=.returned (.tuple #[])/\u'=.panicking ({ v:=.iface 233 (.int .i64 x),recovered:=true }::older)/\w'=w.setCell q (.int .i64 x):=by
 have hta:∀(x:Int) (w:World),(Instr.typeAssert (.iface 233 (.int .i64 x)) 20 233 true).run prog w=.ok (.tuple #[.int .i64 x,.bool true]) w:=fun _ _=>kR
 exact q347
theorem gV(w:World)(b:Nat):w.drew.heap[b]?=w.heap[b]?:=rfl
def aEM(r:Nat)(s:ByteArray)(w:World)(R:Res (Ob×L))(e:Ending)(w':World):Prop :=
 match R with
 |.good (o,aP)=>∃(p1:Option Addr) (n1 c1:Nat) (p2:Option Addr) (n2 c2 z:Nat),e=.returned (.tuple #[.agg #[.int .i64 o.kind,.int .i64 o.n,.int .i64 o.g,.string ⟨o.s.toArray⟩,.slice p1 n1 c1,.slice p2 n2 c2],.int .i64 0])/\z<=s.size/\aP=s.data.toList.drop z /\
  aI (fun b=>w.heap.size<=b) 25 w' (aB o.kind o.n o.g o.s (.slice p1 n1 c1) (.slice p2 n2 c2)) o/\aU w' r s z/\Bes r w w'
 |.bad k=>e=.returned (.tuple #[.agg #[.int .i64 0,.int .i64 0,.int .i64 0,.string ⟨#[]⟩,.slice none 0 0,.slice none 0 0],.int .i64 k])/\Bes r w w'
theorem aIK{l r:L}{t:Tok}(h:bE l=.good (t,r)):fA l=dM 24 t r:=by unfold fA;rw[h]
theorem aPX{l:L}{k:Int}(h:bE l=.bad k):fA l=.bad k:=by unfold fA;rw[h]
theorem aPY(r:Nat)(s:ByteArray)(a:Nat)(k:Int)(ha:a<=s.size)(hs:s.size<=140737488355327)(m:Int)(w:World)(hm:aF w m)(hr:aU w r s a)(h:bE (s.data.toList.drop a)=.bad k) :
 Calls prog 85 #[.pointer (some ⟨r,0,none⟩)] w fun e w'=>e=.returned (.tuple #[.agg #[.int .i64 0,.int .i64 0,.int .i64 0,.string ⟨#[]⟩,.slice none 0 0,.slice none 0 0],.int .i64 k])/\Bes r w w':=by
 have HN:=Lh (fun W hm hr=>oI r s a k ha hs m W hm hr h);have hlt:=hr.lt;clear h;go_enter_defers func85,ntmps85
 go_wp2_with fail;refine(HN.out _ (hm.below bel) (hr.below bel)).mono ?_;rintro e w1 ⟨rfl,hs1⟩;have hl1:=hs1.size;simp at hl1;have n0:w1.heap[w.heap.size]?=some (.cells #[.int .i64 0,.int .i64 0,.int .i64 0,.string ⟨#[]⟩,.slice none 0 0,.slice none 0 0] 31 (0,0)):=by
  exact q521
 have n1:w1.heap[w.heap.size+1]?=some (.cells #[.int .i64 0] 24 (0,0)):=by
  rw[hs1.block _ sI oM];exact aA _ _ _ sI
 obtain⟨x0,x1,x2,x3,x4,x5,xf⟩:=aD n0;have y0:w1.cell? ⟨w.heap.size+1,0,none⟩=some (.int .i64 0):=by simp[World.cell?,n1]
 have yf:w1.frozen? ⟨w.heap.size+1,0,none⟩=false:=by simp[World.frozen?,n1]
 have hbw:Bes r w w1:=(Bes.of_below (show Below w.heap.size w ((w.alloc _).alloc _) from bel)).trans hs1;clear n0 n1;go_wp2;refine bGW (f:=122) (args:=#[.pointer (some ⟨w.heap.size+1,0,none⟩)]) sI q39 ?_;refine(tG _ _ _ _ 0 y0 yf).mono ?_;rintro e u' w'' ⟨rfl,rfl,rfl⟩;simp[Leaves,settle,results,results85,go_sem,x0,x1,x2,x3,x4,x5,xf,y0,yf];exact hbw.setCell_new sI _
theorem aPZ(r:Nat)(s:ByteArray)(a p q:Nat)(t:Tok)(ha:a<=s.size)(hs:s.size<=140737488355327)(m:Int)(w:World)(hm:aF w m)(hr:aU w r s a)(h1:(aM (s.data.toList.drop a)).2=.good t)(hk:t.kind≠0)(hp:a+(aM (s.data.toList.drop a)).1=p)
 (hq':p+t.len=q) (hq:q<=s.size) (h6:t.kind<=6) (h0:0<=t.kind) :
 Calls prog 85 #[.pointer (some ⟨r,0,none⟩)] w (aEM r s w (dM 24 t (s.data.toList.drop q))):=by
 have HN:=Lh (fun W hm hr=>mH r s a p t ha hs m W hm hr h1 hk hp);unfold tkV at HN;rw[hq'] at HN;have HO:=Lh (fun W hm hr=>aII s hs m 24 dC r q p t W hq hm hr hq' hk h6 h0);have hlt:=hr.lt;have hne:=hm.ne hr;have e0:(24:Int)-((24:Nat):Int)=0:=dC;rw[e0] at HO;clear h1 hp hq' hk h6 h0 e0;go_enter_defers func85,ntmps85
 go_wp2_with fail;refine(HN.out _ (hm.below bel) (hr.below bel)).mono ?_;rintro e w1 ⟨rfl,hr1,hs1⟩;have hm1:aF w1 m:=(hm.below (w':=(w.alloc (.cells #[.int .i64 0,.int .i64 0,.int .i64 0,.string ⟨#[]⟩,.slice none 0 0,.slice none 0 0] 31)).alloc (.cells #[.int .i64 0] 24)) bel).bes hs1 hne;have hl1:=hs1.size;simp at hl1;have gn0:w1.heap[w.heap.size]?=some (.cells #[.int .i64 0,.int .i64 0,.int .i64 0,.string ⟨#[]⟩,.slice none 0 0,.slice none 0 0] 31 (0,0)):=by
  exact q521
 have gn1:w1.heap[w.heap.size+1]?=some (.cells #[.int .i64 0] 24 (0,0)):=by
  rw[hs1.block _ sI oM];exact aA _ _ _ sI
 have hbw:Bes r w w1:=(Bes.of_below (show Below w.heap.size w ((w.alloc _).alloc _) from bel)).trans hs1;go_wp2_with fail;refine(HO.out _ hm1 hr1).mono ?_;intro e w2 hpost;cases hR:dM 24 t (s.data.toList.drop q) with
 |bad k =>
  rw[hR] at hpost;obtain⟨rfl,hs2⟩:=hpost;have o0:=(hs2.block w.heap.size oM oM).trans gn0;have o1:=(hs2.block (w.heap.size+1) oM oM).trans gn1;obtain⟨x0,x1,x2,x3,x4,x5,xf⟩:=aD o0;have y0:w2.cell? ⟨w.heap.size+1,0,none⟩=some (.int .i64 0):=by simp[World.cell?,o1]
  have yf:w2.frozen? ⟨w.heap.size+1,0,none⟩=false:=by simp[World.frozen?,o1]
  have hl2:=hs2.size;have hbw2:Bes r w w2:=hbw.trans hs2;clear gn0 gn1 o0 o1 hs2 hbw;go_wp2;refine bGW (f:=122) (args:=#[.pointer (some ⟨w.heap.size+1,0,none⟩)]) sI q39 ?_;refine(tG _ _ _ _ 0 y0 yf).mono ?_;rintro e u' w'' ⟨rfl,rfl,rfl⟩;simp[Leaves,settle,results,results85,go_sem,x0,x1,x2,x3,x4,x5,xf,y0,yf];exact⟨rfl,hbw2.setCell_new sI _⟩
 |good x =>
  obtain⟨o,aP⟩:=x;rw[hR] at hpost;obtain⟨cs,z,rfl,hz1,hz2,hO,hR2,hs2⟩:=hpost;obtain⟨p1,n1,c1,p2,n2,c2,rfl⟩:=hO.shape;have o0:=(hs2.block w.heap.size oM oM).trans gn0;have o1:=(hs2.block (w.heap.size+1) oM oM).trans gn1;obtain⟨x0,x1,x2,x3,x4,x5,xf⟩:=aD o0;have y0:w2.cell? ⟨w.heap.size+1,0,none⟩=some (.int .i64 0):=by simp[World.cell?,o1]
  have yf:w2.frozen? ⟨w.heap.size+1,0,none⟩=false:=by simp[World.frozen?,o1]
  have hl2:=hs2.size;have hbw2:Bes r w w2:=hbw.trans hs2;clear gn0 gn1 o0 o1 hs2 hbw;have HO2:=Lh (fun(W:World) (h:∀b,w1.heap.size<=b->W.heap[b]?=w2.heap[b]?)=>oK (B:=w.heap.size) (w3:=W) hO oM h);have HZ:=Lh hz2;have hl3:w.heap.size+1<w2.heap.size:=oM;have hl4:w.heap.size<w2.heap.size:=oM;clear hO hz2;unfold aB;go_wp2;refine bGW (f:=122) (args:=#[.pointer (some ⟨w.heap.size+1,0,none⟩)]) sI q39 ?_;refine(aIJ _ _).mono ?_;rintro e u' w'' ⟨rfl,rfl,rfl⟩;simp[Leaves,settle,results,results85,go_sem,x0,x1,x2,x3,x4,x5,xf,y0,yf];rw[hR];refine⟨p1,n1,c1,p2,n2,c2,z,rfl,hz1,HZ.out,HO2.out _ ?_,hR2.belowB (B:=r+1) xK oM,?_⟩
  ·intro b hb;rw[bGK _ _ _ _ q105,bGK _ _ _ _ q110,bGK _ _ _ _ q110,bGK _ _ _ _ q110,bGK _ _ _ _ q110,bGK _ _ _ _ q110,bGK _ _ _ _ q110]
  ·(repeat' (first|(with_reducible exact hbw2)|(with_reducible refine Bes.setCell_new ?_ ?_ _)|(show _<=_;simp;done)|(show _<=_;simp;omega)|omega))
theorem aWD(r:Nat)(s:ByteArray)(a:Nat)(ha:a<=s.size)(hs:s.size<=140737488355327)(m:Int)(w:World)(hm:aF w m)(hr:aU w r s a) :
 Calls prog 85 #[.pointer (some ⟨r,0,none⟩)] w (aEM r s w (fA (s.data.toList.drop a))):=by
 cases hn:bE (s.data.toList.drop a) with
 |bad k=>rw[aPX hn];exact aPY r s a k ha hs m w hm hr hn
 |good tr =>
  obtain⟨t,aP⟩:=tr;rw[aIK hn];obtain⟨h1,hk,hrest⟩:=gS hn;obtain⟨g1,g2,g3,_⟩:=cW h1;simp only[bGS,Array.length_toList,show s.data.size=s.size from rfl] at g1;rw[List.drop_drop,<-bHM] at hrest;subst hrest;exact aPZ r s a _ _ t ha hs m w hm hr h1 hk rfl rfl oM g3 g2
def bBC(s:ByteArray)(w:World)(R:Res (Ob×L))(e:Ending)(w':World):Prop :=
 match R with
 |.good (o,aP)=>∃(p1:Option Addr) (n1 c1:Nat) (p2:Option Addr) (n2 c2 z:Nat),e=.returned (.tuple #[.agg #[.int .i64 o.kind,.int .i64 o.n,.int .i64 o.g,.string ⟨o.s.toArray⟩,.slice p1 n1 c1,.slice p2 n2 c2],.int .i64 z,.int .i64 0])/\z<=s.size/\aP=s.data.toList.drop z /\
  aI (fun b=>w.heap.size<=b) 25 w' (aB o.kind o.n o.g o.s (.slice p1 n1 c1) (.slice p2 n2 c2)) o/\Below w.heap.size w w'
 |.bad k=>e=.returned (.tuple #[.agg #[.int .i64 0,.int .i64 0,.int .i64 0,.string ⟨#[]⟩,.slice none 0 0,.slice none 0 0],.int .i64 0,.int .i64 k])/\Below w.heap.size w w'
theorem eO{n r:Nat}{w w1 w2:World}(h:Below n w w1)(hb:Bes r w1 w2)(hr:n<=r)(hn:n<=w1.heap.size):Below n w w2 :=
 ⟨hb.os.trans h.os,hb.tape.trans h.tape,hb.output.trans h.output,bGC h.size hb.size,fun k hk=>(hb.block k oM oM).trans (h.block k hk)⟩
theorem tH{l:L}{k:Int}(h:bE l=.bad k):2<=k/\k<=5:=by
 rcases yH h with h|⟨h,_⟩
 ·exact lP h
 ·omega
theorem vV{f:Tok->L->Res (Ob×L)}(hf:∀t l k,f t l=.bad k->2<=k/\k<=9){d:Nat}:∀{m:Nat} {l:L} {acc:List Ob} {k:Int},l.length<m->(∀t l o r,f t l=.good (o,r)->r.length<=l.length)->iN f d m l acc=.bad k->2<=k/\k<=9
 |0,_,_,_,h,_,_=>oM
 |m+1,l,acc,k,hm,hs,h=>by
  rw[iN] at h;split at h
  ·exact q466
  ·rename_i t r h1
   have h2:=(bQ h1).1;split at h
   ·cases h
   ·split at h
    ·cases h;omega
    ·split at h
     ·rename_i e he;cases h;exact hf _ _ _ he
     ·rename_i o r2 h3
      have:=hs _ _ _ _ h3;exact vV hf oM hs h
theorem tI{f:Tok->L->Res (Ob×L)}(hf:∀t l k,f t l=.bad k->2<=k/\k<=9):∀{m:Nat} {l:L} {acc:List (L×Ob)} {k:Int},l.length<m->(∀t l o r,f t l=.good (o,r)->r.length<=l.length)->cQ f m l acc=.bad k->2<=k/\k<=9
 |0,_,_,_,h,_,_=>oM
 |m+1,l,acc,k,hm,hs,h=>by
  rw[cQ] at h;split at h
  ·exact q466
  ·rename_i t r h1
   have h2:=(bQ h1).1;split at h
   ·cases h
   ·split at h
    ·cases h;omega
    ·split at h
     ·cases h;omega
     ·split at h
      ·cases h;omega
      ·split at h
       ·exact q466
       ·rename_i t2 r2 h4
        have h5:=(bQ h4).1;split at h
        ·rename_i e he;cases h;exact hf _ _ _ he
        ·rename_i o r3 h3
         have:=hs _ _ _ _ h3;exact tI hf oM hs h
theorem pS:∀(d:Nat) (t:Tok) (l:L) (k:Int),dM d t l=.bad k->2<=k/\k<=9
 |0,t,l,k,h=>by rw[dM] at h;split at h<;>cases h<;>omega
 |d+1,t,l,k,h=>by
  rw[dM] at h;split at h
  ·split at h
   ·split at h<;>cases h
   ·split at h
    ·cases h
    ·split at h
     ·cases h
     ·split at h
      ·cases h
      ·split at h
       ·cases h
       ·split at h
        ·split at h
         ·rename_i e he;cases h;exact vV (pS d) oM (dI d) he
         ·cases h
        ·split at h
         ·rename_i e he;cases h;exact tI (pS d) oM (dI d) he
         ·cases h
  ·cases h;omega
theorem kG{l:L}{k:Int}(h:fA l=.bad k):2<=k/\k<=9:=by
 unfold fA at h;split at h
 ·exact q466
 ·exact pS _ _ _ _ h
theorem sG(s:ByteArray)(a:Nat)(ha:a<=s.size)(hs:s.size<=140737488355327)(m:Int)(w:World)(hm:aF w m) :
 Calls prog 52 #[.string s,.int .i64 a] w (bBC s w (fA (s.data.toList.drop a))):=by
 obtain⟨R,hR⟩:=eX (fA (s.data.toList.drop a));have HRD:=Lh (fun r W hm hr=>hR▸aWD r s a ha hs m W hm hr);have HCO:=Lh (fun k (h:R=.bad k)=>kG (hR.trans h));rw[hR];clear hR;have hlt:decide ((s.size:Int)<a)=false:=sO;go_enter func52,ntmps52
 go_wp2_with fail;refine(HRD.out _ _ (hm.below bel) (aA _ _ _ sI)).mono ?_;intro e w1 hpost;have bW:Below w.heap.size w ((w.alloc (.cells #[.int .i64 0,.int .i64 0,.int .i64 0,.string ⟨#[]⟩,.slice none 0 0,.slice none 0 0] 31)).alloc (.cells #[.string s,.int .i64 a] 150)):=bel;have g0:((w.alloc (.cells #[.int .i64 0,.int .i64 0,.int .i64 0,.string ⟨#[]⟩,.slice none 0 0,.slice none 0 0] 31)).alloc (.cells #[.string s,.int .i64 a] 150)).heap[w.heap.size]?=some (.cells #[.int .i64 0,.int .i64 0,.int .i64 0,.string ⟨#[]⟩,.slice none 0 0,.slice none 0 0] 31 (0,0)):=by
  exact q553
 cases R with
 |bad k =>
  obtain⟨rfl,hs1⟩:=hpost;have hb1:Below w.heap.size w w1:=eO bW hs1 sI sO;have hl1:w.heap.size+2<=w1.heap.size:=by have:=hs1.size;simp at this;omega
  have g1:=(hs1.block w.heap.size sO sI).trans g0;obtain⟨x0,x1,x2,x3,x4,x5,xf⟩:=aD g1;have hk0:(k !=0)=true:=by have:=HCO.out k rfl;simp;omega
  have hnw:w.heap.size<w1.heap.size:=oM;clear hs1 bW g0 g1;go_wp2;refine bGN (v:=.tuple #[.agg #[.int .i64 0,.int .i64 0,.int .i64 0,.string ⟨#[]⟩,.slice none 0 0,.slice none 0 0],.int .i64 0,.int .i64 k]) (by simp[results,results52,go_sem,x0,x1,x2,x3,x4,x5,xf,hnw]) rfl ⟨rfl,bel⟩
 |good x =>
  obtain⟨o,aP⟩:=x;obtain⟨p1,n1,c1,p2,n2,c2,z,rfl,hz1,hz2,hO,hR1,hs1⟩:=hpost;have hb1:Below w.heap.size w w1:=eO bW hs1 sI sO;have hl1:w.heap.size+2<=w1.heap.size:=by have:=hs1.size;simp at this;omega
  have g1:=(hs1.block w.heap.size sO sI).trans g0;obtain⟨x0,x1,x2,x3,x4,x5,xf⟩:=aD g1;have hnw:w.heap.size<w1.heap.size:=oM;have hnw1:w.heap.size+1<w1.heap.size:=oM;have hrc:=hR1.cell1;have HO2:=Lh (fun(W:World) (h:∀b,w.heap.size+2<=b->b<w1.heap.size->W.heap[b]?=w1.heap[b]?)=>aI.grow (S':=fun b=>w.heap.size<=b) (w':=W) hO (fun b hb1 hb2=>⟨by simp at hb1;omega,h b (by simpa using hb1) hb2⟩));have HZ:=Lh hz2;clear hs1 bW g0 g1 hO hR1 hz2;go_wp2;obtain⟨w3,hw3⟩:=eX (w1.alloc (.cells #[.int .i64 o.kind,.int .i64 o.n,.int .i64 o.g,.string ⟨o.s.toArray⟩,.slice p1 n1 c1,.slice p2 n2 c2] 31));have hb3:Below w1.heap.size w1 w3:=hw3▸bel;have hg3:w3.heap[w1.heap.size]?=some (.cells #[.int .i64 o.kind,.int .i64 o.n,.int .i64 o.g,.string ⟨o.s.toArray⟩,.slice p1 n1 c1,.slice p2 n2 c2] 31 (0,0)):=hw3▸bGP w1 _;rw[hw3];clear hw3;obtain⟨y0,y1,y2,y3,y4,y5,yf⟩:=aD hg3;have z0:=(hb3.cell (p:=⟨w.heap.size,0,none⟩) hnw).trans x0;have z1:=(hb3.cell (p:=⟨w.heap.size,1,none⟩) hnw).trans x1;have z2:=(hb3.cell (p:=⟨w.heap.size,2,none⟩) hnw).trans x2;have z3:=(hb3.cell (p:=⟨w.heap.size,3,none⟩) hnw).trans x3;have z4:=(hb3.cell (p:=⟨w.heap.size,4,none⟩) hnw).trans x4;have z5:=(hb3.cell (p:=⟨w.heap.size,5,none⟩) hnw).trans x5;have zf:∀o,w3.frozen? ⟨w.heap.size,o,none⟩=false:=fun o=>(hb3.frozen (p:=⟨w.heap.size,o,none⟩) hnw).trans (xf o)
  have zr:=(hb3.cell (p:=⟨w.heap.size+1,1,none⟩) hnw1).trans hrc;have ne1:¬w1.heap.size=w.heap.size:=oM;have ne2:¬w.heap.size=w1.heap.size:=oM;have hb13:Below w.heap.size w w3:=bel;have HO3:=Lh (fun(W:World) (h:∀b,w.heap.size+2<=b->b<w1.heap.size->W.heap[b]?=w3.heap[b]?)=>HO2.out W (fun b h1 h2=>(h b h1 h2).trans (hb3.block b h2)));have hl3:=hb3.size;clear x0 x1 x2 x3 x4 x5 xf hrc hg3;go_region_held3 (fun w'=>w'.cell? ⟨w1.heap.size,0,none⟩=some (.int .i64 o.kind)/\w'.cell? ⟨w1.heap.size,1,none⟩=some (.int .i64 o.n)/\w'.cell? ⟨w1.heap.size,2,none⟩=some (.int .i64 o.g)/\w'.cell? ⟨w1.heap.size,3,none⟩=some (.string ⟨o.s.toArray⟩)/\w'.cell? ⟨w1.heap.size,4,none⟩=some (.slice p1 n1 c1)/\w'.cell? ⟨w1.heap.size,5,none⟩=some (.slice p2 n2 c2)/\w'.cell? ⟨w.heap.size+1,1,none⟩=some (.int .i64 z)) (go_keep) (fail)
  go_wp2;refine bGN (v:=.tuple #[.agg #[.int .i64 o.kind,.int .i64 o.n,.int .i64 o.g,.string ⟨o.s.toArray⟩,.slice p1 n1 c1,.slice p2 n2 c2],.int .i64 z,.int .i64 0]) (by simp[results,results52,go_sem,z0,z1,z2,z3,z4,z5,zf]) rfl ?_;refine⟨p1,n1,c1,p2,n2,c2,z,rfl,hz1,HZ.out,HO3.out _ ?_,?_⟩
  ·intro b hb _;rw[gV,bGK _ _ _ _ q110,bGK _ _ _ _ q110,bGK _ _ _ _ q110,bGK _ _ _ _ q110,bGK _ _ _ _ q110,bGK _ _ _ _ q110]
  ·have hb:=hb13;exact bel
end Go.Proofs.YtdjpkgccakgkbaaGreatDoor
