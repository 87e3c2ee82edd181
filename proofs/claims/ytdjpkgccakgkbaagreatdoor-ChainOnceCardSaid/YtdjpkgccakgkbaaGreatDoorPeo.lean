/- Parts of the proof: ChA ChB ChC ChD ChF OvM WhK ChT TrR KnA. -/
import Derived.Test.YtdjpkgccakgkbaaGreatDoorPea
import Derived.Test.YtdjpkgccakgkbaaGreatDoorPen
import Derived.Test.YtdjpkgccakgkbaaGreatDoorPef
import Derived.Deep.AppendLies
import Derived.Deep.RegionLaw
import Derived.Recover
import Derived.Defers
import Derived.Deep.CutRange
import Derived.Test.YtdjpkgccakgkbaaGreatDoorPee
import Derived.Test.YtdjpkgccakgkbaaGreatDoorPei
import Derived.Test.YtdjpkgccakgkbaaGreatDoorPel
set_option linter.all false
set_option maxRecDepth 100000
set_option maxHeartbeats 8000000
section
variable{p:Prop}
theorem q262(h:p:=by first|(simp;done)|(simp;omega)):p:=h
theorem q263(h:p:=by simp[results,results22,go_sem,X0,X1,X2,X3,X4,X5,X6,X7,X8,X9,X10,Xf]):p:=h
theorem q264(h:p:=by rw[<-hwB];exact aA _ _ _ hgb.symm):p:=h
theorem q265(h:p:=by show mb<=w.heap.size;omega):p:=h
theorem q266(h:p:=by simp[results,results5,go_sem]):p:=h
theorem q349(h:p:=by
 refine callsD_of_wpS func21 rfl fun c₀ cs hu=>?_
 simp only[ntmps21,List.size_toArray,bHA,List.length_nil,Nat.reduceAdd,Nat.reduceSub,Array.replicate_succ,Array.replicate_zero,List.push_toArray,List.append_toArray,List.nil_append,List.cons_append];apply wpS_seq
 apply wpS_region
 simp[wpOpsS,go_sem,recoverD,hu,ntmps21,Exit.thenS];refine wpS_of_wp ?_;go_wp2;cases c₀;simp_all [bodyPostS,results,results21]):p:=h
theorem q350(h:p:=by
 have hbw:Below w.heap.size w (w.alloc (.cells #[.int .i64 0,.slice none 0 0,.int .i64 0,.int .i64 0,.int .i64 0,.string ⟨#[]⟩,.slice none 0 0,.slice none 0 0,.int .i64 0,.int .i64 0,.int .i64 0] 33)):=bel;have hlook:=(h.met.below hbw).look a hwf;rw[ha] at hlook;obtain⟨b0,b1,b2,bf⟩:=cT h.blk;have hlt:=bGJ h.blk;have hne:¬b=w.heap.size:=oM;clear h;go_enter func22,ntmps22
 go_wp2;exact⟨rfl,rfl,hbw⟩):p:=h
theorem q365(h:p:=by
 have h5:aG aO 33 w5 B (.slice (some ⟨g2,0,none⟩) (N+1) cap) (vs++[x]) := by
  unfold aG;rw[bGR,hN,Enc.row_append,show aO.row [x]=aO.cells x by simp[Enc.row]];exact hown5
 refine fB h5 (fun k e=>?_);have hB:=aK h5 k e;refine hW k oM (fun hk=>?_);subst hk;exact hg2n _ (bGB _) oM e):p:=h
theorem q391(h:p:=by
 refine⟨hos.trans (hgrow.os.trans hbw4.os),htape.trans (hgrow.tape.trans hbw4.tape),hout.trans (hgrow.output.trans hbw4.output),by have:=hbw4.size;omega,fun k hk=>?_⟩;exact(hW k oM oM).trans ((hblk k oM (fun e=>by have:=hkeep _ e;omega)).trans (hbw4.block k hk))):p:=h
theorem q414(h:p:=by
 refine⟨h.row.1,?_⟩;rcases h.row.2 with h0|⟨g,cap,cur,rfl,g2,g3,g4⟩
 ·exact .inl h0
 ·exact .inr ⟨g,cap,cur,rfl,g2,(hk g (bGJ g3) (fun e=>h3 (by rw[<-e];rfl))).trans g3,g4⟩):p:=h
theorem q452(h:p:=by
 obtain⟨p,c,e,_⟩:=aG.arg h.row;exact⟨p,c,e⟩):p:=h
theorem q462(h:p:=by
 intro k h1 h2 e;simp only[Value.ownBlock,Option.some.injEq] at e;rcases hat with h|h
 ·exact hnk k h1 (by rw[h,e])
 ·omega):p:=h
theorem q468(h:p:=by
 intro k h1 h2 e;simp only[Value.ownBlock,Option.some.injEq] at e;rcases hat with h|h
 ·exact h2 (by rw[h,e])
 ·omega):p:=h
end
namespace Go.Proofs.YtdjpkgccakgkbaaGreatDoor
open Go.Proofs.Tryz
open Go.RowKit Fo Go.Maps
def aGK(v:Value):Option (DataW Unit×List MemPlace):=match v with
 |.bool b=>some (.lit (.bool b),[])
 |_=>none
theorem aSM{v:Value}{z:DataW Unit×List MemPlace}(h:aGK v=some z):∃b:Bool,v=.bool b/\z=(.lit (.bool b),[]):=by
 unfold aGK at h;split at h
 ·rename_i b
  cases h;exact⟨b,rfl,rfl⟩
 ·cases h
theorem aZC(w:World):(zeroValue 4).run prog w=.ok (.bool false) w:=kR
structure aKP (D:DataW Unit) (ks:List Int):Prop where
 tidy:Tidy D
 at':∀c:Int,D.atKey (.int .i64 c) (.lit (.bool false))=.lit (.bool (ks.contains c))
theorem aKP.nil:aKP (.map []) []:=⟨tidy_empty,fun c=>rfl⟩
theorem aKP.push{D:DataW Unit}{ks:List Int}(h:aKP D ks)(c:Int):aKP (D.put (.int .i64 c) (.lit (.bool true))) (c::ks) :=
 ⟨h.tidy.put (lT _) _,fun x=>by
  by_cases hc:x=c
  ·subst hc;rw[atKey_put_same h.tidy.isMap (lT _)];simp
  ·rw[atKey_put_other q38,h.at'];simp[hc]⟩
def kA(w:World)(mb n:Nat)(ks:List Int):Prop:=∃D:DataW Unit,w.ownsMap prog 3 aGK mb n D/\aKP D ks
theorem kA.lt{w:World}{mb n:Nat}{ks:List Int}(h:kA w mb n ks):mb<w.heap.size:=by
 exact q513
theorem kA.kept{w w':World}{mb n:Nat}{ks:List Int}(h:kA w mb n ks)(hk:w'.heap[mb]?=w.heap[mb]?):kA w' mb n ks:=by
 exact q505
theorem kA.below{w w':World}{mb n:Nat}{ks:List Int}(h:kA w mb n ks)(hb:Below w.heap.size w w'):kA w' mb n ks:=h.kept (hb.block mb h.lt)
theorem kA.made(w:World):kA (w.alloc (.map #[] 0)) w.heap.size 0 []:=⟨_,World.ownsMap_made w _ _ _,aKP.nil⟩
theorem kA.look{w:World}{mb n:Nat}{ks:List Int}(h:kA w mb n ks)(c:Int)(hwf:(Lit.int .i64 c).wf=true) :
 (Instr.lookup 44 (.map (some mb)) (.int .i64 c) false).run prog w=.ok (.bool (ks.contains c)) w:=by
 obtain⟨D,hown,hD⟩:=h;obtain⟨v,ps,hrun,hv⟩:=hown.lookup (int_keyed underlying3) underlying44 (aZC w) (show aGK (.bool false)=some (.lit (.bool false),[]) from rfl) (keyOf_int_mk underlying3 hwf);obtain⟨b,rfl,hz⟩:=aSM hv;rw[hD.at'] at hz;simp only[Prod.mk.injEq,DataW.lit.injEq,Lit.bool.injEq] at hz;rw[hrun,hz.1]
theorem kA.upd{w:World}{mb n:Nat}{ks:List Int}(h:kA w mb n ks)(c:Int)(hwf:(Lit.int .i64 c).wf=true)(hn:n<maxLen) :
 ∃w',(Instr.mapUpdate 44 (.map (some mb)) (.int .i64 c) (.bool true)).run prog w=.ok () w'/\kA w' mb (n+1) (c::ks)/\w.grownBy w' (some mb):=by
 obtain⟨D,hown,hD⟩:=h;obtain⟨w',h1,h2,h3⟩:=hown.update (int_keyed underlying3) underlying44 hn (keyOf_int_mk underlying3 hwf) (show aGK (.bool true)=some (.lit (.bool true),[]) from rfl);exact⟨w',h1,⟨_,h2,hD.push c⟩,h3⟩
theorem Tryz.infoSec:(prog.info? 33).map (fun i=>(i.zero,i.size,i.bytes))=some (some (.agg #[.int .i64 0,.slice none 0 0,.int .i64 0,.int .i64 0,.int .i64 0,.string ⟨#[]⟩,.slice none 0 0,.slice none 0 0,.int .i64 0,.int .i64 0,.int .i64 0]),11,144):=kR
structure dF (T:Nat->Prop) (w:World) (b:Nat) (s:ByteArray) (mb n:Nat) (ks:List Int) (B:Nat) (v:Value) (vs:List bN) (l:List Sec):Prop where
 blk:w.heap[b]?=some (.cells #[.string s,.map (some mb),v] 46 (0,0))
 met:kA w mb n ks
 row:aG aO 33 w B v vs
 lo:mb<b
 hi:b<B
 top:B<=w.heap.size
 len:vs.length=l.length
 secs:∀(i:Nat) (x:bN) (y:Sec),vs[i]?=some x->l[i]?=some y->xR (fun k=>T k/\k≠b/\k≠mb/\v.ownBlock≠some k) 25 w x y
theorem dF.below{T:Nat->Prop}{w w':World}{b:Nat}{s:ByteArray}{mb n:Nat}{ks:List Int}{B:Nat}{v:Value}{vs:List bN}{l:List Sec}(h:dF T w b s mb n ks B v vs l)(hb:Below w.heap.size w w'):dF T w' b s mb n ks B v vs l :=
 ⟨(hb.block b (bGJ h.blk)).trans h.blk,h.met.below hb,h.row.below hb,h.lo,h.hi,bGC h.top hb.size,h.len,fun i x y h1 h2=>(h.secs i x y h1 h2).grow (fun k k1 k2=>⟨k1,hb.block k k2⟩)⟩
theorem dF.cut{T:Nat->Prop}{w:World}{b:Nat}{s:ByteArray}{mb n:Nat}{ks:List Int}{B:Nat}{v:Value}{vs:List bN}{l:List Sec}(h:dF T w b s mb n ks B v vs l)(X:Nat)(hX:w.heap.size<=X):dF (fun k=>T k/\k≠X) w b s mb n ks B v vs l :=
 ⟨h.blk,h.met,h.row,h.lo,h.hi,h.top,h.len,fun i x y h1 h2=>(h.secs i x y h1 h2).grow (fun k k1 k2=>⟨⟨⟨k1.1,oM⟩,k1.2⟩,rfl⟩)⟩
theorem dF.weak{T T':Nat->Prop}{w:World}{b:Nat}{s:ByteArray}{mb n:Nat}{ks:List Int}{B:Nat}{v:Value}{vs:List bN}{l:List Sec}(h:dF T w b s mb n ks B v vs l)(hT:∀k,T k->T' k):dF T' w b s mb n ks B v vs l :=
 ⟨h.blk,h.met,h.row,h.lo,h.hi,h.top,h.len,fun i x y h1 h2=>(h.secs i x y h1 h2).grow (fun k k1 k2=>⟨⟨hT k k1.1,k1.2⟩,rfl⟩)⟩
theorem dF.other{T:Nat->Prop}{w w':World}{b:Nat}{s:ByteArray}{mb n:Nat}{ks:List Int}{B:Nat}{v:Value}{vs:List bN}{l:List Sec}(h:dF T w b s mb n ks B v vs l)(X:Nat)(hT:¬T X)(h1:X≠b)(h2:X≠mb)(h3:v.ownBlock≠some X)(hsz:w.heap.size<=w'.heap.size)(hk:∀k,k<w.heap.size->k≠X->w'.heap[k]?=w.heap[k]?):dF T w' b s mb n ks B v vs l:=by
 refine⟨(hk b (bGJ h.blk) (fun e=>h1 e.symm)).trans h.blk,h.met.kept (hk mb h.met.lt (fun e=>h2 e.symm)),?_,h.lo,h.hi,bGC h.top hsz,h.len,fun i x y k1 k2=>(h.secs i x y k1 k2).grow (fun k k3 k4=>⟨k3,hk k k4 (fun e=>hT (e▸k3.1))⟩)⟩;exact q414
theorem cT{w:World}{b:Nat}{t:TypeId}{v0 v1 v2:Value}(h:w.heap[b]?=some (.cells #[v0,v1,v2] t (0,0))) :
 w.cell? ⟨b,0,none⟩=some v0/\w.cell? ⟨b,1,none⟩=some v1/\w.cell? ⟨b,2,none⟩=some v2/\∀o,w.frozen? ⟨b,o,none⟩=false:=by
 exact q374
theorem aKQ(T:Nat->Prop)(w:World)(b:Nat)(s:ByteArray)(mb n:Nat)(ks:List Int)(B:Nat)(v:Value)(vs:List bN)(l:List Sec)(h:dF T w b s mb n ks B v vs l)(a:Int)(hwf:(Lit.int .i64 a).wf=true)(ha:ks.contains a=true) :
 Calls prog 22 #[.pointer (some ⟨b,0,none⟩),.int .i64 a] w (fun e w'=>e=.panicked [{ v:=.iface 65 (.int .i64 11),recovered:=false }]/\Below w.heap.size w w'):=by
 exact q350
def aNL(T:Nat->Prop)(w:World)(b:Nat)(s:ByteArray)(mb n:Nat)(ks:List Int)(B:Nat)(v:Value)(vs:List bN)(l:List Sec)(a:Int)(y:Sec)(e:Ending)(w':World):Prop :=
 ∃(x:bN) (v':Value),e=.returned (.agg (aO.cells x).toArray)/\dF T w' b s mb (n+1) (a::ks) B v' (vs++[x]) (l++[y])/\x.prev=y.prev/\x.hyb=y.hyb /\
  (∀k,k<w.heap.size->k≠b->k≠mb->v.ownBlock≠some k->w'.heap[k]?=w.heap[k]?/\v'.ownBlock≠some k)/\Below mb w w'
theorem aSN{T:Nat->Prop}{w:World}{b:Nat}{s:ByteArray}{mb n:Nat}{ks:List Int}{B:Nat}{lp:Option Addr}{lc:Nat}{vs:List bN}{l:List Sec}{a:Int}{y:Sec}(x:bN)(N yb:Nat)(w4 w5 W7:World)(g2 cap:Nat)(hN:vs.length=N)(H:dF T w b s mb n ks B (.slice lp N lc) vs l)
 (hp:x.prev=y.prev) (hh:x.hyb=y.hyb) (hbase:∀k,w.heap.size<=k->T k) (hyb:w.heap.size+1<=yb) (hz4:yb+1<=w4.heap.size)
 (HK4:∀k,k<w.heap.size->k≠mb->w4.heap[k]?=w.heap[k]?)
 (HS4:∀(W:World) (S':Nat->Prop),(∀k,w.heap.size+1<=k->k<yb->S' k/\W.heap[k]?=w4.heap[k]?)->xR S' 25 W x y)
 (HM4:kA w4 mb (n+1) (a::ks)) (hbw4:Below mb w w4)
 (hown5:w5.ownsRow B 33 11 (.slice (some ⟨g2,0,none⟩) (N+1) cap) (N+1) (aO.row vs++aO.cells x))
 (hgrow:(w4.alloc (.cells (aO.cells x).toArray 33)).grownBy w5 (Value.slice lp N lc).ownBlock)
 (hat:(Value.slice lp N lc).ownBlock=some g2\/g2=w4.heap.size+1)
 (w6:World) (hS1:eS b w5 w6) (hW6:w6.heap[b]?=some (.cells #[.string s,.map (some mb),.slice (some ⟨g2,0,none⟩) (N+1) cap] 46 (0,0)))
 (hS2:eS w.heap.size w6 W7) :
 aNL T w b s mb n ks B (.slice lp N lc) vs l a y (.returned (.agg (aO.cells x).toArray)) W7:=by
 have hkeep:=aK H.row;have hkl:=cM H.row;have hbz:=bGJ H.blk;have hos:=hS2.os.trans hS1.os;have htape:=hS2.tape.trans hS1.tape;have hout:=hS2.output.trans hS1.output;have hsize:=hS2.size.trans hS1.size;have hW:∀k,k≠b->k≠w.heap.size->W7.heap[k]?=w5.heap[k]?:=fun k h1 h2=>(hS2.block k h2).trans (hS1.block k h1)
 have hWb:=(hS2.block b oM).trans hW6;have hlo:=H.lo;have hhi:=H.hi;have htop:=H.top;have hmb:=H.met.lt;have hgs:=hgrow.size;simp only[World.size_alloc] at hgs;have hblk:∀k,k<w4.heap.size->(Value.slice lp N lc).ownBlock≠some k->w5.heap[k]?=w4.heap[k]?:=fun k h1 h2=>(hgrow.block k q249 (fun e=>h2 e.symm)).trans (bGM _ _ _ h1)
 have hg2:∀k,k<w.heap.size->(Value.slice lp N lc).ownBlock≠some k->(Value.slice (some ⟨g2,0,none⟩) (N+1) cap).ownBlock≠some k:=by
  exact q468
 have hkk:∀k,k<w.heap.size->k≠b->k≠mb->(Value.slice lp N lc).ownBlock≠some k->W7.heap[k]?=w.heap[k]?:=fun k h1 h2 h3 h4 =>
  (hW k h2 oM).trans ((hblk k oM h4).trans (HK4 k h1 h3))
 have hnk:∀k,w.heap.size<=k->(Value.slice lp N lc).ownBlock≠some k:=fun k h1 e=>by have:=hkl k e;omega
 have hg2n:∀k,w.heap.size<=k->k<yb->(Value.slice (some ⟨g2,0,none⟩) (N+1) cap).ownBlock≠some k:=by
  exact q462
 refine⟨x,_,rfl,⟨hWb,HM4.kept ((hW mb oM oM).trans (hblk mb oM (fun e=>by have:=hkeep _ e;omega))),?_,hlo,hhi,oM,by rw[bGR,bGR,H.len];rfl,?_⟩,hp,hh,fun k h1 h2 h3 h4=>⟨hkk k h1 h2 h3 h4,hg2 k h1 h4⟩,?_⟩
 ·exact q365
 ·intro i x' y' hx hy;by_cases hi:i<vs.length
  ·rw[List.getElem?_append_left hi] at hx;rw[List.getElem?_append_left (by rw[<-H.len];exact hi)] at hy;exact(H.secs i x' y' hx hy).grow (fun k h1 h2=>⟨⟨h1.1,h1.2.1,h1.2.2.1,hg2 k h2 h1.2.2.2⟩,hkk k h2 h1.2.1 h1.2.2.1 h1.2.2.2⟩)
  ·have hi2:i=vs.length := by
    have:=(List.getElem?_eq_some_iff.1 hx).1;simp at this;omega
   subst hi2;simp at hx;rw[H.len] at hy;simp at hy;subst hx hy;exact HS4 _ _ (fun k h1 h2=>⟨⟨hbase k oM,oM,oM,hg2n k oM h2⟩,(hW k oM oM).trans (hblk k oM (hnk k oM))⟩)
 ·exact q391
theorem xH(T:Nat->Prop)(w:World)(b:Nat)(s:ByteArray)(mb n:Nat)(ks:List Int)(B:Nat)(v:Value)(vs:List bN)(l:List Sec)(h:dF T w b s mb n ks B v vs l)(a:Nat)(y:Sec)(hy:lV s a y)(ha:a<s.size)(hs:s.size<=100000000)(hk:ks.contains (a:Int)=false)
 (hn:n<=1000) (hv:vs.length<64) (hbase:∀k,w.heap.size<=k->T k) (m:Int) (hm:aF w m) :
 Calls prog 22 #[.pointer (some ⟨b,0,none⟩),.int .i64 a] w (aNL T w b s mb n ks B v vs l a y):=by
 have hwf:(Lit.int .i64 (a:Int)).wf=true:=q124;have HCS:=Lh (fun(W:World) hW=>xV s a y hy ha hs m W hW);have hbw:Below w.heap.size w (w.alloc (.cells #[.int .i64 0,.slice none 0 0,.int .i64 0,.int .i64 0,.int .i64 0,.string ⟨#[]⟩,.slice none 0 0,.slice none 0 0,.int .i64 0,.int .i64 0,.int .i64 0] 33)):=bel;have hlook:=(h.met.below hbw).look a hwf;rw[hk] at hlook;obtain⟨lp,lc,hvE⟩:∃lp lc,v=.slice lp vs.length lc:=by
  exact q452
 subst hvE;obtain⟨b0,b1,b2,bf⟩:=cT h.blk;have hlt:=bGJ h.blk;have hne:¬b=w.heap.size:=oM;have d1:decide ((64:Int)<=vs.length)=false:=sO;have H:=Lh h;clear h hy;go_enter func22,ntmps22
 go_wp2_with fail;refine(HCS.out _ (hm.below hbw)).mono ?_;rintro e w2 ⟨x,rfl,hx,hb2⟩;have hz2:=hb2.size;simp at hz2;have hbw2:Below w.heap.size w w2:=hbw.trans (hb2.mono sI);have hX2:=(hb2.block w.heap.size sI).trans (aA w _ _ rfl);have HX:=Lh hx;have HPH:=Lh (bGQ hx.prev hx.hyb);clear hb2 hx HCS hlook b0 b1 b2 bf hbw;obtain⟨x0,sp,sn,sc,x2,x3,x4,x5,p1,n1,c1,p2,n2,c2,x8,x9,x10⟩:=x;unfold aO;dsimp only;go_upto_region 6 with fail
 obtain⟨w3,hw3⟩:=eX (w2.alloc (.cells #[.int .i64 x0,.slice sp sn sc,.int .i64 x2,.int .i64 x3,.int .i64 x4,.string x5,.slice p1 n1 c1,.slice p2 n2 c2,.int .i64 x8,.int .i64 x9,.int .i64 x10] 33));obtain⟨yb,hyb⟩:=eX (w2.heap.size);rw[hw3];simp only[hyb];have hb3:Below w2.heap.size w2 w3:=q126;have hY3:w3.heap[yb]?=some (.cells #[.int .i64 x0,.slice sp sn sc,.int .i64 x2,.int .i64 x3,.int .i64 x4,.string x5,.slice p1 n1 c1,.slice p2 n2 c2,.int .i64 x8,.int .i64 x9,.int .i64 x10] 33 (0,0)):=by rw[<-hw3];exact aA _ _ _ hyb.symm
 have hz3:yb+1=w3.heap.size:=by rw[<-hw3,<-hyb];simp
 have hX3:=(hb3.block w.heap.size oM).trans hX2;have hbw3:Below w.heap.size w w3:=hbw2.trans (hb3.mono oM);have hM3:=H.out.met.below hbw3;obtain⟨w4,hrun4,hM4,hg4⟩:=hM3.upd a hwf q26;have hmb:mb<w.heap.size:=H.out.met.lt;have hlo:=H.out.lo;have hhi:=H.out.hi;have htop:=H.out.top;have hz4:=hg4.size;have hB3:=(hbw3.block b oM).trans H.out.blk;obtain⟨b0,b1,b2,bf⟩:=cT hB3;clear hw3 hX2 hM3;go_upto_region 9 with fail
 have hB4:=(hg4.block b oM sO).trans hB3;have hX4:=(hg4.block w.heap.size oM sO).trans hX3;have hY4:=(hg4.block yb oM sO).trans hY3;have hrow4:aG aO 33 w4 B (.slice lp vs.length lc) vs:=World.ownsRow.kept (H.out.row.below hbw3) hg4 (.inr (fun e=>by have:=aK H.out.row _ e;omega));have hbw4:Below mb w w4:=(hbw3.mono oM).grown hg4 oM (fun k hk=>by cases hk;exact bGB _);have HK4:=Lh (fun k (h1:k<w.heap.size) (h2:k≠mb)=>(hg4.block k oM q97).trans (hbw3.block k h1));have HS4:=Lh (fun(W:World) (S':Nat->Prop) (hW:∀k,w.heap.size+1<=k->k<yb->S' k/\W.heap[k]?=w4.heap[k]?)=>HX.out.grow (w':=W) (S':=S') (fun k h1 h2=>by
  simp at h1;obtain⟨k1,k2⟩:=hW k h1 oM;exact⟨k1,k2.trans ((hg4.block k oM sO).trans (hb3.block k oM))⟩))
 have HM4:=Lh hM4;have HR4:=Lh hrow4;clear hg4 hb3 hX3 hY3 hbw3 hbw2 hrun4 hM4 hB3 b0 b1 b2 bf HX d1;obtain⟨i0,hi0,y0',y1',y2'⟩:=info_parts Tryz.infoSec;obtain⟨N,hN⟩:=eX (vs.length);rw[hN] at hrow4 hB4 hv;have hrow2:w4.ownsRow B 33 11 (.slice lp N lc) N (aO.row vs):=by have h:=hrow4;unfold aG at h;rw[hN] at h;exact h
 obtain⟨X0,X1,X2,X3,X4,X5,X6,X7,X8,X9,X10,Xf⟩:=aJ hX4;obtain⟨Y0,Y1,Y2,Y3,Y4,Y5,Y6,Y7,Y8,Y9,Y10,Yf⟩:=aJ hY4;obtain⟨b0,b1,b2,bf⟩:=cT hB4;have hm1:N+1<=maxLen:=q26;have hm2:(N+1)*144<=140737488355328:=oM;have hkeep:=aK hrow2;have hkl:=cM (w:=w) H.out.row;have lt0:b<w4.heap.size:=oM;have lt1:yb<w4.heap.size:=oM;have ne0:¬b=w4.heap.size:=oM;have ne1:¬yb=w4.heap.size:=oM
 go_region_law (refine step_append_lies _ (by rfl) _ _ _ (by rfl) B 33 i0 (.agg #[.int .i64 0,.slice none 0 0,.int .i64 0,.int .i64 0,.int .i64 0,.string ⟨#[]⟩,.slice none 0 0,.slice none 0 0,.int .i64 0,.int .i64 0,.int .i64 0]) 11 144 underlying23 hi0 y0' y1' y2' rfl oM (.slice lp N lc) N (aO.row vs) (by rfl) (hrow2.alloc _) ⟨w4.heap.size,0,none⟩ 1 1 [.int .i64 x0,.slice sp sn sc,.int .i64 x2,.int .i64 x3,.int .i64 x4,.string x5,.slice p1 n1 c1,.slice p2 n2 c2,.int .i64 x8,.int .i64 x9,.int .i64 x10] (by rfl) (by rfl) (World.news_of_block (cs:=#[.int .i64 x0,.slice sp sn sc,.int .i64 x2,.int .i64 x3,.int .i64 x4,.string x5,.slice p1 n1 c1,.slice p2 n2 c2,.int .i64 x8,.int .i64 x9,.int .i64 x10]) (t:=33) (fr:=(0,0)) (bGP w4 _)) (aO.one ⟨x0,sp,sn,sc,x2,x3,x4,x5,p1,n1,c1,p2,n2,c2,x8,x9,x10⟩) oM hm1 hm2 sO (w4.heap.size+1) sI ?_;intro g2 cap w5 hown5 hgrow hat hlt5;(have hB5:w5.heap[b]?=some (.cells #[.string s,.map (some mb),.slice lp N lc] 46 (0,0)):=(hgrow.block _ q262 (fun e=>by have:=hkeep _ e.symm;omega)).trans ((bGM _ _ _ lt0).trans hB4));obtain⟨s0',s1',s2',sf'⟩:=cT hB5)
 all_goals
  obtain⟨w6,hw6⟩:=eX (w5.setCell ⟨b,2,none⟩ (.slice (some ⟨g2,0,none⟩) (N+1) cap));rw[hw6];have hnk:∀k,w.heap.size<=k->(Value.slice lp N lc).ownBlock≠some k:=fun k h1 e=>by have:=hkl k (by rw[hN];exact e);omega
  have h65:∀k,k≠b->w6.heap[k]?=w5.heap[k]?:=fun k hk=>by rw[<-hw6];exact bGK _ _ _ _ hk
  have hgs:w4.heap.size+1<=w5.heap.size:=by have h:=hgrow.size;(try simp at h);omega
  have hX6:=(h65 w.heap.size oM).trans (((hgrow.block _ q262 (fun e=>hnk _ (bGB _) e.symm)).trans (bGM _ _ _ oM)).trans hX4);have hY6:=(h65 yb oM).trans (((hgrow.block _ q262 (fun e=>hnk yb oM e.symm)).trans (bGM _ _ _ oM)).trans hY4);have hb6:w6.heap[b]?=some (.cells #[.string s,.map (some mb),.slice (some ⟨g2,0,none⟩) (N+1) cap] 46 (0,0)):=by rw[<-hw6,aC hB5];rfl
  have hs6:w6.heap.size=w5.heap.size:=q164;have hS6:eS b w5 w6:=by rw[<-hw6];exact(eS.refl b w5).set _ _
  have o2':(w4.alloc (.cells #[.int .i64 x0,.slice sp sn sc,.int .i64 x2,.int .i64 x3,.int .i64 x4,.string x5,.slice p1 n1 c1,.slice p2 n2 c2,.int .i64 x8,.int .i64 x9,.int .i64 x10] 33)).grownBy w5 (Value.slice lp N lc).ownBlock:=⟨hgrow.os,hgrow.tape,hgrow.output,hgrow.size,hgrow.block⟩;have HO:=Lh (bGQ hown5 (bGQ o2' (bGQ hat (bGQ hS6 hb6))));have hlx:w.heap.size<w6.heap.size:=oM;have hly:yb<w6.heap.size:=oM;have nxy:¬yb=w.heap.size:=oM;have nyx:¬w.heap.size=yb:=oM;clear hw6 h65 hs6 hS6 o2' hb6 hown5 hgrow hat hlt5 hB5 hB4 hX4 hY4 hrow4 hrow2 hnk hgs X0 X1 X2 X3 X4 X5 X6 X7 X8 X9 X10 Xf Y0 Y1 Y2 Y3 Y4 Y5 Y6 Y7 Y8 Y9 Y10 Yf s0' s1' s2' sf' b0 b1 b2 bf;obtain⟨X0,X1,X2,X3,X4,X5,X6,X7,X8,X9,X10,Xf⟩:=aJ hX6;obtain⟨Y0,Y1,Y2,Y3,Y4,Y5,Y6,Y7,Y8,Y9,Y10,Yf⟩:=aJ hY6;go_wp2;refine bGN (v:=.agg #[.int .i64 x0,.slice sp sn sc,.int .i64 x2,.int .i64 x3,.int .i64 x4,.string x5,.slice p1 n1 c1,.slice p2 n2 c2,.int .i64 x8,.int .i64 x9,.int .i64 x10]) q263 rfl ?_;obtain⟨o1,o2,o3,o4,o5⟩:=HO.out;have H2:=H.out;rw[hN] at H2;refine aSN ⟨x0,sp,sn,sc,x2,x3,x4,x5,p1,n1,c1,p2,n2,c2,x8,x9,x10⟩ N yb w4 w5 _ g2 cap hN H2 HPH.out.1 HPH.out.2 hbase oM oM HK4.out HS4.out HM4.out hbw4 o1 o2 o3 w6 o4 o5 ?_
  (repeat' (first|(with_reducible exact eS.refl _ _)|(with_reducible refine eS.set ?_ _ _)))
theorem pZ(p:Addr)(w:World) :
 CallsD prog 21 #[.pointer (some p)] .returning w fun e u' w'=>e=.returned (.tuple #[])/\u'=.returning/\w'=w:=by
 exact q349
theorem kX(p:Addr)(x y:Int)(older:List PanicEntry)(w:World)(c0:w.cell? p=some (.int .i64 y))(f0:w.frozen? p=false) :
 CallsD prog 21 #[.pointer (some p)] (.panicking ({ v:=.iface 65 (.int .i64 x),recovered:=false }::older)) w fun e u' w' =>
  e=.returned (.tuple #[])/\u'=.panicking ({ v:=.iface 65 (.int .i64 x),recovered:=true }::older)/\w'=w.setCell p (.int .i64 x):=by
 have hta:∀(x:Int) (w:World),(Instr.typeAssert (.iface 65 (.int .i64 x)) 20 65 true).run prog w=.ok (.tuple #[.int .i64 x,.bool true]) w:=fun _ _=>kR
 exact q349
def xI(i:Value)(w:World):Nat:=match i with
 |.pointer (some a)=>(match w.cell? ⟨a.block,8,none⟩ with
  |some (.int _ p)=>if p<0 then 0 else 1
  |_=>0)
 |_=>0
theorem zY{w:World}{g:Nat}{p:Int}(h:w.cell? ⟨g,8,none⟩=some (.int .i64 p)):xI (.pointer (some ⟨g,0,none⟩)) w=if p<0 then 0 else 1:=by
 unfold xI;simp only[h]
theorem bDO{w:World}{b:Nat}{t:TypeId}{u0 u1 u2 u3 u4 u5 u6 u7 u8 u9 u10:Value}(h:w.heap[b]?=some (.cells #[u0,u1,u2,u3,u4,u5,u6,u7,u8,u9,u10] t (0,0)))(v0 v1 v2 v3 v4 v5 v6 v7 v8 v9 v10:Value) :
 (((((((((((w.setCell ⟨b,0,none⟩ v0).setCell ⟨b,1,none⟩ v1).setCell ⟨b,2,none⟩ v2).setCell ⟨b,3,none⟩ v3).setCell ⟨b,4,none⟩ v4).setCell ⟨b,5,none⟩ v5).setCell ⟨b,6,none⟩ v6).setCell ⟨b,7,none⟩ v7).setCell ⟨b,8,none⟩ v8).setCell ⟨b,9,none⟩ v9).setCell ⟨b,10,none⟩ v10).heap[b]?=some (.cells #[v0,v1,v2,v3,v4,v5,v6,v7,v8,v9,v10] t (0,0))/\eS b w (((((((((((w.setCell ⟨b,0,none⟩ v0).setCell ⟨b,1,none⟩ v1).setCell ⟨b,2,none⟩ v2).setCell ⟨b,3,none⟩ v3).setCell ⟨b,4,none⟩ v4).setCell ⟨b,5,none⟩ v5).setCell ⟨b,6,none⟩ v6).setCell ⟨b,7,none⟩ v7).setCell ⟨b,8,none⟩ v8).setCell ⟨b,9,none⟩ v9).setCell ⟨b,10,none⟩ v10):=by
 refine⟨by rw[(aC (aC (aC (aC (aC (aC (aC (aC (aC (aC (aC h)))))))))))];simp only[List.setIfInBounds_toArray,List.set_cons_succ,List.set_cons_zero],?_⟩;exact((((((((((((eS.refl b w).set _ _).set _ _).set _ _).set _ _).set _ _).set _ _).set _ _).set _ _).set _ _).set _ _).set _ _)
def AInv(T:Nat->Prop)(w:World)(b:Nat)(s:ByteArray)(mb B:Nat)(a2:Nat)(y2 y1:Sec)(g:Nat)(wr:World):Prop :=
 ∃(x:bN) (v:Value) (vs:List bN),wr.heap[g]?=some (.cells (aO.cells x).toArray 33 (0,0))/\wr.heap[w.heap.size]?=some (.cells #[.int .i64 0] 24 (0,0)) /\
  v.ownBlock≠some w.heap.size/\v.ownBlock≠some g/\w.heap.size<g/\Below mb w wr/\x.hyb<0 /\
  ((dF (fun k=>T k/\k≠w.heap.size/\k≠g) wr b s mb 1 [(a2:Int)] B v vs [y2]/\x.prev=0)\/(dF (fun k=>T k/\k≠w.heap.size/\k≠g) wr b s mb 2 [0,(a2:Int)] B v vs [y2,y1]/\x.prev<0))
def LInv(T:Nat->Prop)(w:World)(b:Nat)(s:ByteArray)(mb B:Nat)(y2:Sec)(g:Nat)(wr:World):Prop :=
 ∃(x:bN) (v:Value) (vs:List bN),wr.heap[g]?=some (.cells (aO.cells x).toArray 33 (0,0))/\wr.heap[w.heap.size]?=some (.cells #[.int .i64 0] 24 (0,0))/\Below mb w wr/\x.hyb<0/\x.prev=0/\dF T wr b s mb 1 [0] B v vs [y2]
theorem aSO(T:Nat->Prop)(w:World)(b:Nat)(s:ByteArray)(mb B:Nat)(v:Value)(h:dF T w b s mb 0 [] B v [] [])(a2:Nat)(y2 y1:Sec)(h2:lV s a2 y2)(hl2:a2<s.size)(hp2:y2.prev=0)(hh2:y2.hyb<0)
 (h1:lV s 0 y1) (hp1:y1.prev<0) (hh1:y1.hyb<0) (hne:a2≠0) (hs:s.size<=100000000) (hT:∀k,w.heap.size<=k->T k) (m:Int) (hm:aF w m) (hg:1<mb) :
 Calls prog 10 #[.pointer (some ⟨b,0,none⟩),.int .i64 a2] w (fun e w'=>e=.returned (.int .i64 0)/\∃v' vs,dF T w' b s mb 2 [0,(a2:Int)] B v' vs [y2,y1]/\Below mb w w'):=by
 have hE0:=bGJ h.blk;have hmb:=h.met.lt;have hlo:=h.lo;have hhi:=h.hi;have htop:=h.top;have hov:v.ownBlock≠some w.heap.size:=fun e=>by have:=cM h.row _ e;omega
 have hbA:Below w.heap.size w (w.alloc (.cells #[.int .i64 0] 24)):=bel;have hEA:(w.alloc (.cells #[.int .i64 0] 24)).heap[w.heap.size]?=some (.cells #[.int .i64 0] 24 (0,0)):=aA _ _ _ rfl;have hmf:∀(fn:Fn) (first cap:Array Value) (w:World),(Instr.makeFunc fn first cap).run prog w=.ok (.func fn first cap) w:=fun _ _ _ _=>rfl
 have HM1:=Lh (xH (fun k=>T k/\k≠w.heap.size) _ b s mb 0 [] B v [] [] ((h.cut w.heap.size (bGB _)).below hbA) a2 y2 h2 hl2 hs rfl oM sI (fun k hk=>by simp at hk;exact⟨hT k oM,oM⟩) m (hm.below hbA));have HM2:=Lh (fun(T':Nat->Prop) (W:World) (v:Value) (vs:List bN) (hW:dF T' W b s mb 1 [(a2:Int)] B v vs [y2]) (hT':∀k,W.heap.size<=k->T' k) (hmW:aF W m)=>xH T' W b s mb 1 [(a2:Int)] B v vs [y2] hW 0 y1 h1 oM hs sO oM (by rw[hW.len];simp) hT' m hmW);clear h h1 h2;go_enter_defers func10,ntmps10
 go_wp2_with fail;refine HM1.out.mono ?_;rintro e w1 ⟨x,v1,rfl,H1,hxp,hxh,hk1,hb1⟩;obtain⟨hE1,hv1⟩:=hk1 w.heap.size sI oM oM hov;replace hE1:=hE1.trans hEA;have hz1:=hb1.size;simp at hz1;have hbw1:Below mb w w1:=(hbA.mono oM).trans hb1;have hv1g:v1.ownBlock≠some w1.heap.size:=fun e=>by have:=cM H1.row _ e;omega
 clear hk1 HM1 hEA hbA;obtain⟨x0,sp,sn,sc,x2,x3,x4,x5,p1,n1,c1,p2,n2,c2,x8,x9,x10⟩:=x;dsimp only at hxp hxh;have HI1:=Lh (bGQ H1 (bGQ hv1 (bGQ hv1g (bGQ hbw1 (bGQ hE1 (bGQ (hxp.trans hp2) (hxh▸hh2)))))));have HF:=Lh (bGQ hp1 hh1);clear H1 hv1 hv1g hbw1 hE1 hb1 hxp hxh hp2 hh2 hp1 hh1;unfold aO;dsimp only;go_wp2_with fail;go_loopw [5] (fun i wr=>∃g,i=.pointer (some ⟨g,0,none⟩)/\AInv T w b s mb B a2 y2 y1 g wr) (fun i wr=>xI i wr)
 case atStart =>
  obtain⟨q1,q2,q3,q4,q5,q6,q7⟩:=HI1.out;have hb:Below w1.heap.size w1 (w1.alloc (.cells #[.int .i64 x0,.slice sp sn sc,.int .i64 x2,.int .i64 x3,.int .i64 x4,.string x5,.slice p1 n1 c1,.slice p2 n2 c2,.int .i64 x8,.int .i64 x9,.int .i64 x10] 33)):=bel;refine⟨w1.heap.size,rfl,⟨x0,sp,sn,sc,x2,x3,x4,x5,p1,n1,c1,p2,n2,c2,x8,x9,x10⟩,_,_,aA _ _ _ rfl,(hb.block _ oM).trans q5,q2,q3,oM,q4.trans (hb.mono oM),q7,.inl ⟨(((q1.cut w1.heap.size (bGB _)).weak (fun k h=>⟨h.1.1,h.1.2,h.2⟩)).below hb),q6⟩⟩
 case round =>
  clear HI1;obtain⟨g,rfl,x,v2,vs2,hG,hE,hv2,hv2g,hlg,hbr,hxh,hcase⟩:=hrel;obtain⟨x0,sp,sn,sc,x2,x3,x4,x5,p1,n1,c1,p2,n2,c2,x8,x9,x10⟩:=x;unfold aO at hG;dsimp only at hG hxh hcase;obtain⟨X0,X1,X2,X3,X4,X5,X6,X7,X8,X9,X10,Xf⟩:=aJ hG;have dh:decide (0<=x9)=false:=sO;have hgl:=bGJ hG;rcases hcase with⟨HW,rfl⟩|⟨HW,hxp⟩
  ·have HWh:=Lh HW;have hGh:=Lh hG;have HPM:=Lh (show xI (.pointer (some ⟨g,0,none⟩)) wr=1 by rw[zY X8];rfl);clear HW hG;go_upto_region 3 with fail
   obtain⟨wB,hwB⟩:=eX (wr.alloc (.cells #[.int .i64 x0,.slice sp sn sc,.int .i64 x2,.int .i64 x3,.int .i64 x4,.string x5,.slice p1 n1 c1,.slice p2 n2 c2,.int .i64 0,.int .i64 x9,.int .i64 x10] 33));obtain⟨gb,hgb⟩:=eX (wr.heap.size);rw[hwB];simp only[hgb];have hbB:Below wr.heap.size wr wB:=by rw[<-hwB];exact bel
   have hGB:wB.heap[gb]?=some (.cells #[.int .i64 x0,.slice sp sn sc,.int .i64 x2,.int .i64 x3,.int .i64 x4,.string x5,.slice p1 n1 c1,.slice p2 n2 c2,.int .i64 0,.int .i64 x9,.int .i64 x10] 33 (0,0)):=q264;have hzB:gb+1<=wB.heap.size:=by rw[<-hwB,<-hgb];simp
   have hWB:=((HWh.out.cut gb oM).below hbB);have hEB:=(hbB.block w.heap.size oM).trans hE;have hbwB:Below mb w wB:=hbr.trans (hbB.mono (by have:=hbr.size;omega));have hv2gb:v2.ownBlock≠some gb:=fun e=>by have:=cM HWh.out.row _ e;omega
   have HMM:=Lh (HM2.out _ wB v2 vs2 hWB (fun k hk=>⟨⟨hT k oM,oM,oM⟩,oM⟩) (hm.belowB hbwB hg));obtain⟨Y0,Y1,Y2,Y3,Y4,Y5,Y6,Y7,Y8,Y9,Y10,Yf⟩:=aJ hGB;clear hwB X0 X1 X2 X3 X4 X5 X6 X7 X8 X9 X10 Xf hE hbr hbB hWB HM2;go_wp2_with fail;refine HMM.out.mono ?_;rintro e w2 ⟨x',v3,rfl,H3,hxp3,hxh3,hk3,hb3⟩;obtain⟨hE3,hv3⟩:=hk3 w.heap.size oM oM oM hv2;obtain⟨hG3,hv3g⟩:=hk3 gb oM oM oM hv2gb;replace hE3:=hE3.trans hEB;replace hG3:=hG3.trans hGB;have HH:=Lh (bGQ H3 (bGQ hxp3 hxh3));have hbw2:=hbwB.trans hb3;clear H3 hxp3 hxh3 hk3 hEB hGB hbwB hb3 HMM Y0 Y1 Y2 Y3 Y4 Y5 Y6 Y7 Y8 Y9 Y10 Yf HWh hGh;have hgl2:=bGJ hG3;obtain⟨X0,X1,X2,X3,X4,X5,X6,X7,X8,X9,X10,Xf⟩:=aJ hG3;obtain⟨a0,ap,an,ac,a2',a3,a4,a5,d1,e1,f1,d2,e2,f2,a8,a9,a10⟩:=x';unfold aO;dsimp only;go_upto_region 4 with fail
   obtain⟨w9,hw9⟩:=eX (((((((((((w2.setCell ⟨gb,0,none⟩ (.int .i64 a0)).setCell ⟨gb,1,none⟩ (.slice ap an ac)).setCell ⟨gb,2,none⟩ (.int .i64 a2')).setCell ⟨gb,3,none⟩ (.int .i64 a3)).setCell ⟨gb,4,none⟩ (.int .i64 a4)).setCell ⟨gb,5,none⟩ (.string a5)).setCell ⟨gb,6,none⟩ (.slice d1 e1 f1)).setCell ⟨gb,7,none⟩ (.slice d2 e2 f2)).setCell ⟨gb,8,none⟩ (.int .i64 a8)).setCell ⟨gb,9,none⟩ (.int .i64 a9)).setCell ⟨gb,10,none⟩ (.int .i64 a10));rw[hw9];obtain⟨hG9,hS9⟩:=bDO hG3 (.int .i64 a0) (.slice ap an ac) (.int .i64 a2') (.int .i64 a3) (.int .i64 a4) (.string a5) (.slice d1 e1 f1) (.slice d2 e2 f2) (.int .i64 a8) (.int .i64 a9) (.int .i64 a10);rw[hw9] at hG9 hS9;clear hw9;obtain⟨H3,hxp3,hxh3⟩:=HH.out
   (try dsimp only at hxp3 hxh3)
   obtain⟨_,_,_,_,_,_,_,_,Z8,_⟩:=aJ hG9;have hHO:=H3.other (w':=w9) gb (fun h=>h.2 rfl) oM oM hv3g (bGD hS9.size.symm) (fun k _ hk=>hS9.block k hk);refine⟨⟨⟨a0,ap,an,ac,a2',a3,a4,a5,d1,e1,f1,d2,e2,f2,a8,a9,a10⟩,v3,_,hG9,(hS9.block _ oM).trans hE3,hv3,hv3g,oM,hbw2.trans ⟨hS9.os,hS9.tape,hS9.output,bGD hS9.size.symm,fun k hk=>hS9.block k oM⟩,by show a9<0;rw[hxh3];exact HF.out.2,.inr ⟨hHO.weak (fun k h=>⟨h.1.1,h.1.2.1,h.2⟩),by show a8<0;rw[hxp3];exact HF.out.1⟩⟩,?_⟩;rw[HPM.out,zY Z8,bGV (by rw[hxp3];exact HF.out.1)];decide
  ·have HWh:=Lh HW;have hbE:=Lh hbr;have dp:decide (x8<0)=true:=bGI hxp;have E0:wr.cell? ⟨w.heap.size,0,none⟩=some (.int .i64 0):=by simp[World.cell?,hE]
   have Ef:wr.frozen? ⟨w.heap.size,0,none⟩=false:=q248;have hEl:=bGJ hE;clear HW hG hE hbr HM2;go_wp2;refine bGW (f:=21) (args:=#[.pointer (some ⟨w.heap.size,0,none⟩)]) sI q39 ?_;refine(pZ _ _).mono ?_;rintro e u' w'' ⟨rfl,rfl,rfl⟩;simp[Leaves,settle,results,results10,go_sem,E0,Ef,hEl];have hS:=(eS.refl w.heap.size wr).set 0 (.int .i64 0);exact⟨⟨_,_,(HWh.out.other _ (fun h=>h.2.1 rfl) oM oM hv2 (bGD hS.size.symm) (fun k _ hk=>hS.block k hk)).weak (fun k h=>h.1)⟩,hbE.out.setCell (p:=⟨w.heap.size,0,none⟩) q265 _⟩
theorem aKR(T:Nat->Prop)(w:World)(b:Nat)(s:ByteArray)(mb B:Nat)(v:Value)(h:dF T w b s mb 0 [] B v [] [])(y2:Sec)(h2:lV s 0 y2)(hp2:y2.prev=0)(hh2:y2.hyb<0)
 (hl2:0<s.size) (hs:s.size<=100000000) (hT:∀k,w.heap.size<=k->T k) (m:Int) (hm:aF w m) :
 Calls prog 10 #[.pointer (some ⟨b,0,none⟩),.int .i64 0] w (fun e w'=>e=.returned (.int .i64 11)/\Below mb w w'):=by
 have hE0:=bGJ h.blk;have hmb:=h.met.lt;have hlo:=h.lo;have hhi:=h.hi;have htop:=h.top;have hov:v.ownBlock≠some w.heap.size:=fun e=>by have:=cM h.row _ e;omega
 have hbA:Below w.heap.size w (w.alloc (.cells #[.int .i64 0] 24)):=bel;have hEA:(w.alloc (.cells #[.int .i64 0] 24)).heap[w.heap.size]?=some (.cells #[.int .i64 0] 24 (0,0)):=aA _ _ _ rfl;have hmf:∀(fn:Fn) (first cap:Array Value) (w:World),(Instr.makeFunc fn first cap).run prog w=.ok (.func fn first cap) w:=fun _ _ _ _=>rfl
 have HM1:=Lh (xH (fun k=>T k/\k≠w.heap.size) _ b s mb 0 [] B v [] [] ((h.cut w.heap.size (bGB _)).below hbA) 0 y2 h2 hl2 hs rfl oM sI (fun k hk=>by simp at hk;exact⟨hT k oM,oM⟩) m (hm.below hbA));have HM2:=Lh (fun(T':Nat->Prop) (W:World) (v:Value) (vs:List bN) (hW:dF T' W b s mb 1 [0] B v vs [y2])=>aKQ T' W b s mb 1 [0] B v vs [y2] hW 0 dC dC);clear h h2;go_enter_defers func10,ntmps10
 go_wp2_with fail;refine HM1.out.mono ?_;rintro e w1 ⟨x,v1,rfl,H1,hxp,hxh,hk1,hb1⟩;obtain⟨hE1,hv1⟩:=hk1 w.heap.size sI oM oM hov;replace hE1:=hE1.trans hEA;have hz1:=hb1.size;simp at hz1;have hbw1:Below mb w w1:=(hbA.mono oM).trans hb1;have hv1g:v1.ownBlock≠some w1.heap.size:=fun e=>by have:=cM H1.row _ e;omega
 clear hk1 HM1 hEA hbA;obtain⟨x0,sp,sn,sc,x2,x3,x4,x5,p1,n1,c1,p2,n2,c2,x8,x9,x10⟩:=x;dsimp only at hxp hxh;have HI1:=Lh (bGQ H1 (bGQ hv1 (bGQ hv1g (bGQ hbw1 (bGQ hE1 (bGQ (hxp.trans hp2) (hxh▸hh2)))))));clear H1 hv1 hv1g hbw1 hE1 hb1 hxp hxh hp2 hh2;unfold aO;dsimp only;go_wp2_with fail;go_loopw [5] (fun i wr=>∃g,i=.pointer (some ⟨g,0,none⟩)/\LInv T w b s mb B y2 g wr) (fun i wr=>xI i wr)
 case atStart =>
  obtain⟨q1,q2,q3,q4,q5,q6,q7⟩:=HI1.out;have hb:Below w1.heap.size w1 (w1.alloc (.cells #[.int .i64 x0,.slice sp sn sc,.int .i64 x2,.int .i64 x3,.int .i64 x4,.string x5,.slice p1 n1 c1,.slice p2 n2 c2,.int .i64 x8,.int .i64 x9,.int .i64 x10] 33)):=bel;exact⟨w1.heap.size,rfl,⟨x0,sp,sn,sc,x2,x3,x4,x5,p1,n1,c1,p2,n2,c2,x8,x9,x10⟩,_,_,aA _ _ _ rfl,(hb.block _ oM).trans q5,q4.trans (hb.mono oM),q7,q6,(q1.weak (fun k h=>h.1)).below hb⟩
 case round =>
  clear HI1;obtain⟨g,rfl,x,v2,vs2,hG,hE,hbr,hxh,hxp,HW⟩:=hrel;obtain⟨x0,sp,sn,sc,x2,x3,x4,x5,p1,n1,c1,p2,n2,c2,x8,x9,x10⟩:=x;unfold aO at hG;dsimp only at hG hxh hxp;subst hxp;obtain⟨X0,X1,X2,X3,X4,X5,X6,X7,X8,X9,X10,Xf⟩:=aJ hG;have dh:decide (0<=x9)=false:=sO;have hgl:=bGJ hG;have HWh:=Lh HW;have hEl:=bGJ hE;have hzr:=hbr.size;clear HW hG;go_upto_region 3 with fail
  obtain⟨wB,hwB⟩:=eX (wr.alloc (.cells #[.int .i64 x0,.slice sp sn sc,.int .i64 x2,.int .i64 x3,.int .i64 x4,.string x5,.slice p1 n1 c1,.slice p2 n2 c2,.int .i64 0,.int .i64 x9,.int .i64 x10] 33));obtain⟨gb,hgb⟩:=eX (wr.heap.size);rw[hwB];simp only[hgb];have hbB:Below wr.heap.size wr wB:=by rw[<-hwB];exact bel
  have hGB:wB.heap[gb]?=some (.cells #[.int .i64 x0,.slice sp sn sc,.int .i64 x2,.int .i64 x3,.int .i64 x4,.string x5,.slice p1 n1 c1,.slice p2 n2 c2,.int .i64 0,.int .i64 x9,.int .i64 x10] 33 (0,0)):=q264;have HMM:=Lh (HM2.out _ wB v2 vs2 (HWh.out.below hbB));have hEB:=(hbB.block w.heap.size oM).trans hE;have hbwB:Below mb w wB:=hbr.trans (hbB.mono oM);have hzB:=hbB.size;obtain⟨Y0,Y1,Y2,Y3,Y4,Y5,Y6,Y7,Y8,Y9,Y10,Yf⟩:=aJ hGB;clear hwB X0 X1 X2 X3 X4 X5 X6 X7 X8 X9 X10 Xf hE hbr hbB HM2 HWh;go_wp2_with fail;refine HMM.out.mono ?_;rintro e w2 ⟨rfl,hb3⟩;have hE3:=(hb3.block w.heap.size oM).trans hEB;have hbw2:=hbwB.trans (hb3.mono oM);have E0:w2.cell? ⟨w.heap.size,0,none⟩=some (.int .i64 0):=by simp[World.cell?,hE3]
  have Ef:w2.frozen? ⟨w.heap.size,0,none⟩=false:=by simp[World.frozen?,hE3]
  have hEl2:=bGJ hE3;clear hb3 hE3 hEB hbwB HMM hGB Y0 Y1 Y2 Y3 Y4 Y5 Y6 Y7 Y8 Y9 Y10 Yf;go_wp2;refine bGW (f:=21) (args:=#[.pointer (some ⟨w.heap.size,0,none⟩)]) sI q39 ?_;refine(kX _ 11 0 _ _ E0 Ef).mono ?_;rintro e u' w'' ⟨rfl,rfl,rfl⟩;simp[Leaves,settle,results,results10,go_sem,E0,Ef,hEl2];exact hbw2.setCell (p:=⟨w.heap.size,0,none⟩) q265 _
theorem aKS(s:ByteArray)(y2:Sec)(h2:lV s 0 y2)(hp2:y2.prev=0)(hh2:y2.hyb<0)(hl2:0<s.size)(hs:s.size<=100000000)(w:World)(m:Int)(hm:aF w m) :
 Calls prog 5 #[.string s,.int .i64 0] w (fun e w'=>e=.returned (.tuple #[.slice none 0 0,.int .i64 11])/\Below w.heap.size w w'):=by
 have hMl:=hm.lt;have hmk:∀w,(Instr.makeMap 44 none).run prog w=.ok (.map (some w.heap.size)) (w.alloc (.map #[] 0)):=fun _=>kR
 have hbA:Below w.heap.size w ((w.alloc (.map #[] 0)).alloc (.cells #[.string s,.map (some w.heap.size),.slice none 0 0] 46)):=bel;have hW0:dF (fun k=>w.heap.size<=k) ((w.alloc (.map #[] 0)).alloc (.cells #[.string s,.map (some w.heap.size),.slice none 0 0] 46)) (w.heap.size+1) s w.heap.size 0 [] (w.heap.size+2) (.slice none 0 0) [] [] :=
  ⟨aA _ _ _ sI,(kA.made w).below bel,bF _ _,oM,oM,sI,rfl,fun i x y h=>q21⟩
 have HAL:=Lh (aKR _ _ _ s _ _ _ hW0 y2 h2 hp2 hh2 hl2 hs (fun k hk=>by simp at hk;omega) m (hm.below hbA));clear hW0 h2;go_enter func5,ntmps5
 go_wp2_with fail;refine HAL.out.mono ?_;rintro e w1 ⟨rfl,hb1⟩;have hbw1:=hbA.trans hb1;clear HAL hbA hb1;go_wp2;exact bGN (v:=.tuple #[.slice none 0 0,.int .i64 11]) q266 rfl ⟨rfl,hbw1⟩
theorem aSP(s:ByteArray)(a2:Nat)(y2 y1:Sec)(h2:lV s a2 y2)(hl2:a2<s.size)(hp2:y2.prev=0)(hh2:y2.hyb<0)(h1:lV s 0 y1)(hp1:y1.prev<0)(hh1:y1.hyb<0)(hne:a2≠0)(hs:s.size<=100000000)(w:World)(m:Int)(hm:aF w m) :
 Calls prog 5 #[.string s,.int .i64 a2] w (fun e w'=>(∃p c vs,e=.returned (.tuple #[.slice p 2 c,.int .i64 0])/\bC aO w' (.slice p 2 c) vs/\pQ (fun b=>w.heap.size<=b/\b<w'.heap.size) 25 w' vs [y2,y1])/\Below w.heap.size w w'):=by
 have hMl:=hm.lt;have hmk:∀w,(Instr.makeMap 44 none).run prog w=.ok (.map (some w.heap.size)) (w.alloc (.map #[] 0)):=fun _=>kR
 have hbA:Below w.heap.size w ((w.alloc (.map #[] 0)).alloc (.cells #[.string s,.map (some w.heap.size),.slice none 0 0] 46)):=bel;have hW0:dF (fun k=>w.heap.size<=k) ((w.alloc (.map #[] 0)).alloc (.cells #[.string s,.map (some w.heap.size),.slice none 0 0] 46)) (w.heap.size+1) s w.heap.size 0 [] (w.heap.size+2) (.slice none 0 0) [] [] :=
  ⟨aA _ _ _ sI,(kA.made w).below bel,bF _ _,oM,oM,sI,rfl,fun i x y h=>q21⟩
 have HAL:=Lh (aSO _ _ _ s _ _ _ hW0 a2 y2 y1 h2 hl2 hp2 hh2 h1 hp1 hh1 hne hs (fun k hk=>by simp at hk;omega) m (hm.below hbA) hMl);clear hW0 h2 h1;go_enter func5,ntmps5
 go_wp2_with fail;refine HAL.out.mono ?_;rintro e w1 ⟨rfl,v,vs,hW,hb1⟩;have hbw1:=hbA.trans hb1;obtain⟨p,c,rfl,hR⟩:=aG.arg hW.row;have hl2:vs.length=2:=hW.len;have HR:=Lh (show bC aO w1 (.slice p 2 c) vs from hl2▸aG.arg hW.row);have HS:=Lh (show pQ (fun b=>w.heap.size<=b/\b<w1.heap.size) 25 w1 vs [y2,y1] from⟨hW.len,fun i x y k1 k2=>((hW.secs i x y k1 k2).grow (fun k k3 k4=>⟨⟨k3.1,k4⟩,rfl⟩)).is⟩);obtain⟨b0,b1,b2,bf⟩:=cT hW.blk;rw[hl2] at b2;clear HAL hbA hb1 hR hW hl2;go_wp2;exact bGN (v:=.tuple #[.slice p 2 c,.int .i64 0]) q266 rfl ⟨⟨p,c,vs,rfl,HR.out,HS.out⟩,hbw1⟩
theorem aZD(x:Sl)(b:Nat)(n:Int)(w:World)(hb:w.cell? ⟨b,0,none⟩=some (.int .i64 n))(hlt:b<w.heap.size) :
 Calls prog 19 #[.agg (slE.cells x).toArray,.pointer (some ⟨b,0,none⟩)] w fun e w'=>e=.returned (.bool (x.num==n))/\w'=w.alloc (.cells (slE.cells x).toArray 39):=by
 have hne:¬b=w.heap.size:=oM;obtain⟨a0,a1,a2,a3⟩:=x;dsimp only[slE];go_enter func19,ntmps19
 go_wp2;exact q393
theorem aNM:∀{l:List Sl} {k:Nat} {x:Sl} {n:Int},l[k]?=some x->(∀y∈l.take k,y.num≠n)->x.num=n->bR n l=some x
 |[],k,x,n,h,_,_=>q21
 |y::l,0,x,n,h,_,hx=>by simp at h;subst h;rw[bH,bGV hx]
 |y::l,k+1,x,n,h,ha,hx=>by
  rw[bH,bGU (ha y sI),aNM (k:=k) q10 (fun z hz=>ha z (by simp[hz])) hx]
def bFV(n:Int)(l:List Sl)(e:Ending):Prop:=(∃(k:Nat) (x:Sl),l[k]?=some x/\e=.returned (.int .i64 k)/\bR n l=some x)\/(e=.returned (.int .i64 (-1))/\bR n l=none)
theorem aZE(v:Value)(l:List Sl)(b:Nat)(n:Int)(w:World)(hv:bC slE w v l)(hb:w.cell? ⟨b,0,none⟩=some (.int .i64 n))(hlt:b<w.heap.size)(hl:l.length<=1000000000) :
 Calls prog 18 #[v,.func (.func 19) #[] #[.pointer (some ⟨b,0,none⟩)]] w fun e w' =>
  bFV n l e/\Below w.heap.size w w':=by
 obtain⟨p,cp,rfl,_⟩:=id hv;obtain⟨m,hm⟩:=eX (l.length);have HV:=Lh hv;have HM:=Lh hm;have HB:=Lh hb;have hm1:m<=1000000000:=oM;rw[hm];clear hv hb hl hm;go_enter func18,ntmps18
 go_wp2;go_loopw [8] (fun i wr=>∃k:Nat,k<=m/\i=.int .i64 k/\Below w.heap.size w wr/\Hid (∀x∈l.take k,x.num≠n)) (fun i _=>m-(intOf i).toNat)
 case atStart=>exact⟨0,bGF _,rfl,bGL _ _,Lh sI⟩
 case round =>
  obtain⟨k,hk,rfl,hbr,HA⟩:=hrel;have hzr:=hbr.size;by_cases hlk:k<m
  ·have hvr:bC slE wr (.slice p m cp) l:=by have:=HV.out.below hbr;rw[HM.out] at this;exact this
   have hk':k<l.length:=by rw[HM.out];exact hlk
   obtain⟨g,off,rfl,hglt,a0,a1,a2,a3⟩:=uQ hvr k hk';have HX:=Lh (fun W (hW:Below wr.heap.size wr W)=>aZD l[k] b n W ((hW.cell (p:=⟨b,0,none⟩) (bGA hlt hzr)).trans ((hbr.cell (p:=⟨b,0,none⟩) hlt).trans HB.out)) (bGA hlt (bGC hzr hW.size)));have HNX:=Lh (show(∀x∈l.take (k+1),x.num≠n)↔l[k].num≠n from by
    rw[List.take_succ_eq_append_getElem hk'];constructor
    ·intro h;exact h _ (List.mem_append.2 (.inr (List.mem_singleton.2 rfl)))
    ·intro h x hx;rcases List.mem_append.1 hx with hx|hx
     ·exact HA.out x hx
     ·simp only[List.mem_singleton] at hx;subst hx;exact h)
   have HYES:=Lh (show l[k].num=n->bR n l=some l[k] from fun h=>aNM (bGE hk') HA.out h);obtain⟨x,hx⟩:=eX (l[k]);have HXK:=Lh hx;rw[hx] at a0 a1 a2 a3 HX HNX HYES;obtain⟨x0,x1,x2,x3⟩:=x;dsimp only[slE] at HX a0 a1 a2 a3;clear hvr hx;cases hq:(x0==n)
   ·rw[hq] at HX;have HN2:=Lh (HNX.out.2 (by simpa using hq));clear hq;go_wp2_with fail;refine(HX.out _ (bGL _ _)).mono ?_;rintro e w1 ⟨rfl,rfl⟩;go_wp2;go_roundw
    case rel=>exact⟨k+1,oM,q12,hbr.alloc hzr _,HN2⟩
    case measure=>exact q339
   ·rw[hq] at HX;have HY:=Lh (show l[k].num=n by rw[HXK.out];simpa using hq);clear hq;go_wp2_with fail;refine(HX.out _ (bGL _ _)).mono ?_;rintro e w1 ⟨rfl,rfl⟩;go_wp2;go_ret
    exact⟨.inl ⟨k,_,(bGE hk').trans (congrArg some HXK.out),rfl,HYES.out (by have:=HY.out;rw[HXK.out] at this;exact this)⟩,hbr.alloc hzr _⟩
  ·have HE:=Lh (show bR n l=none from sF.2 (by have:=HA.out;rw[bHC (by rw[HM.out];omega)] at this;exact this));go_wp2;go_ret
   exact⟨.inr ⟨rfl,HE.out⟩,hbr⟩
def slR(r:Option Sl):Value:=.tuple #[.agg (slE.cells (r.getD ⟨0,0,0,0⟩)).toArray,.bool r.isSome]
theorem aGL(v:Value)(l:List Sl)(n:Int)(w:World)(hv:bC slE w v l)(hl:l.length<=1000000000) :
 Calls prog 8 #[v,.int .i64 n] w fun e w'=>e=.returned (slR (bR n l))/\Below w.heap.size w w':=by
 have hmf:∀(fn:Fn) (first cap:Array Value) (w:World),(Instr.makeFunc fn first cap).run prog w=.ok (.func fn first cap) w:=fun _ _ _ _=>rfl
 obtain⟨p,cp,rfl,_⟩:=id hv;obtain⟨m,hm⟩:=eX (l.length);have HV:=Lh hv;have HM:=Lh hm;have hbw:Below w.heap.size w ((w.alloc (.cells #[.int .i64 n] 3)).alloc (.cells #[.int .i64 0,.int .i64 0,.int .i64 0,.int .i64 0] 39)):=bel;have HI:=Lh (aZE (.slice p l.length cp) l w.heap.size n ((w.alloc (.cells #[.int .i64 n] 3)).alloc (.cells #[.int .i64 0,.int .i64 0,.int .i64 0,.int .i64 0] 39)) (hv.below hbw) (by
  have h:((w.alloc (.cells #[.int .i64 n] 3)).alloc (.cells #[.int .i64 0,.int .i64 0,.int .i64 0,.int .i64 0] 39)).heap[w.heap.size]?=some (.cells #[.int .i64 n] 3 (0,0)):=(bGM _ _ _ sI).trans (aA _ _ _ rfl);simp[World.cell?,h]) sO hl)
 rw[hm] at HI ⊢;clear hv hl hm;go_enter func8,ntmps8
 go_wp2_with fail;refine HI.out.mono ?_;rintro e w1 ⟨hor,hb1⟩;have hz1:=hb1.size;simp at hz1;have B1:w1.heap[w.heap.size+1]?=some (.cells #[.int .i64 0,.int .i64 0,.int .i64 0,.int .i64 0] 39 (0,0)):=(hb1.block _ sI).trans (aA _ _ _ sI);obtain⟨t0,t1,t2,t3⟩:w1.cell? ⟨w.heap.size+1,0,none⟩=some (.int .i64 0)/\w1.cell? ⟨w.heap.size+1,1,none⟩=some (.int .i64 0)/\w1.cell? ⟨w.heap.size+1,2,none⟩=some (.int .i64 0)/\w1.cell? ⟨w.heap.size+1,3,none⟩=some (.int .i64 0):=by simp[World.cell?,B1]
 have tf:∀o,w1.frozen? ⟨w.heap.size+1,o,none⟩=false:=fun o=>by simp[World.frozen?,B1]
 have hbw1:Below w.heap.size w w1:=hbw.trans (hb1.mono hbw.size);clear hb1;rcases hor with⟨k,x,hkx,rfl,hf⟩|⟨rfl,hf⟩
 ·obtain⟨hk,hx⟩:=List.getElem?_eq_some_iff.1 hkx;have hkm:k<m:=by rw[<-HM.out];exact hk
  have hvr:bC slE w1 (.slice p m cp) l:=by have:=HV.out.below hbw1;rw[HM.out] at this;exact this
  obtain⟨g,off,rfl,hglt,a0,a1,a2,a3⟩:=uQ hvr k hk;have hne:¬g=w.heap.size+1:=by
   intro e;obtain⟨_,_,e1,h⟩:=HV.out;cases e1;obtain⟨g',o',e2,h2,_⟩:=h k hk;cases e2;omega
  have HR:=Lh hf;rw[hx] at a0 a1 a2 a3;obtain⟨x0,x1,x2,x3⟩:=x;dsimp only at a0 a1 a2 a3;have hd:decide ((k:Int)<0)=false:=sI;clear hvr hx hf hkx;go_wp2;refine bGN (v:=.tuple #[.agg #[.int .i64 x0,.int .i64 x1,.int .i64 x2,.int .i64 x3],.bool true]) (by simp[results,results8,go_sem,t0,t1,t2,t3,tf]) rfl ⟨?_,bel⟩;rw[HR.out];rfl
 ·have HR:=Lh hf;clear hf;go_wp2;refine bGN (v:=.tuple #[.agg #[.int .i64 0,.int .i64 0,.int .i64 0,.int .i64 0],.bool false]) (by simp[results,results8,go_sem,t0,t1,t2,t3,tf]) rfl ⟨?_,bel⟩;rw[HR.out];rfl
structure Ov where
 k:Int
 n:Int
 g:Int
 s:ByteArray
 p1:Option Addr
 n1:Nat
 c1:Nat
 p2:Option Addr
 n2:Nat
 c2:Nat
def uA:Enc Ov where
 k:=6
 cells x:=[.int .i64 x.k,.int .i64 x.n,.int .i64 x.g,.string x.s,.slice x.p1 x.n1 x.c1,.slice x.p2 x.n2 x.c2]
 len _:=rfl
 one x u hu:=by
  simp only[List.mem_cons,List.not_mem_nil,or_false] at hu
  rcases hu with rfl|rfl|rfl|rfl|rfl|rfl<;>rfl
def aKT:Enc L where
 k:=1
 cells x:=[.string ⟨x.toArray⟩]
 len _:=rfl
 one x u hu:=by simp at hu;subst hu;rfl
theorem Tryz.infoKs:(prog.info? 9).map (fun i=>(i.zero,i.size,i.bytes))=some (some (.string ⟨#[]⟩),1,16):=kR
theorem Tryz.infoOs:(prog.info? 31).map (fun i=>(i.zero,i.size,i.bytes))=some (some (.agg #[.int .i64 0,.int .i64 0,.int .i64 0,.string ⟨#[]⟩,.slice none 0 0,.slice none 0 0]),6,88):=kR
def oC(S:Nat->Prop)(d:Nat)(w:World)(vs:List Ov)(os:List Ob):Prop:=vs.length=os.length/\∀(i:Nat) (v:Ov) (o:Ob),vs[i]?=some v->os[i]?=some o->aI S d w (uA.cells v) o
theorem oC.nil(S:Nat->Prop)(d:Nat)(w:World):oC S d w [] []:=⟨rfl,fun i v o h=>q21⟩
theorem oC.push{S:Nat->Prop}{d:Nat}{w:World}{vs:List Ov}{os:List Ob}{v:Ov}{o:Ob}(h:oC S d w vs os)(hv:aI S d w (uA.cells v) o):oC S d w (vs++[v]) (os++[o]):=by
 refine⟨by simp[h.1],fun i v' o' h1 h2=>?_⟩;by_cases hi:i<vs.length
 ·rw[List.getElem?_append_left hi] at h1;rw[List.getElem?_append_left (by rw[<-h.1];exact hi)] at h2;exact h.2 i v' o' h1 h2
 ·rw[List.getElem?_append_right oM] at h1;rw[List.getElem?_append_right (by rw[<-h.1];omega)] at h2;have hz:i-vs.length=0:=by
   have:=(List.getElem?_eq_some_iff.1 h1).1;simp at this;omega
  rw[hz] at h1;rw[<-h.1,hz] at h2;cases h1;cases h2;exact hv
theorem aGM{α:Type}{E:Enc α}{t:TypeId}{w:World}{B:Nat}{v:Value}{xs:List α}(h:aG E t w B v xs)(hne:xs≠[]):∃g c,v=.slice (some ⟨g,0,none⟩) xs.length c/\B<=g/\g<w.heap.size /\
 ∀j (hj:j<xs.length) i u,(E.cells xs[j])[i]?=some u->w.cell? ⟨g,j*E.k+i,none⟩=some u:=by
 have ha:=h.arg;rcases h with⟨h0,⟨rfl,h1⟩|⟨g,cap,cur,rfl,h2,h3,_⟩⟩
 ·exact absurd (bHI h1) hne
 ·refine⟨g,cap,rfl,h2,(Array.getElem?_eq_some_iff.1 h3).1,fun j hj i u hu=>?_⟩;obtain⟨p,c,e,hA⟩:=ha;cases e;obtain⟨g',off,e1,_,hc⟩:=hA j hj;cases e1;have:=hc i u hu;rw[Nat.zero_add] at this;exact this
theorem aKU{w:World}{B:Nat}{v:Value}{ks:List L}(h:aG aKT 9 w B v ks):cU (fun b=>B<=b) w v ks:=by
 by_cases hne:ks=[]
 ·subst hne;obtain⟨p,c,rfl⟩:=aH h;exact .inl ⟨rfl,_,_,rfl⟩
 ·obtain⟨g,c,rfl,hB,_,hc⟩:=aGM h hne;refine .inr ⟨g,0,c,rfl,hB,fun i hi=>?_⟩;have:=hc i hi 0 _ rfl;rw[show i*aKT.k+0=0+i by show i*1+0=0+i;omega] at this;exact this
theorem aZF{S:Nat->Prop}{d:Nat}{w:World}{B:Nat}{kv dv:Value}{ks:List L}{vs:List Ov}{os:List Ob}{K N G:Int}{s:L}(h1:aG aKT 9 w B kv ks)(h2:aG uA 31 w B dv vs)(h3:oC S d w vs os) :
 aI (fun b=>B<=b\/S b) (d+1) w (aB K N G s kv dv) (.mk K N G s ks os):=by
 refine⟨kv,dv,rfl,?_,?_⟩
 ·rcases aKU h1 with h|⟨b,o,c,e,hb,hc⟩
  ·exact .inl h
  ·exact .inr ⟨b,o,c,e,.inl hb,hc⟩
 ·by_cases hne:vs=[]
  ·subst hne;have h0:os=[]:=bHI h3.1.symm;obtain⟨p,c,rfl⟩:=aH h2;exact .inl ⟨h0,_,_,rfl⟩
  ·obtain⟨g,c,rfl,hB,_,hc⟩:=aGM h2 hne;refine .inr ⟨g,0,c,by rw[h3.1];rfl,.inl hB,fun i hi=>?_⟩;have hi':i<vs.length:=by rw[h3.1];exact hi
   have hO:=h3.2 i vs[i] os[i] (bGE hi') (bGE hi);refine⟨uA.cells vs[i],rfl,fun j hj=>?_,hO.weaken (fun b h _=>.inr h) d⟩;have:=hc i hi' j _ (bGE hj);rw[show 0+6*i+j=i*uA.k+j by show 0+6*i+j=i*6+j;omega];exact this
theorem zZ{α:Type}{E:Enc α}{t t2:TypeId}{w w':World}{B s2 m:Nat}{v v2:Value}{xs:List α}{ys:List Value}(h:aG E t w B v xs)(h2:w.ownsRow B t2 s2 v2 m ys)(ht:t≠t2)(hg:w.grownBy w' v2.ownBlock):aG E t w' B v xs:=by
 refine World.ownsRow.kept h hg ?_;have h1:w.ownsRow B t E.k v xs.length (E.row xs):=h;rcases h1.2 with⟨rfl,_⟩|⟨g,cap,cur,rfl,_,hg1,_⟩
 ·exact .inl rfl
 ·rcases h2.2 with⟨rfl,_⟩|⟨g2,cap2,cur2,rfl,_,hg2,_⟩
  ·exact .inr q132
  ·refine .inr fun e=>?_
   simp[Value.ownBlock] at e;subst e;rw[hg1] at hg2;simp at hg2;exact ht hg2.2
end Go.Proofs.YtdjpkgccakgkbaaGreatDoor
namespace Fo
def aZG(k:L):Bool:=k==wID||k==aUO||k==aUN
def aKV(a b:L×Ob):Prop:=a.1<b.1
theorem aAA:∀{a b:List (L×Ob)},a.Pairwise aKV->b.Pairwise aKV->(∀x,x∈a↔x∈b)->a=b
 |[],[],_,_,_=>rfl
 |[],y::b,_,_,h=>by have:=(h y).2 sI;cases this
 |x::a,[],_,_,h=>by have:=(h x).1 sI;cases this
 |x::a,y::b,ha,hb,h=>by
  obtain⟨a1,a2⟩:=List.pairwise_cons.1 ha;obtain⟨b1,b2⟩:=List.pairwise_cons.1 hb;have hxy:x=y:=by
   rcases List.mem_cons.1 ((h x).1 sI) with e|e
   ·exact e
   ·rcases List.mem_cons.1 ((h y).2 sI) with e'|e'
    ·exact e'.symm
    ·have h1:=b1 x e;have h2:=a1 y e';exact absurd h1 (List.lt_asymm h2)
  subst hxy;congr 1
  refine aAA a2 b2 fun z=>⟨fun hz=>?_,fun hz=>?_⟩
  ·rcases List.mem_cons.1 ((h z).1 (List.mem_cons_of_mem _ hz)) with e|e
   ·subst e;exact absurd (a1 z hz) (List.lt_irrefl _)
   ·exact e
  ·rcases List.mem_cons.1 ((h z).2 (List.mem_cons_of_mem _ hz)) with e|e
   ·subst e;exact absurd (b1 z hz) (List.lt_irrefl _)
   ·exact e
def oD:List L:=[wID,aUO,aUN]
def nB(o:Ob)(k:Nat):List (L×Ob):=(oD.take k).filterMap fun x=>(fE o x).map fun v=>(x,v)
def aNN(o:Ob):List (L×Ob):=(o.keys.zip o.kids).filter fun p=>aZG p.1
def kY(l:List (L×Ob)):Ob:=.mk 7 0 0 [] (l.map (·.1)) (l.map (·.2))
def oE(o:Ob):Ob:=if jI o&&aT 24 o==0 then kY (aNN o) else kY []
theorem bDJ{o:Ob}(hd:jI o=true)(hc:aT 24 o=0):nB o 3=aNN o:=by
 have hk79:o.kind=7\/o.kind=9:=by unfold jI at hd;simpa using hd
 have hok:=(lQ o hk79).1 ((dJ 23 o).1 hc).keys;have hup:=hok.up;have hlen:=hok.len;refine aAA ?_ ?_ fun⟨k,v⟩=>?_
 ·unfold nB oD;refine List.Pairwise.filterMap (R:=fun a b:L=>a<b) _ (fun a b hab x hx y hy=>?_) dC;cases ha:fE o a with
  |none=>rw[ha] at hx;cases hx
  |some u =>
   cases hb:fE o b with
   |none=>rw[hb] at hy;cases hy
   |some z=>rw[ha] at hx;rw[hb] at hy;cases hx;cases hy;exact hab
 ·unfold aNN;refine List.Pairwise.filter _ ?_;rw[List.pairwise_iff_getElem];intro i j hi hj hij;simp only[List.length_zip] at hi hj;simp only[List.getElem_zip,aKV];exact List.pairwise_iff_getElem.1 hup i j oM oM hij
 ·have hg:fE o k=some v↔(k,v)∈o.keys.zip o.kids := by
   unfold fE;rw[hd,bGV rfl];constructor
   ·intro h;cases hi:nD o.keys k with
    |none=>rw[hi] at h;cases h
    |some i =>
     rw[hi] at h;dsimp only at h;obtain⟨h1,h2⟩:=sD hi;obtain⟨h3,h4⟩:=List.getElem?_eq_some_iff.1 h;refine List.mem_iff_getElem.2 ⟨i,sO,?_⟩;rw[List.getElem_zip,h2,h4]
   ·intro h;obtain⟨i,hi,e⟩:=List.mem_iff_getElem.1 h;simp only[List.length_zip] at hi;rw[List.getElem_zip] at e;cases e;have:=yK (l:=o.keys) (k:=o.keys[i]) (i:=i) oM rfl (fun j hj hji e=>by
     have:=List.pairwise_iff_getElem.1 hup j i hj oM hji;rw[e] at this;exact List.lt_irrefl _ this)
    rw[this];exact bGE oM
  have hk:aZG k=true↔k∈oD:=by
   unfold aZG oD;simp[or_assoc]
  unfold nB aNN;rw[List.mem_filter,show oD.take 3=oD from rfl,List.mem_filterMap];constructor
  ·rintro⟨x,hx,h⟩;cases hx2:fE o x with
   |none=>rw[hx2] at h;cases h
   |some u =>
    rw[hx2] at h;cases h;exact⟨hg.1 hx2,hk.2 hx⟩
  ·rintro⟨h1,h2⟩;exact⟨k,hk.1 h2,by rw[hg.2 h1];rfl⟩
end Fo
namespace Go.Proofs.YtdjpkgccakgkbaaGreatDoor
open Go.Proofs.Tryz
open Go.RowKit Fo
structure TrI (w wr:World) (B:Nat) (kv lv:Value) (bx:Array Value):Prop where
 below:Below w.heap.size w wr
 size:B<=wr.heap.size
 box:wr.heap[w.heap.size]?=some (.cells bx 31 (0,0))
 res:wr.heap[w.heap.size+1]?=some (.cells #[.int .i64 0,.int .i64 0,.int .i64 0,.string ⟨#[]⟩,.slice none 0 0,.slice none 0 0] 31 (0,0))
 out:wr.heap[w.heap.size+2]?=some (.cells #[.int .i64 7,.int .i64 0,.int .i64 0,.string ⟨#[]⟩,kv,lv] 31 (0,0))
theorem TrI.step{w wr w':World}{B:Nat}{kv lv:Value}{bx:Array Value}(h:TrI w wr B kv lv bx)(hb:Below B wr w')(hB:w.heap.size+3<=B):TrI w w' B kv lv bx :=
 ⟨h.below.trans (hb.mono oM),bGC h.size hb.size,(hb.block _ oM).trans h.box,(hb.block _ oM).trans h.res,(hb.block _ oM).trans h.out⟩
theorem TrI.keys{w wr:World}{B:Nat}{kv lv v:Value}{bx:Array Value}(h:TrI w wr B kv lv bx):TrI w (wr.setCell ⟨w.heap.size+2,4,none⟩ v) B v lv bx :=
 ⟨h.below.setCell (p:=⟨w.heap.size+2,4,none⟩) q186 _,by have:=h.size;simpa[World.setCell] using this,(bGK _ _ _ _ q184).trans h.box,(bGK _ _ _ _ q185).trans h.res,by rw[aC h.out];rfl⟩
theorem TrI.kids{w wr:World}{B:Nat}{kv lv v:Value}{bx:Array Value}(h:TrI w wr B kv lv bx):TrI w (wr.setCell ⟨w.heap.size+2,5,none⟩ v) B kv v bx :=
 ⟨h.below.setCell (p:=⟨w.heap.size+2,5,none⟩) q186 _,by have:=h.size;simpa[World.setCell] using this,(bGK _ _ _ _ q184).trans h.box,(bGK _ _ _ _ q185).trans h.res,by rw[aC h.out];rfl⟩
theorem aZH(w:World):Calls prog 45 #[] w fun e w'=>e=.returned (.slice (some ⟨w.heap.size,0,none⟩) 3 3)/\w'=w.alloc (.cells #[.string ⟨#[73,68]⟩,.string ⟨#[73,110,102,111]⟩,.string ⟨#[82,111,111,116]⟩] 9):=by
 go_enter func45,ntmps45
 go_wp2;exact q393
end Go.Proofs.YtdjpkgccakgkbaaGreatDoor
