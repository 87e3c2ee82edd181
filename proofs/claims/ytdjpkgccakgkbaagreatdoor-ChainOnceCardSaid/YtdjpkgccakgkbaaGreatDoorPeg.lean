/- Parts of the proof: Array. -/
import Derived.Test.YtdjpkgccakgkbaaGreatDoorPef
import Derived.Test.YtdjpkgccakgkbaaGreatDoorPed
set_option linter.all false
set_option maxRecDepth 100000
set_option maxHeartbeats 8000000
section
variable{p:Prop}
theorem q106(h:p:=by rintro⟨h1,h2⟩;simp[h1,h2] at hw):p:=h
theorem q107(h:p:=by intro h;exact h2 (by rw[h])):p:=h
theorem q108(h:p:=by have:=h1.1;omega):p:=h
theorem q109(h:p:=by simp only[bGS,Array.length_toList,show s.data.size=s.size from rfl] at g5;omega):p:=h
theorem q110(h:p:=by show b≠w.heap.size;omega):p:=h
theorem q111(h:p:=by intro h;have:=aK hown _ h;omega):p:=h
theorem q112(h:p:=by rw[HX.out];exact⟨rfl,hbd.trans hs4⟩):p:=h
theorem q113(h:p:=by intro h;have h2:w.heap.size+2<=w.heap.size+1:=hfar _ h.symm;omega):p:=h
theorem q275(h:p:=by
 clear hn H hw hbg HE;go_wp2_with fail;refine HN.out.mono ?_;rintro e w1 ⟨rfl,hr1,hs1⟩;go_wp2_with fail;refine(gD _ _ _ _ _ _ _ false HW.out _).mono ?_;rintro e w2 ⟨rfl,hb2⟩;obtain⟨hc2,hf2⟩:=aZ hb2;have hlt1:=hs1.size;have hlt2:w1.heap.size+1<=w2.heap.size:=q99;go_wp2_with fail;refine(cK t _ _ _ HBG.out _).mono ?_;rintro e w3 ⟨rfl,hb3⟩;obtain⟨tt,htt⟩:=eX (w1.heap.size);have k0:w3.heap[w.heap.size]?=wr.heap[w.heap.size]?:=(hb3.block _ oM).trans ((hb2.block _ sO).trans ((bGM _ _ _ oM).trans (hs1.block _ oM neB0)));have k1:w3.heap[w.heap.size+1]?=wr.heap[w.heap.size+1]?:=(hb3.block _ oM).trans ((hb2.block _ sO).trans ((bGM _ _ _ oM).trans (hs1.block _ oM neB1)));have k2:=(hb3.block w1.heap.size oM).trans ((hb2.block w1.heap.size sI).trans (aA w1 _ _ rfl));have hbw1:Below w1.heap.size w1 w3:=bel;have hs3:Bes r wr w3:=hs1.trans (.of_below hbw1);have hr3:=hr1.below hbw1;have HPOS:=hr.pos;rw[htt] at k2;rw[htt];obtain⟨b0,b1,b2,b3,b4,b5,bf⟩:=aD (k1.trans hB1);have htb:wr.heap.size<=tt:=oM;have httw:tt<w3.heap.size:=bGJ k2;obtain⟨c0,c1,c2,c3,c4,cf⟩:=eM k2;have B0:=k0.trans hB0;have B1:=k1.trans hB1;have hown3:w3.ownsRow _ _ _ _ _ _:=World.ownsRow.kept hown (row:=some r) ⟨hs3.os,hs3.tape,hs3.output,hs3.size,fun k h1 h2=>hs3.block k h1 q107⟩ (.inr q111);have hkids3:=hkids.grow (w':=w3) (fun b h1 h2=>⟨h1,hs3.block b h2 q108⟩);have hm3:aF w3 m:=hm.bes hs3 (hm.ne hr)
 clear k0 k1 hc2 hf2 hb2 hb3 htt hlt1 HN HW HBG hr hB0 hB1 hown hkids hbw1 hs1 hr1 hm;go_wp2;have hm4:aF w3.drew m:=hm3;have hr4:aU w3.drew r s q:=hr3;have HOb:=HB.out _ hm4 hr4;have hbd:Bes r w w3.drew:=hbes.trans hs3.drew;have hlt3:w.heap.size+1<w3.drew.heap.size:=bGJ B1;obtain⟨i0,hi0,y0,y1,y2⟩:=info_parts Tryz.infoOb;have hBw3:w.heap.size+2<=w3.drew.heap.size:=oM;have hown3':w3.drew.ownsRow (w.heap.size+2) 31 6 (.slice vp acc.length vc) acc.length css.flatten:=hown3;have hkids3':bJ (fun b=>w.heap.size+2<=b/\(Value.slice vp acc.length vc).ownBlock≠some b) (d+1) w3.drew css acc:=hkids3.grow (fun b h1 h2=>⟨h1,rfl⟩);go_region_law (first
  |(go_simp;go_at_call 123;refine HOb.mono ?_;rintro e w4 (⟨k,rfl,HX,hs4⟩|⟨o,p1,n1,c1,p2,n2,c2,z,rfl,hz1,hz2,hz3,HX,hO,hR4,hs4⟩);exact⟨rfl,q112⟩;have d5:w4.cell? ⟨w.heap.size+1,5,none⟩=some (.slice vp acc.length vc):=(bGO (hs4.block _ hlt3 neB1)).trans b5;have df:w4.frozen? ⟨w.heap.size+1,5,none⟩=false:=(World.frozen?_of_block (hs4.block _ hlt3 neB1)).trans (bf 5);have hown4:=aHX hown3' hs4 oM;have hlt4:=hs4.size;have hltB4:w.heap.size+1<w4.heap.size:=bGA hlt3 hlt4)
  | (refine step_append_lies _ (by rfl) _ _ _ (by rfl) (w.heap.size + 2) 31 i0 _ 6 88 Tryz.underlying29 hi0 y0 y1 y2 rfl (by omega) (.slice vp acc.length vc) acc.length css.flatten (by rfl) (hown4.alloc _)
        ⟨w4.heap.size,0,none⟩ 1 1 (aB o.kind o.n o.g o.s (.slice p1 n1 c1) (.slice p2 n2 c2)) (by rfl) (by rfl) (World.news_of_block (cs:=#[.int .i64 o.kind,.int .i64 o.n,.int .i64 o.g,.string ⟨o.s.toArray⟩,.slice p1 n1 c1,.slice p2 n2 c2]) (t:=31) (fr:=(0,0)) (bGP w4 _)) (qB _ _ _ _ _ _ _)
        oM q26 oM sO (w4.heap.size+1) sI ?_;intro gg cap w5 hown5 hgrow hat hlt5
     have hfar:=aK hown4;have e5:w5.cell? ⟨w.heap.size+1,5,none⟩=some (.slice vp acc.length vc):=(hgrow.cell_far ⟨w.heap.size+1,5,none⟩ sO q113).trans ((bGO (bGM _ _ _ q101)).trans d5);have ef:w5.frozen? ⟨w.heap.size+1,5,none⟩=false:=(hgrow.frozen_far ⟨w.heap.size+1,5,none⟩ sO q113).trans ((World.frozen?_of_block (bGM _ _ _ q101)).trans df)))
 all_goals go_wp2_with fail
 all_goals (go_roundw;(case rel=>exact aPA s m d fuel r z w w3.drew w4 w5 gg cap vp vc acc css o _ _ _ _ _ _ T hlt B0 B1 hown3' hkids3' hO hs4 hbd hR4 hm4 hr4 hown5 hgrow hat hz1 HX oM);(case measure=>(rw[HPOS,(bDT (B:=w.heap.size+2) (x:=w.heap.size+1) oM (Nat.lt_trans hlt oM) hown3' hs4 hgrow hR4 oM).pos];omega)))):p:=h
theorem q407(h:p:=by
 intro b hb;rw[bGK _ _ _ _ q110,bGK _ _ _ _ q110,bGK _ _ _ _ q110,bGK _ _ _ _ q110,bGK _ _ _ _ q110,bGK _ _ _ _ q110]):p:=h
theorem q441(h:p:=by
 go_wp2_with fail;refine HN.out.mono ?_;rintro e w1 ⟨rfl,hs1⟩;go_wp2;refine⟨rfl,?_⟩;rw[HX.out];exact⟨rfl,q95⟩):p:=h
theorem q500(h:p:=by
 rw[iN,h];have:¬(t.kind=6/\t.s=[93]):=q106;dsimp only;rw[bGU this,bGU hb,hf]):p:=h
end
namespace Go.Proofs.YtdjpkgccakgkbaaGreatDoor
open Go.Proofs.Tryz
open Go.RowKit Fo
theorem eM{w:World}{b:Nat}{t:TypeId}{v0 v1 v2 v3 v4:Value}(h:w.heap[b]?=some (.cells #[v0,v1,v2,v3,v4] t (0,0))) :
 w.cell? ⟨b,0,none⟩=some v0/\w.cell? ⟨b,1,none⟩=some v1/\w.cell? ⟨b,2,none⟩=some v2/\w.cell? ⟨b,3,none⟩=some v3/\w.cell? ⟨b,4,none⟩=some v4/\∀o,w.frozen? ⟨b,o,none⟩=false:=by
 exact q374
theorem aF.ne{w:World}{m:Int}{r:Nat}{s:ByteArray}{a:Nat}(h:aF w m)(hr:aU w r s a):r≠1:=by
 rintro rfl;unfold aF at h;rw[hr.cell0] at h;cases h
theorem aF.bes{w w':World}{m:Int}{r:Nat}(h:aF w m)(hb:Bes r w w')(hr:r≠1):aF w' m:=by
 unfold aF at *;rw[bGO (hb.block 1 (aF.lt h) oM)];exact h
def tE(w:World)(r:Nat):Nat:=match w.cell? ⟨r,1,none⟩ with|some (.int _ n)=>n.toNat|_=>0
theorem aU.pos{w:World}{r:Nat}{s:ByteArray}{a:Nat}(h:aU w r s a):tE w r=a:=by
 unfold tE;rw[h.cell1];simp
theorem aVH{f:Tok->L->Res (Ob×L)}{d n:Nat}{l:L}{acc:List Ob}{k:Int}(h:bE l=.bad k):iN f d (n+1) l acc=.bad k:=by rw[iN,h]
theorem aVI{f:Tok->L->Res (Ob×L)}{d n:Nat}{l r:L}{acc:List Ob}{t:Tok}(h:bE l=.good (t,r))(hw:(t.kind==6&&t.s==[93])=true):iN f d (n+1) l acc=.good (acc,r):=by
 rw[iN,h];simp only[Bool.and_eq_true,beq_iff_eq] at hw;simp[hw]
theorem aOW{f:Tok->L->Res (Ob×L)}{d n:Nat}{l r:L}{acc:List Ob}{t:Tok}(h:bE l=.good (t,r))(hw:(t.kind==6&&t.s==[93])=false)(hb:bL t=true)(hd:0<d)(hn:8191<=acc.length):iN f d (n+1) l acc=.bad 6:=by
 rw[iN,h];have:¬(t.kind=6/\t.s=[93]):=q106;dsimp only;rw[bGU this,bGV ⟨hb,hd,hn⟩]
theorem aOX{f:Tok->L->Res (Ob×L)}{d n:Nat}{l r:L}{acc:List Ob}{t:Tok}{k:Int}(h:bE l=.good (t,r))(hw:(t.kind==6&&t.s==[93])=false)(hb:¬(bL t=true/\0<d/\8191<=acc.length))(hf:f t r=.bad k):iN f d (n+1) l acc=.bad k:=by
 exact q500
theorem aOY{f:Tok->L->Res (Ob×L)}{d n:Nat}{l r r2:L}{acc:List Ob}{t:Tok}{o:Ob}(h:bE l=.good (t,r))(hw:(t.kind==6&&t.s==[93])=false)(hb:¬(bL t=true/\0<d/\8191<=acc.length))(hf:f t r=.good (o,r2)):iN f d (n+1) l acc=iN f d n r2 (acc++[o]):=by
 exact q500
theorem aOZ{d:Nat}{t:Tok}{l:L}{o:Ob}{r:L}(h:dM d t l=.good (o,r)):bL t=true/\0<d:=by
 exact q437
theorem aHX{w w':World}{B sz n r:Nat}{e:TypeId}{v:Value}{xs:List Value}(h:w.ownsRow B e sz v n xs)(hs:Bes r w w')(hr:r<B):w'.ownsRow B e sz v n xs :=
 World.ownsRow.kept h (row:=some r) ⟨hs.os,hs.tape,hs.output,hs.size,fun k h1 h2=>hs.block k h1 q107⟩ (.inr (by intro h';have:=aK h _ h';omega))
def aVJ(s:ByteArray)(d fuel r q:Nat)(acc:List Ob)(T:Res (List Ob×L))(w:World)(e:Ending)(w':World):Prop :=
 (∃k,e=.panicked [{ v:=.iface 233 (.int .i64 k),recovered:=false }]/\Hid (T=.bad k)/\Bes r w w') \/
 (∃(o:Ob) (p1:Option Addr) (n1 c1:Nat) (p2:Option Addr) (n2 c2 z:Nat),e=.returned (.agg #[.int .i64 o.kind,.int .i64 o.n,.int .i64 o.g,.string ⟨o.s.toArray⟩,.slice p1 n1 c1,.slice p2 n2 c2])/\z<=s.size/\q<=z/\acc.length<8191 /\
  Hid (iN (dM d) d fuel (s.data.toList.drop z) (acc++[o])=T)/\aI (fun b=>w.heap.size<=b) (d+1) w' (aB o.kind o.n o.g o.s (.slice p1 n1 c1) (.slice p2 n2 c2)) o/\aU w' r s z/\Bes r w w')
theorem aVK(s:ByteArray)(m:Int)(d fuel r a p q:Nat)(acc:List Ob)(T:Res (List Ob×L))(HC:aDN s m d)(t:Tok)(hn:bE (s.data.toList.drop a)=.good (t,s.data.toList.drop q))(hw:(t.kind==6&&t.s==[93])=false)
 (hb:¬(bL t=true/\0<d/\8191<=acc.length)) (hT:Hid (iN (dM d) d (fuel+1) (s.data.toList.drop a) acc=T)) (hq:q<=s.size) (hpq:p+t.len=q) (hk:t.kind≠0) (h6:t.kind<=6) (h0:0<=t.kind)
 (w:World) (hm:aF w m) (hr:aU w r s q) :
 Calls prog 123 #[.pointer (some ⟨r,0,none⟩),.agg #[.int .i64 t.kind,.int .i64 p,.int .i64 q,.int .i64 t.n,.string ⟨t.s.toArray⟩],.int .i64 (24-(d:Int))] w (aVJ s d fuel r q acc T w):=by
 refine(HC r q p t w hq hm hr hpq hk h6 h0).mono ?_;intro e w' h;unfold lC at h;cases hf:dM d t (s.data.toList.drop q) with
 |bad k =>
  rw[hf] at h;exact .inl ⟨k,h.1,Lh (hT.out.symm.trans (aOX hn hw hb hf)),h.2⟩
 |good R =>
  obtain⟨o,aP⟩:=R;rw[hf] at h;obtain⟨cs,z,rfl,hz1,rfl,hO,hR,hB⟩:=h;obtain⟨p1,n1,c1,p2,n2,c2,rfl⟩:=hO.shape;have hg:=aOZ hf;have hsh:=dI _ _ _ _ _ hf;simp only[bGS,Array.length_toList,show s.data.size=s.size from rfl] at hsh;refine .inr ⟨o,p1,n1,c1,p2,n2,c2,z,rfl,hz1,oM,?_,Lh ((aOY hn hw hb hf).symm.trans hT.out),hO,hR,hB⟩;apply Classical.byContradiction
  intro h9;exact hb ⟨hg.1,hg.2,oM⟩
theorem bDT{s:ByteArray}{B n r z:Nat}{w3 w4 w5:World}{v u:Value}{xs:List Value}{sz:Nat}{e:TypeId}{o:Go.Obj}{x:Nat}(hr:r<B)(hlt:r<w3.heap.size)(hown3:w3.ownsRow B e sz v n xs)(hs4:Bes r w3 w4)
 (hgrow:(w4.alloc o).grownBy w5 v.ownBlock) (hR4:aU w4 r s z) (hx:x≠r):aU (w5.setCell ⟨x,5,none⟩ u) r s z:=by
 have h4:=hs4.size;have hlo:=aK hown3;show(w5.setCell _ _).heap[r]?=_
 rw[bGK _ _ _ _ (by show r≠x;omega),hgrow.block r sO (by intro h;have:=hlo r h.symm;omega),bGM _ _ _ oM];exact hR4
theorem aPA(s:ByteArray)(m:Int)(d fuel r z:Nat)(w w3 w4 w5:World)(gg cap:Nat)(vp:Option Addr)(vc:Nat)(acc:List Ob)(css:List (List Value))(o:Ob)(p1:Option Addr)(n1 c1:Nat)(p2:Option Addr)(n2 c2:Nat)(T:Res (List Ob×L))
 (hlt:r<w.heap.size) (B0:w3.heap[w.heap.size]?=some (.cells #[.int .i64 0,.int .i64 0,.int .i64 0,.string ⟨#[]⟩,.slice none 0 0,.slice none 0 0] 31 (0,0)))
 (B1:w3.heap[w.heap.size+1]?=some (.cells #[.int .i64 6,.int .i64 0,.int .i64 0,.string ⟨#[]⟩,.slice none 0 0,.slice vp acc.length vc] 31 (0,0)))
 (hown3:w3.ownsRow (w.heap.size+2) 31 6 (.slice vp acc.length vc) acc.length css.flatten)
 (hkids:bJ (fun b=>w.heap.size+2<=b/\(Value.slice vp acc.length vc).ownBlock≠some b) (d+1) w3 css acc)
 (hO:aI (fun b=>w3.heap.size<=b) (d+1) w4 (aB o.kind o.n o.g o.s (.slice p1 n1 c1) (.slice p2 n2 c2)) o)
 (hs4:Bes r w3 w4) (hbd:Bes r w w3) (hR4:aU w4 r s z) (hm3:aF w3 m) {q:Nat} (hr3:aU w3 r s q)
 (hown5:w5.ownsRow (w.heap.size+2) 31 6 (.slice (some ⟨gg,0,none⟩) (acc.length+1) cap) (acc.length+1) (css.flatten++aB o.kind o.n o.g o.s (.slice p1 n1 c1) (.slice p2 n2 c2)))
 (hgrow:(w4.alloc (.cells #[.int .i64 o.kind,.int .i64 o.n,.int .i64 o.g,.string ⟨o.s.toArray⟩,.slice p1 n1 c1,.slice p2 n2 c2] 31)).grownBy w5 (Value.slice vp acc.length vc).ownBlock)
 (hat:(Value.slice vp acc.length vc).ownBlock=some gg\/gg=w4.heap.size+1) (hz1:z<=s.size)
 (HX:Hid (iN (dM d) d fuel (s.data.toList.drop z) (acc++[o])=T)) (hfu:s.size-z<fuel) :
 (fun wr=>∃(a fuel:Nat) (acc:List Ob) (css:List (List Value)) (v:Value),a<=s.size/\aU wr r s a/\wr.heap[w.heap.size]?=some (.cells #[.int .i64 0,.int .i64 0,.int .i64 0,.string ⟨#[]⟩,.slice none 0 0,.slice none 0 0] 31 (0,0))/\wr.heap[w.heap.size+1]?=some (.cells #[.int .i64 6,.int .i64 0,.int .i64 0,.string ⟨#[]⟩,.slice none 0 0,v] 31 (0,0))/\wr.ownsRow (w.heap.size+2) 31 6 v acc.length css.flatten/\bJ (fun b=>w.heap.size+2<=b/\v.ownBlock≠some b) (d+1) wr css acc/\Bes r w wr/\aF wr m/\s.size-a<fuel/\Hid (iN (dM d) d fuel (s.data.toList.drop a) acc=T)) (w5.setCell ⟨w.heap.size+1,5,none⟩ (.slice (some ⟨gg,0,none⟩) (acc.length+1) cap)):=by
 obtain⟨wf,hwf⟩:=eX (w5.setCell ⟨w.heap.size+1,5,none⟩ (.slice (some ⟨gg,0,none⟩) (acc.length+1) cap));have hlt3:w.heap.size+1<w3.heap.size:=bGJ B1;have hlt4:=hs4.size;have hlo:=aK hown3;have hup:∀k,(Value.slice vp acc.length vc).ownBlock=some k->k<w3.heap.size:=fun k h=>(World.ownsRow.lt hown3 k h).2
 have hg2:w.heap.size+2<=gg:=aK hown5 gg rfl;have hk:∀k,k<w4.heap.size->k≠w.heap.size+1->(Value.slice vp acc.length vc).ownBlock≠some k->wf.heap[k]?=w4.heap[k]?:=fun k h1 h2 h3=>by
  rw[<-hwf];exact(bGK _ _ _ _ h2).trans ((hgrow.block k sO (Ne.symm h3)).trans (bGM _ _ _ h1))
 have nown:∀k,k<w.heap.size+2->(Value.slice vp acc.length vc).ownBlock≠some k:=fun k h h'=>by have:=hlo k h';omega
 have hgb:w5.grownBy wf (some (w.heap.size+1)):=by
  rw[<-hwf];exact⟨rfl,rfl,rfl,q18,fun k h1 h2=>bGK _ _ _ _ q107⟩
 have hsz:w4.heap.size+1<=wf.heap.size:=by
  have:=hgrow.size;simp at this;exact bGC this hgb.size
 have hggn:∀b,b<w4.heap.size->(Value.slice vp acc.length vc).ownBlock≠some b->some gg≠some b:=by
  intro b h1 h2 h3;simp only[Option.some.injEq] at h3;subst h3;rcases hat with h|h
  ·exact h2 h
  ·omega
 rw[hwf];refine⟨z,fuel,acc++[o],css++[aB o.kind o.n o.g o.s (.slice p1 n1 c1) (.slice p2 n2 c2)],.slice (some ⟨gg,0,none⟩) (acc.length+1) cap,hz1,?_,?_,?_,?_,?_,?_,?_,hfu,HX⟩
 ·show wf.heap[r]?=_
  rw[hk r oM oM (nown r oM)];exact hR4
 ·rw[hk _ oM oM (nown _ oM),hs4.block _ oM oM];exact B0
 ·rw[<-hwf];refine sA (v5:=.slice vp acc.length vc) ?_;rw[hgrow.block _ sO (Ne.symm (nown _ oM)),bGM _ _ _ oM,hs4.block _ oM oM];exact B1
 ·have:=World.ownsRow.kept hown5 hgb (.inr (by simp[Value.ownBlock];omega));simpa using this
 ·refine bJ.push ?_ rfl ?_
  ·exact hkids.grow (fun b h1 h2=>⟨⟨h1.1,hggn b oM h1.2⟩,(hk b oM q108 h1.2).trans (hs4.block b h2 q108)⟩)
  ·refine hO.grow (fun b h1 h2=>?_);have nb:(Value.slice vp acc.length vc).ownBlock≠some b:=fun h=>by have:=hup b h;omega
   exact⟨⟨oM,hggn b h2 nb⟩,hk b h2 oM nb⟩
 ·have h4:=hbd.trans hs4;refine⟨?_,?_,?_,by have:=h4.size;omega,fun k h1 h2=>(hk k oM oM (nown k oM)).trans (h4.block k h1 h2)⟩
  ·exact hgb.os.trans (hgrow.os.trans h4.os)
  ·exact hgb.tape.trans (hgrow.tape.trans h4.tape)
  ·exact hgb.output.trans (hgrow.output.trans h4.output)
 ·have h4:=hm3.bes hs4 (hm3.ne hr3);have:=aF.lt hm3;unfold aF at *
  rw[bGO (a:=⟨1,0,none⟩) (hk 1 oM oM (nown 1 oM))];exact h4
theorem aVL(s:ByteArray)(m:Int)(d:Nat)(hs:s.size<=140737488355327)(hd:d<=24)(HO:aDN s m d):bFE s m d:=by
 intro r a0 w ha0 hm0 hr0;have hlt:=hr0.lt;obtain⟨T,hT⟩:=eX (iN (dM d) d ((s.data.toList.drop a0).length+1) (s.data.toList.drop a0) []);rw[hT];have HT:=Lh hT;clear hT;have HC:=Lh HO;clear HO;go_enter func171,ntmps171
 go_wp2_with fail;go_loopw [6] (fun _ wr=>∃(a fuel:Nat) (acc:List Ob) (css:List (List Value)) (v:Value),a<=s.size/\aU wr r s a/\wr.heap[w.heap.size]?=some (.cells #[.int .i64 0,.int .i64 0,.int .i64 0,.string ⟨#[]⟩,.slice none 0 0,.slice none 0 0] 31 (0,0))/\wr.heap[w.heap.size+1]?=some (.cells #[.int .i64 6,.int .i64 0,.int .i64 0,.string ⟨#[]⟩,.slice none 0 0,v] 31 (0,0))/\wr.ownsRow (w.heap.size+2) 31 6 v acc.length css.flatten/\bJ (fun b=>w.heap.size+2<=b/\v.ownBlock≠some b) (d+1) wr css acc/\Bes r w wr/\aF wr m/\s.size-a<fuel/\Hid (iN (dM d) d fuel (s.data.toList.drop a) acc=T)) (fun _ wr=>s.size-tE wr r)
 case atStart =>
  refine⟨a0,_,[],[],.slice none 0 0,ha0,hr0.below bel,(bGM _ _ _ sI).trans (aA _ _ _ rfl),aA _ _ _ sI,⟨sI,.inl ⟨rfl,rfl⟩⟩,bJ.nil,q95,hm0.below bel,?_,HT⟩;simp
 case round =>
  obtain⟨a,fuel,acc,css,v,ha,hr,hB0,hB1,hown,hkids,hbes,hm,hfu,H⟩:=hrel;clear HT;obtain⟨vp,vc,rfl⟩:=cY hown;obtain⟨fuel,rfl⟩:∃f,fuel=f+1:=⟨fuel-1,oM⟩
  cases hn:bE (s.data.toList.drop a) with
  |bad k =>
   have HX:=Lh (H.out.symm.trans (aVH hn));have HN:=Lh (oI r s a k ha hs m wr hm hr hn);clear hn H;exact q441
  |good tr =>
   obtain⟨t,aP⟩:=tr;obtain⟨h1,hk,hrest⟩:=gS hn;obtain⟨g1,g2,g3,_⟩:=cW h1;obtain⟨g5,g6⟩:=bQ hn;obtain⟨p,hp⟩:=eX (a+(aM (s.data.toList.drop a)).1);have HN:=Lh (mH r s a p t ha hs m wr hm hr h1 hk hp);simp only[bGS,Array.length_toList,show s.data.size=s.size from rfl] at g1;have hq:p+t.len<=s.size:=oM;rw[List.drop_drop,<-bHM,hp] at hrest;subst hrest;have hqa:a<p+t.len:=q109;obtain⟨q,hq'⟩:=eX (p+t.len);rw[hq'] at hq hqa hn;unfold tkV at HN;rw[hq'] at HN;clear g1 g5 h1 hp;have ltr:=hr.lt;have ltB:w.heap.size+1<wr.heap.size:=bGJ hB1;have neB0:w.heap.size≠r:=oM;have neB1:w.heap.size+1≠r:=oM;cases hw:(t.kind==6&&t.s==[93]) with
   |true =>
    have HX:=Lh (H.out.symm.trans (aVI hn hw));have HW:=Lh hw;clear hn H hw;go_wp2_with fail;refine HN.out.mono ?_;rintro e w1 ⟨rfl,hr1,hs1⟩;go_wp2_with fail;refine(gD _ _ _ _ _ _ _ true HW.out _).mono ?_;rintro e w2 ⟨rfl,hb2⟩;obtain⟨hc2,hf2⟩:=aZ hb2;have hlt1:=hs1.size;have k0:w2.heap[w.heap.size]?=wr.heap[w.heap.size]?:=(hb2.block _ sO).trans ((bGM _ _ _ oM).trans (hs1.block _ oM neB0));have k1:w2.heap[w.heap.size+1]?=wr.heap[w.heap.size+1]?:=(hb2.block _ sO).trans ((bGM _ _ _ oM).trans (hs1.block _ oM neB1));obtain⟨a0,a1,a2,a3,a4,a5,af⟩:=aD (k0.trans hB0);obtain⟨b0,b1,b2,b3,b4,b5,bf⟩:=aD (k1.trans hB1);go_wp2;refine bGN (v:=.agg #[.int .i64 6,.int .i64 0,.int .i64 0,.string ⟨#[]⟩,.slice none 0 0,.slice vp acc.length vc]) (by simp[results,results171,go_sem,a0,a1,a2,a3,a4,a5,af]) rfl ?_;rw[HX.out];have hbw:Bes r wr w2:=hs1.trans (q95);have hO:=aOV (S':=fun b=>w.heap.size+2<=b) hown hkids (fun b hb=>hb.1) (fun b hb=>hb);have hO2:=hO.grow (S':=fun b=>w.heap.size+2<=b) (w':=w2) (fun b h1 h2=>⟨h1,hbw.block b h2 oM⟩);refine⟨_,q,rfl,hq,rfl,oK hO2 oM ?_,(hr1.below (w':=w2) bel).belowB (B:=r+1) xK oM,?_⟩
    ·exact q407
    ·have hs3:Bes r w w2:=hbes.trans hbw
     (repeat' (first|(with_reducible exact hs3)|(with_reducible refine Bes.setCell_new ?_ ?_ _)|(show _<=_;simp;done)|(show _<=_;simp;omega)|omega))
   |false =>
    have HW:=Lh hw;have HE:=fun(hb:¬(bL t=true/\0<d/\8191<=acc.length)) W (hW:aF W m) (hR:aU W r s q)=>aVK s m d fuel r a p q acc T HC.out t hn hw hb H hq hq' hk g3 g2 W hW hR
    cases hbg:bL t with
    |false =>
     have HB:=Lh (HE (by simp[hbg]));have HBG:=Lh hbg;exact q275
    |true =>
     have HBG:=Lh hbg;by_cases h0:0<d
     ·have e0:decide ((24:Int)-(d:Int)<24)=true:=sO;by_cases h9:8191<=acc.length
      ·have e9:decide ((acc.length:Int)≥8191)=true:=sO;have HX:=Lh (H.out.symm.trans (aOW hn hw hbg h0 h9));clear hn H hw hbg HE;go_wp2_with fail;refine HN.out.mono ?_;rintro e w1 ⟨rfl,hr1,hs1⟩;go_wp2_with fail;refine(gD _ _ _ _ _ _ _ false HW.out _).mono ?_;rintro e w2 ⟨rfl,hb2⟩;obtain⟨hc2,hf2⟩:=aZ hb2;have hlt1:=hs1.size;have hlt2:w1.heap.size+1<=w2.heap.size:=q99;go_wp2_with fail;refine(cK t _ _ _ HBG.out _).mono ?_;rintro e w3 ⟨rfl,hb3⟩;obtain⟨tt,htt⟩:=eX (w1.heap.size);have k0:w3.heap[w.heap.size]?=wr.heap[w.heap.size]?:=(hb3.block _ oM).trans ((hb2.block _ sO).trans ((bGM _ _ _ oM).trans (hs1.block _ oM neB0)));have k1:w3.heap[w.heap.size+1]?=wr.heap[w.heap.size+1]?:=(hb3.block _ oM).trans ((hb2.block _ sO).trans ((bGM _ _ _ oM).trans (hs1.block _ oM neB1)));have k2:=(hb3.block w1.heap.size oM).trans ((hb2.block w1.heap.size sI).trans (aA w1 _ _ rfl));have hbw1:Below w1.heap.size w1 w3:=bel;have hs3:Bes r wr w3:=hs1.trans (.of_below hbw1);have hr3:=hr1.below hbw1;have HPOS:=hr.pos;rw[htt] at k2;rw[htt];obtain⟨b0,b1,b2,b3,b4,b5,bf⟩:=aD (k1.trans hB1);have htb:wr.heap.size<=tt:=oM;have httw:tt<w3.heap.size:=bGJ k2;obtain⟨c0,c1,c2,c3,c4,cf⟩:=eM k2;have B0:=k0.trans hB0;have B1:=k1.trans hB1;have hown3:w3.ownsRow _ _ _ _ _ _:=World.ownsRow.kept hown (row:=some r) ⟨hs3.os,hs3.tape,hs3.output,hs3.size,fun k h1 h2=>hs3.block k h1 q107⟩ (.inr q111)
       have hkids3:=hkids.grow (w':=w3) (fun b h1 h2=>⟨h1,hs3.block b h2 q108⟩);have hm3:aF w3 m:=hm.bes hs3 (hm.ne hr);clear k0 k1 hc2 hf2 hb2 hb3 htt hlt1 HN HW HBG hr hB0 hB1 hown hkids hbw1 hs1 hr1 hm;go_wp2;exact⟨rfl,by rw[HX.out];exact⟨rfl,hbes.trans hs3⟩⟩
      ·have e9:decide ((acc.length:Int)≥8191)=false:=sO;have HB:=Lh (HE (fun h=>h9 h.2.2));exact q275
     ·have e0:decide ((24:Int)-(d:Int)<24)=false:=sO;have HB:=Lh (HE (fun h=>h0 h.2.1));exact q275
end Go.Proofs.YtdjpkgccakgkbaaGreatDoor
