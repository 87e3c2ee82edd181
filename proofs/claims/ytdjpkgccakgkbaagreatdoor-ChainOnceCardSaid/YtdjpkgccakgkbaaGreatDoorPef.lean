/- Parts of the proof: TdA MpS Read2 Ref Object Object2 Kids. -/
import Derived.Test.YtdjpkgccakgkbaaGreatDoorPed
import Derived.Test.YtdjpkgccakgkbaaGreatDoorPee
import Derived.Maps.OwnSet
import Derived.OwnWalk
import Derived.Test.YtdjpkgccakgkbaaGreatDoorPea
import Derived.Deep.AppendLies
set_option linter.all false
set_option maxRecDepth 100000
set_option maxHeartbeats 8000000
section
variable{p:Prop}
theorem q98(h:p:=by simp[results,results164,go_sem,hc,hf,hz]):p:=h
theorem q99(h:p:=by have:=hb2.size;simp at this;omega):p:=h
theorem q100(h:p:=by show w.heap.size+1≠r;omega):p:=h
theorem q101(h:p:=by show w.heap.size+1<_;omega):p:=h
theorem q102(h:p:=by simp[hk]):p:=h
theorem q103(h:p:=by have:=hb2.size;omega):p:=h
theorem q104(h:p:=by simp[results,results123,go_sem,hc2,hf2,hc,hf,hz,obV]):p:=h
theorem q105(h:p:=by show b≠w.heap.size+1;omega):p:=h
theorem q295(h:p:=by
 clear hn;have t1:(t.kind==1)=false:=q102;have t2:(t.kind==2)=false:=q102;have t3:(t.kind==3)=false:=q102;have t4:(t.kind==4)=false:=q102;have t5:(t.kind==5)=false:=q102;have hlt:=hr.lt;have HCH:=Lh HC;clear hk HC;have H:=Lh h;clear h;have hd:decide (24<=d)=false:=sO;go_enter func123,ntmps123
 go_wp2_with fail;refine(cK t _ _ true H.out _).mono ?_;rintro e w1 ⟨rfl,hb⟩;obtain⟨hc,hf⟩:=aZ hb;have hz:w.heap.size+1<w1.heap.size:=q86;go_wp2_with fail;refine(HCH.out _ (hm.below bel) (hr.below bel)).mono ?_;intro e w2 hpost;have hbw1:Below w.heap.size w w1:=bel;cases R with
 |bad k =>
  obtain⟨rfl,hs2⟩:=hpost;have hs3:Bes r w w2:=(Bes.of_below hbw1).trans hs2;exact⟨rfl,rfl,hs3⟩
 |good R =>
  obtain⟨o,aP⟩:=R;obtain⟨cs,z,rfl,hz1,hz2,hO,hR2,hs2⟩:=hpost;obtain⟨p1,n1,c1,p2,n2,c2,hcs⟩:=hO.shape;rw[hcs] at hO;rw[hcs];have hr0:∀o,w2.cell? ⟨w.heap.size+1,o,none⟩=w1.cell? ⟨w.heap.size+1,o,none⟩:=fun o=>bGO (hs2.block _ q101 q100)
  have hr1:∀o,w2.frozen? ⟨w.heap.size+1,o,none⟩=w1.frozen? ⟨w.heap.size+1,o,none⟩:=fun o=>World.frozen?_of_block (hs2.block _ q101 q100)
  have hz3:w.heap.size+1<w2.heap.size:=by have:=hs2.size;omega
  have hs3:Bes r w w2:=(Bes.of_below hbw1).trans hs2;have HZ:=Lh (bGQ hz2 hO);have hkv:∀(w3:World),(∀b,w1.heap.size<=b->w3.heap[b]?=w2.heap[b]?)->aI (fun b=>w.heap.size<=b) d2 w3 (aB o.kind o.n o.g o.s (.slice p1 n1 c1) (.slice p2 n2 c2)) o:=fun w3 h3=>oK hO oM h3
  have HKV:=Lh hkv;clear hz2 hs2 hcs hO hkv;unfold aB;go_wp2;refine bGN (v:=.agg #[.int .i64 o.kind,.int .i64 o.n,.int .i64 o.g,.string ⟨o.s.toArray⟩,.slice p1 n1 c1,.slice p2 n2 c2]) (by simp[results,results123,go_sem,hr0,hr1,hc,hf,hz,hz3]) rfl ?_;refine⟨_,z,rfl,hz1,HZ.out.1,HKV.out _ ?_,hR2.belowB (B:=r+1) xK oM,?_⟩
  ·intro b hb;rw[bGK _ _ _ _ q105,bGK _ _ _ _ q105,bGK _ _ _ _ q105,bGK _ _ _ _ q105,bGK _ _ _ _ q105,bGK _ _ _ _ q105]
  ·(repeat' (first|(with_reducible exact hs3)|(with_reducible refine Bes.setCell_new ?_ ?_ _)|(with_reducible refine Bes.alloc ?_ _)|(show _<=_;simp;done)|(show _<=_;simp;omega)|omega))):p:=h
theorem q305(h:p:=by
 have h1:decide (t.n<1)=false:=sO;have h2:decide (8191<t.n)=false:=sO;have hlt:=hr.lt;go_enter func164,ntmps164
 go_wp2_with fail;refine(HN.out _ (hm.below bel) (hr.below bel)).mono ?_;rintro e w1 ⟨rfl,hb⟩;obtain⟨hc,hf⟩:=aZ hb;have hz:w.heap.size+1<w1.heap.size:=q86;go_wp2;refine bGN (v:=.tuple #[.agg #[.int .i64 0,.int .i64 0,.int .i64 0,.string ⟨#[]⟩,.slice none 0 0,.slice none 0 0],.bool false]) q98 rfl ⟨rfl,bel⟩):p:=h
theorem q384(h:p:=by
 have:=(cW h).1;rw[bGS] at this;have h2:s.data.toList.length=s.size:=rfl;omega):p:=h
theorem q409(h:p:=by
 go_wp2;refine bGN (v:=.tuple #[.agg #[.int .i64 0,.int .i64 0,.int .i64 0,.string ⟨#[]⟩,.slice none 0 0,.slice none 0 0],.bool false]) (by simp[results,results164,go_sem]) rfl ⟨rfl,bel⟩):p:=h
theorem q450(h:p:=by
 go_ret
 exact⟨rfl,bel⟩):p:=h
theorem q469(h:p:=by exact⟨rfl,rfl,bel⟩):p:=h
theorem q505(h:p:=by
 obtain⟨D,⟨es,clock,hb,F⟩,h2⟩:=h;exact⟨D,⟨es,clock,hk.trans hb,F⟩,h2⟩):p:=h
theorem q513(h:p:=by
 obtain⟨D,⟨es,clock,hb,_⟩,_⟩:=h;exact(Array.getElem?_eq_some_iff.1 hb).1):p:=h
theorem q528(h:p:=by rw[hc3 _ _ sO];simp[go_sem, *]):p:=h
theorem q588(h:p:=by
 go_wp2_with(go_at_call 49;refine(bD _).mono ?_;rintro e w9 ⟨rfl,rfl⟩)
 exact q450):p:=h
end
namespace Go.Proofs.YtdjpkgccakgkbaaGreatDoor
open Go.Proofs.Tryz
open Go.RowKit Fo
def RdT(w:World)(r:Nat)(s:ByteArray)(a:Nat):Prop:=w.heap[r]?=some (.cells #[.string s,.int .i64 a] 70 (0,0))
theorem RdT.lt{w:World}{r:Nat}{s:ByteArray}{a:Nat}(h:RdT w r s a):r<w.heap.size:=bGJ h
theorem RdT.cell0{w:World}{r:Nat}{s:ByteArray}{a:Nat}(h:RdT w r s a):w.cell? ⟨r,0,none⟩=some (.string s):=by
 unfold RdT at h;simp[World.cell?,h]
theorem RdT.cell1{w:World}{r:Nat}{s:ByteArray}{a:Nat}(h:RdT w r s a):w.cell? ⟨r,1,none⟩=some (.int .i64 a):=by
 unfold RdT at h;simp[World.cell?,h]
theorem RdT.frozen{w:World}{r:Nat}{s:ByteArray}{a:Nat}(h:RdT w r s a)(o:Nat):w.frozen? ⟨r,o,none⟩=false:=by
 unfold RdT at h;simp[World.frozen?,h]
theorem RdT.below{w w':World}{r:Nat}{s:ByteArray}{a:Nat}(h:RdT w r s a)(hb:Below w.heap.size w w'):RdT w' r s a:=by
 unfold RdT at *;rw[hb.block r (bGJ h)];exact h
theorem RdT.belowB{B:Nat}{w w':World}{r:Nat}{s:ByteArray}{a:Nat}(h:RdT w r s a)(hb:Below B w w')(hB:r<B):RdT w' r s a:=by
 unfold RdT at *;rw[hb.block r hB];exact h
theorem RdT.set{w:World}{r:Nat}{s:ByteArray}{a b:Nat}(h:RdT w r s a):RdT (w.setCell ⟨r,1,none⟩ (.int .i64 b)) r s b:=by
 unfold RdT at *
 have hlt:=bGJ h;have h':w.heap[r]=.cells #[.string s,.int .i64 a] 70 (0,0):=q20;exact q399
theorem bD(w:World):Calls prog 49 #[.bool true] w fun e w'=>e=.returned (.tuple #[])/\w'=w:=by
 go_enter func49,ntmps49
 exact q418
theorem aHS(r:Nat)(s:ByteArray)(a p:Nat)(t:Tok)(ha:a<=s.size)(hs:s.size<=140737488355327)(m:Int)(w:World)(hm:aF w m)(hr:RdT w r s a)
 (h:(aM (s.data.toList.drop a)).2=.good t) (hp:a+(aM (s.data.toList.drop a)).1=p) :
 Calls prog 50 #[.pointer (some ⟨r,0,none⟩)] w fun e w'=>e=.returned (tkV t p)/\RdT w' r s (p+t.len)/\Bes r w w':=by
 obtain⟨q,hq⟩:=eX (p+t.len);have HN:=Lh (fun W hW=>gB s a p t h hp ha hs m W hW);simp only[hq] at HN;have hc0:=hr.cell0;have hc1:=hr.cell1;have hf0:=hr.frozen 1;have hlt:=hr.lt;have hA:∀W,Below w.heap.size w W->aF W m:=fun W hb=>hm.below hb
 have HA:=Lh hA;clear h hp hA;go_enter func50,ntmps50
 go_upto_region 1 with fail
 go_cut [3,4] (fun s3 s4 wx=>∃g:Nat,s3=.pointer (some ⟨g,0,none⟩)/\s4=.int .i64 0/\wx.cell? ⟨g,0,none⟩=some (.int .i64 t.kind)/\wx.cell? ⟨g,1,none⟩=some (.int .i64 p)/\wx.cell? ⟨g,2,none⟩=some (.int .i64 q)/\wx.cell? ⟨g,3,none⟩=some (.int .i64 t.n)/\wx.cell? ⟨g,4,none⟩=some (.string ⟨t.s.toArray⟩)/\w.heap.size<g/\Below (w.heap.size+1) (w.alloc (.cells #[.int .i64 0,.int .i64 0,.int .i64 0,.int .i64 0,.string ⟨#[]⟩] 81)) wx)
 case first =>
  exact q310
 case rest =>
  obtain⟨g,rfl,rfl,g0,g1,g2,g3,g4,hg,hb⟩:=hcut;obtain⟨hc,hf⟩:=aQ hb;have hrw:RdT wc r s a:=(hr.below (w':=w.alloc (.cells #[.int .i64 0,.int .i64 0,.int .i64 0,.int .i64 0,.string ⟨#[]⟩] 81)) bel).belowB hb oM;have k1:=hrw.cell1;have kf:=hrw.frozen;have hgr:¬g=r:=oM;have hrg:¬r=g:=oM;have hrz:¬r=w.heap.size:=oM;have hzr:¬w.heap.size=r:=oM;go_wp2_with(go_at_call 49;refine(bD _).mono ?_;rintro e w9 ⟨rfl,rfl⟩)
  refine bGN (v:=tkV t p) (by simp[results,results50,go_sem,hc,hf,tkV,hq]) rfl ⟨rfl,?_,?_⟩
  ·exact q458
  ·exact q95
theorem fV(n most:Int)(p q:Nat)(x:ByteArray)(h0:0<=n)(h1:n<=most)(w:World) :
 Calls prog 82 #[.agg #[.int .i64 1,.int .i64 p,.int .i64 q,.int .i64 n,.string x],.int .i64 most] w fun e w'=>e=.returned (.int .i64 n)/\Below w.heap.size w w':=by
 have d0:decide (0<=n)=true:=bGI h0;have d1:decide (n<=most)=true:=bGI h1;clear h0 h1;go_enter func82,ntmps82
 exact q588
open Go.Maps
def jJ(v:Value):Option (DataW Unit×List MemPlace):=match v with
 |.agg ⟨[.int .i64 a,.int .i64 b,.int .i64 c,.int .i64 d]⟩=>some (.agg [.lit (.int .i64 a),.lit (.int .i64 b),.lit (.int .i64 c),.lit (.int .i64 d)],[])
 |_=>none
def slV(x:Sl):Value:=.agg #[.int .i64 x.num,.int .i64 x.kind,.int .i64 x.a,.int .i64 x.b]
def slD(x:Sl):DataW Unit:=.agg [.lit (.int .i64 x.num),.lit (.int .i64 x.kind),.lit (.int .i64 x.a),.lit (.int .i64 x.b)]
theorem lS(x:Sl):jJ (slV x)=some (slD x,[]):=rfl
theorem yL{v:Value}{z:DataW Unit×List MemPlace}(h:jJ v=some z):∃x:Sl,v=slV x/\z=(slD x,[]):=by
 unfold jJ at h;split at h
 ·rename_i a b c d
  cases h;exact⟨⟨a,b,c,d⟩,rfl,rfl⟩
 ·cases h
theorem aMA{x y:Sl}(h:slD x=slD y):x=y:=by
 obtain⟨_,_,_,_⟩:=x;obtain⟨_,_,_,_⟩:=y;simp[slD] at h;obtain⟨rfl,rfl,rfl,rfl⟩:=h;rfl
structure aAM (D:DataW Unit) (ps:List Sl):Prop where
 tidy:Tidy D
 has:∀c:Int,Maps.has D (.int .i64 c)=(ps.find? (fun x=>x.num==c)).isSome
 at':∀(c:Int) (x:Sl),ps.find? (fun x=>x.num==c)=some x->∀z,D.atKey (.int .i64 c) z=slD x
theorem aAM.nil:aAM (.map []) []:=⟨tidy_empty,fun c=>rfl,fun c x h=>q21⟩
theorem lT(c:Int):WideAt.IsKeyLit (.int .i64 c):=trivial
theorem aAM.push{D:DataW Unit}{ps:List Sl}(h:aAM D ps)(x:Sl)(hx:ps.find? (fun y=>y.num==x.num)=none):aAM (D.put (.int .i64 x.num) (slD x)) (ps++[x]):=by
 refine⟨h.tidy.put (lT _) _,fun c=>?_,fun c y hy z=>?_⟩
 ·rw[List.find?_append];by_cases hc:c=x.num
  ·subst hc;rw[has_put_same h.tidy.isMap (lT _),hx];simp
  ·rw[has_put_other q38,h.has c];have:¬x.num=c:=fun h=>hc h.symm
   simp[this]
 ·rw[List.find?_append] at hy;by_cases hc:c=x.num
  ·subst hc;rw[hx] at hy;simp at hy;subst hy;exact atKey_put_same h.tidy.isMap (lT _) _ _
  ·have:¬x.num=c:=fun h=>hc h.symm
   rw[atKey_put_other q38];refine h.at' c y ?_ z;simpa[this] using hy
def MpS(w:World)(mb n:Nat)(ps:List Sl):Prop:=∃D:DataW Unit,w.ownsMap prog 3 jJ mb n D/\aAM D ps
theorem MpS.lt{w:World}{mb n:Nat}{ps:List Sl}(h:MpS w mb n ps):mb<w.heap.size:=by
 exact q513
theorem MpS.kept{w w':World}{mb n:Nat}{ps:List Sl}(h:MpS w mb n ps)(hk:w'.heap[mb]?=w.heap[mb]?):MpS w' mb n ps:=by
 exact q505
theorem MpS.below{w w':World}{mb n:Nat}{ps:List Sl}(h:MpS w mb n ps)(hb:Below w.heap.size w w'):MpS w' mb n ps:=h.kept (hb.block mb h.lt)
theorem MpS.made(w:World):MpS (w.alloc (.map #[] 0)) w.heap.size 0 []:=⟨_,World.ownsMap_made w _ _ _,aAM.nil⟩
theorem aUS(w:World):(zeroValue 39).run prog w=.ok (slV ⟨0,0,0,0⟩) w:=kR
theorem MpS.lookW{w:World}{mb n:Nat}{ps:List Sl}(h:MpS w mb n ps)(c:Int)(hwf:(Lit.int .i64 c).wf=true) :
 ∃x:Sl,(Instr.lookup 56 (.map (some mb)) (.int .i64 c) true).run prog w=.ok (.tuple #[slV x,.bool (ps.find? (fun y=>y.num==c)).isSome]) w /\
  ∀y,ps.find? (fun y=>y.num==c)=some y->x=y:=by
 obtain⟨D,hown,hD⟩:=h;have hkey:=keyOf_int_mk underlying3 hwf;obtain⟨v0,ps0,hrun,hv0⟩:=hown.look_ok (int_keyed underlying3) underlying56 (aUS w) (lS _) hkey;obtain⟨x,rfl,hz⟩:=yL hv0;refine⟨x,by rw[hrun,hD.has c],fun y hy=>?_⟩;have e:D.atKey (.int .i64 c) (slD ⟨0,0,0,0⟩)=slD x:=congrArg Prod.fst hz;rw[hD.at' c y hy] at e;exact(aMA e).symm
theorem iZ(r:Nat)(s:ByteArray)(a0 a p:Nat)(t:Tok)(ha:a<=s.size)(hs:s.size<=140737488355327)(m:Int)(w:World)(hm:aF w m)(hr:aU w r s a0)
 (h:(aM (s.data.toList.drop a)).2=.good t) (hp:a+(aM (s.data.toList.drop a)).1=p) :
 Calls prog 210 #[.pointer (some ⟨r,0,none⟩),.int .i64 a] w fun e w'=>e=.returned (.tuple #[.agg #[.int .i64 t.kind,.int .i64 p,.int .i64 ((p+t.len:Nat):Int),.int .i64 t.n,.string ⟨t.s.toArray⟩],.bool true])/\Below w.heap.size w w':=by
 obtain⟨q,hq⟩:=eX (p+t.len);have HN:=Lh (fun W hW=>gB s a p t h hp ha hs m W hW);simp only[hq] at HN;have hc0:=hr.cell0;have hlt:=hr.lt;have HA:=Lh (fun W (hb:Below w.heap.size w W)=>hm.below hb);clear h hp;go_enter func210,ntmps210
 go_wp2_with fail;refine(HN.out _ (HA.out _ bel)).mono ?_;rintro e w1 ⟨rfl,hb⟩;obtain⟨hc,hf⟩:=aZ hb;have hz:w.heap.size<w1.heap.size:=q86;go_wp2;refine bGN (v:=.tuple #[.agg #[.int .i64 t.kind,.int .i64 p,.int .i64 q,.int .i64 t.n,.string ⟨t.s.toArray⟩],.bool true]) (by simp[results,results210,go_sem,hc,hf,hz]) rfl ⟨by rw[hq],bel⟩
theorem aDM(r:Nat)(s:ByteArray)(a0 a:Nat)(k:Int)(ha:a<=s.size)(hs:s.size<=140737488355327)(m:Int)(w:World)(hm:aF w m)(hr:aU w r s a0)
 (h:(aM (s.data.toList.drop a)).2=.bad k) :
 Calls prog 210 #[.pointer (some ⟨r,0,none⟩),.int .i64 a] w fun e w'=>e=.returned (.tuple #[.agg #[.int .i64 0,.int .i64 0,.int .i64 0,.int .i64 0,.string ⟨#[]⟩],.bool false])/\Below w.heap.size w w':=by
 have HN:=Lh (fun W hW=>kE s a k h ha hs m W hW);have hk0:(k==0)=false:=by have:=lP h;simp;omega
 have hc0:=hr.cell0;have hlt:=hr.lt;have HA:=Lh (fun W (hb:Below w.heap.size w W)=>hm.below hb);clear h;go_enter func210,ntmps210
 go_wp2_with fail;refine(HN.out _ (HA.out _ bel)).mono ?_;rintro e w1 ⟨rfl,hb⟩;obtain⟨hc,hf⟩:=aZ hb;have hz:w.heap.size<w1.heap.size:=q86;go_wp2;refine bGN (v:=.tuple #[.agg #[.int .i64 0,.int .i64 0,.int .i64 0,.int .i64 0,.string ⟨#[]⟩],.bool false]) (by simp[results,results210,go_sem,hc,hf,hz]) rfl ⟨rfl,bel⟩
def obV(k n g:Int)(s:L):Value:=.agg #[.int .i64 k,.int .i64 n,.int .i64 g,.string ⟨s.toArray⟩,.slice none 0 0,.slice none 0 0]
theorem aUT(S:Nat->Prop)(d:Nat)(w:World)(k n g:Int)(s:L):aI S (d+1) w (aB k n g s (.slice none 0 0) (.slice none 0 0)) (.mk k n g s [] []) :=
 ⟨_,_,rfl,.inl ⟨rfl,_,_,rfl⟩,.inl ⟨rfl,_,_,rfl⟩⟩
theorem aUU(n:Int)(w:World):Calls prog 165 #[.int .i64 n] w fun e w'=>e=.returned (obV 2 n 0 [])/\Below w.heap.size w w':=by
 go_enter func165,ntmps165
 go_wp2;refine bGN (v:=obV 2 n 0 []) (by simp[results,results165,go_sem,obV]) rfl ⟨rfl,bel⟩
theorem aUV(n:Int)(w:World):Calls prog 166 #[.int .i64 n] w fun e w'=>e=.returned (obV 3 n 0 [])/\Below w.heap.size w w':=by
 go_enter func166,ntmps166
 go_wp2;refine bGN (v:=obV 3 n 0 []) (by simp[results,results166,go_sem,obV]) rfl ⟨rfl,bel⟩
theorem bAQ(x:L)(w:World):Calls prog 167 #[.string ⟨x.toArray⟩] w fun e w'=>e=.returned (obV 4 0 0 x)/\Below w.heap.size w w':=by
 go_enter func167,ntmps167
 go_wp2;refine bGN (v:=obV 4 0 0 x) (by simp[results,results167,go_sem,obV]) rfl ⟨rfl,bel⟩
theorem aUW(x:L)(w:World):Calls prog 168 #[.string ⟨x.toArray⟩] w fun e w'=>e=.returned (obV 5 0 0 x)/\Below w.heap.size w w':=by
 go_enter func168,ntmps168
 go_wp2;refine bGN (v:=obV 5 0 0 x) (by simp[results,results168,go_sem,obV]) rfl ⟨rfl,bel⟩
theorem aUX(w:World):Calls prog 169 #[] w fun e w'=>e=.returned (obV 0 0 0 [])/\Below w.heap.size w w':=by
 go_enter func169,ntmps169
 go_wp2;refine bGN (v:=obV 0 0 0 []) (by simp[results,results169,go_sem,obV]) rfl ⟨rfl,bel⟩
theorem aUY(b:Bool)(w:World):Calls prog 170 #[.bool b] w fun e w'=>e=.returned (obV 1 (if b then 1 else 0) 0 [])/\Below w.heap.size w w':=by
 cases b
 ·go_enter func170,ntmps170
  go_wp2;refine bGN (v:=obV 1 0 0 []) (by simp[results,results170,go_sem,obV]) rfl ⟨rfl,bel⟩
 ·go_enter func170,ntmps170
  go_wp2;refine bGN (v:=obV 1 1 0 []) (by simp[results,results170,go_sem,obV]) rfl ⟨rfl,bel⟩
theorem bAR(n g:Int)(w:World):Calls prog 212 #[.int .i64 n,.int .i64 g] w fun e w'=>e=.returned (obV 8 n g [])/\Below w.heap.size w w':=by
 go_enter func212,ntmps212
 go_wp2;refine bGN (v:=obV 8 n g []) (by simp[results,results212,go_sem,obV]) rfl ⟨rfl,bel⟩
theorem gD(k p q n k2:Int)(x y:L)(b:Bool)(h:(k==k2&&x==y)=b)(w:World) :
 Calls prog 211 #[.agg #[.int .i64 k,.int .i64 p,.int .i64 q,.int .i64 n,.string ⟨x.toArray⟩],.int .i64 k2,.string ⟨y.toArray⟩] w fun e w'=>e=.returned (.bool b)/\Below w.heap.size w w':=by
 have H:=Lh h;clear h;go_enter func211,ntmps211
 go_wp2;all_goals go_ret
 all_goals exact⟨bG (by rw[<-H.out];simp_all),bel⟩
theorem cK(t:Tok)(p q:Int)(b:Bool)(h:bL t=b)(w:World) :
 Calls prog 163 #[.agg #[.int .i64 t.kind,.int .i64 p,.int .i64 q,.int .i64 t.n,.string ⟨t.s.toArray⟩]] w fun e w'=>e=.returned (.bool b)/\Below w.heap.size w w':=by
 have H:=Lh h;clear h;go_enter func163,ntmps163
 go_wp2;all_goals go_ret
 all_goals exact⟨bG (by rw[<-H.out];simp_all [bL,yD,aTK,vB]),bel⟩
theorem bAS(r:Nat)(t:Tok)(p q:Int)(h:t.n<1\/8191<t.n)(w:World) :
 Calls prog 164 #[.pointer (some ⟨r,0,none⟩),.agg #[.int .i64 t.kind,.int .i64 p,.int .i64 q,.int .i64 t.n,.string ⟨t.s.toArray⟩]] w fun e w'=>e=.returned (.tuple #[.agg #[.int .i64 0,.int .i64 0,.int .i64 0,.string ⟨#[]⟩,.slice none 0 0,.slice none 0 0],.bool false])/\Below w.heap.size w w':=by
 rcases h with h|h
 ·have h1:decide (t.n<1)=true:=q10;go_enter func164,ntmps164
  exact q409
 ·have h1:decide (t.n<1)=false:=sO;have h2:decide (8191<t.n)=true:=q10;go_enter func164,ntmps164
  exact q409
theorem aUZ(r:Nat)(s:ByteArray)(a q:Nat)(t:Tok)(p:Int)(k:Int)(hq:q<=s.size)(hs:s.size<=140737488355327)(m:Int)(w:World)(hm:aF w m)(hr:aU w r s a)
 (hn:1<=t.n/\t.n<=8191) (h:(aM (s.data.toList.drop q)).2=.bad k) :
 Calls prog 164 #[.pointer (some ⟨r,0,none⟩),.agg #[.int .i64 t.kind,.int .i64 p,.int .i64 q,.int .i64 t.n,.string ⟨t.s.toArray⟩]] w fun e w'=>e=.returned (.tuple #[.agg #[.int .i64 0,.int .i64 0,.int .i64 0,.string ⟨#[]⟩,.slice none 0 0,.slice none 0 0],.bool false])/\Below w.heap.size w w':=by
 have HN:=Lh (fun W (hW:aF W m) (hR:aU W r s a)=>aDM r s a q k hq hs m W hW hR h);clear h;exact q305
theorem bAT(r:Nat)(s:ByteArray)(a q:Nat)(t:Tok)(p:Int)(hq:q<=s.size)(hs:s.size<=140737488355327)(m:Int)(w:World)(hm:aF w m)(hr:aU w r s a)(hn:1<=t.n/\t.n<=8191)(g:Tok)(h:(aM (s.data.toList.drop q)).2=.good g)(hg:g.kind≠1\/g.n<0\/65535<g.n) :
 Calls prog 164 #[.pointer (some ⟨r,0,none⟩),.agg #[.int .i64 t.kind,.int .i64 p,.int .i64 q,.int .i64 t.n,.string ⟨t.s.toArray⟩]] w fun e w'=>e=.returned (.tuple #[.agg #[.int .i64 0,.int .i64 0,.int .i64 0,.string ⟨#[]⟩,.slice none 0 0,.slice none 0 0],.bool false])/\Below w.heap.size w w':=by
 have HN:=Lh (fun W (hW:aF W m) (hR:aU W r s a)=>iZ r s a q _ g hq hs m W hW hR h rfl);obtain⟨p1,hp1⟩:=eX (q+(aM (s.data.toList.drop q)).1);obtain⟨q1,hq1⟩:=eX (p1+g.len);simp only[hp1,hq1] at HN;have hq1s:q1<=s.size:=by
  exact q384
 clear h hp1 hq1;by_cases k1:g.kind=1
 ·have t1:(g.kind !=1)=false:=by simpa using k1
  by_cases k2:g.n<0
  ·have t2:decide (g.n<0)=true:=by simpa using k2
   clear hg k1;exact q305
  ·have t2:decide (g.n<0)=false:=by simpa using k2
   have t3:decide (65535<g.n)=true:=sO;clear hg k1;exact q305
 ·have t1:(g.kind !=1)=true:=by simpa using k1
  clear hg k1;exact q305
theorem aVA(r:Nat)(s:ByteArray)(a q:Nat)(t:Tok)(p:Int)(hq:q<=s.size)(hs:s.size<=140737488355327)(m:Int)(w:World)(hm:aF w m)(hr:aU w r s a)(hn:1<=t.n/\t.n<=8191)(g:Tok)(h:(aM (s.data.toList.drop q)).2=.good g)(hg:g.kind=1/\0<=g.n/\g.n<=65535)(k:Int)(h2:(aM ((s.data.toList.drop q).drop ((aM (s.data.toList.drop q)).1+g.len))).2=.bad k) :
 Calls prog 164 #[.pointer (some ⟨r,0,none⟩),.agg #[.int .i64 t.kind,.int .i64 p,.int .i64 q,.int .i64 t.n,.string ⟨t.s.toArray⟩]] w fun e w'=>e=.returned (.tuple #[.agg #[.int .i64 0,.int .i64 0,.int .i64 0,.string ⟨#[]⟩,.slice none 0 0,.slice none 0 0],.bool false])/\Below w.heap.size w w':=by
 have HN:=Lh (fun W (hW:aF W m) (hR:aU W r s a)=>iZ r s a q _ g hq hs m W hW hR h rfl);obtain⟨p1,hp1⟩:=eX (q+(aM (s.data.toList.drop q)).1);obtain⟨q1,hq1⟩:=eX (p1+g.len);simp only[hp1,hq1] at HN;have hq1s:q1<=s.size:=by
  exact q384
 rw[List.drop_drop,show q+((aM (s.data.toList.drop q)).1+g.len)=q1 from oM] at h2;have HN2:=Lh (fun W (hW:aF W m) (hR:aU W r s a)=>aDM r s a q1 k hq1s hs m W hW hR h2);clear h h2 hp1 hq1;have t1:(g.kind !=1)=false:=by simpa using hg.1
 have t2:decide (g.n<0)=false:=sO;have t3:decide (65535<g.n)=false:=sO;have hg2:=hg.2;clear hg;have h1:decide (t.n<1)=false:=sO;have h2:decide (8191<t.n)=false:=sO;have hlt:=hr.lt;go_enter func164,ntmps164
 go_wp2_with fail;refine(HN.out _ (hm.below bel) (hr.below bel)).mono ?_;rintro e w1 ⟨rfl,hb⟩;obtain⟨hc,hf⟩:=aZ hb;have hz:w.heap.size+1<w1.heap.size:=q86;go_wp2_with fail;refine(HN2.out _ (hm.below bel) (hr.below bel)).mono ?_;rintro e w2 ⟨rfl,hb2⟩;replace hb2:=hb2.mono (show w.heap.size+2<=_ from sO);obtain⟨hc2,hf2⟩:=aQ hb2;have hz2:w.heap.size+1<w2.heap.size:=q99;have hz3:w.heap.size<w2.heap.size:=oM;go_wp2;refine bGN (v:=.tuple #[.agg #[.int .i64 0,.int .i64 0,.int .i64 0,.string ⟨#[]⟩,.slice none 0 0,.slice none 0 0],.bool false]) (by simp[results,results164,go_sem,hc2,hf2,hc,hf,hz,hz2]) rfl ⟨rfl,bel⟩
theorem aVB(r:Nat)(s:ByteArray)(a q:Nat)(t:Tok)(p:Int)(hq:q<=s.size)(hs:s.size<=140737488355327)(m:Int)(w:World)(hm:aF w m)(hr:aU w r s a)(hn:1<=t.n/\t.n<=8191)(g:Tok)(h:(aM (s.data.toList.drop q)).2=.good g)(hg:g.kind=1/\0<=g.n/\g.n<=65535)(u:Tok)(h2:(aM ((s.data.toList.drop q).drop ((aM (s.data.toList.drop q)).1+g.len))).2=.good u)(hu:¬(u.kind=5/\u.s=[82])) :
 Calls prog 164 #[.pointer (some ⟨r,0,none⟩),.agg #[.int .i64 t.kind,.int .i64 p,.int .i64 q,.int .i64 t.n,.string ⟨t.s.toArray⟩]] w fun e w'=>e=.returned (.tuple #[.agg #[.int .i64 0,.int .i64 0,.int .i64 0,.string ⟨#[]⟩,.slice none 0 0,.slice none 0 0],.bool false])/\Below w.heap.size w w':=by
 have HN:=Lh (fun W (hW:aF W m) (hR:aU W r s a)=>iZ r s a q _ g hq hs m W hW hR h rfl);obtain⟨p1,hp1⟩:=eX (q+(aM (s.data.toList.drop q)).1);obtain⟨q1,hq1⟩:=eX (p1+g.len);simp only[hp1,hq1] at HN;have hq1s:q1<=s.size:=by
  exact q384
 rw[List.drop_drop,show q+((aM (s.data.toList.drop q)).1+g.len)=q1 from oM] at h2;obtain⟨p2,hp2⟩:=eX (q1+(aM (s.data.toList.drop q1)).1);obtain⟨q2,hq2⟩:=eX (p2+u.len);have HN2:=Lh (fun W (hW:aF W m) (hR:aU W r s a)=>iZ r s a q1 _ u hq1s hs m W hW hR h2 rfl);simp only[hp2,hq2] at HN2;have HU:=Lh (show(u.kind==5&&u.s==[82])=false by rw[Bool.eq_false_iff];simpa using hu);clear h h2 hp1 hq1 hp2 hq2 hu;have t1:(g.kind !=1)=false:=by simpa using hg.1
 have t2:decide (g.n<0)=false:=sO;have t3:decide (65535<g.n)=false:=sO;have hg2:=hg.2;clear hg;have h1:decide (t.n<1)=false:=sO;have h2:decide (8191<t.n)=false:=sO;have hlt:=hr.lt;go_enter func164,ntmps164
 go_wp2_with fail;refine(HN.out _ (hm.below bel) (hr.below bel)).mono ?_;rintro e w1 ⟨rfl,hb⟩;obtain⟨hc,hf⟩:=aZ hb;have hz:w.heap.size+1<w1.heap.size:=q86;go_wp2_with fail;refine(HN2.out _ (hm.below bel) (hr.below bel)).mono ?_;rintro e w2 ⟨rfl,hb2⟩;replace hb2:=hb2.mono (show w.heap.size+2<=_ from sO);obtain⟨hc2,hf2⟩:=aQ hb2;have hz2:w.heap.size+1<w2.heap.size:=q99;have hz3:w.heap.size<w2.heap.size:=oM;go_wp2_with fail;refine(gD _ _ _ _ _ _ [82] false HU.out _).mono ?_;rintro e w3 ⟨rfl,hb3⟩;replace hb3:=hb2.trans ((((bGL _ w2).alloc (show w.heap.size+2<=_ from oM) _)).trans (hb3.mono sO));obtain⟨hc3,hf3⟩:=aQ hb3;have hz4:w.heap.size+1<w3.heap.size:=q41;have hz5:w.heap.size<w3.heap.size:=oM;go_wp2;refine bGN (v:=.tuple #[.agg #[.int .i64 0,.int .i64 0,.int .i64 0,.string ⟨#[]⟩,.slice none 0 0,.slice none 0 0],.bool false]) (by simp[results,results164,go_sem,hc3,hf3,hc,hf,hz,hz4]) rfl ⟨rfl,bel⟩
theorem aVC(r:Nat)(s:ByteArray)(a q:Nat)(t:Tok)(p:Int)(hq:q<=s.size)(hs:s.size<=140737488355327)(m:Int)(w:World)(hm:aF w m)(hr:aU w r s a)(hn:1<=t.n/\t.n<=8191)(g:Tok)(h:(aM (s.data.toList.drop q)).2=.good g)(hg:g.kind=1/\0<=g.n/\g.n<=65535)(u:Tok)(h2:(aM ((s.data.toList.drop q).drop ((aM (s.data.toList.drop q)).1+g.len))).2=.good u)(hu:u.kind=5/\u.s=[82]) :
 Calls prog 164 #[.pointer (some ⟨r,0,none⟩),.agg #[.int .i64 t.kind,.int .i64 p,.int .i64 q,.int .i64 t.n,.string ⟨t.s.toArray⟩]] w fun e w'=>∃z:Nat,z<=s.size/\s.data.toList.drop z=((s.data.toList.drop q).drop ((aM (s.data.toList.drop q)).1+g.len)).drop ((aM ((s.data.toList.drop q).drop ((aM (s.data.toList.drop q)).1+g.len))).1+u.len) /\
  e=.returned (.tuple #[.agg #[.int .i64 8,.int .i64 t.n,.int .i64 g.n,.string ⟨#[]⟩,.slice none 0 0,.slice none 0 0],.bool true])/\aU w' r s z/\Bes r w w':=by
 have HN:=Lh (fun W (hW:aF W m) (hR:aU W r s a)=>iZ r s a q _ g hq hs m W hW hR h rfl);obtain⟨p1,hp1⟩:=eX (q+(aM (s.data.toList.drop q)).1);obtain⟨q1,hq1⟩:=eX (p1+g.len);simp only[hp1,hq1] at HN;have hq1s:q1<=s.size:=by
  exact q384
 have hdd:(s.data.toList.drop q).drop ((aM (s.data.toList.drop q)).1+g.len)=s.data.toList.drop q1:=by rw[List.drop_drop];congr 1;omega
 rw[hdd] at h2;rw[hdd];clear hdd;obtain⟨p2,hp2⟩:=eX (q1+(aM (s.data.toList.drop q1)).1);obtain⟨q2,hq2⟩:=eX (p2+u.len);have HN2:=Lh (fun W (hW:aF W m) (hR:aU W r s a)=>iZ r s a q1 _ u hq1s hs m W hW hR h2 rfl);simp only[hp2,hq2] at HN2;have hq2s:q2<=s.size:=by
  have:=(cW h2).1;rw[bGS] at this;have h2:s.data.toList.length=s.size:=rfl;omega
 have HZ:=Lh (show s.data.toList.drop q2=(s.data.toList.drop q1).drop ((aM (s.data.toList.drop q1)).1+u.len) by rw[List.drop_drop];congr 1;omega);have HU:=Lh (show(u.kind==5&&u.s==[82])=true by simp[hu]);clear h h2 hp1 hq1 hp2 hq2 hu;have hf0:=hr.frozen 1;have hc0:=hr.cell1;have t1:(g.kind !=1)=false:=by simpa using hg.1
 have t2:decide (g.n<0)=false:=sO;have t3:decide (65535<g.n)=false:=sO;have hg2:=hg.2;clear hg;have h1:decide (t.n<1)=false:=sO;have h2:decide (8191<t.n)=false:=sO;have hlt:=hr.lt;go_enter func164,ntmps164
 go_wp2_with fail;refine(HN.out _ (hm.below bel) (hr.below bel)).mono ?_;rintro e w1 ⟨rfl,hb⟩;obtain⟨hc,hf⟩:=aZ hb;have hz:w.heap.size+1<w1.heap.size:=q86;go_wp2_with fail;refine(HN2.out _ (hm.below bel) (hr.below bel)).mono ?_;rintro e w2 ⟨rfl,hb2⟩;obtain⟨hc2,hf2⟩:=aZ hb2;have hz2:w1.heap.size+1<=w2.heap.size:=q99;have a1:r<w2.heap.size:=oM;have a2:w.heap.size<w2.heap.size:=oM;have a3:w.heap.size+1<w2.heap.size:=oM;have a4:w1.heap.size<w2.heap.size:=oM;have a5:r<w1.heap.size:=oM;have a6:w.heap.size<w1.heap.size:=oM;go_wp2_with fail;refine(gD _ _ _ _ _ _ [82] true HU.out _).mono ?_;rintro e w3 ⟨rfl,hb3⟩;obtain⟨hc3,hf3⟩:=aZ hb3;have hz3:w2.heap.size+1<=w3.heap.size:=q41;have e1:¬r=w.heap.size:=oM;have e2:¬w.heap.size=r:=oM;have e3:¬r=w.heap.size+1:=oM;have e4:¬w.heap.size+1=r:=oM;have e5:¬r=w1.heap.size:=oM;have e6:¬w1.heap.size=r:=oM;have b1:r<w2.heap.size+1:=oM;have b2:w.heap.size<w2.heap.size+1:=oM;have b3:w.heap.size+1<w2.heap.size+1:=oM;have b4:w1.heap.size<w2.heap.size+1:=oM;have b5:r<w1.heap.size+1:=oM;have b6:w.heap.size<w1.heap.size+1:=oM;have b7:r<w.heap.size+1+1:=oM;have f1:w3.cell? ⟨r,1,none⟩=some (.int .i64 a):=by
  exact q528
 have f2:w3.frozen? ⟨r,1,none⟩=false:=by
  rw[hf3 _ _ sO];simp[go_sem, *]
 have f3:w3.cell? ⟨w2.heap.size,2,none⟩=some (.int .i64 q2):=by
  rw[hc3 _ _ sI];simp[go_sem]
 have f4:w3.cell? ⟨w.heap.size,3,none⟩=some (.int .i64 t.n):=by
  exact q528
 have f5:w3.cell? ⟨w1.heap.size,3,none⟩=some (.int .i64 g.n):=by
  exact q528
 have f6:∀o,w3.cell? ⟨w.heap.size+1,o,none⟩=(((w.alloc (.cells #[.int .i64 t.kind,.int .i64 p,.int .i64 q,.int .i64 t.n,.string ⟨t.s.toArray⟩] 81)).alloc (.cells #[.int .i64 0,.int .i64 0,.int .i64 0,.string ⟨#[]⟩,.slice none 0 0,.slice none 0 0] 31))).cell? ⟨w.heap.size+1,o,none⟩:=fun o=>by
  exact q528
 have f7:∀o,w3.frozen? ⟨w.heap.size+1,o,none⟩=false:=fun o=>by
  rw[hf3 _ _ sO];simp[go_sem, *]
 have hbw:Below w.heap.size w w3:=bel;have hR3:aU w3 r s a:=hr.below hbw;clear hc2 hf2 hc3 hf3 hc hf a1 a2 a3 a4 b1 b2 b3 b4 b5 b6 b7;go_wp2_with fail;obtain⟨w5,hw5⟩:=eX (w3.setCell ⟨r,1,none⟩ (.int .i64 q2));have g6:∀o,w5.cell? ⟨w.heap.size+1,o,none⟩=w3.cell? ⟨w.heap.size+1,o,none⟩:=fun o=>by
  rw[<-hw5];exact bGO (bGK _ _ _ _ q100)
 have g7:∀o,w5.frozen? ⟨w.heap.size+1,o,none⟩=w3.frozen? ⟨w.heap.size+1,o,none⟩:=fun o=>by
  rw[<-hw5];exact World.frozen?_of_block (bGK _ _ _ _ q100)
 have hR5:aU w5 r s q2:=by rw[<-hw5];exact hR3.set
 have hs5:Bes r w w5:=by rw[<-hw5];exact(Bes.of_below hbw).setCell _ _
 have hz5:w3.heap.size=w5.heap.size:=by rw[<-hw5];simp[World.setCell]
 rw[hw5];clear hw5 f1 f2 f3 f4 f5;refine(bAR _ _ _).mono ?_;rintro e w6 ⟨rfl,hb6⟩;have hR6:=hR5.below hb6;have hs6:Bes r w w6:=hs5.below hb6;have h6:∀o,w6.cell? ⟨w.heap.size+1,o,none⟩=w5.cell? ⟨w.heap.size+1,o,none⟩:=fun o=>hb6.cell (p:=⟨w.heap.size+1,o,none⟩) q101
 have h7:∀o,w6.frozen? ⟨w.heap.size+1,o,none⟩=w5.frozen? ⟨w.heap.size+1,o,none⟩:=fun o=>hb6.frozen (p:=⟨w.heap.size+1,o,none⟩) q101
 have hz6:w.heap.size+1<w6.heap.size:=by have:=hb6.size;omega
 clear hz5 hb6;unfold obV;go_wp2;refine bGN (v:=.tuple #[.agg #[.int .i64 8,.int .i64 t.n,.int .i64 g.n,.string ⟨#[]⟩,.slice none 0 0,.slice none 0 0],.bool true]) (by simp[results,results164,go_sem,h6,h7,g6,g7,f6,f7]) rfl ⟨q2,hq2s,HZ.out,rfl,hR6.belowB (B:=r+1) xK oM,?_⟩
 (repeat' (first|(with_reducible exact hs6)|(with_reducible refine Bes.setCell_new ?_ ?_ _)|(show _<=_;simp;done)|(show _<=_;simp;omega)|omega))
def lC(r:Nat)(s:ByteArray)(d:Nat)(w:World)(R:Res (Ob×L))(e:Ending)(w':World):Prop :=
 match R with
 |.good (o,aP)=>∃(cs:List Value) (z:Nat),e=.returned (.agg cs.toArray)/\z<=s.size/\aP=s.data.toList.drop z/\aI (fun b=>w.heap.size<=b) d w' cs o/\aU w' r s z/\Bes r w w'
 |.bad k=>e=.panicked [{ v:=.iface 233 (.int .i64 k),recovered:=false }]/\Bes r w w'
def aDN(s:ByteArray)(m:Int)(d:Nat):Prop:=∀(r a p:Nat) (t:Tok) (w:World),a<=s.size->aF w m->aU w r s a->p+t.len=a->t.kind≠0->t.kind<=6->0<=t.kind ->
 Calls prog 123 #[.pointer (some ⟨r,0,none⟩),.agg #[.int .i64 t.kind,.int .i64 p,.int .i64 a,.int .i64 t.n,.string ⟨t.s.toArray⟩],.int .i64 (24-(d:Int))] w (lC r s (d+1) w (dM d t (s.data.toList.drop a)))
def arrR(R:Res (List Ob×L)):Res (Ob×L) :=
 match R with|.bad e=>.bad e|.good (ks,r)=>.good (.mk 6 0 0 [] [] ks,r)
def bFD(R:Res (List (L×Ob)×L)):Res (Ob×L) :=
 match R with|.bad e=>.bad e|.good (ps,r)=>.good (pJ ps,r)
def bFE(s:ByteArray)(m:Int)(d:Nat):Prop:=∀(r a:Nat) (w:World),a<=s.size->aF w m->aU w r s a ->
 Calls prog 171 #[.pointer (some ⟨r,0,none⟩),.int .i64 (24-(d:Int))] w (lC r s (d+2) w (arrR (iN (dM d) d ((s.data.toList.drop a).length+1) (s.data.toList.drop a) [])))
def aVD(s:ByteArray)(m:Int)(d:Nat):Prop:=∀(r a:Nat) (w:World),a<=s.size->aF w m->aU w r s a ->
 Calls prog 172 #[.pointer (some ⟨r,0,none⟩),.int .i64 (24-(d:Int))] w (lC r s (d+2) w (bFD (cQ (dM d) ((s.data.toList.drop a).length+1) (s.data.toList.drop a) [])))
theorem yM(r:Nat)(t:Tok)(p q d:Int)(h:bL t=false)(w:World) :
 Calls prog 123 #[.pointer (some ⟨r,0,none⟩),.agg #[.int .i64 t.kind,.int .i64 p,.int .i64 q,.int .i64 t.n,.string ⟨t.s.toArray⟩],.int .i64 d] w fun e w'=>e=.panicked [{ v:=.iface 233 (.int .i64 3),recovered:=false }]/\Below w.heap.size w w':=by
 have H:=Lh h;clear h;go_enter func123,ntmps123
 go_wp2_with fail;refine(cK t _ _ false H.out _).mono ?_;rintro e w1 ⟨rfl,hb⟩;go_wp2;exact q469
theorem aDO(r:Nat)(t:Tok)(p q:Int)(h:bL t=true)(w:World) :
 Calls prog 123 #[.pointer (some ⟨r,0,none⟩),.agg #[.int .i64 t.kind,.int .i64 p,.int .i64 q,.int .i64 t.n,.string ⟨t.s.toArray⟩],.int .i64 24] w fun e w'=>e=.panicked [{ v:=.iface 233 (.int .i64 7),recovered:=false }]/\Below w.heap.size w w':=by
 have H:=Lh h;clear h;go_enter func123,ntmps123
 go_wp2_with fail;refine(cK t _ _ true H.out _).mono ?_;rintro e w1 ⟨rfl,hb⟩;go_wp2;exact q469
theorem aDP(r:Nat)(t:Tok)(p q d:Int)(hd0:d<24)(h:bL t=true)(w:World)(hk:t.kind=2) :
 Calls prog 123 #[.pointer (some ⟨r,0,none⟩),.agg #[.int .i64 t.kind,.int .i64 p,.int .i64 q,.int .i64 t.n,.string ⟨t.s.toArray⟩],.int .i64 d] w fun e w'=>e=.returned (obV 3 t.n 0 [])/\Below w.heap.size w w':=by
 have t1:(t.kind==1)=false:=q102;have t2:(t.kind==2)=true:=q102;clear hk;have H:=Lh h;clear h;have hd:decide (24<=d)=false:=sO;go_enter func123,ntmps123
 go_wp2_with fail;refine(cK t _ _ true H.out _).mono ?_;rintro e w1 ⟨rfl,hb⟩;obtain⟨hc,hf⟩:=aZ hb;have hz:w.heap.size+1<w1.heap.size:=q86;go_wp2_with fail;refine(aUV _ _).mono ?_;rintro e w2 ⟨rfl,hb2⟩;obtain⟨hc2,hf2⟩:=aZ hb2;have hz2:w.heap.size+1<w2.heap.size:=q103;unfold obV;go_wp2;refine bGN (v:=obV 3 t.n 0 []) q104 rfl ⟨rfl,bel⟩
theorem aHT(r:Nat)(t:Tok)(p q d:Int)(hd0:d<24)(h:bL t=true)(w:World)(hk:t.kind=3) :
 Calls prog 123 #[.pointer (some ⟨r,0,none⟩),.agg #[.int .i64 t.kind,.int .i64 p,.int .i64 q,.int .i64 t.n,.string ⟨t.s.toArray⟩],.int .i64 d] w fun e w'=>e=.returned (obV 4 0 0 t.s)/\Below w.heap.size w w':=by
 have t1:(t.kind==1)=false:=q102;have t2:(t.kind==2)=false:=q102;have t3:(t.kind==3)=true:=q102;clear hk;have H:=Lh h;clear h;have hd:decide (24<=d)=false:=sO;go_enter func123,ntmps123
 go_wp2_with fail;refine(cK t _ _ true H.out _).mono ?_;rintro e w1 ⟨rfl,hb⟩;obtain⟨hc,hf⟩:=aZ hb;have hz:w.heap.size+1<w1.heap.size:=q86;go_wp2_with fail;refine(bAQ _ _).mono ?_;rintro e w2 ⟨rfl,hb2⟩;obtain⟨hc2,hf2⟩:=aZ hb2;have hz2:w.heap.size+1<w2.heap.size:=q103;unfold obV;go_wp2;refine bGN (v:=obV 4 0 0 t.s) q104 rfl ⟨rfl,bel⟩
theorem aDQ(r:Nat)(t:Tok)(p q d:Int)(hd0:d<24)(h:bL t=true)(w:World)(hk:t.kind=4) :
 Calls prog 123 #[.pointer (some ⟨r,0,none⟩),.agg #[.int .i64 t.kind,.int .i64 p,.int .i64 q,.int .i64 t.n,.string ⟨t.s.toArray⟩],.int .i64 d] w fun e w'=>e=.returned (obV 5 0 0 t.s)/\Below w.heap.size w w':=by
 have t1:(t.kind==1)=false:=q102;have t2:(t.kind==2)=false:=q102;have t3:(t.kind==3)=false:=q102;have t4:(t.kind==4)=true:=q102;clear hk;have H:=Lh h;clear h;have hd:decide (24<=d)=false:=sO;go_enter func123,ntmps123
 go_wp2_with fail;refine(cK t _ _ true H.out _).mono ?_;rintro e w1 ⟨rfl,hb⟩;obtain⟨hc,hf⟩:=aZ hb;have hz:w.heap.size+1<w1.heap.size:=q86;go_wp2_with fail;refine(aUW _ _).mono ?_;rintro e w2 ⟨rfl,hb2⟩;obtain⟨hc2,hf2⟩:=aZ hb2;have hz2:w.heap.size+1<w2.heap.size:=q103;unfold obV;go_wp2;refine bGN (v:=obV 5 0 0 t.s) q104 rfl ⟨rfl,bel⟩
theorem aVE(r:Nat)(s:ByteArray)(a q:Nat)(t:Tok)(p:Int)(hq:q<=s.size)(hs:s.size<=140737488355327)(m:Int)(w:World)(hm:aF w m)(hr:aU w r s a)
 (h:uB t (s.data.toList.drop q)=none) :
 Calls prog 164 #[.pointer (some ⟨r,0,none⟩),.agg #[.int .i64 t.kind,.int .i64 p,.int .i64 q,.int .i64 t.n,.string ⟨t.s.toArray⟩]] w fun e w'=>e=.returned (.tuple #[.agg #[.int .i64 0,.int .i64 0,.int .i64 0,.string ⟨#[]⟩,.slice none 0 0,.slice none 0 0],.bool false])/\Below w.heap.size w w':=by
 unfold uB at h;by_cases h0:t.n<1\/8191<t.n
 ·exact bAS r t p q h0 w
 ·rw[bGU h0] at h;have hn:1<=t.n/\t.n<=8191:=oM;cases h1:(aM (s.data.toList.drop q)).2 with
  |bad k=>exact aUZ r s a q t p k hq hs m w hm hr hn h1
  |good g =>
   rw[h1] at h;dsimp only at h;by_cases h2:g.kind≠1\/g.n<0\/65535<g.n
   ·exact bAT r s a q t p hq hs m w hm hr hn g h1 h2
   ·rw[bGU h2] at h;have hg:g.kind=1/\0<=g.n/\g.n<=65535:=oM;cases h3:(aM ((s.data.toList.drop q).drop ((aM (s.data.toList.drop q)).1+g.len))).2 with
    |bad k=>exact aVA r s a q t p hq hs m w hm hr hn g h1 hg k h3
    |good u =>
     rw[h3] at h;dsimp only at h;by_cases h4:u.kind=5/\u.s=[82]
     ·rw[bGV h4] at h;cases h
     ·exact aVB r s a q t p hq hs m w hm hr hn g h1 hg u h3 h4
theorem aVF(r:Nat)(s:ByteArray)(a q:Nat)(t:Tok)(p:Int)(hq:q<=s.size)(hs:s.size<=140737488355327)(m:Int)(w:World)(hm:aF w m)(hr:aU w r s a)
 (gn:Int) (aP:L) (h:uB t (s.data.toList.drop q)=some (gn,aP)) :
 Calls prog 164 #[.pointer (some ⟨r,0,none⟩),.agg #[.int .i64 t.kind,.int .i64 p,.int .i64 q,.int .i64 t.n,.string ⟨t.s.toArray⟩]] w fun e w'=>∃z:Nat,z<=s.size/\s.data.toList.drop z=aP /\
  e=.returned (.tuple #[.agg #[.int .i64 8,.int .i64 t.n,.int .i64 gn,.string ⟨#[]⟩,.slice none 0 0,.slice none 0 0],.bool true])/\aU w' r s z/\Bes r w w':=by
 unfold uB at h;by_cases h0:t.n<1\/8191<t.n
 ·rw[bGV h0] at h;cases h
 ·rw[bGU h0] at h;have hn:1<=t.n/\t.n<=8191:=oM;cases h1:(aM (s.data.toList.drop q)).2 with
  |bad k=>rw[h1] at h;cases h
  |good g =>
   rw[h1] at h;dsimp only at h;by_cases h2:g.kind≠1\/g.n<0\/65535<g.n
   ·rw[bGV h2] at h;cases h
   ·rw[bGU h2] at h;have hg:g.kind=1/\0<=g.n/\g.n<=65535:=oM;cases h3:(aM ((s.data.toList.drop q).drop ((aM (s.data.toList.drop q)).1+g.len))).2 with
    |bad k=>rw[h3] at h;cases h
    |good u =>
     rw[h3] at h;dsimp only at h;by_cases h4:u.kind=5/\u.s=[82]
     ·rw[bGV h4] at h;have:=aVC r s a q t p hq hs m w hm hr hn g h1 hg u h3 h4;simp only[Option.some.injEq,Prod.mk.injEq] at h;rw[<-h.1,<-h.2];exact this
     ·rw[bGU h4] at h;cases h
theorem aHU(s:ByteArray)(a:Nat)(q:Nat)(r:Nat)(t:Tok)(p d:Int)(hd0:d<24)(h:bL t=true)(w:World)(hq:q<=s.size)(hs:s.size<=140737488355327)(m:Int)(hm:aF w m)(hr:aU w r s a)
 (hk:t.kind=1) (hn:uB t (s.data.toList.drop q)=none) :
 Calls prog 123 #[.pointer (some ⟨r,0,none⟩),.agg #[.int .i64 t.kind,.int .i64 p,.int .i64 q,.int .i64 t.n,.string ⟨t.s.toArray⟩],.int .i64 d] w fun e w'=>e=.returned (obV 2 t.n 0 [])/\Below w.heap.size w w':=by
 have t1:(t.kind==1)=true:=q102;have HR:=Lh (fun W hW hR=>aVE r s a q t p hq hs m W hW hR hn);clear hk hn;have H:=Lh h;clear h;have hd:decide (24<=d)=false:=sO;go_enter func123,ntmps123
 go_wp2_with fail;refine(cK t _ _ true H.out _).mono ?_;rintro e w1 ⟨rfl,hb⟩;obtain⟨hc,hf⟩:=aZ hb;have hz:w.heap.size+1<w1.heap.size:=q86;go_wp2_with fail;refine(HR.out _ (hm.below bel) (hr.below bel)).mono ?_;rintro e w2 ⟨rfl,hb2⟩;obtain⟨hc2,hf2⟩:=aZ hb2;have hz2:w.heap.size+1<w2.heap.size:=q103;have hz2':w.heap.size<w2.heap.size:=oM;have hz1':w.heap.size<w1.heap.size:=oM;go_wp2_with fail;refine(aUU _ _).mono ?_;rintro e w3 ⟨rfl,hb3⟩;obtain⟨hc3,hf3⟩:=aZ hb3;have hz3:w.heap.size+1<w2.heap.size+1:=oM;have hz4:w.heap.size+2<=w3.heap.size:=q41;unfold obV;go_wp2;refine bGN (v:=obV 2 t.n 0 []) (by simp[results,results123,go_sem,hc3,hf3,hc2,hf2,hc,hf,hz,hz2,hz3,obV]) rfl ⟨rfl,bel⟩
theorem aHV(s:ByteArray)(a:Nat)(q:Nat)(r:Nat)(t:Tok)(p d:Int)(hd0:d<24)(h:bL t=true)(w:World)(hq:q<=s.size)(hs:s.size<=140737488355327)(m:Int)(hm:aF w m)(hr:aU w r s a)
 (hk:t.kind=1) (gn:Int) (aP:L) (hn:uB t (s.data.toList.drop q)=some (gn,aP)) :
 Calls prog 123 #[.pointer (some ⟨r,0,none⟩),.agg #[.int .i64 t.kind,.int .i64 p,.int .i64 q,.int .i64 t.n,.string ⟨t.s.toArray⟩],.int .i64 d] w fun e w'=>∃z:Nat,z<=s.size/\s.data.toList.drop z=aP/\e=.returned (obV 8 t.n gn [])/\aU w' r s z/\Bes r w w':=by
 have t1:(t.kind==1)=true:=q102;have HR:=Lh (fun W hW hR=>aVF r s a q t p hq hs m W hW hR gn aP hn);have hlt:=hr.lt;clear hk hn;have H:=Lh h;clear h;have hd:decide (24<=d)=false:=sO;go_enter func123,ntmps123
 go_wp2_with fail;refine(cK t _ _ true H.out _).mono ?_;rintro e w1 ⟨rfl,hb⟩;obtain⟨hc,hf⟩:=aZ hb;have hz:w.heap.size+1<w1.heap.size:=q86;go_wp2_with fail;refine(HR.out _ (hm.below bel) (hr.below bel)).mono ?_;rintro e w2 ⟨z,hz1,hz2,rfl,hR2,hs2⟩;have hr0:∀o,w2.cell? ⟨w.heap.size+1,o,none⟩=w1.cell? ⟨w.heap.size+1,o,none⟩:=fun o=>bGO (hs2.block _ q101 q100)
 have hr1:∀o,w2.frozen? ⟨w.heap.size+1,o,none⟩=w1.frozen? ⟨w.heap.size+1,o,none⟩:=fun o=>World.frozen?_of_block (hs2.block _ q101 q100)
 have hz3:w.heap.size+1<w2.heap.size:=by have:=hs2.size;omega
 have HZ:=Lh hz2;have hbw1:Below w.heap.size w w1:=bel;have hs3:Bes r w w2:=(Bes.of_below hbw1).trans hs2;clear hz2 hs2;go_wp2;refine bGN (v:=obV 8 t.n gn []) (by simp[results,results123,go_sem,hr0,hr1,hc,hf,hz,hz3,obV]) rfl ⟨z,hz1,HZ.out,rfl,hR2.belowB (B:=r+1) xK oM,?_⟩
 (repeat' (first|(with_reducible exact hs3)|(with_reducible refine Bes.setCell_new ?_ ?_ _)|(with_reducible refine Bes.alloc ?_ _)|(show _<=_;simp;done)|(show _<=_;simp;omega)|omega))
theorem aVG(b:Bool)(x:Int)(h:(if b then(1:Int) else 0)=x)(w:World):Calls prog 170 #[.bool b] w fun e w'=>e=.returned (obV 1 x 0 [])/\Below w.heap.size w w':=h▸aUY b w
theorem aDR(r:Nat)(t:Tok)(p q d:Int)(hd0:d<24)(h:bL t=true)(w:World)(hk:t.kind=5)(hn:t.s=vB) :
 Calls prog 123 #[.pointer (some ⟨r,0,none⟩),.agg #[.int .i64 t.kind,.int .i64 p,.int .i64 q,.int .i64 t.n,.string ⟨t.s.toArray⟩],.int .i64 d] w fun e w'=>e=.returned (obV 0 0 0 [])/\Below w.heap.size w w':=by
 have t1:(t.kind==1)=false:=q102;have t2:(t.kind==2)=false:=q102;have t3:(t.kind==3)=false:=q102;have t4:(t.kind==4)=false:=q102;have t5:(t.kind==5)=true:=q102;have hn':(t.s==[110,117,108,108])=true:=by rw[hn];decide
 clear hk hn;have H:=Lh h;clear h;have hd:decide (24<=d)=false:=sO;go_enter func123,ntmps123
 go_wp2_with fail;refine(cK t _ _ true H.out _).mono ?_;rintro e w1 ⟨rfl,hb⟩;obtain⟨hc,hf⟩:=aZ hb;have hz:w.heap.size+1<w1.heap.size:=q86;go_wp2_with fail;refine(aUX _).mono ?_;rintro e w2 ⟨rfl,hb2⟩;obtain⟨hc2,hf2⟩:=aZ hb2;have hz2:w.heap.size+1<w2.heap.size:=q103;unfold obV;go_wp2;refine bGN (v:=obV 0 0 0 []) q104 rfl ⟨rfl,bel⟩
theorem aDS(r:Nat)(t:Tok)(p q d:Int)(hd0:d<24)(h:bL t=true)(w:World)(hk:t.kind=5)(hn:¬t.s=vB) :
 Calls prog 123 #[.pointer (some ⟨r,0,none⟩),.agg #[.int .i64 t.kind,.int .i64 p,.int .i64 q,.int .i64 t.n,.string ⟨t.s.toArray⟩],.int .i64 d] w fun e w'=>e=.returned (obV 1 (if t.s==yD then 1 else 0) 0 [])/\Below w.heap.size w w':=by
 have t1:(t.kind==1)=false:=q102;have t2:(t.kind==2)=false:=q102;have t3:(t.kind==3)=false:=q102;have t4:(t.kind==4)=false:=q102;have t5:(t.kind==5)=true:=q102;have hn':(t.s==[110,117,108,108])=false:=by simpa[vB] using hn
 clear hk hn;obtain⟨x,hx⟩:∃x:Int,(if(t.s==yD) then(1:Int) else 0)=x:=⟨_,rfl⟩
 rw[hx];have HB:=Lh hx;clear hx;have H:=Lh h;clear h;have hd:decide (24<=d)=false:=sO;go_enter func123,ntmps123
 go_wp2_with fail;refine(cK t _ _ true H.out _).mono ?_;rintro e w1 ⟨rfl,hb⟩;obtain⟨hc,hf⟩:=aZ hb;have hz:w.heap.size+1<w1.heap.size:=q86;go_wp2_with fail;refine(aVG (t.s==[116,114,117,101]) x HB.out _).mono ?_;rintro e w2 ⟨rfl,hb2⟩;obtain⟨hc2,hf2⟩:=aZ hb2;have hz2:w.heap.size+1<w2.heap.size:=q103;unfold obV;go_wp2;refine bGN (v:=obV 1 x 0 []) q104 rfl ⟨rfl,bel⟩
theorem oK{B n d:Nat}{w2 w3:World}{cs:List Value}{o:Ob}(h:aI (fun b=>n<=b) d w2 cs o)(hB:B<=n)(hk:∀b,n<=b->w3.heap[b]?=w2.heap[b]?):aI (fun b=>B<=b) d w3 cs o :=
 (aI.kept (fun b hb=>hk b hb) d h).weaken (fun b hb _=>bGC hB hb) d
theorem aHW(s:ByteArray)(a:Nat)(q:Nat)(r:Nat)(t:Tok)(p d:Int)(hd0:d<24)(hd1:-1000<d)(h:bL t=true)(w:World)(hs:s.size<=140737488355327)(m:Int)(hm:aF w m)(hr:aU w r s a)
 (hk:t.kind=6) (hn:t.s=[91]) (d2:Nat) (R:Res (Ob×L))
 (HC:∀W,aF W m->aU W r s a->Calls prog 171 #[.pointer (some ⟨r,0,none⟩),.int .i64 (d+1)] W (lC r s d2 W R)) :
 Calls prog 123 #[.pointer (some ⟨r,0,none⟩),.agg #[.int .i64 t.kind,.int .i64 p,.int .i64 q,.int .i64 t.n,.string ⟨t.s.toArray⟩],.int .i64 d] w (lC r s d2 w R):=by
 have hn':(t.s==[91])=true:=by rw[hn];decide
 exact q295
theorem aDT(s:ByteArray)(a:Nat)(q:Nat)(r:Nat)(t:Tok)(p d:Int)(hd0:d<24)(hd1:-1000<d)(h:bL t=true)(w:World)(hs:s.size<=140737488355327)(m:Int)(hm:aF w m)(hr:aU w r s a)
 (hk:t.kind=6) (hn:¬t.s=[91]) (d2:Nat) (R:Res (Ob×L))
 (HC:∀W,aF W m->aU W r s a->Calls prog 172 #[.pointer (some ⟨r,0,none⟩),.int .i64 (d+1)] W (lC r s d2 W R)) :
 Calls prog 123 #[.pointer (some ⟨r,0,none⟩),.agg #[.int .i64 t.kind,.int .i64 p,.int .i64 q,.int .i64 t.n,.string ⟨t.s.toArray⟩],.int .i64 d] w (lC r s d2 w R):=by
 have hn':(t.s==[91])=false:=by simpa using hn
 exact q295
theorem aOV{S S':Nat->Prop}{w:World}{B d:Nat}{v:Value}{css:List (List Value)}{acc:List Ob}(h:w.ownsRow B 31 6 v acc.length css.flatten)(hk:bJ S d w css acc)
 (hS:∀b,S b->S' b) (hB:∀b,B<=b->S' b):aI S' (d+1) w (aB 6 0 0 [] (.slice none 0 0) v) (.mk 6 0 0 [] [] acc) :=
 ⟨_,_,rfl,.inl ⟨rfl,_,_,rfl⟩,uM h hk hS hB⟩
end Go.Proofs.YtdjpkgccakgkbaaGreatDoor
