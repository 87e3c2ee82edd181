/- Parts of the proof: TdF TdG. -/
import Derived.Test.YtdjpkgccakgkbaaGreatDoorPeTdE
set_option linter.all false
set_option maxRecDepth 100000
set_option maxHeartbeats 8000000
section
variable{p:Prop}
theorem q179(h:p:=by simp[results,results12,go_sem,X0,X1,X2,X3,X4,X5,X6,X7,X8,X9,X10,Xf]):p:=h
theorem q180(h:p:=by simp[results,results6,go_sem,X0,X1,X2,X3,X4,X5,X6,X7,X8,X9,X10,Xf]):p:=h
theorem q497(h:p:=by
 have hb:=hbw3;exact bel):p:=h
end
namespace Go.Proofs.YtdjpkgccakgkbaaGreatDoor
open Go.Proofs.Tryz
open Go.RowKit Fo
def lV(s:ByteArray)(a:Nat)(y:Sec):Prop:=∃(PS:List Sl) (o:Ob) (aP:L) (prev hyb:Int),vN (s.data.toList.drop a)=some (PS,o,aP)/\aT 24 o=0/\gF o nW=some prev/\gF o tN=some hyb/\y=⟨a,PS,o,prev,hyb,0⟩
def aFA(w:World)(y:Sec)(e:Ending)(w':World):Prop :=
 ∃(x:bN) (z:Nat),e=.returned (.tuple #[.agg (aO.cells x).toArray,.int .i64 z,.int .i64 0])/\xR (fun b=>w.heap.size<=b) 25 w' x y/\Below w.heap.size w w'
theorem aJF(s:ByteArray)(a:Nat)(y:Sec)(h:lV s a y)(ha:a<=s.size)(hs:s.size<=100000000)(m:Int)(w:World)(hm:aF w m) :
 Calls prog 12 #[.string s,.int .i64 a] w (aFA w y):=by
 have HSEC:Hid (∀(r:Nat) (W:World),aF W m->RdT W r s a->r≠1->Calls prog 24 #[.pointer (some ⟨r,0,none⟩)] W (aWY r s W y)):=Lh (by
  obtain⟨PS,o,aP,prev,hyb,g1,g2,g3,g4,rfl⟩:=h;exact fun r W hm hr hrm=>xS r s a PS o aP prev hyb g1 g2 g3 g4 ha hs m W hm hr hrm)
 clear h;have hMl:=hm.lt;go_enter func12,ntmps12
 go_wp2_with fail;have hwX:((w.alloc (.cells #[.int .i64 0,.slice none 0 0,.int .i64 0,.int .i64 0,.int .i64 0,.string ⟨#[]⟩,.slice none 0 0,.slice none 0 0,.int .i64 0,.int .i64 0,.int .i64 0] 33)).alloc (.cells #[.string s,.int .i64 a] 70)).heap[w.heap.size]?=some (.cells #[.int .i64 0,.slice none 0 0,.int .i64 0,.int .i64 0,.int .i64 0,.string ⟨#[]⟩,.slice none 0 0,.slice none 0 0,.int .i64 0,.int .i64 0,.int .i64 0] 33 (0,0)):=(bGM _ _ _ sI).trans (aA _ _ _ rfl);have hbA:Below w.heap.size w ((w.alloc (.cells #[.int .i64 0,.slice none 0 0,.int .i64 0,.int .i64 0,.int .i64 0,.string ⟨#[]⟩,.slice none 0 0,.slice none 0 0,.int .i64 0,.int .i64 0,.int .i64 0] 33)).alloc (.cells #[.string s,.int .i64 a] 70)):=bel;refine(HSEC.out (w.heap.size+1) _ (hm.below bel) (aA _ _ _ sI) oM).mono ?_;rintro e w2 ⟨x,rfl,hx,⟨b,hb,hr2⟩,hs2⟩;have hbw2:Below w.heap.size w w2:=eO hbA hs2 sI sO;have hz2:=hs2.size;simp at hz2;have hX2:=(hs2.block w.heap.size sO sI).trans hwX;have HX:=Lh hx;clear hwX hbA hs2 hx HSEC;obtain⟨x0,sp,sn,sc,x2,x3,x4,x5,p1,n1,c1,p2,n2,c2,x8,x9,x10⟩:=x;unfold aO;dsimp only;go_upto_region 5 with fail
 obtain⟨w3,hw3⟩:=eX (w2.alloc (.cells #[.int .i64 x0,.slice sp sn sc,.int .i64 x2,.int .i64 x3,.int .i64 x4,.string x5,.slice p1 n1 c1,.slice p2 n2 c2,.int .i64 x8,.int .i64 x9,.int .i64 x10] 33));rw[hw3];have hb3:Below w2.heap.size w2 w3:=q126;have hY3:w3.heap[w2.heap.size]?=some (.cells #[.int .i64 x0,.slice sp sn sc,.int .i64 x2,.int .i64 x3,.int .i64 x4,.string x5,.slice p1 n1 c1,.slice p2 n2 c2,.int .i64 x8,.int .i64 x9,.int .i64 x10] 33 (0,0)):=q127;have hX3:=(hb3.block w.heap.size oM).trans hX2;have hr3:=hr2.below hb3;have hz3:=hb3.size;have hbw3:Below w.heap.size w w3:=hbw2.trans (hb3.mono oM);have HX3:=Lh (fun(W:World) (hW:∀b,w.heap.size+2<=b->b<w2.heap.size->W.heap[b]?=w3.heap[b]?)=>HX.out.grow (w':=W) (S':=fun b=>w.heap.size<=b) (fun b h1 h2=>⟨q162,(hW b q162 h2).trans (hb3.block b h2)⟩));have ne1:¬w2.heap.size=w.heap.size:=oM;have ne2:¬w.heap.size=w2.heap.size:=oM;have ne3:¬w.heap.size+1=w.heap.size:=oM;have ne4:¬w.heap.size=w.heap.size+1:=oM;have k1:=hr3.cell1;clear hw3 HX hX2 hr2 hbw2 hb3 hr3;obtain⟨X0,X1,X2,X3,X4,X5,X6,X7,X8,X9,X10,Xf⟩:=aJ hX3;obtain⟨Y0,Y1,Y2,Y3,Y4,Y5,Y6,Y7,Y8,Y9,Y10,Yf⟩:=aJ hY3
 go_region_held3 (fun w'=>w'.cell? ⟨w2.heap.size,0,none⟩=some (.int .i64 x0)/\w'.cell? ⟨w2.heap.size,1,none⟩=some (.slice sp sn sc)/\w'.cell? ⟨w2.heap.size,2,none⟩=some (.int .i64 x2)/\w'.cell? ⟨w2.heap.size,3,none⟩=some (.int .i64 x3)/\w'.cell? ⟨w2.heap.size,4,none⟩=some (.int .i64 x4)/\w'.cell? ⟨w2.heap.size,5,none⟩=some (.string x5)/\w'.cell? ⟨w2.heap.size,6,none⟩=some (.slice p1 n1 c1)/\w'.cell? ⟨w2.heap.size,7,none⟩=some (.slice p2 n2 c2)/\w'.cell? ⟨w2.heap.size,8,none⟩=some (.int .i64 x8)/\w'.cell? ⟨w2.heap.size,9,none⟩=some (.int .i64 x9)/\w'.cell? ⟨w2.heap.size,10,none⟩=some (.int .i64 x10)/\w'.cell? ⟨w.heap.size+1,1,none⟩=some (.int .i64 b)) (go_keep) (fail)
 go_wp2;refine bGN (v:=.tuple #[.agg #[.int .i64 x0,.slice sp sn sc,.int .i64 x2,.int .i64 x3,.int .i64 x4,.string x5,.slice p1 n1 c1,.slice p2 n2 c2,.int .i64 x8,.int .i64 x9,.int .i64 x10],.int .i64 b,.int .i64 0]) q179 rfl ?_;refine⟨⟨x0,sp,sn,sc,x2,x3,x4,x5,p1,n1,c1,p2,n2,c2,x8,x9,x10⟩,b,rfl,HX3.out _ ?_,?_⟩
 ·intro b hb _;iterate 12 (first|rw[gV]|rw[bGK _ _ _ _ q110])
 ·exact q497
theorem qU(s:ByteArray)(a:Int)(ha:a<0)(w:World) :
 Calls prog 6 #[.string s,.int .i64 a] w (fun e w'=>e=.returned (.tuple #[.agg #[.int .i64 0,.slice none 0 0,.int .i64 0,.int .i64 0,.int .i64 0,.string ⟨#[]⟩,.slice none 0 0,.slice none 0 0,.int .i64 0,.int .i64 0,.int .i64 0],.int .i64 21])/\Below w.heap.size w w'):=by
 have d0:decide (a<0)=true:=bGI ha;go_enter func6,ntmps6
 go_wp2;refine bGN (v:=.tuple #[.agg #[.int .i64 0,.slice none 0 0,.int .i64 0,.int .i64 0,.int .i64 0,.string ⟨#[]⟩,.slice none 0 0,.slice none 0 0,.int .i64 0,.int .i64 0,.int .i64 0],.int .i64 21]) (by simp[results,results6,go_sem]) rfl ⟨rfl,?_⟩;exact bel
def bBP(w:World)(y:Sec)(e:Ending)(w':World):Prop :=
 ∃(x:bN),e=.returned (.tuple #[.agg (aO.cells x).toArray,.int .i64 0])/\xR (fun b=>w.heap.size<=b) 25 w' x y/\Below w.heap.size w w'
theorem xV(s:ByteArray)(a:Nat)(y:Sec)(h:lV s a y)(ha:a<s.size)(hs:s.size<=100000000)(m:Int)(w:World)(hm:aF w m) :
 Calls prog 6 #[.string s,.int .i64 a] w (bBP w y):=by
 have HTR:Hid (∀(W:World),aF W m->Calls prog 12 #[.string s,.int .i64 a] W (aFA W y)):=Lh (fun W hW=>aJF s a y h oM hs m W hW);have hpre:Lib.hasPrefix (s.data.toList.drop a) [120,114,101,102]=true:=by
  obtain⟨PS,o,aP,prev,hyb,g1,_⟩:=h;exact(yZ oM g1).1
 have HB:=Lh (fun W=>dQ s ⟨#[120,114,101,102]⟩ a true hpre oM (show s.size<=maxLen from q26) W);have d1:decide ((s.size:Int)<=a)=false:=sO;clear h hpre;go_enter func6,ntmps6
 go_wp2_with(go_at_call 11;refine(HB.out _).mono ?_;rintro e w9 ⟨rfl,h9⟩;obtain rfl:=h9.symm)
 refine(HTR.out _ (hm.below bel)).mono ?_;rintro e w2 ⟨x,z,rfl,hx,hs2⟩;have hz2:=hs2.size;simp at hz2;have hbw2:Below w.heap.size w w2:=(show Below w.heap.size w (w.alloc (.cells #[.int .i64 0,.slice none 0 0,.int .i64 0,.int .i64 0,.int .i64 0,.string ⟨#[]⟩,.slice none 0 0,.slice none 0 0,.int .i64 0,.int .i64 0,.int .i64 0] 33)) from bel).trans (hs2.mono sI);have hX2:=(hs2.block w.heap.size sI).trans (aA w _ _ rfl);have HX:=Lh hx;clear hs2 hx HTR HB;obtain⟨x0,sp,sn,sc,x2,x3,x4,x5,p1,n1,c1,p2,n2,c2,x8,x9,x10⟩:=x;unfold aO;dsimp only;go_upto_region 5 with fail
 obtain⟨w3,hw3⟩:=eX (w2.alloc (.cells #[.int .i64 x0,.slice sp sn sc,.int .i64 x2,.int .i64 x3,.int .i64 x4,.string x5,.slice p1 n1 c1,.slice p2 n2 c2,.int .i64 x8,.int .i64 x9,.int .i64 x10] 33));rw[hw3];have hb3:Below w2.heap.size w2 w3:=q126;have hY3:w3.heap[w2.heap.size]?=some (.cells #[.int .i64 x0,.slice sp sn sc,.int .i64 x2,.int .i64 x3,.int .i64 x4,.string x5,.slice p1 n1 c1,.slice p2 n2 c2,.int .i64 x8,.int .i64 x9,.int .i64 x10] 33 (0,0)):=q127;have hX3:=(hb3.block w.heap.size oM).trans hX2;have hz3:=hb3.size;have hbw3:Below w.heap.size w w3:=hbw2.trans (hb3.mono oM);have HX3:=Lh (fun(W:World) (hW:∀b,w.heap.size+1<=b->b<w2.heap.size->W.heap[b]?=w3.heap[b]?)=>HX.out.grow (w':=W) (S':=fun b=>w.heap.size<=b) (fun b h1 h2=>⟨q162,(hW b q162 h2).trans (hb3.block b h2)⟩));have ne1:¬w2.heap.size=w.heap.size:=oM;have ne2:¬w.heap.size=w2.heap.size:=oM;clear hw3 HX hX2 hbw2 hb3;obtain⟨X0,X1,X2,X3,X4,X5,X6,X7,X8,X9,X10,Xf⟩:=aJ hX3;obtain⟨Y0,Y1,Y2,Y3,Y4,Y5,Y6,Y7,Y8,Y9,Y10,Yf⟩:=aJ hY3;go_wp2;refine bGN (v:=.tuple #[.agg #[.int .i64 x0,.slice sp sn sc,.int .i64 x2,.int .i64 x3,.int .i64 x4,.string x5,.slice p1 n1 c1,.slice p2 n2 c2,.int .i64 x8,.int .i64 x9,.int .i64 x10],.int .i64 0]) q180 rfl ?_;refine⟨⟨x0,sp,sn,sc,x2,x3,x4,x5,p1,n1,c1,p2,n2,c2,x8,x9,x10⟩,rfl,HX3.out _ ?_,?_⟩
 ·intro b hb _;repeat (first|rw[gV]|rw[bGK _ _ _ _ q110])
 ·exact q497
end Go.Proofs.YtdjpkgccakgkbaaGreatDoor
