/- Parts. -/
import Derived.Test.YtdjpkgccakgkbaaGreatDoorPead
import Derived.Test.YtdjpkgccakgkbaaGreatDoorPem
import Derived.Test.YtdjpkgccakgkbaaGreatDoorPeab
import Derived.Test.YtdjpkgccakgkbaaGreatDoorPen
import Derived.Test.YtdjpkgccakgkbaaGreatDoorPeo
set_option linter.all false
set_option maxRecDepth 100000
set_option maxHeartbeats 8000000
section
variable{p:Prop}
theorem q267(h:p:=by show j≠w.heap.size;exact hj):p:=h
theorem q268(h:p:=by simp[World.cell?,hEE]):p:=h
theorem q269(h:p:=by simp[World.frozen?,hEE]):p:=h
theorem q279(h:p:=by
 go_wp2;refine bGW (f:=25) (args:=#[.pointer (some ⟨w.heap.size+2,0,none⟩),.pointer (some ⟨w.heap.size,0,none⟩),.pointer (some ⟨w.heap.size+1,0,none⟩)]) sI q39 ?_;refine(aBL w.heap.size _ (HER.out _ HRE.out) _ _ _ _ _ _ _ _ _ _ _ _ HX.out).mono ?_;rintro e u' w'' ⟨rfl,rfl,hbf,hX⟩;obtain⟨b0,b1,b2,b3,b4,b5,b6,b7,bf⟩:=fI hX.c0;obtain⟨C1,_⟩:=eP hX.c1;obtain⟨C2,_⟩:=eP hX.c2;simp[Leaves,settle,results,results13,go_sem,b0,b1,b2,b3,b4,b5,b6,b7,bf,C1,C2];exact⟨HBp.out.trans hbf,q161⟩):p:=h
theorem q288(h:p:=by
 have HMM:=Lh (HMA.out wB _ _ _ hWB hbwB x8 (aAD hbx.1 hbx.2.1) oM);obtain⟨Y0,Y1,Y2,Y3,Y4,Y5,Y6,Y7,Y8,Y9,Y10,Yf⟩:=aJ hGB;have hlast:=HWh.out.2;clear hwB X0 X1 X2 X3 X4 X5 X6 X7 X8 X9 X10 Xf hE hbr hbB hWB HMA HWh;go_wp2_with fail;refine HMM.out.mono ?_;rintro e w3 (⟨y,v4,rfl,hy,H4,hk4,hb4⟩|⟨k,hk,rfl,hb4⟩);rotate_left
 ·have hEE:=(hb4.block w.heap.size oM).trans hEB;have hBB:Below mb w w3:=hbwB.trans (hb4.mono oM);clear hEB hbwB hb4 HMM Y0 Y1 Y2 Y3 Y4 Y5 Y6 Y7 Y8 Y9 Y10 Yf hGB;have E0:w3.cell? ⟨w.heap.size,0,none⟩=some (.int .i64 0):=q268;have Ef:w3.frozen? ⟨w.heap.size,0,none⟩=false:=q269;have hEl:=bGJ hEE;go_wp2;refine bGW (f:=21) (args:=#[.pointer (some ⟨w.heap.size,0,none⟩)]) sI q39 ?_;refine(kX _ k 0 _ _ E0 Ef).mono ?_;rintro e u' w'' ⟨rfl,rfl,rfl⟩;simp[Leaves,settle,results,results10,go_sem,E0,Ef,hEl];exact⟨hBB.setCell (p:=⟨w.heap.size,0,none⟩) q265 _,.inl ⟨k,hk,rfl⟩⟩
 obtain⟨hE4,hv4⟩:=hk4 w.heap.size oM oM oM hv;obtain⟨hG4,hv4g⟩:=hk4 gb oM oM oM hvgb;replace hE4:=hE4.trans hEB;replace hG4:=hG4.trans hGB;have hbw4:=hbwB.trans hb4;have HH:=Lh (bGQ H4 (bGQ hy.2 (aAE (c:=x8) hlast)));clear H4 hy hk4 hEB hGB hbwB hb4 HMM Y0 Y1 Y2 Y3 Y4 Y5 Y6 Y7 Y8 Y9 Y10 Yf hlast;have hgl2:=bGJ hG4;obtain⟨X0,X1,X2,X3,X4,X5,X6,X7,X8,X9,X10,Xf⟩:=aJ hG4;obtain⟨a0,ap,an,ac,a2',a3,a4,a5,d1,e1,f1,d2,e2,f2,a8,a9,a10⟩:=y;unfold aO;dsimp only;go_upto_region 4 with fail
 obtain⟨w9,hw9⟩:=eX (((((((((((w3.setCell ⟨gb,0,none⟩ (.int .i64 a0)).setCell ⟨gb,1,none⟩ (.slice ap an ac)).setCell ⟨gb,2,none⟩ (.int .i64 a2')).setCell ⟨gb,3,none⟩ (.int .i64 a3)).setCell ⟨gb,4,none⟩ (.int .i64 a4)).setCell ⟨gb,5,none⟩ (.string a5)).setCell ⟨gb,6,none⟩ (.slice d1 e1 f1)).setCell ⟨gb,7,none⟩ (.slice d2 e2 f2)).setCell ⟨gb,8,none⟩ (.int .i64 a8)).setCell ⟨gb,9,none⟩ (.int .i64 a9)).setCell ⟨gb,10,none⟩ (.int .i64 a10));rw[hw9];obtain⟨hG9,hS9⟩:=bDO hG4 (.int .i64 a0) (.slice ap an ac) (.int .i64 a2') (.int .i64 a3) (.int .i64 a4) (.string a5) (.slice d1 e1 f1) (.slice d2 e2 f2) (.int .i64 a8) (.int .i64 a9) (.int .i64 a10);rw[hw9] at hG9 hS9;clear hw9;obtain⟨H4,hy,hl4⟩:=HH.out;have hHO:=H4.other (w':=w9) gb oM oM hv4g (bGD hS9.size.symm) (fun k _ hk=>hS9.block k hk);refine⟨⟨⟨a0,ap,an,ac,a2',a3,a4,a5,d1,e1,f1,d2,e2,f2,a8,a9,a10⟩,_,_,_,hG9,(hS9.block _ oM).trans hE4,hv4,hv4g,oM,hbw4.trans ⟨hS9.os,hS9.tape,hS9.output,bGD hS9.size.symm,fun k hk=>hS9.block k oM⟩,hy,hHO,hl4⟩,?_⟩;have hfew:=hHO.few;rw[HPM.out,aGQ hHO];simp only[bHA] at hfew ⊢;omega):p:=h
theorem q316(h:p:=by
 have hEl:=bGJ hEE;go_wp2;refine bGW (f:=21) (args:=#[.pointer (some ⟨w.heap.size,0,none⟩)]) sI q39 ?_;refine(kX _ k 0 _ _ E0 Ef).mono ?_;rintro e u' w'' ⟨rfl,rfl,rfl⟩;simp[Leaves,settle,results,results10,go_sem,E0,Ef,hEl];exact⟨hBB.setCell (p:=⟨w.heap.size,0,none⟩) q265 _,.inl ⟨k,hk,rfl⟩⟩):p:=h
theorem q354(h:p:=by
 rw[<-hwb];refine⟨?_,?_,?_⟩
 ·rw[gV,bGK _ _ _ _ q232,bGK _ _ _ _ q183];exact Z0
 ·rw[gV,bGK _ _ _ _ q233,aC ((hOa _ oM).trans HXF.out.c1)];rfl
 ·rw[gV,aC ((bGK _ _ _ _ (by show w.heap.size+2≠w.heap.size+1;omega)).trans ((hOa _ oM).trans HXF.out.c2))];rfl):p:=h
theorem q410(h:p:=by
 rcases HX.out with⟨rfl,h⟩|h
 ·exact .inl ⟨⟨x0,sp,sn,sc,x2,x3,x4,x5,p1,n1,c1,p2,n2,c2,x8,x9,x10⟩,rfl,h⟩
 ·exact .inr ⟨⟨x0,sp,sn,sc,x2,x3,x4,x5,p1,n1,c1,p2,n2,c2,x8,x9,x10⟩,k,rfl,h⟩):p:=h
theorem q424(h:p:=by
 rw[<-hwb,gV,bGK _ _ _ _ (by show j≠w.heap.size+1+1;exact h3),bGK _ _ _ _ (by show j≠w.heap.size+1;exact h2)];exact hOa j h1):p:=h
theorem q431(h:p:=by exact⟨hbE.out.setCell (p:=⟨w.heap.size,0,none⟩) q265 _,.inr ⟨rfl,_,_,_,HWh.out.1.other _ oM oM hv (bGD hS.size.symm) (fun k _ hk=>hS.block k hk),HWh.out.2⟩⟩):p:=h
theorem q448(h:p:=by
 rw[<-hwb];exact((hBa.setCell (show w.heap.size<=w.heap.size+1 from oM) _).setCell (show w.heap.size<=w.heap.size+1+1 from oM) _).drew):p:=h
theorem q474(h:p:=by
 rw[<-hwa];iterate 8 refine Below.setCell ?_ (bGB w.heap.size) _
 exact HBpF.out):p:=h
theorem q504(h:p:=by rename_i hn;cases h;have:=tH hn;omega):p:=h
theorem q530(h:p:=by
 rw[<-hwa];iterate 8 rw[bGK _ _ _ _ q267]):p:=h
theorem q531(h:p:=by
 split at h
 ·rename_i hn;cases h;exact aAB hn
 ·cases h):p:=h
theorem q573(h:p:=by
 go_wp2_with(go_at_call 28;(with_reducible refine(dA _ _).mono ?_);rintro e w9 ⟨rfl,h9⟩;obtain rfl:=h9.symm)
 exact q279):p:=h
theorem q900(h:p:=by
 by_cases hp:x8<0
 ·have dp:decide (x8<0)=true:=bGI hp;have HWh:=Lh (bGQ HW hlast);have hbE:=Lh hbr;have E0:w2.cell? ⟨w.heap.size,0,none⟩=some (.int .i64 0):=by simp[World.cell?,hE]
  have Ef:w2.frozen? ⟨w.heap.size,0,none⟩=false:=q248;have hEl:=bGJ hE;clear HW hG hE hbr HMA hlast;go_wp2;refine bGW (f:=21) (args:=#[.pointer (some ⟨w.heap.size,0,none⟩)]) sI q39 ?_;refine(pZ _ _).mono ?_;rintro e u' w'' ⟨rfl,rfl,rfl⟩;simp[Leaves,settle,results,results10,go_sem,E0,Ef,hEl];have hS:=(eS.refl w.heap.size w2).set 0 (.int .i64 0);exact q431
 ·have dp:decide (x8<0)=false:=bGH hp;have HWh:=Lh (bGQ HW hlast);clear HW hG hlast;go_upto_region 3 with fail
  obtain⟨wB,hwB⟩:=eX (w2.alloc (.cells #[.int .i64 x0,.slice sp sn sc,.int .i64 x2,.int .i64 x3,.int .i64 x4,.string x5,.slice p1 n1 c1,.slice p2 n2 c2,.int .i64 x8,.int .i64 x9,.int .i64 x10] 33));obtain⟨gb,hgb⟩:=eX (w2.heap.size);rw[hwB];simp only[hgb];have hbB:Below w2.heap.size w2 wB:=by rw[<-hwB];exact bel
  have hGB:wB.heap[gb]?=some (.cells #[.int .i64 x0,.slice sp sn sc,.int .i64 x2,.int .i64 x3,.int .i64 x4,.string x5,.slice p1 n1 c1,.slice p2 n2 c2,.int .i64 x8,.int .i64 x9,.int .i64 x10] 33 (0,0)):=q264;have hzB:gb+1<=wB.heap.size:=by rw[<-hwB,<-hgb];simp
  have hWB:=HWh.out.1.below hbB;have hEB:=(hbB.block w.heap.size oM).trans hE;have hbwB:Below mb w wB:=hbr.trans (hbB.mono (by have:=hbr.size;omega));have hvgb:v3.ownBlock≠some gb:=fun e=>by have:=cM HWh.out.1.row _ e;omega
  exact q288):p:=h
end
namespace Go.Proofs.YtdjpkgccakgkbaaGreatDoor
open Go.Proofs.Tryz
open Go.RowKit Fo
theorem aGN{l:L}{lo hi k:Int}(h:aBD l lo hi=.bad k):k≠0:=by
 unfold aBD at h;split at h
 ·exact q504
 ·split at h
  ·exact q472
  ·cases h;decide
theorem aAB{l x:L}{k:Int}(h:nV l x=.bad k):k≠0:=by
 unfold nV at h;split at h
 ·exact q504
 ·exact q472
theorem aSQ{l:L}{k:Int}(h:vZ l=.bad k):k≠0:=by
 unfold vZ at h;split at h
 ·rename_i hn;cases h;exact aGN hn
 ·split at h
  ·rename_i hn;cases h;exact aGN hn
  ·exact q531
theorem aZI{o:Ob}{k:Int}(h:aEV o=.bad k):k≠0:=by
 unfold aEV at h;split at h
 ·cases h;decide
 ·split at h
  ·exact q472
  ·cases h;decide
theorem aSR{l:L}{k:Int}(h:wC l=.bad k):k≠0:=by
 unfold wC at h;repeat' (split at h)
 all_goals (first|(cases h;done)|(cases h;decide))
theorem aSS{o:Ob}{n:Nat}{l:L}{k:Int}(h:yU o n l=.bad k):k≠0:=by
 unfold yU at h;split at h
 ·rename_i hn;cases h;exact aAB hn
 ·exact q531
theorem aGO{o:Ob}{len:Int}{l:L}{k:Int}(h:iV o len l=.bad k):k≠0:=by
 unfold iV at h;split at h
 ·rename_i hn;cases h;exact aSR hn
 ·split at h
  ·rename_i hn
   cases h;unfold bBJ at hn;split at hn
   ·exact aZI hn
   ·cases hn
  ·split at h
   ·cases h;decide
   ·split at h
    ·cases h;decide
    ·exact aSS h
theorem aST{o:Ob}{len:Int}{l:L}{k:Int}(h:wD o len l=.bad k):k≠0:=by
 unfold wD at h;split at h
 ·exact q504
 ·split at h
  ·cases h
  ·split at h
   ·exact aGO h
   ·cases h;decide
theorem aSU{l:L}{len k:Int}(h:aEW l len=.bad k):k≠0:=by
 unfold aEW at h;split at h
 ·cases h;decide
 ·split at h
  ·rename_i hn;cases h;exact aSQ hn
  ·split at h
   ·rename_i hn;cases h;have:=kG hn;omega
   ·split at h
    ·cases h;decide
    ·split at h
     ·rename_i hn;cases h;exact aST hn
     ·cases h
theorem aAC{s:L}{a len k:Int}(h:tL s a len=.bad k):k≠0:=by
 unfold tL at h;split at h
 ·exact aSU h
 ·cases h;decide
theorem rU:∀(d:Nat) (o:Ob),cE d o->cE (d+1) o
 |0,_,h=>h.elim
 |d+1,o,h=>⟨h.1,h.2.1,h.2.2.1,h.2.2.2.1,fun k hk=>rU d k (h.2.2.2.2 k hk)⟩
theorem rV{l r:L}{o:Ob}(h:fA l=.good (o,r)):cE 25 o/\aT 24 o=0/\o.kind≠9:=by
 unfold fA at h;split at h
 ·cases h
 ·rename_i t r1 h1
  have h2:=uP _ _ _ _ _ (nN h1) h;exact⟨rU 24 o (yQ 24 o h2),sC _ _ h2,h2.2.1⟩
def aZJ(w:World)(s:ByteArray)(R:Res (It×L))(e:Ending)(w':World):Prop:=Below w.heap.size w w'/\match R with
 |.good (i,aP)=>∃(p1:Option Addr) (n1 c1:Nat) (p2:Option Addr) (n2 c2 z:Nat),e=.returned (.tuple #[.agg #[.int .i64 i.num,.int .i64 i.gen,.int .i64 i.ob.kind,.int .i64 i.ob.n,.int .i64 i.ob.g,.string ⟨i.ob.s.toArray⟩,.slice p1 n1 c1,.slice p2 n2 c2],.int .i64 z,.int .i64 0]) /\
  aI (fun b=>w.heap.size<=b) 25 w' (aB i.ob.kind i.ob.n i.ob.g i.ob.s (.slice p1 n1 c1) (.slice p2 n2 c2)) i.ob/\z<=s.size/\aP=s.data.toList.drop z
 |.bad k=>e=.returned (.tuple #[.agg #[.int .i64 0,.int .i64 0,.int .i64 0,.int .i64 0,.int .i64 0,.string ⟨#[]⟩,.slice none 0 0,.slice none 0 0],.int .i64 0,.int .i64 k])
theorem mN.made(w:World):mN (((w.alloc (.cells #[.int .i64 0,.int .i64 0,.int .i64 0,.int .i64 0,.int .i64 0,.string ⟨#[]⟩,.slice none 0 0,.slice none 0 0] 52)).alloc (.cells #[.int .i64 0] 3)).alloc (.cells #[.int .i64 0] 24)) w.heap.size (.int .i64 0) (.int .i64 0) (.int .i64 0) (.int .i64 0) (.int .i64 0) (.string ⟨#[]⟩) (.slice none 0 0) (.slice none 0 0) (.int .i64 0) (.int .i64 0):=by
 refine⟨?_,?_,aA _ _ _ sI⟩
 ·rw[bGM _ _ _ sO,bGM _ _ _ sI];exact aA _ _ _ sI
 ·exact q484
theorem aZK(s:ByteArray)(a len:Int)(hs:s.size<=140737488355327)(m:Int)(w:World)(hm:aF w m):Calls prog 13 #[.string s,.int .i64 a,.int .i64 len] w (aZJ w s (tL s.data.toList a len)):=by
 obtain⟨RV,hRV⟩:=eX (tL s.data.toList a len);have HER:=Lh (fun k (h:RV=.bad k)=>aAC (hRV.trans h));rw[hRV];unfold tL at hRV;have hMl:=hm.lt;by_cases hin:0<=a/\a<=(s.size:Int)
 ·rw[bGV (show 0<=a/\a<=(s.data.toList.length:Int) from hin)] at hRV;obtain⟨A,rfl⟩:∃A:Nat,a=A:=⟨a.toNat,oM⟩
  rw[Int.toNat_natCast] at hRV;have ha:A<=s.size:=oM;have HFR:=Lh (fun W=>aIS s A ha W);unfold aEW at hRV;by_cases hn:len < -1
  ·rw[bGV hn] at hRV;have dn:decide (-1<=len)=false:=bGH oM;have HRE:=Lh hRV.symm;clear hRV hin hn;obtain⟨w3,hw3⟩:=eX ((((w.alloc (.cells #[.int .i64 0,.int .i64 0,.int .i64 0,.int .i64 0,.int .i64 0,.string ⟨#[]⟩,.slice none 0 0,.slice none 0 0] 52)).alloc (.cells #[.int .i64 0] 3)).alloc (.cells #[.int .i64 0] 24)));have hX3:mN w3 w.heap.size (.int .i64 0) (.int .i64 0) (.int .i64 0) (.int .i64 0) (.int .i64 0) (.string ⟨#[]⟩) (.slice none 0 0) (.slice none 0 0) (.int .i64 0) (.int .i64 0):=by rw[<-hw3];exact mN.made w
   have hb3:Below w.heap.size w w3:=q126;have hz3:=bGJ hX3.c2;have hmf:∀(fn:Fn) (first cap:Array Value) (w:World),(Instr.makeFunc fn first cap).run prog w=.ok (.func fn first cap) w:=fun _ _ _ _=>rfl
   have HX:=Lh hX3;have HBp:=Lh hb3;clear hX3 hb3;go_enter_defers func13,ntmps13
   go_wp2_with fail;refine(HFR.out _).mono ?_;rintro e w4 ⟨rfl,hr4,hb4⟩;have HX:=Lh (HX.out.step (Bes.of_below (r:=w3.heap.size) hb4) (.inr hz3));have HBp:=Lh (HBp.out.trans (hb4.mono HBp.out.size));clear hb4 hr4;exact q573
  ·rw[bGU hn] at hRV;have dn:decide (-1<=len)=true:=bGI oM;have HRV:=Lh hRV;clear hRV hin;obtain⟨w3,hw3⟩:=eX ((((w.alloc (.cells #[.int .i64 0,.int .i64 0,.int .i64 0,.int .i64 0,.int .i64 0,.string ⟨#[]⟩,.slice none 0 0,.slice none 0 0] 52)).alloc (.cells #[.int .i64 0] 3)).alloc (.cells #[.int .i64 0] 24)));have hX3:mN w3 w.heap.size (.int .i64 0) (.int .i64 0) (.int .i64 0) (.int .i64 0) (.int .i64 0) (.string ⟨#[]⟩) (.slice none 0 0) (.slice none 0 0) (.int .i64 0) (.int .i64 0):=by rw[<-hw3];exact mN.made w
   have hb3:Below w.heap.size w w3:=q126;have hz3:=bGJ hX3.c2;have hmf:∀(fn:Fn) (first cap:Array Value) (w:World),(Instr.makeFunc fn first cap).run prog w=.ok (.func fn first cap) w:=fun _ _ _ _=>rfl
   have HX:=Lh hX3;have HBp:=Lh hb3;clear hX3 hb3;go_enter_defers func13,ntmps13
   go_wp2_with fail;refine(HFR.out _).mono ?_;rintro e w4 ⟨rfl,hr4,hb4⟩;obtain⟨r,hr⟩:=eX (w3.heap.size);rw[hr] at hz3 hr4;have HX4:=Lh (HX.out.step (Bes.of_below (r:=r) hb4) (.inr hz3));have HBp4:=Lh (HBp.out.trans (hb4.mono HBp.out.size));have hrm:r≠1:=oM;have hm4:aF w4 m:=hm.below HBp4.out;simp only[hr];clear hb4 HX HBp hr hw3 HFR;obtain⟨RH,hRH⟩:=eX (vZ (s.data.toList.drop A));have HH:=Lh (hRH▸aWQ r s A ha hs m w4 hm4 hr4 hrm);have HRV2:=HRV.out;rw[hRH] at HRV2;have HRV:=Lh HRV2;clear hRH HRV2 hr4;go_wp2_with(go_at_call 28;(with_reducible refine(cC _ _).mono ?_);rintro e w9 ⟨rfl,h9⟩;obtain rfl:=h9.symm)
   refine HH.out.mono ?_;rintro e w5 ⟨hb5,h5⟩;have HX5:=Lh (HX4.out.step hb5 (.inr hz3));have HBp5:=Lh (eO HBp4.out hb5 oM HBp4.out.size);have hm5:aF w5 m:=hm4.bes hb5 hrm;clear hb5 HX4 HBp4 HH hm4;cases RH with
   |bad k =>
    have HRE:=Lh (show RV=.bad k from HRV.out.symm);have HX:=HX5;have HBp:=HBp5;obtain rfl:=h5;exact q279
   |good y =>
    obtain⟨⟨num,gen⟩,aP⟩:=y;obtain⟨⟨v,rfl,rfl⟩,q5,hq5,rfl,hr5⟩:=h5;obtain⟨b0,b1,b2,b3,b4,b5,b6,b7,bf⟩:=fI HX5.out.c0;have HR5:=Lh hr5;clear hr5;dsimp only;have HRV2:=HRV.out;dsimp only at HRV2;go_upto_region 5 with fail
    obtain⟨w6,hw6⟩:=eX ((w5.setCell ⟨w.heap.size,0,none⟩ (.int .i64 num)).setCell ⟨w.heap.size,1,none⟩ (.int .i64 gen));rw[hw6];have hO6:∀j,j≠w.heap.size->w6.heap[j]?=w5.heap[j]?:=fun j hj=>by
     rw[<-hw6];iterate 2 rw[bGK _ _ _ _ q267]
    have hX6:mN w6 w.heap.size (.int .i64 num) (.int .i64 gen) (.int .i64 0) (.int .i64 0) (.int .i64 0) (.string ⟨#[]⟩) (.slice none 0 0) (.slice none 0 0) (.int .i64 0) (.int .i64 0):=by
     refine⟨?_,(hO6 _ oM).trans HX5.out.c1,(hO6 _ oM).trans HX5.out.c2⟩;rw[<-hw6,aC (aC HX5.out.c0)];rfl
    have HBp6:=Lh (show Below w.heap.size w w6 by rw[<-hw6];exact(HBp5.out.setCell (bGB _) _).setCell (bGB _) _);have hz6:w6.heap.size=w5.heap.size:=q164;have hr6:RdY w6 r s q5:=(hO6 r oM).trans HR5.out;have hm6:aF w6 m:=hm.below HBp6.out;have hl6:=hr6.lt;clear hw6 hO6 HX5 HBp5 hm5 HR5 b0 b1 b2 b3 b4 b5 b6 b7 bf;obtain⟨RO,hRO⟩:=eX (fA (s.data.toList.drop q5));have HOO:=Lh (hRO▸aIT r s q5 hq5 hs m w6 hm6 hr6 hrm);have HSM:=Lh (fun o aP (h:RO=.good (o,aP))=>rV (hRO.trans h));rw[hRO] at HRV2;have HRV:=Lh HRV2;have HX6:=Lh hX6;clear hRO HRV2 hr6 hX6;go_wp2_with fail;refine HOO.out.mono ?_;rintro e w7 ⟨hb7,h7⟩;have HX7:=Lh (HX6.out.step hb7 (.inr hz3));have HBp7:=Lh (eO HBp6.out hb7 oM HBp6.out.size);have hm7:aF w7 m:=hm6.bes hb7 hrm;have hs7:=hb7.size;clear hb7 HX6 HBp6 HOO hm6;cases RO with
    |bad k =>
     have HRE:=Lh (show RV=.bad k from HRV.out.symm);have HX:=HX7;have HBp:=HBp7;obtain rfl:=h7;exact q279
    |good y =>
     obtain⟨o,aP⟩:=y;obtain⟨⟨p1,n1,c1,p2,n2,c2,rfl,hO7⟩,q7,hq7,rfl,hr7⟩:=h7;have HSM:=Lh (HSM.out o _ rfl);have hHO7:=Lh hO7;have hHR7:=Lh hr7;have hHRV2:=HRV.out;dsimp only at hHRV2;obtain⟨b0,b1,b2,b3,b4,b5,b6,b7,bf⟩:=fI HX7.out.c0;have hl7:=hr7.lt;clear hO7 hr7;go_upto_region 6 with fail
     obtain⟨w8,hw8⟩:=eX ((((((w7.setCell ⟨w.heap.size,2,none⟩ (.int .i64 o.kind)).setCell ⟨w.heap.size,3,none⟩ (.int .i64 o.n)).setCell ⟨w.heap.size,4,none⟩ (.int .i64 o.g)).setCell ⟨w.heap.size,5,none⟩ (.string ⟨o.s.toArray⟩)).setCell ⟨w.heap.size,6,none⟩ (.slice p1 n1 c1)).setCell ⟨w.heap.size,7,none⟩ (.slice p2 n2 c2));rw[hw8];have hO8:∀j,j≠w.heap.size->w8.heap[j]?=w7.heap[j]?:=fun j hj=>by
      rw[<-hw8];iterate 6 rw[bGK _ _ _ _ q267]
     have hX8:mN w8 w.heap.size (.int .i64 num) (.int .i64 gen) (.int .i64 o.kind) (.int .i64 o.n) (.int .i64 o.g) (.string ⟨o.s.toArray⟩) (.slice p1 n1 c1) (.slice p2 n2 c2) (.int .i64 0) (.int .i64 0):=by
      refine⟨?_,(hO8 _ oM).trans HX7.out.c1,(hO8 _ oM).trans HX7.out.c2⟩;rw[<-hw8,aC (aC (aC (aC (aC (aC HX7.out.c0)))))];exact q390
     have HBp8:=Lh (show Below w.heap.size w w8 by
      rw[<-hw8];iterate 6 refine Below.setCell ?_ (bGB w.heap.size) _
      exact HBp7.out)
     have hz8:w8.heap.size=w7.heap.size:=by rw[<-hw8];simp[World.setCell]
     have hr8:RdY w8 r s q7:=(hO8 r oM).trans hHR7.out;have hm8:aF w8 m:=hm.below HBp8.out;have HO8:=Lh (hHO7.out.grow (w':=w8) (S':=fun b=>w6.heap.size<=b/\b<w8.heap.size) (fun b h1 h2=>⟨⟨h1,oM⟩,hO8 b oM⟩));clear hw8 hO8 HX7 HBp7 hm7 hHR7 hHO7 b0 b1 b2 b3 b4 b5 b6 b7 bf;have HX8:=Lh hX8;obtain⟨b0,b1,b2,b3,b4,b5,b6,b7,bf⟩:=fI hX8.c0;clear hX8;by_cases hk8:o.kind=8
     ·have dk8:(o.kind !=8)=false:=by simpa using hk8
      have HRE:=Lh (show RV=.bad 10 from by rw[bGV hk8] at hHRV2;exact hHRV2.symm);have HX:=HX8;have HBp:=HBp8;clear hk8 hHRV2;exact q573
     rw[bGU hk8] at hHRV2;have dk8:(o.kind !=8)=true:=by simpa using hk8
     clear hk8;obtain⟨RR,hRR⟩:=eX (wD o len (s.data.toList.drop q7));rw[hRR] at hHRV2;unfold wD at hRR;obtain⟨RN,hRN⟩:=eX (bE (s.data.toList.drop q7));have HNN:=Lh (hRN▸aBG r s q7 hq7 hs m w8 hm8 hr8 hrm);rw[hRN] at hRR;have HRR:=Lh hRR;have HRV:=Lh hHRV2;clear hRN hRR hHRV2 hr8;go_wp2_with(go_at_call 28;(with_reducible refine(cC _ _).mono ?_);rintro e w9 ⟨rfl,h9⟩;obtain rfl:=h9.symm)
     refine HNN.out.mono ?_;rintro e w9 ⟨hb9,h9'⟩;have HX9:=Lh (HX8.out.step hb9 (.inr hz3));have HBp9:=Lh (eO HBp8.out hb9 oM HBp8.out.size);have hm9:aF w9 m:=hm8.bes hb9 hrm;have hs9:=hb9.size;have HO9:=Lh (HO8.out.grow (w':=w9) (S':=fun b=>w6.heap.size<=b/\b<w8.heap.size) (fun b h1 h2=>⟨h1,hb9.block b h2 oM⟩));clear hb9 HX8 HBp8 HNN hm8 HO8 b0 b1 b2 b3 b4 b5 b6 b7 bf;cases RN with
     |bad k =>
      have HRE:=Lh (show RV=.bad k from by
       have h1:=HRV.out;rw[<-HRR.out] at h1;exact h1.symm)
      have HX:=HX9;have HBp:=HBp9;obtain rfl:=h9';exact q279
     |good y =>
      obtain⟨⟨tk,tl,tn,ts⟩,aP⟩:=y;obtain⟨⟨v,rfl,tp,tq,rfl⟩,q9,hq9,rfl,hr9⟩:=h9';have HR9:=Lh hr9;have hl9:=hr9.lt;clear hr9;have HRR2:=HRR.out;dsimp only at HRR2;go_upto_region 9 with fail
      obtain⟨w10,hw10⟩:=eX (w9.alloc (.cells #[.int .i64 tk,.int .i64 tp,.int .i64 tq,.int .i64 tn,.string ⟨ts.toArray⟩] 81));have hb10:Below w9.heap.size w9 w10:=by rw[<-hw10];exact bel
      have T10:w10.heap[w9.heap.size]?=some (.cells #[.int .i64 tk,.int .i64 tp,.int .i64 tq,.int .i64 tn,.string ⟨ts.toArray⟩] 81 (0,0)):=by rw[<-hw10];exact aA _ _ _ rfl
      rw[hw10];have HX10:=Lh (HX9.out.step (Bes.of_below (r:=r) hb10) (.inr hz3));have HBp10:=Lh (HBp9.out.trans (hb10.mono HBp9.out.size));have hm10:aF w10 m:=hm9.below hb10;have HR10:=Lh (HR9.out.below hb10);have HO10:=Lh (HO9.out.grow (w':=w10) (S':=fun b=>w6.heap.size<=b/\b<w8.heap.size) (fun b h1 h2=>⟨h1,hb10.block b h2⟩));have hs10:=hb10.size;clear hw10 hb10 HX9 HBp9 hm9 HR9 HO9;obtain⟨t0,t1,t2,t3,t4,tf⟩:=eM T10;obtain⟨b0,b1,b2,b3,b4,b5,b6,b7,bf⟩:=fI HX10.out.c0;by_cases he:tk=5/\ts=kH
      ·obtain⟨rfl,rfl⟩:=he;have HRE:=Lh (show RV=.good (⟨num,gen,o⟩,s.data.toList.drop q9) from by
        have h1:=HRV.out;rw[<-HRR.out,bGV ⟨rfl,rfl⟩] at h1;exact h1.symm)
       have t4':w10.cell? ⟨w9.heap.size,4,none⟩=some (.string ⟨#[101,110,100,111,98,106]⟩):=t4;clear HRR2 HRR HRV t4;have k1:=HR10.out.cell1;obtain⟨C1,F1⟩:=eP HX10.out.c1;obtain⟨C2,F2⟩:=eP HX10.out.c2;go_upto_region 12 with fail
       have HXF:=HX10;have HBpF:=HBp10;have HOF:=HO10;have hQQ:=hq9;go_region
       all_goals go_wp2
       have Z0:=sK HXF.out.c0 (.int .i64 num) (.int .i64 gen) (.int .i64 o.kind) (.int .i64 o.n) (.int .i64 o.g) (.string ⟨o.s.toArray⟩) (.slice p1 n1 c1) (.slice p2 n2 c2);obtain⟨wa,hwa⟩:=eX (((((((((w10.setCell ⟨w.heap.size,0,none⟩ (.int .i64 num)).setCell ⟨w.heap.size,1,none⟩ (.int .i64 gen)).setCell ⟨w.heap.size,2,none⟩ (.int .i64 o.kind)).setCell ⟨w.heap.size,3,none⟩ (.int .i64 o.n)).setCell ⟨w.heap.size,4,none⟩ (.int .i64 o.g)).setCell ⟨w.heap.size,5,none⟩ (.string ⟨o.s.toArray⟩)).setCell ⟨w.heap.size,6,none⟩ (.slice p1 n1 c1)).setCell ⟨w.heap.size,7,none⟩ (.slice p2 n2 c2)));have hOa:∀j,j≠w.heap.size->wa.heap[j]?=w10.heap[j]?:=fun j hj=>by
        exact q530
       have hBa:Below w.heap.size w wa:=by
        exact q474
       rw[hwa] at Z0;rw[hwa];clear hwa;obtain⟨wb,hwb⟩:=eX (((wa.setCell ⟨w.heap.size+1,0,none⟩ (.int .i64 (q9:Nat))).setCell ⟨w.heap.size+1+1,0,none⟩ (.int .i64 0)).drew);have hOb:∀j,j≠w.heap.size->j≠w.heap.size+1->j≠w.heap.size+1+1->wb.heap[j]?=w10.heap[j]?:=fun j h1 h2 h3=>by
        exact q424
       have hBb:Below w.heap.size w wb:=by
        exact q448
       have hXb:mN wb w.heap.size (.int .i64 num) (.int .i64 gen) (.int .i64 o.kind) (.int .i64 o.n) (.int .i64 o.g) (.string ⟨o.s.toArray⟩) (.slice p1 n1 c1) (.slice p2 n2 c2) (.int .i64 (q9:Nat)) (.int .i64 0):=by
        exact q354
       have hOB:aI (fun b=>w.heap.size<=b) 25 wb (aB o.kind o.n o.g o.s (.slice p1 n1 c1) (.slice p2 n2 c2)) o:=HOF.out.grow (fun b h1 h2=>⟨oM,hOb b oM oM oM⟩);rw[hwb];have hXB:=Lh hXb;have hOBB:=Lh hOB;clear hwb hOa hOb hBa hOB;obtain⟨x0,x1,x2,x3,x4,x5,x6,x7,xf⟩:=fI hXb.c0;obtain⟨y1,_⟩:=eP hXb.c1;obtain⟨y2,_⟩:=eP hXb.c2;clear hXb;refine bGW (f:=25) (args:=#[.pointer (some ⟨w.heap.size+1+1,0,none⟩),.pointer (some ⟨w.heap.size,0,none⟩),.pointer (some ⟨w.heap.size+1,0,none⟩)]) sI q39 ?_;refine(tM _ _ _ _ y2).mono ?_;rintro e u' w'' ⟨rfl,rfl,rfl⟩;simp[Leaves,settle,results,results13,go_sem,x0,x1,x2,x3,x4,x5,x6,x7,xf,y1,y2];refine⟨hBb,?_⟩;rw[HRE.out];exact⟨_,_,_,_,_,_,q9,rfl,hOBB.out,hQQ,rfl⟩
      have HRR3:=HRR2;rw[bGU he] at HRR3;by_cases hst:tk=5/\ts=qT/\o.kind=7
      ·obtain⟨rfl,rfl,h7⟩:=hst;have t4':w10.cell? ⟨w9.heap.size,4,none⟩=some (.string ⟨#[115,116,114,101,97,109]⟩):=t4;have d7:(o.kind==7)=true:=q137;have htm:=oQ 25 24 _ o HO10.out HSM.out.2.1;obtain⟨RS,hRS⟩:=eX (iV o len (s.data.toList.drop q9));have HSS:=Lh (hRS▸aJA r s q9 hq9 hs m w10 hm10 HR10.out hrm _ 24 p1 p2 n1 c1 n2 c2 o HO10.out (fun b hb=>⟨oM,oM⟩) h7 HSM.out.2.1 HSM.out.1 htm len);have HRV2:=HRV.out;rw[<-HRR.out,bGU he,bGV ⟨rfl,rfl,h7⟩,hRS] at HRV2;have HRV:=Lh HRV2;clear HRR2 HRR3 HRR HRV2 he h7 htm hRS t4;go_wp2_with fail;refine HSS.out.mono ?_;rintro e w11 ⟨hb11,h11⟩;have HX11:=Lh (HX10.out.step hb11 (.inr hz3));have HBp11:=Lh (eO HBp10.out hb11 oM HBp10.out.size);have hs11:=hb11.size;clear hb11 HSS HX10 HBp10 HO10 HR10 hm10 t0 t1 t2 t3 t4' tf b0 b1 b2 b3 b4 b5 b6 b7 bf;cases RS with
       |bad k =>
        have HRE:=Lh (show RV=.bad k from HRV.out.symm);have HX:=HX11;have HBp:=HBp11;obtain rfl:=h11;exact q279
       |good y =>
        obtain⟨P,aP⟩:=y;obtain⟨⟨r1,k1,f1,r2,k2,f2,rfl,hO11⟩,q11,hq11,rfl,hr11⟩:=h11;have HRE:=Lh (show RV=.good (⟨num,gen,P⟩,s.data.toList.drop q11) from HRV.out.symm);have HO11:=Lh hO11;have HR11:=Lh hr11;have hl11:=hr11.lt;obtain⟨b0,b1,b2,b3,b4,b5,b6,b7,bf⟩:=fI HX11.out.c0;clear hO11 hr11 HRV;go_upto_region 12 with fail
        obtain⟨w12,hw12⟩:=eX ((((((w11.setCell ⟨w.heap.size,2,none⟩ (.int .i64 P.kind)).setCell ⟨w.heap.size,3,none⟩ (.int .i64 P.n)).setCell ⟨w.heap.size,4,none⟩ (.int .i64 P.g)).setCell ⟨w.heap.size,5,none⟩ (.string ⟨P.s.toArray⟩)).setCell ⟨w.heap.size,6,none⟩ (.slice r1 k1 f1)).setCell ⟨w.heap.size,7,none⟩ (.slice r2 k2 f2));rw[hw12];have hO12:∀j,j≠w.heap.size->w12.heap[j]?=w11.heap[j]?:=fun j hj=>by
         rw[<-hw12];iterate 6 rw[bGK _ _ _ _ q267]
        have hX12:mN w12 w.heap.size (.int .i64 num) (.int .i64 gen) (.int .i64 P.kind) (.int .i64 P.n) (.int .i64 P.g) (.string ⟨P.s.toArray⟩) (.slice r1 k1 f1) (.slice r2 k2 f2) (.int .i64 0) (.int .i64 0):=by
         refine⟨?_,(hO12 _ oM).trans HX11.out.c1,(hO12 _ oM).trans HX11.out.c2⟩;rw[<-hw12,aC (aC (aC (aC (aC (aC HX11.out.c0)))))];exact q390
        have HBpF:=Lh (show Below w.heap.size w w12 by
         rw[<-hw12];iterate 6 refine Below.setCell ?_ (bGB w.heap.size) _
         exact HBp11.out)
        have hz12:w12.heap.size=w11.heap.size:=by rw[<-hw12];simp[World.setCell]
        have hr12:RdY w12 r s q11:=(hO12 r oM).trans HR11.out;have HOF:=Lh (HO11.out.grow (w':=w12) (S':=fun b=>w6.heap.size<=b) (fun b h1 h2=>⟨oM,hO12 b oM⟩));clear hw12 hO12 HX11 HBp11 HR11 HO11 b0 b1 b2 b3 b4 b5 b6 b7 bf;have HXF:=Lh hX12;obtain⟨b0,b1,b2,b3,b4,b5,b6,b7,bf⟩:=fI hX12.c0;obtain⟨C1,F1⟩:=eP hX12.c1;obtain⟨C2,F2⟩:=eP hX12.c2;have k1':=hr12.cell1;have hQQ:=hq11;clear hX12 hr12;go_region
        all_goals go_wp2
        have Z0:=sK HXF.out.c0 (.int .i64 num) (.int .i64 gen) (.int .i64 P.kind) (.int .i64 P.n) (.int .i64 P.g) (.string ⟨P.s.toArray⟩) (.slice r1 k1 f1) (.slice r2 k2 f2);obtain⟨wa,hwa⟩:=eX (((((((((w12.setCell ⟨w.heap.size,0,none⟩ (.int .i64 num)).setCell ⟨w.heap.size,1,none⟩ (.int .i64 gen)).setCell ⟨w.heap.size,2,none⟩ (.int .i64 P.kind)).setCell ⟨w.heap.size,3,none⟩ (.int .i64 P.n)).setCell ⟨w.heap.size,4,none⟩ (.int .i64 P.g)).setCell ⟨w.heap.size,5,none⟩ (.string ⟨P.s.toArray⟩)).setCell ⟨w.heap.size,6,none⟩ (.slice r1 k1 f1)).setCell ⟨w.heap.size,7,none⟩ (.slice r2 k2 f2)));have hOa:∀j,j≠w.heap.size->wa.heap[j]?=w12.heap[j]?:=fun j hj=>by
         exact q530
        have hBa:Below w.heap.size w wa:=by
         exact q474
        rw[hwa] at Z0;rw[hwa];clear hwa;obtain⟨wb,hwb⟩:=eX (((wa.setCell ⟨w.heap.size+1,0,none⟩ (.int .i64 (q11:Nat))).setCell ⟨w.heap.size+1+1,0,none⟩ (.int .i64 0)).drew);have hOb:∀j,j≠w.heap.size->j≠w.heap.size+1->j≠w.heap.size+1+1->wb.heap[j]?=w12.heap[j]?:=fun j h1 h2 h3=>by
         exact q424
        have hBb:Below w.heap.size w wb:=by
         exact q448
        have hXb:mN wb w.heap.size (.int .i64 num) (.int .i64 gen) (.int .i64 P.kind) (.int .i64 P.n) (.int .i64 P.g) (.string ⟨P.s.toArray⟩) (.slice r1 k1 f1) (.slice r2 k2 f2) (.int .i64 (q11:Nat)) (.int .i64 0):=by
         exact q354
        have hOB:aI (fun b=>w.heap.size<=b) 25 wb (aB P.kind P.n P.g P.s (.slice r1 k1 f1) (.slice r2 k2 f2)) P:=HOF.out.grow (fun b h1 h2=>⟨oM,hOb b oM oM oM⟩);rw[hwb];have hXB:=Lh hXb;have hOBB:=Lh hOB;clear hwb hOa hOb hBa hOB;obtain⟨x0,x1,x2,x3,x4,x5,x6,x7,xf⟩:=fI hXb.c0;obtain⟨y1,_⟩:=eP hXb.c1;obtain⟨y2,_⟩:=eP hXb.c2;clear hXb;refine bGW (f:=25) (args:=#[.pointer (some ⟨w.heap.size+1+1,0,none⟩),.pointer (some ⟨w.heap.size,0,none⟩),.pointer (some ⟨w.heap.size+1,0,none⟩)]) sI q39 ?_;refine(tM _ _ _ _ y2).mono ?_;rintro e u' w'' ⟨rfl,rfl,rfl⟩;simp[Leaves,settle,results,results13,go_sem,x0,x1,x2,x3,x4,x5,x6,x7,xf,y1,y2];refine⟨hBb,?_⟩;rw[HRE.out];exact⟨_,_,_,_,_,_,q11,rfl,hOBB.out,hQQ,rfl⟩
      have HRE:=Lh (show RV=.bad 3 from by
       have h1:=HRV.out;rw[<-HRR.out,bGU he,bGU hst] at h1;exact h1.symm)
      have HX:=HX10;have HBp:=HBp10;clear HRR2 HRR3 HRR HRV;by_cases h5:tk=5
      ·subst h5;have hne:¬ts=kH:=fun h=>he ⟨rfl,h⟩
       have d1:(ts==[101,110,100,111,98,106])=false:=by simpa[kH] using hne
       by_cases hss:ts=qT
       ·have h7:¬o.kind=7:=fun h=>hst ⟨rfl,hss,h⟩
        have d7:(o.kind==7)=false:=q137;have d2:(ts==[115,116,114,101,97,109])=true:=by simpa[qT] using hss
        clear he hst hne hss h7;exact q573
       ·have d2:(ts==[115,116,114,101,97,109])=false:=by simpa[qT] using hss
        clear he hst hne hss;exact q573
      ·have d0:(tk==5)=false:=q136;clear he hst h5;exact q573
 ·rw[bGU (show¬(0<=a/\a<=(s.data.toList.length:Int)) from hin)] at hRV;have HRE:=Lh hRV.symm;have HFR:=Lh (fun W=>aQK s a oM W);clear hRV hin;obtain⟨w3,hw3⟩:=eX ((((w.alloc (.cells #[.int .i64 0,.int .i64 0,.int .i64 0,.int .i64 0,.int .i64 0,.string ⟨#[]⟩,.slice none 0 0,.slice none 0 0] 52)).alloc (.cells #[.int .i64 0] 3)).alloc (.cells #[.int .i64 0] 24)));have hX3:mN w3 w.heap.size (.int .i64 0) (.int .i64 0) (.int .i64 0) (.int .i64 0) (.int .i64 0) (.string ⟨#[]⟩) (.slice none 0 0) (.slice none 0 0) (.int .i64 0) (.int .i64 0):=by rw[<-hw3];exact mN.made w
  have hb3:Below w.heap.size w w3:=q126;have hz3:=bGJ hX3.c2;have hmf:∀(fn:Fn) (first cap:Array Value) (w:World),(Instr.makeFunc fn first cap).run prog w=.ok (.func fn first cap) w:=fun _ _ _ _=>rfl
  have HX:=Lh hX3;have HBp:=Lh hb3;clear hX3 hb3;go_enter_defers func13,ntmps13
  go_wp2_with(go_at_call 27;(with_reducible refine(HFR.out _).mono ?_);rintro e w9 ⟨rfl,h9⟩;obtain rfl:=h9.symm)
  exact q279
theorem aCM(s:ByteArray)(a:Nat)(ha:s.size<=a)(w:World) :
 Calls prog 6 #[.string s,.int .i64 a] w (CRd w a):=by
 have d0:decide ((s.size:Int)<=(a:Int))=true:=bGI oM;have d0':decide (s.size<=a)=true:=bGI ha;clear ha;go_enter func6,ntmps6
 go_wp2;refine bGN (v:=.tuple #[.agg #[.int .i64 0,.slice none 0 0,.int .i64 0,.int .i64 0,.int .i64 0,.string ⟨#[]⟩,.slice none 0 0,.slice none 0 0,.int .i64 0,.int .i64 0,.int .i64 0],.int .i64 21]) (by simp[results,results6,go_sem]) rfl ⟨?_,.inr ⟨⟨0,none,0,0,0,0,0,⟨#[]⟩,none,0,0,none,0,0,0,0,0⟩,21,rfl,dC⟩⟩;exact bel
theorem aCN(s:ByteArray)(a:Nat)(hpre:Lib.hasPrefix (s.data.toList.drop a) [120,114,101,102]=true)(ha:a<s.size)(hs:s.size<=100000000)(m:Int)(w:World)(hm:aF w m) :
 Calls prog 6 #[.string s,.int .i64 a] w (CRd w a):=by
 have HTR:Hid (∀(W:World),aF W m->Calls prog 12 #[.string s,.int .i64 a] W (TRd W a)):=Lh (fun W hW=>aSK s a hpre oM hs m W hW);have HB:=Lh (fun W=>dQ s ⟨#[120,114,101,102]⟩ a true hpre oM (show s.size<=maxLen from q26) W);have d1:decide ((s.size:Int)<=a)=false:=sO;clear hpre;go_enter func6,ntmps6
 go_wp2_with(go_at_call 11;refine(HB.out _).mono ?_;rintro e w9 ⟨rfl,h9⟩;obtain rfl:=h9.symm)
 refine(HTR.out _ (hm.below bel)).mono ?_;rintro e w2 ⟨hs2,hcase⟩;obtain⟨x,z,k,rfl,hx⟩:∃(x:bN) (z:Nat) (k:Int),e=.returned (.tuple #[.agg (aO.cells x).toArray,.int .i64 z,.int .i64 k])/\((k=0/\xF a x)\/k≠0):=by
  rcases hcase with⟨x,z,h1,h2⟩|⟨x,h1⟩
  ·exact⟨x,z,0,h1,.inl ⟨rfl,h2⟩⟩
  ·exact⟨x,0,19,h1,.inr dC⟩
 have hz2:=hs2.size;simp at hz2;have hbw2:Below w.heap.size w w2:=(show Below w.heap.size w (w.alloc (.cells #[.int .i64 0,.slice none 0 0,.int .i64 0,.int .i64 0,.int .i64 0,.string ⟨#[]⟩,.slice none 0 0,.slice none 0 0,.int .i64 0,.int .i64 0,.int .i64 0] 33)) from bel).trans (hs2.mono sI);have hX2:=(hs2.block w.heap.size sI).trans (aA w _ _ rfl);have HX:=Lh hx;clear hs2 hx HTR HB hcase;obtain⟨x0,sp,sn,sc,x2,x3,x4,x5,p1,n1,c1,p2,n2,c2,x8,x9,x10⟩:=x;unfold aO;dsimp only;go_upto_region 5 with fail
 obtain⟨w3,hw3⟩:=eX (w2.alloc (.cells #[.int .i64 x0,.slice sp sn sc,.int .i64 x2,.int .i64 x3,.int .i64 x4,.string x5,.slice p1 n1 c1,.slice p2 n2 c2,.int .i64 x8,.int .i64 x9,.int .i64 x10] 33));rw[hw3];have hb3:Below w2.heap.size w2 w3:=q126;have hY3:w3.heap[w2.heap.size]?=some (.cells #[.int .i64 x0,.slice sp sn sc,.int .i64 x2,.int .i64 x3,.int .i64 x4,.string x5,.slice p1 n1 c1,.slice p2 n2 c2,.int .i64 x8,.int .i64 x9,.int .i64 x10] 33 (0,0)):=q127;have hX3:=(hb3.block w.heap.size oM).trans hX2;have hz3:=hb3.size;have hbw3:Below w.heap.size w w3:=hbw2.trans (hb3.mono oM);have ne1:¬w2.heap.size=w.heap.size:=oM;have ne2:¬w.heap.size=w2.heap.size:=oM;clear hw3 hX2 hbw2 hb3;obtain⟨X0,X1,X2,X3,X4,X5,X6,X7,X8,X9,X10,Xf⟩:=aJ hX3;obtain⟨Y0,Y1,Y2,Y3,Y4,Y5,Y6,Y7,Y8,Y9,Y10,Yf⟩:=aJ hY3;go_wp2;refine bGN (v:=.tuple #[.agg #[.int .i64 x0,.slice sp sn sc,.int .i64 x2,.int .i64 x3,.int .i64 x4,.string x5,.slice p1 n1 c1,.slice p2 n2 c2,.int .i64 x8,.int .i64 x9,.int .i64 x10],.int .i64 k]) q180 rfl ?_;refine⟨?_,?_⟩
 ·exact q497
 ·exact q410
def lK(o:Ob):Prop:=cE 25 o/\aT 24 o=0/\o.s.length<=1048576
theorem aSV{o:Ob}(h1:cE 25 o)(h2:aT 24 o=0):lK o:=by
 refine⟨h1,h2,bGC ((dJ 23 o).1 h2).short ?_⟩;unfold gO;split
 ·decide
 ·split<;>decide
theorem xY{o:Ob}{data:L}(h:lK o)(h7:o.kind=7)(hd:data.length<=1048576):lK (iC o data):=by
 have hx:=wH (key:=bB) h.1;exact⟨⟨hx.1,hx.2.1,bGC hd dC,hx.2.2.2.1,hx.2.2.2.2⟩,wE h.2.1 h7 hd,hd⟩
theorem aKW{o o2:Ob}{n:Nat}{l r:L}(h:lK o)(h7:o.kind=7)(hn:n<=1048576)(ht:yU o n l=.good (o2,r)):lK o2:=by
 unfold yU at ht;split at ht
 ·cases ht
 ·split at ht
  ·cases ht
  ·cases ht;exact xY h h7 q170
theorem aCO{o o2:Ob}{len:Int}{l r:L}(h:lK o)(h7:o.kind=7)(ht:iV o len l=.good (o2,r)):lK o2:=by
 unfold iV at ht;split at ht
 ·cases ht
 ·split at ht
  ·cases ht
  ·split at ht
   ·cases ht
   ·split at ht
    ·cases ht
    ·exact aKW h h7 oM ht
theorem aKX{o o2:Ob}{len:Int}{l r:L}(h:lK o)(ht:wD o len l=.good (o2,r)):lK o2:=by
 unfold wD at ht;split at ht
 ·cases ht
 ·split at ht
  ·cases ht;exact h
  ·split at ht
   ·rename_i hc
    exact aCO h hc.2.2 ht
   ·cases ht
theorem aKY{s:L}{a len:Int}{i:It}{r:L}(h:tL s a len=.good (i,r)):lK i.ob:=by
 unfold tL at h;split at h
 ·unfold aEW at h;split at h
  ·cases h
  ·split at h
   ·cases h
   ·split at h
    ·cases h
    ·rename_i o r2 hr
     split at h
     ·cases h
     ·split at h
      ·cases h
      ·rename_i o2 r3 hrest
       cases h;obtain⟨h1,h2,_⟩:=rV hr;exact aKX (aSV h1 h2) hrest
 ·cases h
theorem xZ(s:ByteArray)(a:Nat)(hpre:Lib.hasPrefix (s.data.toList.drop a) [120,114,101,102]=false)(ha:a<s.size)(hs:s.size<=100000000)(m:Int)(w:World)(hm:aF w m)(htab:fX w w.heap.size) :
 Calls prog 6 #[.string s,.int .i64 a] w (CRd w a):=by
 obtain⟨R,hR⟩:=eX (tL s.data.toList a (-1));have HER:=Lh (fun k (h:R=.bad k)=>aAC (hR.trans h));have HGO:=Lh (fun i r (h:R=.good (i,r))=>aKY (hR.trans h));have HBR:Hid (∀(W:World),aF W m->Calls prog 13 #[.string s,.int .i64 a,.int .i64 (-1)] W (aZJ W s R)):=Lh (fun W hW=>by rw[<-hR];exact aZK s a (-1) oM m W hW);have HB:=Lh (fun W=>dQ s ⟨#[120,114,101,102]⟩ a false hpre oM (show s.size<=maxLen from q26) W);have d1:decide ((s.size:Int)<=a)=false:=sO;have HT:=Lh htab;clear hpre hR htab;go_enter func6,ntmps6
 go_wp2_with(go_at_call 11;refine(HB.out _).mono ?_;rintro e w9 ⟨rfl,h9⟩;obtain rfl:=h9.symm)
 refine(HBR.out _ (hm.below bel)).mono ?_;rintro e w2 ⟨hs2,hcase⟩;have hz2:=hs2.size;simp at hz2;have hbw2:Below w.heap.size w w2:=(show Below w.heap.size w (w.alloc (.cells #[.int .i64 0,.slice none 0 0,.int .i64 0,.int .i64 0,.int .i64 0,.string ⟨#[]⟩,.slice none 0 0,.slice none 0 0,.int .i64 0,.int .i64 0,.int .i64 0] 33)) from bel).trans (hs2.mono sI);have hX2:=(hs2.block w.heap.size sI).trans (aA w _ _ rfl);clear hs2 HBR HB;cases R with
 |bad k =>
  have hk:=HER.out k rfl;obtain rfl:=hcase;have dk:(k==0)=false:=q93;go_upto_region 7 with fail
  obtain⟨w3,hw3⟩:=eX (w2.alloc (.cells #[.int .i64 0,.int .i64 0,.int .i64 0,.int .i64 0,.int .i64 0,.string ⟨#[]⟩,.slice none 0 0,.slice none 0 0] 52));rw[hw3];have hb3:Below w2.heap.size w2 w3:=q126;have hX3:=(hb3.block w.heap.size oM).trans hX2;have hbw3:Below w.heap.size w w3:=hbw2.trans (hb3.mono oM);clear hw3 hX2 hbw2 hb3;obtain⟨X0,X1,X2,X3,X4,X5,X6,X7,X8,X9,X10,Xf⟩:=aJ hX3;go_wp2;refine bGN (v:=.tuple #[.agg #[.int .i64 0,.slice none 0 0,.int .i64 0,.int .i64 0,.int .i64 0,.string ⟨#[]⟩,.slice none 0 0,.slice none 0 0,.int .i64 0,.int .i64 0,.int .i64 0],.int .i64 k]) q180 rfl ⟨?_,.inr ⟨⟨0,none,0,0,0,0,0,⟨#[]⟩,none,0,0,none,0,0,0,0,0⟩,k,rfl,hk⟩⟩;exact q497
 |good y =>
  obtain⟨i,aP⟩:=y;obtain⟨hg1,hg2,hg3⟩:=HGO.out i aP rfl;obtain⟨q1,m1,k1,q2,m2,k2,z,rfl,hO,-,-⟩:=hcase;have htame:=oQ 25 24 _ i.ob hO hg2;have HCR:=Lh (fun(W:World) (hW:Below w2.heap.size w2 W)=>aSL (fun b=>b<w2.heap.size) 25 W q1 q2 m1 k1 m2 k2 i.ob (hO.grow (fun b _ h2=>⟨h2,hW.block b h2⟩)) htame (fun b h=>bGA h hW.size) i.num i.gen a hg1 oM (HT.out.next (hbw2.trans (hW.mono oM))));clear hO htame hg1 hg2 hg3 HT HER HGO;go_upto_region 9 with fail
  obtain⟨w3,hw3⟩:=eX (w2.alloc (.cells #[.int .i64 i.num,.int .i64 i.gen,.int .i64 i.ob.kind,.int .i64 i.ob.n,.int .i64 i.ob.g,.string ⟨i.ob.s.toArray⟩,.slice q1 m1 k1,.slice q2 m2 k2] 52));rw[hw3];have hb3:Below w2.heap.size w2 w3:=q126;have hI3:w3.heap[w2.heap.size]?=some (.cells #[.int .i64 i.num,.int .i64 i.gen,.int .i64 i.ob.kind,.int .i64 i.ob.n,.int .i64 i.ob.g,.string ⟨i.ob.s.toArray⟩,.slice q1 m1 k1,.slice q2 m2 k2] 52 (0,0)):=q127;have hX3:=(hb3.block w.heap.size oM).trans hX2;have hbw3:Below w.heap.size w w3:=hbw2.trans (hb3.mono oM);have hz3:=hb3.size;have HC3:=Lh (HCR.out w3 hb3);clear hw3 hX2 hbw2 hb3 HCR;obtain⟨i0,i1,i2,i3,i4,i5,i6,i7⟩:=jU hI3;go_wp2_with fail;refine HC3.out.mono ?_;rintro e w4 ⟨hb4,hcase⟩;obtain⟨x,k,rfl,hx⟩:∃(x:bN) (k:Int),e=.returned (.tuple #[.agg (aO.cells x).toArray,.int .i64 k])/\((k=0/\xF a x)\/k≠0):=by
   rcases hcase with⟨x,h1,h2⟩|⟨x,k,h1,h2⟩
   ·exact⟨x,0,h1,.inl ⟨rfl,h2⟩⟩
   ·exact⟨x,k,h1,.inr h2⟩
  have hX4:=(hb4.block w.heap.size oM).trans hX3;have hbw4:Below w.heap.size w w4:=hbw3.trans (hb4.mono oM);have HX:=Lh hx;clear hcase hx hb4 hX3 hI3 hbw3 HC3 i0 i1 i2 i3 i4 i5 i6 i7;obtain⟨x0,sp,sn,sc,x2,x3,x4,x5,p1,n1,c1,p2,n2,c2,x8,x9,x10⟩:=x;unfold aO;dsimp only;obtain⟨X0,X1,X2,X3,X4,X5,X6,X7,X8,X9,X10,Xf⟩:=aJ hX4;go_wp2;refine bGN (v:=.tuple #[.agg #[.int .i64 x0,.slice sp sn sc,.int .i64 x2,.int .i64 x3,.int .i64 x4,.string x5,.slice p1 n1 c1,.slice p2 n2 c2,.int .i64 x8,.int .i64 x9,.int .i64 x10],.int .i64 k]) q180 rfl ?_;refine⟨?_,?_⟩
  ·have hb:=hbw4;exact bel
  ·exact q410
theorem aCP(s:ByteArray)(a:Nat)(hs:s.size<=100000000)(m:Int)(w:World)(hm:aF w m)(htab:fX w w.heap.size) :
 Calls prog 6 #[.string s,.int .i64 a] w (CRd w a):=by
 by_cases ha:a<s.size
 ·cases hpre:Lib.hasPrefix (s.data.toList.drop a) [120,114,101,102] with
  |true=>exact aCN s a hpre ha hs m w hm
  |false=>exact xZ s a hpre ha hs m w hm htab
 ·exact aCM s a oM w
open Go.Maps
structure eV (w:World) (b:Nat) (s:ByteArray) (mb:Nat) (ks:List Int) (B:Nat) (v:Value) (vs:List bN):Prop where
 blk:w.heap[b]?=some (.cells #[.string s,.map (some mb),v] 46 (0,0))
 met:kA w mb ks.length ks
 row:aG aO 33 w B v vs
 lo:mb<b
 hi:b<B
 top:B<=w.heap.size
 ats:vs.map bN.at'=ks.reverse
 once:ks.Nodup
 few:ks.length<=64
theorem eV.len{w:World}{b:Nat}{s:ByteArray}{mb:Nat}{ks:List Int}{B:Nat}{v:Value}{vs:List bN}(h:eV w b s mb ks B v vs):vs.length=ks.length:=by
 have:=congrArg List.length h.ats;simpa using this
theorem eV.below{w w':World}{b:Nat}{s:ByteArray}{mb:Nat}{ks:List Int}{B:Nat}{v:Value}{vs:List bN}(h:eV w b s mb ks B v vs)(hb:Below w.heap.size w w'):eV w' b s mb ks B v vs :=
 ⟨(hb.block b (bGJ h.blk)).trans h.blk,h.met.below hb,h.row.below hb,h.lo,h.hi,bGC h.top hb.size,h.ats,h.once,h.few⟩
theorem eV.other{w w':World}{b:Nat}{s:ByteArray}{mb:Nat}{ks:List Int}{B:Nat}{v:Value}{vs:List bN}(h:eV w b s mb ks B v vs)(X:Nat)(h1:X≠b)(h2:X≠mb)(h3:v.ownBlock≠some X)(hsz:w.heap.size<=w'.heap.size)(hk:∀k,k<w.heap.size->k≠X->w'.heap[k]?=w.heap[k]?):eV w' b s mb ks B v vs:=by
 refine⟨(hk b (bGJ h.blk) (fun e=>h1 e.symm)).trans h.blk,h.met.kept (hk mb h.met.lt (fun e=>h2 e.symm)),?_,h.lo,h.hi,bGC h.top hsz,h.ats,h.once,h.few⟩;exact q414
def bDP(w:World)(b:Nat)(s:ByteArray)(mb:Nat)(ks:List Int)(B:Nat)(v:Value)(vs:List bN)(a:Nat)(e:Ending)(w':World):Prop :=
 Below mb w w'/\((∃(x:bN) (v':Value),e=.returned (.agg (aO.cells x).toArray)/\xF a x/\eV w' b s mb ((a:Int)::ks) B v' (vs++[x]) /\
  (∀k,k<w.heap.size->k≠b->k≠mb->v.ownBlock≠some k->w'.heap[k]?=w.heap[k]?/\v'.ownBlock≠some k)) \/
  (∃k:Int,k≠0/\e=.panicked [{ v:=.iface 65 (.int .i64 k),recovered:=false }]/\Below w.heap.size w w'))
theorem aKZ{w:World}{b:Nat}{s:ByteArray}{mb:Nat}{ks:List Int}{B:Nat}{lp:Option Addr}{lc:Nat}{vs:List bN}{a:Nat}(x:bN)(N yb:Nat)(w4 w5 W7:World)(g2 cap:Nat)(hN:vs.length=N)(H:eV w b s mb ks B (.slice lp N lc) vs)
 (hsi:xF a x) (hno:ks.contains (a:Int)=false) (hfew:ks.length<64) (hyb:w.heap.size+1<=yb) (hz4:yb+1<=w4.heap.size)
 (HK4:∀k,k<w.heap.size->k≠mb->w4.heap[k]?=w.heap[k]?)
 (HM4:kA w4 mb (ks.length+1) ((a:Int)::ks)) (hbw4:Below mb w w4)
 (hown5:w5.ownsRow B 33 11 (.slice (some ⟨g2,0,none⟩) (N+1) cap) (N+1) (aO.row vs++aO.cells x))
 (hgrow:(w4.alloc (.cells (aO.cells x).toArray 33)).grownBy w5 (Value.slice lp N lc).ownBlock)
 (hat:(Value.slice lp N lc).ownBlock=some g2\/g2=w4.heap.size+1)
 (w6:World) (hS1:eS b w5 w6) (hW6:w6.heap[b]?=some (.cells #[.string s,.map (some mb),.slice (some ⟨g2,0,none⟩) (N+1) cap] 46 (0,0)))
 (hS2:eS w.heap.size w6 W7) :
 bDP w b s mb ks B (.slice lp N lc) vs a (.returned (.agg (aO.cells x).toArray)) W7:=by
 have hkeep:=aK H.row;have hkl:=cM H.row;have hbz:=bGJ H.blk;have hos:=hS2.os.trans hS1.os;have htape:=hS2.tape.trans hS1.tape;have hout:=hS2.output.trans hS1.output;have hsize:=hS2.size.trans hS1.size;have hW:∀k,k≠b->k≠w.heap.size->W7.heap[k]?=w5.heap[k]?:=fun k h1 h2=>(hS2.block k h2).trans (hS1.block k h1)
 have hWb:=(hS2.block b oM).trans hW6;have hlo:=H.lo;have hhi:=H.hi;have htop:=H.top;have hmb:=H.met.lt;have hgs:=hgrow.size;simp only[World.size_alloc] at hgs;have hblk:∀k,k<w4.heap.size->(Value.slice lp N lc).ownBlock≠some k->w5.heap[k]?=w4.heap[k]?:=fun k h1 h2=>(hgrow.block k q249 (fun e=>h2 e.symm)).trans (bGM _ _ _ h1)
 have hg2:∀k,k<w.heap.size->(Value.slice lp N lc).ownBlock≠some k->(Value.slice (some ⟨g2,0,none⟩) (N+1) cap).ownBlock≠some k:=by
  exact q468
 have hkk:∀k,k<w.heap.size->k≠b->k≠mb->(Value.slice lp N lc).ownBlock≠some k->W7.heap[k]?=w.heap[k]?:=fun k h1 h2 h3 h4 =>
  (hW k h2 oM).trans ((hblk k oM h4).trans (HK4 k h1 h3))
 have hnk:∀k,w.heap.size<=k->(Value.slice lp N lc).ownBlock≠some k:=fun k h1 e=>by have:=hkl k e;omega
 have hg2n:∀k,w.heap.size<=k->k<yb->(Value.slice (some ⟨g2,0,none⟩) (N+1) cap).ownBlock≠some k:=by
  exact q462
 refine⟨?_,.inl ⟨x,_,rfl,hsi,⟨hWb,HM4.kept ((hW mb oM oM).trans (hblk mb oM (fun e=>by have:=hkeep _ e;omega))),?_,hlo,hhi,oM,?_,?_,sO⟩,fun k h1 h2 h3 h4=>⟨hkk k h1 h2 h3 h4,hg2 k h1 h4⟩⟩⟩;rotate_left
 ·exact q365
 ·rw[List.map_append,H.ats,List.reverse_cons];simp[hsi.1]
 ·refine List.nodup_cons.2 ⟨fun hm=>?_,H.once⟩;rw[List.contains_iff_mem.2 hm] at hno;cases hno
 ·exact q391
theorem aGP(w:World)(b:Nat)(s:ByteArray)(mb:Nat)(ks:List Int)(B:Nat)(v:Value)(vs:List bN)(h:eV w b s mb ks B v vs)(a:Int)(hwf:(Lit.int .i64 a).wf=true)(ha:ks.contains a=true) :
 Calls prog 22 #[.pointer (some ⟨b,0,none⟩),.int .i64 a] w (fun e w'=>e=.panicked [{ v:=.iface 65 (.int .i64 11),recovered:=false }]/\Below w.heap.size w w'):=by
 exact q350
theorem aSW(w:World)(b:Nat)(s:ByteArray)(mb:Nat)(ks:List Int)(B:Nat)(v:Value)(vs:List bN)(h:eV w b s mb ks B v vs)(a:Nat)(ha:a<=9223372036854775807)(hs:s.size<=100000000)(hk:ks.contains (a:Int)=false)
 (hv:vs.length<64) (m:Int) (hm:aF w m) (htab:fX w w.heap.size) :
 Calls prog 22 #[.pointer (some ⟨b,0,none⟩),.int .i64 a] w (bDP w b s mb ks B v vs a):=by
 have hwf:(Lit.int .i64 (a:Int)).wf=true:=q124;have HCS:=Lh (fun(W:World) hW=>aCP s a hs m W hW);have hbw:Below w.heap.size w (w.alloc (.cells #[.int .i64 0,.slice none 0 0,.int .i64 0,.int .i64 0,.int .i64 0,.string ⟨#[]⟩,.slice none 0 0,.slice none 0 0,.int .i64 0,.int .i64 0,.int .i64 0] 33)):=bel;have hlook:=(h.met.below hbw).look a hwf;rw[hk] at hlook;obtain⟨lp,lc,hvE⟩:∃lp lc,v=.slice lp vs.length lc:=by
  exact q452
 subst hvE;obtain⟨b0,b1,b2,bf⟩:=cT h.blk;have hlt:=bGJ h.blk;have hne:¬b=w.heap.size:=oM;have d1:decide ((64:Int)<=vs.length)=false:=sO;have H:=Lh h;have HTB:=Lh htab;clear h htab;go_enter func22,ntmps22
 go_wp2_with fail;refine(HCS.out _ (hm.below hbw) (HTB.out.next hbw)).mono ?_;rintro e w2 ⟨hb2,hcase⟩;have hz2:=hb2.size;simp at hz2;have hbw2:Below w.heap.size w w2:=hbw.trans (hb2.mono sI);have hX2:=(hb2.block w.heap.size sI).trans (aA w _ _ rfl);clear hb2 HCS hlook b0 b1 b2 bf hbw HTB;rcases hcase with⟨x,rfl,hx⟩|⟨x,k,rfl,hk0⟩
 rotate_left
 ·obtain⟨x0,sp,sn,sc,x2,x3,x4,x5,p1,n1,c1,p2,n2,c2,x8,x9,x10⟩:=x;unfold aO;dsimp only;have dk:(k==0)=false:=by simpa using hk0
  go_upto_region 6 with fail
  obtain⟨w3,hw3⟩:=eX (w2.alloc (.cells #[.int .i64 x0,.slice sp sn sc,.int .i64 x2,.int .i64 x3,.int .i64 x4,.string x5,.slice p1 n1 c1,.slice p2 n2 c2,.int .i64 x8,.int .i64 x9,.int .i64 x10] 33));rw[hw3];have hbw3:Below w.heap.size w w3:=hbw2.trans ((show Below w2.heap.size w2 w3 from q126).mono oM);clear hw3;go_wp2;have hlo:=H.out.lo;exact⟨rfl,hbw3.mono oM,.inr ⟨k,hk0,rfl,hbw3⟩⟩
 have HX:=Lh hx;clear hx;obtain⟨x0,sp,sn,sc,x2,x3,x4,x5,p1,n1,c1,p2,n2,c2,x8,x9,x10⟩:=x;unfold aO;dsimp only;go_upto_region 6 with fail
 obtain⟨w3,hw3⟩:=eX (w2.alloc (.cells #[.int .i64 x0,.slice sp sn sc,.int .i64 x2,.int .i64 x3,.int .i64 x4,.string x5,.slice p1 n1 c1,.slice p2 n2 c2,.int .i64 x8,.int .i64 x9,.int .i64 x10] 33));obtain⟨yb,hyb⟩:=eX (w2.heap.size);rw[hw3];simp only[hyb];have hb3:Below w2.heap.size w2 w3:=q126;have hY3:w3.heap[yb]?=some (.cells #[.int .i64 x0,.slice sp sn sc,.int .i64 x2,.int .i64 x3,.int .i64 x4,.string x5,.slice p1 n1 c1,.slice p2 n2 c2,.int .i64 x8,.int .i64 x9,.int .i64 x10] 33 (0,0)):=by rw[<-hw3];exact aA _ _ _ hyb.symm
 have hz3:yb+1=w3.heap.size:=by rw[<-hw3,<-hyb];simp
 have hX3:=(hb3.block w.heap.size oM).trans hX2;have hbw3:Below w.heap.size w w3:=hbw2.trans (hb3.mono oM);have hM3:=H.out.met.below hbw3;have hks:=H.out.few;obtain⟨w4,hrun4,hM4,hg4⟩:=hM3.upd a hwf q26;have hmb:mb<w.heap.size:=H.out.met.lt;have hlo:=H.out.lo;have hhi:=H.out.hi;have htop:=H.out.top;have hz4:=hg4.size;have hB3:=(hbw3.block b oM).trans H.out.blk;obtain⟨b0,b1,b2,bf⟩:=cT hB3;clear hw3 hX2 hM3;go_upto_region 9 with fail
 have hB4:=(hg4.block b oM sO).trans hB3;have hX4:=(hg4.block w.heap.size oM sO).trans hX3;have hY4:=(hg4.block yb oM sO).trans hY3;have hrow4:aG aO 33 w4 B (.slice lp vs.length lc) vs:=World.ownsRow.kept (H.out.row.below hbw3) hg4 (.inr (fun e=>by have:=aK H.out.row _ e;omega));have hbw4:Below mb w w4:=(hbw3.mono oM).grown hg4 oM (fun k hk=>by cases hk;exact bGB _);have HK4:=Lh (fun k (h1:k<w.heap.size) (h2:k≠mb)=>(hg4.block k oM q97).trans (hbw3.block k h1));have HM4:=Lh hM4;have HR4:=Lh hrow4;clear hg4 hb3 hX3 hY3 hbw3 hbw2 hrun4 hM4 hB3 b0 b1 b2 bf d1;obtain⟨i0,hi0,y0',y1',y2'⟩:=info_parts Tryz.infoSec;obtain⟨N,hN⟩:=eX (vs.length);rw[hN] at hrow4 hB4 hv;have hrow2:w4.ownsRow B 33 11 (.slice lp N lc) N (aO.row vs):=by have h:=hrow4;unfold aG at h;rw[hN] at h;exact h
 obtain⟨X0,X1,X2,X3,X4,X5,X6,X7,X8,X9,X10,Xf⟩:=aJ hX4;obtain⟨Y0,Y1,Y2,Y3,Y4,Y5,Y6,Y7,Y8,Y9,Y10,Yf⟩:=aJ hY4;obtain⟨b0,b1,b2,bf⟩:=cT hB4;have hm1:N+1<=maxLen:=q26;have hm2:(N+1)*144<=140737488355328:=oM;have hkeep:=aK hrow2;have hkl:=cM (w:=w) H.out.row;have lt0:b<w4.heap.size:=oM;have lt1:yb<w4.heap.size:=oM;have ne0:¬b=w4.heap.size:=oM;have ne1:¬yb=w4.heap.size:=oM
 go_region_law (refine step_append_lies _ (by rfl) _ _ _ (by rfl) B 33 i0 (.agg #[.int .i64 0,.slice none 0 0,.int .i64 0,.int .i64 0,.int .i64 0,.string ⟨#[]⟩,.slice none 0 0,.slice none 0 0,.int .i64 0,.int .i64 0,.int .i64 0]) 11 144 underlying23 hi0 y0' y1' y2' rfl oM (.slice lp N lc) N (aO.row vs) (by rfl) (hrow2.alloc _) ⟨w4.heap.size,0,none⟩ 1 1 [.int .i64 x0,.slice sp sn sc,.int .i64 x2,.int .i64 x3,.int .i64 x4,.string x5,.slice p1 n1 c1,.slice p2 n2 c2,.int .i64 x8,.int .i64 x9,.int .i64 x10] (by rfl) (by rfl) (World.news_of_block (cs:=#[.int .i64 x0,.slice sp sn sc,.int .i64 x2,.int .i64 x3,.int .i64 x4,.string x5,.slice p1 n1 c1,.slice p2 n2 c2,.int .i64 x8,.int .i64 x9,.int .i64 x10]) (t:=33) (fr:=(0,0)) (bGP w4 _)) (aO.one ⟨x0,sp,sn,sc,x2,x3,x4,x5,p1,n1,c1,p2,n2,c2,x8,x9,x10⟩) oM hm1 hm2 sO (w4.heap.size+1) sI ?_;intro g2 cap w5 hown5 hgrow hat hlt5;(have hB5:w5.heap[b]?=some (.cells #[.string s,.map (some mb),.slice lp N lc] 46 (0,0)):=(hgrow.block _ q262 (fun e=>by have:=hkeep _ e.symm;omega)).trans ((bGM _ _ _ lt0).trans hB4));obtain⟨s0',s1',s2',sf'⟩:=cT hB5)
 all_goals
  obtain⟨w6,hw6⟩:=eX (w5.setCell ⟨b,2,none⟩ (.slice (some ⟨g2,0,none⟩) (N+1) cap));rw[hw6];have hnk:∀k,w.heap.size<=k->(Value.slice lp N lc).ownBlock≠some k:=fun k h1 e=>by have:=hkl k (by rw[hN];exact e);omega
  have h65:∀k,k≠b->w6.heap[k]?=w5.heap[k]?:=fun k hk=>by rw[<-hw6];exact bGK _ _ _ _ hk
  have hgs:w4.heap.size+1<=w5.heap.size:=by have h:=hgrow.size;(try simp at h);omega
  have hX6:=(h65 w.heap.size oM).trans (((hgrow.block _ q262 (fun e=>hnk _ (bGB _) e.symm)).trans (bGM _ _ _ oM)).trans hX4);have hY6:=(h65 yb oM).trans (((hgrow.block _ q262 (fun e=>hnk yb oM e.symm)).trans (bGM _ _ _ oM)).trans hY4);have hb6:w6.heap[b]?=some (.cells #[.string s,.map (some mb),.slice (some ⟨g2,0,none⟩) (N+1) cap] 46 (0,0)):=by rw[<-hw6,aC hB5];rfl
  have hs6:w6.heap.size=w5.heap.size:=q164;have hS6:eS b w5 w6:=by rw[<-hw6];exact(eS.refl b w5).set _ _
  have o2':(w4.alloc (.cells #[.int .i64 x0,.slice sp sn sc,.int .i64 x2,.int .i64 x3,.int .i64 x4,.string x5,.slice p1 n1 c1,.slice p2 n2 c2,.int .i64 x8,.int .i64 x9,.int .i64 x10] 33)).grownBy w5 (Value.slice lp N lc).ownBlock:=⟨hgrow.os,hgrow.tape,hgrow.output,hgrow.size,hgrow.block⟩;have HO:=Lh (bGQ hown5 (bGQ o2' (bGQ hat (bGQ hS6 hb6))));have hlx:w.heap.size<w6.heap.size:=oM;have hly:yb<w6.heap.size:=oM;have nxy:¬yb=w.heap.size:=oM;have nyx:¬w.heap.size=yb:=oM;clear hw6 h65 hs6 hS6 o2' hb6 hown5 hgrow hat hlt5 hB5 hB4 hX4 hY4 hrow4 hrow2 hnk hgs X0 X1 X2 X3 X4 X5 X6 X7 X8 X9 X10 Xf Y0 Y1 Y2 Y3 Y4 Y5 Y6 Y7 Y8 Y9 Y10 Yf s0' s1' s2' sf' b0 b1 b2 bf;obtain⟨X0,X1,X2,X3,X4,X5,X6,X7,X8,X9,X10,Xf⟩:=aJ hX6;obtain⟨Y0,Y1,Y2,Y3,Y4,Y5,Y6,Y7,Y8,Y9,Y10,Yf⟩:=aJ hY6;go_wp2;refine bGN (v:=.agg #[.int .i64 x0,.slice sp sn sc,.int .i64 x2,.int .i64 x3,.int .i64 x4,.string x5,.slice p1 n1 c1,.slice p2 n2 c2,.int .i64 x8,.int .i64 x9,.int .i64 x10]) q263 rfl ?_;obtain⟨o1,o2,o3,o4,o5⟩:=HO.out;have H2:=H.out;rw[hN] at H2
  (try rw[hN])
  refine aKZ ⟨x0,sp,sn,sc,x2,x3,x4,x5,p1,n1,c1,p2,n2,c2,x8,x9,x10⟩ N yb w4 w5 _ g2 cap hN H2 HX.out hk (by have:=H2.len;omega) oM oM HK4.out HM4.out hbw4 o1 o2 o3 w6 o4 o5 ?_
  (repeat' (first|(with_reducible exact eS.refl _ _)|(with_reducible refine eS.set ?_ _ _)))
theorem aLA(w:World)(b:Nat)(s:ByteArray)(mb:Nat)(ks:List Int)(B:Nat)(v:Value)(vs:List bN)(h:eV w b s mb ks B v vs)(a:Int)(hwf:(Lit.int .i64 a).wf=true)(ha:ks.contains a=false)(hv:64<=vs.length) :
 Calls prog 22 #[.pointer (some ⟨b,0,none⟩),.int .i64 a] w (fun e w'=>e=.panicked [{ v:=.iface 65 (.int .i64 6),recovered:=false }]/\Below w.heap.size w w'):=by
 have hbw:Below w.heap.size w (w.alloc (.cells #[.int .i64 0,.slice none 0 0,.int .i64 0,.int .i64 0,.int .i64 0,.string ⟨#[]⟩,.slice none 0 0,.slice none 0 0,.int .i64 0,.int .i64 0,.int .i64 0] 33)):=bel;have hlook:=(h.met.below hbw).look a hwf;rw[ha] at hlook;obtain⟨lp,lc,hvE⟩:∃lp lc,v=.slice lp vs.length lc:=by
  exact q452
 subst hvE;obtain⟨b0,b1,b2,bf⟩:=cT h.blk;have hlt:=bGJ h.blk;have hne:¬b=w.heap.size:=oM;have d1:decide ((64:Int)<=vs.length)=true:=sO;have d2:decide (64<=vs.length)=true:=bGI hv;clear h hv;go_enter func22,ntmps22
 go_wp2;exact⟨rfl,rfl,hbw⟩
theorem aSX(w:World)(b:Nat)(s:ByteArray)(mb:Nat)(ks:List Int)(B:Nat)(v:Value)(vs:List bN)(h:eV w b s mb ks B v vs)(a:Int)(ha0:a<0)(hwf:(Lit.int .i64 a).wf=true)(ha:ks.contains a=false)(hv:vs.length<64) :
 Calls prog 22 #[.pointer (some ⟨b,0,none⟩),.int .i64 a] w (fun e w'=>e=.panicked [{ v:=.iface 65 (.int .i64 21),recovered:=false }]/\Below w.heap.size w w'):=by
 have HCS:=Lh (fun W=>qU s a ha0 W);have hbw:Below w.heap.size w (w.alloc (.cells #[.int .i64 0,.slice none 0 0,.int .i64 0,.int .i64 0,.int .i64 0,.string ⟨#[]⟩,.slice none 0 0,.slice none 0 0,.int .i64 0,.int .i64 0,.int .i64 0] 33)):=bel;have hlook:=(h.met.below hbw).look a hwf;rw[ha] at hlook;obtain⟨lp,lc,hvE⟩:∃lp lc,v=.slice lp vs.length lc:=by
  exact q452
 subst hvE;obtain⟨b0,b1,b2,bf⟩:=cT h.blk;have hlt:=bGJ h.blk;have hne:¬b=w.heap.size:=oM;have d1:decide ((64:Int)<=vs.length)=false:=sO;clear h ha0;go_enter func22,ntmps22
 go_wp2_with fail;refine(HCS.out _).mono ?_;rintro e w2 ⟨rfl,hb2⟩;have hbw2:Below w.heap.size w w2:=hbw.trans (hb2.mono sI);have hz2:=hbw2.size;clear hb2 HCS hlook b0 b1 b2 bf hbw;go_wp2;exact q469
def bFW(w:World)(b:Nat)(s:ByteArray)(mb:Nat)(ks:List Int)(B:Nat)(v:Value)(vs:List bN)(a:Int)(e:Ending)(w':World):Prop :=
 (∃(x:bN) (v':Value),e=.returned (.agg (aO.cells x).toArray)/\(x.at'=a∧-1<=x.prev/\x.prev<=2147483647∧-1<=x.hyb/\x.hyb<=2147483647)/\eV w' b s mb (a::ks) B v' (vs++[x]) /\
  (∀k,k<w.heap.size->k≠b->k≠mb->v.ownBlock≠some k->w'.heap[k]?=w.heap[k]?/\v'.ownBlock≠some k)/\Below mb w w') \/
 (∃k:Int,k≠0/\e=.panicked [{ v:=.iface 65 (.int .i64 k),recovered:=false }]/\Below w.heap.size w w')
theorem aSY(w:World)(b:Nat)(s:ByteArray)(mb:Nat)(ks:List Int)(B:Nat)(v:Value)(vs:List bN)(h:eV w b s mb ks B v vs)(a:Int)(hwf:(Lit.int .i64 a).wf=true)(ha:a<=9223372036854775807)(hs:s.size<=100000000)
 (m:Int) (hm:aF w m) (htab:fX w w.heap.size):Calls prog 22 #[.pointer (some ⟨b,0,none⟩),.int .i64 a] w (bFW w b s mb ks B v vs a):=by
 cases hk:ks.contains a with
 |true=>exact(aGP w b s mb ks B v vs h a hwf hk).mono (fun e w' hh=>.inr ⟨11,dC,hh.1,hh.2⟩)
 |false =>
  by_cases hv:vs.length<64
  ·by_cases h0:a<0
   ·exact(aSX w b s mb ks B v vs h a h0 hwf hk hv).mono (fun e w' hh=>.inr ⟨21,dC,hh.1,hh.2⟩)
   ·obtain⟨A,rfl⟩:∃A:Nat,a=A:=⟨a.toNat,oM⟩
    refine(aSW w b s mb ks B v vs h A oM hs hk hv m hm htab).mono (fun e w' hh=>?_);obtain⟨hb,⟨x,v',h1,h2,h3,h4⟩|⟨k,h1,h2,h3⟩⟩:=hh
    ·exact .inl ⟨x,v',h1,h2,h3,h4,hb⟩
    ·exact .inr ⟨k,h1,h2,h3⟩
  ·exact(aLA w b s mb ks B v vs h a hwf hk oM).mono (fun e w' hh=>.inr ⟨6,dC,hh.1,hh.2⟩)
def aZL(b:Nat)(w:World):Nat:=match w.cell? ⟨b,2,none⟩ with|some (.slice _ n _)=>64-n|_=>0
theorem aGQ{w:World}{b:Nat}{s:ByteArray}{mb:Nat}{ks:List Int}{B:Nat}{v:Value}{vs:List bN}(h:eV w b s mb ks B v vs):aZL b w=64-ks.length:=by
 obtain⟨p,c,e,_⟩:=aG.arg h.row;obtain⟨_,_,b2,_⟩:=cT h.blk;unfold aZL;rw[b2,e,h.len]
def AlN(w:World)(b:Nat)(s:ByteArray)(mb B:Nat)(a:Int)(g:Nat)(wr:World):Prop :=
 ∃(x:bN) (v:Value) (vs:List bN) (ks:List Int),wr.heap[g]?=some (.cells (aO.cells x).toArray 33 (0,0))/\wr.heap[w.heap.size]?=some (.cells #[.int .i64 0] 24 (0,0)) /\
  v.ownBlock≠some w.heap.size/\v.ownBlock≠some g/\w.heap.size<g/\Below mb w wr/\(-1<=x.prev/\x.prev<=2147483647∧-1<=x.hyb/\x.hyb<=2147483647)/\eV wr b s mb ks B v vs/\ks.getLast?=some a
def AlO(w:World)(b:Nat)(s:ByteArray)(mb B:Nat)(a:Int)(e:Ending)(w':World):Prop:=Below mb w w' /\
 ((∃k:Int,k≠0/\e=.returned (.int .i64 k))\/(e=.returned (.int .i64 0)/\∃(v:Value) (vs:List bN) (ks:List Int),eV w' b s mb ks B v vs/\ks.getLast?=some a))
theorem aAD{a:Int}(h1:-1<=a)(h2:a<=2147483647):(Lit.int .i64 a).wf=true:=q124
theorem aAE{ks:List Int}{a c:Int}(h:ks.getLast?=some a):(c::ks).getLast?=some a:=by rw[List.getLast?_cons,h];rfl
theorem aSZ(w:World)(b:Nat)(s:ByteArray)(mb B:Nat)(v:Value)(h:eV w b s mb [] B v [])(a:Int)(hwf:(Lit.int .i64 a).wf=true)(ha:a<=9223372036854775807)(hs:s.size<=100000000)(m:Int)(hm:aF w m)(hg:1<mb)(htab:fX w mb) :
 Calls prog 10 #[.pointer (some ⟨b,0,none⟩),.int .i64 a] w (AlO w b s mb B a):=by
 have hE0:=bGJ h.blk;have hmb:=h.met.lt;have hlo:=h.lo;have hhi:=h.hi;have htop:=h.top;have hov:v.ownBlock≠some w.heap.size:=fun e=>by have:=cM h.row _ e;omega
 have hbA:Below w.heap.size w (w.alloc (.cells #[.int .i64 0] 24)):=bel;have hEA:(w.alloc (.cells #[.int .i64 0] 24)).heap[w.heap.size]?=some (.cells #[.int .i64 0] 24 (0,0)):=aA _ _ _ rfl;have hmf:∀(fn:Fn) (first cap:Array Value) (w:World),(Instr.makeFunc fn first cap).run prog w=.ok (.func fn first cap) w:=fun _ _ _ _=>rfl
 have HMA:=Lh (fun(W:World) (v:Value) (vs:List bN) (ks:List Int) (hW:eV W b s mb ks B v vs) (hb:Below mb w W) (c:Int) (hc:(Lit.int .i64 c).wf=true) (hc2:c<=9223372036854775807)=>aSY W b s mb ks B v vs hW c hc hc2 hs m (hm.belowB hb hg) ((htab.below hb).low (by have:=hb.size;omega) (bGB _)));have HM1:=Lh (HMA.out _ v [] [] (h.below hbA) (hbA.mono oM) a hwf ha);clear h hwf ha hs hm hg htab;go_enter_defers func10,ntmps10
 go_wp2_with fail;refine HM1.out.mono ?_;rintro e w1 (⟨x,v1,rfl,hx,H1,hk1,hb1⟩|⟨k,hk,rfl,hb1⟩);rotate_left
 ·have hEE:=(hb1.block w.heap.size sI).trans hEA;have hBB:Below mb w w1:=(hbA.mono oM).trans (hb1.mono sO);clear HM1 hEA hbA hb1;have E0:w1.cell? ⟨w.heap.size,0,none⟩=some (.int .i64 0):=q268;have Ef:w1.frozen? ⟨w.heap.size,0,none⟩=false:=q269;exact q316
 obtain⟨hE1,hv1⟩:=hk1 w.heap.size sI oM oM hov;replace hE1:=hE1.trans hEA;have hz1:=hb1.size;simp at hz1;have hbw1:Below mb w w1:=(hbA.mono oM).trans hb1;have hv1g:v1.ownBlock≠some w1.heap.size:=fun e=>by have:=cM H1.row _ e;omega
 have HI1:=Lh (bGQ H1 (bGQ hv1 (bGQ hv1g (bGQ hbw1 (bGQ hE1 hx.2)))));clear hk1 HM1 hEA hbA H1 hv1 hv1g hbw1 hE1 hb1 hx;obtain⟨x0,sp,sn,sc,x2,x3,x4,x5,p1,n1,c1,p2,n2,c2,x8,x9,x10⟩:=x;unfold aO;dsimp only;go_wp2_with fail;go_loopw [5] (fun i wr=>∃g,i=.pointer (some ⟨g,0,none⟩)/\AlN w b s mb B a g wr) (fun i wr=>aZL b wr)
 case atStart =>
  obtain⟨q1,q2,q3,q4,q5,q6⟩:=HI1.out;have hb:Below w1.heap.size w1 (w1.alloc (.cells #[.int .i64 x0,.slice sp sn sc,.int .i64 x2,.int .i64 x3,.int .i64 x4,.string x5,.slice p1 n1 c1,.slice p2 n2 c2,.int .i64 x8,.int .i64 x9,.int .i64 x10] 33)):=bel;exact⟨w1.heap.size,rfl,⟨x0,sp,sn,sc,x2,x3,x4,x5,p1,n1,c1,p2,n2,c2,x8,x9,x10⟩,_,_,[a],aA _ _ _ rfl,(hb.block _ oM).trans q5,q2,q3,oM,q4.trans (hb.mono oM),q6,q1.below hb,rfl⟩
 case round =>
  clear HI1;obtain⟨g,rfl,x,v2,vs2,ks2,hG,hE,hv2,hv2g,hlg,hbr,hbx,HW,hlast⟩:=hrel;obtain⟨W1,hW1⟩:∃W1,W1=wr:=⟨_,rfl⟩
  have HPM:=Lh (aGQ HW);obtain⟨x0,sp,sn,sc,x2,x3,x4,x5,p1,n1,c1,p2,n2,c2,x8,x9,x10⟩:=x;unfold aO at hG;dsimp only at hG hbx;obtain⟨X0,X1,X2,X3,X4,X5,X6,X7,X8,X9,X10,Xf⟩:=aJ hG;have hgl:=bGJ hG;have hzr:=hbr.size;by_cases hh:0<=x9
  ·have dh:decide (0<=x9)=true:=bGI hh;have HMH:=Lh (HMA.out wr _ _ _ HW hbr x9 (aAD hbx.2.2.1 hbx.2.2.2) oM);clear HW;go_wp2_with fail;refine HMH.out.mono ?_;rintro e w2 (⟨y,v3,rfl,hy,H3,hk3,hb3⟩|⟨k,hk,rfl,hb3⟩);rotate_left
   ·have hEE:=(hb3.block w.heap.size oM).trans hE;have hBB:Below mb w w2:=hbr.trans (hb3.mono oM);clear HMH hb3 hG hE hbr X0 X1 X2 X3 X4 X5 X6 X7 X8 X9 X10 Xf;have E0:w2.cell? ⟨w.heap.size,0,none⟩=some (.int .i64 0):=q268;have Ef:w2.frozen? ⟨w.heap.size,0,none⟩=false:=q269;exact q316
   obtain⟨hE3,hv⟩:=hk3 w.heap.size oM oM oM hv2;obtain⟨hG3,hv3g⟩:=hk3 g oM oM oM hv2g;replace hE:=hE3.trans hE;replace hG:=hG3.trans hG;replace hbr:=hbr.trans hb3;replace hlast:=aAE (c:=x9) hlast;have HW:=H3;have hzr2:=hb3.size;clear X0 X1 X2 X3 X4 X5 X6 X7 X8 X9 X10 Xf hk3 hb3 hE3 hG3 HMH H3 hgl;obtain⟨X0,X1,X2,X3,X4,X5,X6,X7,X8,X9,X10,Xf⟩:=aJ hG;have hgl:=bGJ hG;obtain⟨y0,yp,yn,yc,y2,y3,y4,y5,q1,m1,k1,q2,m2,k2,y8,y9,y10⟩:=y;unfold aO;dsimp only;have hfd:∀W:World,(Instr.field 33 (.agg #[.int .i64 y0,.slice yp yn yc,.int .i64 y2,.int .i64 y3,.int .i64 y4,.string y5,.slice q1 m1 k1,.slice q2 m2 k2,.int .i64 y8,.int .i64 y9,.int .i64 y10]) 5).run prog W=.ok (.int .i64 y10) W:=fun _=>kR
   by_cases ho:y10=0
   ·subst ho;have hEE:=hE;have hBB:=hbr;clear hG hE hbr HW HMA hy hlast;have E0:w2.cell? ⟨w.heap.size,0,none⟩=some (.int .i64 0):=q268;have Ef:w2.frozen? ⟨w.heap.size,0,none⟩=false:=q269;have hEl:=bGJ hEE;go_wp2;refine bGW (f:=21) (args:=#[.pointer (some ⟨w.heap.size,0,none⟩)]) sI q39 ?_;refine(kX _ 20 0 _ _ E0 Ef).mono ?_;rintro e u' w'' ⟨rfl,rfl,rfl⟩;simp[Leaves,settle,results,results10,go_sem,E0,Ef,hEl];exact⟨hBB.setCell (p:=⟨w.heap.size,0,none⟩) q265 _,.inl ⟨20,dC,rfl⟩⟩
   ·have do':(y10==0)=false:=by simpa using ho
    exact q900
  ·have dh:decide (0<=x9)=false:=bGH hh;have hv:=hv2;obtain⟨w2,rfl⟩:∃w2,w2=wr:=⟨_,rfl⟩;obtain⟨v3,rfl⟩:∃v3,v3=v2:=⟨_,rfl⟩;exact q900
