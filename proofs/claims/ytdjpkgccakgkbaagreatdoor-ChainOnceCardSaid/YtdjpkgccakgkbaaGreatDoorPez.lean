/- Parts of the proof: FiH FiI FiJ FiK. -/
import Derived.Test.YtdjpkgccakgkbaaGreatDoorPeFiF
import Derived.Test.YtdjpkgccakgkbaaGreatDoorPew
import Derived.Test.YtdjpkgccakgkbaaGreatDoorPek
set_option linter.all false
set_option maxRecDepth 100000
set_option maxHeartbeats 8000000
section
variable{p:Prop}
theorem q250(h:p:=by have:=hW.size;omega):p:=h
theorem q251(h:p:=by rw[hx2];exact hRX):p:=h
theorem q252(h:p:=by rw[<-HV.out];unfold kW;rw[aSG hkl HRX.out];rfl):p:=h
theorem q253(h:p:=by rw[bGR,hal.out];rfl):p:=h
theorem q254(h:p:=by rw[<-HV.out];unfold kW;rw[hall,bGV rfl,HA]):p:=h
theorem q255(h:p:=by rw[<-hx,bGX,bGE hjl];rfl):p:=h
theorem q256(h:p:=by rw[<-HV.out,aSH hjl HRX.out];rfl):p:=h
theorem q257(h:p:=by rw[<-hacc2,bGR,hal.out,bHK]):p:=h
theorem q258(h:p:=by have:=HL2.out;rw[HM2.out] at this;omega):p:=h
theorem q259(h:p:=by rw[List.replicate_succ',<-List.append_assoc,hacc2];exact hr6):p:=h
theorem q260(h:p:=by show(4:Int)≠0;decide):p:=h
theorem q284(h:p:=by
 have hz1:=hbr.size;have HO:=Lh (fun(W:World) (hW:Below wr.heap.size wr W)=>bDE _ _ W q1 q2 m1 e1 m2 e2 x (O1.kept (fun b h=>hW.block b oM) _) (HTL.out x hxm) (fun b h=>q250));obtain⟨RX,hRX⟩:=eX (nG x);rw[hRX] at HO;have HRX:=Lh (show nG l[k]=RX from q251);have HRow:=Lh hrow;have HBr:=Lh hbr;clear hx hxm s1 O1 hR hx2 hrow hbr hRX;go_wp2_with fail;refine(HO.out _ (Below.alloc (bGL _ _) (bGB _) _)).mono ?_;rintro e w2 ⟨hb2,h2⟩;have HB2:=Lh (show Below wr.heap.size wr w2 from bHE (Below.alloc (bGL _ _) (bGB _) _) (hb2.mono sI));clear hb2 HO;cases RX with
 |bad j =>
  have HRE:=Lh (show V=.bad 10 from q252);obtain rfl:=h2;have hb:=HB8.out.trans ((HBr.out.trans (HB2.out.mono HBr.out.size)).mono HB8.out.size);refine⟨rfl,?_⟩;exact⟨hb,q161⟩
 |good p =>
  obtain⟨n1',n2'⟩:=aKM hkl HRX.out hall;have HS:=Lh (bGQ n1' n2');obtain rfl:=h2;clear HRX hkl n1' n2';have HRow2:=Lh (HRow.out.below HB2.out);have HBr2:=Lh (HBr.out.trans (HB2.out.mono HBr.out.size));have hz2:=HBr2.out.size;go_wp2_with(at_builtin;go_must (refine eE (E:=rT) rfl _ _ rfl underlying126 Tryz.infoPm rfl dC dC W8.heap.size _ acc p HRow2.out rfl rfl oM oM ?_);intro g6 q6 w6 hr6 hb6 hz6 hg6 hor6)
  go_roundw
  case rel=>exact⟨k+1,acc++[p],oM,q12,HS.out.1,Lh q227,Lh q253,q196,hr6,HBr2.out.trans (hb6.mono (bGB _))⟩
  all_goals (simp[intOf]<;>omega)):p:=h
theorem q285(h:p:=by
 have hz0:=HBr.out.size;have hz1:=hbq.size;have HO:=Lh (fun(W:World) (hW:Below wr.heap.size wr W)=>aRX _ _ W q1 q2 m1 e1 m2 e2 x (O1.kept (fun b h=>hW.block b oM) _) (HTL.out x hxm) (fun b h=>q250));obtain⟨RX,hRX⟩:=eX (dW x);rw[hRX] at HO;have HRX:=Lh (show dW l[j]=RX from q251);clear hx hxm s1 O1 hR hx2 hbq hRX;go_wp2_with fail;refine(HO.out _ (Below.alloc (bGL _ _) (bGB _) _)).mono ?_;rintro e w2 ⟨rfl,hb2⟩;have HB2:=Lh (show Below wr.heap.size wr w2 from bHE (Below.alloc (bGL _ _) (bGB _) _) (hb2.mono sI));clear hb2 HO;cases RX with
 |false =>
  have HRE:=Lh (show V=.bad 1 from q256);go_wp2_with fail;refine(mC _ _).mono ?_;rintro e w3 ⟨rfl,h3⟩;obtain rfl:=h3.symm;have hb:=HB8.out.trans ((HBr.out.trans ((HBq.out.trans (HB2.out.mono HBq.out.size)).mono HBr.out.size)).mono HB8.out.size);refine⟨rfl,?_⟩;exact⟨hb,q161⟩
 |true =>
  have HS:=Lh (aKN hjl HRX.out hall);clear HRX hjl;go_wp2_with fail;refine(dD _ _).mono ?_;rintro e w3 ⟨rfl,h3⟩;obtain rfl:=h3.symm;go_wp2_with fail;go_roundw
  case rel=>exact⟨j+1,oM,q12,HS.out,HBq.out.trans (HB2.out.mono HBq.out.size)⟩
  all_goals (simp[intOf]<;>omega)):p:=h
theorem q287(h:p:=by
 rw[hacc2] at hrow hvv;obtain⟨M2,hM2⟩:=eX (acc2.length);have hM3:M2<=many:=by rw[<-hM2,HL2.out];exact hm2
 rw[hM2] at hvv;subst hvv;have HRow2:=Lh hrow;have HBq2:=Lh hbq;have hz2:=hbq.size;have HM2:=Lh hM2;clear hrow hbq hM2;by_cases hend:M2<many
 ·go_wp2_with fail;refine(zU _).mono ?_;rintro e w2 ⟨rfl,hb2⟩;have HRow3:=Lh (HRow2.out.below hb2);have HB3:=Lh (HBq2.out.trans (hb2.mono HBq2.out.size));have hz3:=HB3.out.size;have HM4:=Lh (show acc2.length<=8192 by rw[HM2.out];omega);clear hb2;go_wp2_with(at_builtin;go_must (refine eE (E:=rT) rfl _ _ rfl underlying126 Tryz.infoPm rfl dC dC W8.heap.size _ acc2 uni HRow3.out rfl rfl (by have:=HM4.out;omega) oM ?_);intro g6 q6 w6 hr6 hb6 hz6 hg6 hor6)
  go_roundw
  case rel=>exact⟨m+1,q258,q259,HB3.out.trans (hb6.mono (bGB _))⟩
  all_goals (simp[aFQ,HM2.out];omega)
 ·go_wp2_with fail;go_ret
  have hb:=HB8.out.trans (HBq2.out.mono HB8.out.size);refine⟨hb,?_⟩;rw[<-HRE.out];have hm4:many-l.length=m:=by
   have:=HL2.out;rw[HM2.out] at this;rw[HN.out];omega
  rw[hm4,hacc2];exact⟨_,rfl,HRow2.out.low HB8.out.size⟩):p:=h
theorem q303(h:p:=by
 go_wp2;refine bGW (f:=95) (args:=#[.pointer (some ⟨w.heap.size+1,0,none⟩),.pointer (some ⟨w.heap.size+1+1,0,none⟩),.pointer (some ⟨w.heap.size+1+2,0,none⟩)]) sI q39 ?_;refine(aGF w.heap.size (w.heap.size+1) _ _ _ _ _ _ HX.out oM HBp.out.size).mono ?_;rintro e u' w'' ⟨rfl,rfl,hbf,C0,C1,C2⟩;simp[Leaves,settle,results,results67,go_sem,C0,C1,C2];exact⟨HBp.out.trans hbf,q161⟩):p:=h
theorem q345(h:p:=by
 with_reducible refine(mC _ _).mono ?_
 rintro e w2 ⟨rfl,h2⟩;obtain rfl:=h2.symm;have hb:=HB8.out.trans (HBr.out.mono HB8.out.size);refine⟨rfl,?_⟩;exact⟨hb,q161⟩):p:=h
theorem q402(h:p:=by
 have:=List.all_eq_true.1 h l[k] (bGG hk);rw[h5] at this;cases this):p:=h
theorem q422(h:p:=by all_goals (simp[intOf]<;>omega)):p:=h
theorem q427(h:p:=by exact⟨0,[],bGF _,rfl,rfl,Lh rfl,Lh rfl,bGB _,bF _ _,bGL _ _⟩):p:=h
theorem q467(h:p:=by exact⟨0,bGF _,rfl,rfl,bGL _ _⟩):p:=h
theorem q472(h:p:=by
 split at h
 ·cases h
 ·cases h;decide):p:=h
theorem q502(h:p:=by exact⟨0,oM,by simpa using HRowQ.out,HBQ.out⟩):p:=h
theorem q522(h:p:=by
 rw[List.take_succ,bGE hk,List.all_append,ha];simp[h5]):p:=h
theorem q541(h:p:=by show(3:Int)≠0;decide):p:=h
theorem q556(h:p:=by rw[hq] at hp;exact hp):p:=h
theorem q574(h:p:=by
 first
 |exfalso;omega
 | have hR:=HRW.out.kept (w':=wr) (fun b h => (HBr.out.trans (hbq.mono HBr.out.size)).block b h)
   have hjl:j<l.length:=by rw[HN.out];exact hjN
   obtain⟨b,off,hsp⟩:=hR.some q157;cases hsp;obtain⟨x,q1,m1,e1,q2,m2,e2,hx,hxm,s1,O1,f0,f1,f2,f3,f4,f5⟩:=eN hR HN.out j hjN;have hx2:l[j]=x:=q255;skip
   exact q285):p:=h
theorem q575(h:p:=by
 first
 |exfalso;omega
 | have hR:=HRW.out.kept (w':=wr) (fun b h => hbr.block b h)
   have hkl:k<l.length:=q224;obtain⟨b,off,hsp⟩:=hR.some q157;cases hsp;obtain⟨x,q1,m1,e1,q2,m2,e2,hx,hxm,s1,O1,f0,f1,f2,f3,f4,f5⟩:=eN hR HN.out k hkN;have hx2:l[k]=x:=q225;skip
   exact q284):p:=h
theorem q576(h:p:=by
 go_wp2_with(go_at_call 96;(with_reducible refine(mC _ _).mono ?_);rintro e w9 ⟨rfl,h9⟩;obtain rfl:=h9.symm)
 exact q303):p:=h
end
namespace Go.Proofs.YtdjpkgccakgkbaaGreatDoor
open Go.Proofs.Tryz
open Go.RowKit Fo
def bDN:Res Pm->Bool|.good _=>true|.bad _=>false
def bFS:Res Pm->Pm|.good p=>p|.bad _=>⟨1,1,1⟩
def rR(l:List Ob):Bool:=l.all fun x=>bDN (nG x)
def tZ(l:List Ob):List Pm:=l.map fun x=>bFS (nG x)
def uni:Pm:=⟨1,1,1⟩
def kW(l:List Ob)(many:Nat):Res (List Pm) :=
 if rR l then(if many<l.length then .bad 1 else if l.all dW then .good (tZ l++List.replicate (many-l.length) uni) else .bad 1) else .bad 10
def rS(o:Ob)(many:Nat):Res (List Pm):=match fE o xA with
 |none=>kW [] many
 |some f=>if f.kind=6 then kW f.kids many else if f.kind=7 then kW [f] many else .bad 10
def rT:Enc Pm:=⟨3,fun p=>[.int .i64 p.pred,.int .i64 p.colors,.int .i64 p.columns],fun _=>rfl,fun x u hu=>by simp only[List.mem_cons,List.not_mem_nil,or_false] at hu;rcases hu with rfl|rfl|rfl<;>rfl⟩
theorem Tryz.infoPm:(prog.info? 131).map (fun i=>(i.zero,i.size,i.bytes))=some (some (.agg #[.int .i64 0,.int .i64 0,.int .i64 0]),3,24):=kR
def bDF(w:World)(R:Res (List Pm))(e:Ending)(w':World):Prop:=Below w.heap.size w w'/\match R with
 |.good l=>∃v,e=.returned v/\aG rT 131 w' w.heap.size v l
 |.bad k=>e=.panicked [{ v:=.iface 161 (.agg #[.int .i64 k]),recovered:=false }]
theorem aKM{l:List Ob}{k:Nat}(hk:k<l.length){p:Pm}(h5:nG l[k]=.good p)(ha:rR (l.take k)=true):rR (l.take (k+1))=true/\tZ (l.take (k+1))=tZ (l.take k)++[p]:=by
 unfold rR tZ at *
 rw[List.take_succ,bGE hk];refine⟨?_,by rw[List.map_append];simp[h5,bFS]⟩;rw[List.all_append,ha];simp[h5,bDN]
theorem aSG{l:List Ob}{k:Nat}(hk:k<l.length){j:Int}(h5:nG l[k]=.bad j):rR l=false:=by
 cases h:rR l with
 |false=>rfl
 |true =>
  exact q402
theorem aKN{l:List Ob}{k:Nat}(hk:k<l.length)(h5:dW l[k]=true)(ha:(l.take k).all dW=true):(l.take (k+1)).all dW=true:=by
 exact q522
theorem aSH{l:List Ob}{k:Nat}(hk:k<l.length)(h5:dW l[k]=false):l.all dW=false:=by
 cases h:l.all dW with
 |false=>rfl
 |true =>
  exact q402
theorem aYW(S:Nat->Prop)(d:Nat)(w:World)(p1 p2:Option Addr)(n1 c1 n2 c2:Nat)(o:Ob)(h:aI S d w (aB o.kind o.n o.g o.s (.slice p1 n1 c1) (.slice p2 n2 c2)) o)(ht:cN d o)(hS:∀b,S b->b<w.heap.size)(many:Nat)(hm:many<=8192):Calls prog 99 #[.agg #[.int .i64 o.kind,.int .i64 o.n,.int .i64 o.g,.string ⟨o.s.toArray⟩,.slice p1 n1 c1,.slice p2 n2 c2],.int .i64 (many:Int)] w (bDF w (rS o many)):=by
 have HG:=Lh (fun(W:World) (hW:Below w.heap.size w W)=>rM S d W _ o xA (h.kept (fun b h=>hW.block b (hS b h)) d) ht (fun b h=>bGA (hS b h) hW.size));unfold aB at HG;unfold xA at HG;obtain⟨R,hR⟩:=eX (fE o xA);have HT:=Lh (fun x (hx:R=some x)=>rN ht (xB (hR.trans hx)));obtain⟨V,hV⟩:=eX (rS o many);rw[hV];unfold rS at hV;rw[hR] at hV;unfold xA at hR;rw[hR] at HG;have HV:=Lh hV;clear hV hR h ht hS;cases R with
 |none =>
  unfold eY at HG;have HV:=Lh (show kW [] many=V from HV.out);clear HT;go_enter func99,ntmps99
  go_wp2_with fail;refine(HG.out _ ?_).mono ?_
  ·exact bel
  rintro e w1 ⟨rfl,hb1⟩;have HB1:=Lh (show Below w.heap.size w w1 from bHE bel (hb1.mono sI));clear hb1 HG;go_upto_region 8 with fail
  obtain⟨W8,hW8⟩:=eX ((w1.alloc (.cells #[.int .i64 0,.int .i64 0,.int .i64 0,.string ⟨#[]⟩,.slice none 0 0,.slice none 0 0] 31)));have hg:Below w1.heap.size w1 W8:=by rw[<-hW8];exact bel
  have HB8:=Lh (HB1.out.trans (hg.mono HB1.out.size));obtain⟨l,hl⟩:∃l:List Ob,[]=l:=⟨_,rfl⟩
  have HRW:=Lh (show cF (fun b=>b<W8.heap.size) d W8 (.slice none 0 0) l from .inl ⟨hl.symm,_,_,rfl⟩);have HN:=Lh (show l.length=0 by rw[<-hl];rfl);have HTL:=Lh (show∀x∈l,cN d x by rw[<-hl];intro x hx;cases hx);have hN:0<=8192:=bGF _;rw[hl] at HV;rw[hW8];clear hW8 hg HB1 hl;go_wp2_with fail;go_loopw [32,8] (fun i v wr=>∃(k:Nat) (acc:List Pm),k<=0/\i=.int .i64 k/\rR (l.take k)=true/\Hid (acc=tZ (l.take k))/\Hid (acc.length=k)/\acc.length<=k/\aG rT 131 wr W8.heap.size v acc/\Below W8.heap.size W8 wr) (fun i _ _=>0-(intOf i).toNat)
  case atStart=>exact q427
  case round =>
   obtain⟨k,acc,hk,rfl,hall,hacc,hal,hal2,hrow,hbr⟩:=hrel;obtain⟨vp,vc,rfl⟩:=aH hrow;by_cases hkN:k<0
   ·exact q575
   ·have hkN2:k=0:=oM;subst hkN2;have HA:=hacc.out;rw[bHC (bGD HN.out)] at HA hall;have HV:=Lh (show(if many<l.length then Res.bad 1 else if l.all dW then .good (acc++List.replicate (many-l.length) uni) else .bad 1)=V by rw[<-HV.out];unfold kW;rw[hall,bGV rfl,HA]);have HRow:=Lh hrow;have HBr:=Lh hbr;clear HA hacc hall hrow hbr hkN hk;by_cases hmany:many<l.length
    ·have HRE:=Lh (show V=.bad 1 by rw[<-HV.out,bGV hmany]);rw[HN.out] at hmany;first
     |exfalso;omega
     | have dm : decide (0 ≤ many) = false:=decide_eq_false (by omega)
       go_wp2_with fail;exact q345
    ·have HV2:=HV.out;rw[bGU hmany] at HV2;rw[HN.out] at hmany;have HV:=Lh HV2;have dm:decide (0<=many)=true:=bGI oM;clear HV2;go_wp2_with fail;with_reducible refine(dD _ _).mono ?_
     rintro e w2 ⟨rfl,h2⟩;obtain rfl:=h2.symm;go_wp2_with fail;obtain⟨wA,hwA⟩:∃wA,wA=wr:=⟨_,rfl⟩
     subst hwA;try simp only[Int.cast_ofNat_Int]
     go_loopw [49] (fun i wq=>∃j:Nat,j<=0/\i=.int .i64 j/\(l.take j).all dW=true/\Below wA.heap.size wA wq) (fun i _=>0-(intOf i).toNat)
     case atStart=>exact q467
     case round =>
      obtain⟨j,hj,rfl,hall,hbq⟩:=hrel;have HBq:=Lh hbq;by_cases hjN:j<0
      ·exact q574
      ·have hjN2:j=0:=oM;subst hjN2;rw[bHC (bGD HN.out)] at hall;have HRE:=Lh (show Res.good (acc++List.replicate (many-l.length) uni)=V by rw[<-HV.out,hall];rfl);have HRowQ:=Lh (HRow.out.below hbq);have HBQ:=Lh (HBr.out.trans (hbq.mono HBr.out.size));clear hall hj hjN hbq HBq HRow HBr;go_wp2_with fail;obtain⟨wB,hwB⟩:∃wB,wB=wr:=⟨_,rfl⟩
       subst hwB;try simp only[Int.cast_ofNat_Int]
       go_loopw [8] (fun v wq=>∃m:Nat,0+m<=many/\aG rT 131 wq W8.heap.size v (acc++List.replicate m uni)/\Below W8.heap.size W8 wq) (fun v _=>many-aFQ v)
       case atStart=>exact q502
       case round =>
        obtain⟨m,hm2,hrow,hbq⟩:=hrel;obtain⟨vp2,vc2,hvv⟩:=aH hrow;obtain⟨acc2,hacc2⟩:=eX (acc++List.replicate m uni);have HL2:=Lh (show acc2.length=0+m from q257);exact q287
 |some f =>
  unfold eY at HG;have HTF:=Lh (HT.out f rfl);clear HT;by_cases h6:f.kind=6
  ·have d6:(f.kind==6)=true:=by simpa using h6
   obtain⟨l,hl⟩:=eX (f.kids);have HV:=Lh (show kW l many=V by rw[<-HV.out,<-hl];exact(bGV h6).symm);have HTL:=Lh (show∀x∈l,cN (d-1-1) x from fun x hx=>rN HTF.out (by rw[hl];exact hx));clear h6;go_enter func99,ntmps99
   go_wp2_with fail;refine(HG.out _ ?_).mono ?_
   ·exact bel
   rintro e w1 ⟨sp,sc,sp2,sc2,rfl,hO,hb1⟩;have HB1:=Lh (show Below w.heap.size w w1 from bHE bel (hb1.mono sI));have HK:=Lh (xC hO).1;clear hb1 HG hO;go_upto_region 8 with fail
   obtain⟨W8,hW8⟩:=eX (((w1.alloc (.cells #[.int .i64 f.kind,.int .i64 f.n,.int .i64 f.g,.string ⟨f.s.toArray⟩,.slice sp f.keys.length sc,.slice sp2 l.length sc2] 31)).alloc (.cells #[.int .i64 f.kind,.int .i64 f.n,.int .i64 f.g,.string ⟨f.s.toArray⟩,.slice sp f.keys.length sc,.slice sp2 l.length sc2] 31)));have hg:Below w1.heap.size w1 W8:=by rw[<-hW8];exact bel
   have HB8:=Lh (HB1.out.trans (hg.mono HB1.out.size));rw[hl] at HK;have HRW:=Lh (HK.out.grow (S':=fun b=>b<W8.heap.size) (w':=W8) (fun b _ hb=>⟨bGA hb hg.size,hg.block b hb⟩));have hN:l.length<=8192:=by
    have:=HTF.out;rw[<-hl];exact q479
   obtain⟨N,hN2⟩:=eX (l.length);rw[hW8];rw[hN2] at HRW hN ⊢;have HN:=Lh hN2;clear hW8 hg HK HB1 hN2 HTF d6 hl;go_wp2_with fail;go_loopw [32,8] (fun i v wr=>∃(k:Nat) (acc:List Pm),k<=N/\i=.int .i64 k/\rR (l.take k)=true/\Hid (acc=tZ (l.take k))/\Hid (acc.length=k)/\acc.length<=k/\aG rT 131 wr W8.heap.size v acc/\Below W8.heap.size W8 wr) (fun i _ _=>N-(intOf i).toNat)
   case atStart=>exact q427
   case round =>
    obtain⟨k,acc,hk,rfl,hall,hacc,hal,hal2,hrow,hbr⟩:=hrel;obtain⟨vp,vc,rfl⟩:=aH hrow;by_cases hkN:k<N
    ·exact q575
    ·have hkN2:k=N:=oM;subst hkN2;have HA:=hacc.out;rw[bHC (bGD HN.out)] at HA hall;have HV:=Lh (show(if many<l.length then Res.bad 1 else if l.all dW then .good (acc++List.replicate (many-l.length) uni) else .bad 1)=V by rw[<-HV.out];unfold kW;rw[hall,bGV rfl,HA]);have HRow:=Lh hrow;have HBr:=Lh hbr;clear HA hacc hall hrow hbr hkN hk;by_cases hmany:many<l.length
     ·have HRE:=Lh (show V=.bad 1 by rw[<-HV.out,bGV hmany]);rw[HN.out] at hmany;first
      |exfalso;omega
      | have dm : decide (k ≤ many) = false:=decide_eq_false (by omega)
        go_wp2_with fail;exact q345
     ·have HV2:=HV.out;rw[bGU hmany] at HV2;rw[HN.out] at hmany;have HV:=Lh HV2;have dm:decide (k<=many)=true:=bGI oM;clear HV2;go_wp2_with fail;with_reducible refine(dD _ _).mono ?_
      rintro e w2 ⟨rfl,h2⟩;obtain rfl:=h2.symm;go_wp2_with fail;obtain⟨wA,hwA⟩:∃wA,wA=wr:=⟨_,rfl⟩
      subst hwA;try simp only[Int.cast_ofNat_Int]
      go_loopw [49] (fun i wq=>∃j:Nat,j<=k/\i=.int .i64 j/\(l.take j).all dW=true/\Below wA.heap.size wA wq) (fun i _=>k-(intOf i).toNat)
      case atStart=>exact q467
      case round =>
       obtain⟨j,hj,rfl,hall,hbq⟩:=hrel;have HBq:=Lh hbq;by_cases hjN:j<k
       ·exact q574
       ·have hjN2:j=k:=oM;subst hjN2;rw[bHC (bGD HN.out)] at hall;have HRE:=Lh (show Res.good (acc++List.replicate (many-l.length) uni)=V by rw[<-HV.out,hall];rfl);have HRowQ:=Lh (HRow.out.below hbq);have HBQ:=Lh (HBr.out.trans (hbq.mono HBr.out.size));clear hall hj hjN hbq HBq HRow HBr;go_wp2_with fail;obtain⟨wB,hwB⟩:∃wB,wB=wr:=⟨_,rfl⟩
        subst hwB;try simp only[Int.cast_ofNat_Int]
        go_loopw [8] (fun v wq=>∃m:Nat,j+m<=many/\aG rT 131 wq W8.heap.size v (acc++List.replicate m uni)/\Below W8.heap.size W8 wq) (fun v _=>many-aFQ v)
        case atStart=>exact q502
        case round =>
         obtain⟨m,hm2,hrow,hbq⟩:=hrel;obtain⟨vp2,vc2,hvv⟩:=aH hrow;obtain⟨acc2,hacc2⟩:=eX (acc++List.replicate m uni);have HL2:=Lh (show acc2.length=j+m from q257);exact q287
  ·have d6:(f.kind==6)=false:=by simpa using h6
   have HV2:=HV.out;dsimp only at HV2;rw[bGU h6] at HV2;have HV:=Lh HV2;clear HV2 h6;by_cases h7:f.kind=7
   ·have d7:(f.kind==7)=true:=q137;have HV:=Lh (show kW [f] many=V by rw[<-HV.out];exact(bGV h7).symm);clear h7;go_enter func99,ntmps99
    go_wp2_with fail;refine(HG.out _ ?_).mono ?_
    ·exact bel
    rintro e w1 ⟨sp,sc,sp2,sc2,rfl,hO,hb1⟩;have HB1:=Lh (show Below w.heap.size w w1 from bHE bel (hb1.mono sI));have HK:=Lh hO;clear hb1 HG hO;go_upto_region 8 with(go_at_call 96;(with_reducible refine(dD _ _).mono ?_);rintro e w9 ⟨rfl,h9⟩;obtain rfl:=h9.symm)
    obtain⟨W8,hW8⟩:=eX (((w1.alloc (.cells #[.int .i64 f.kind,.int .i64 f.n,.int .i64 f.g,.string ⟨f.s.toArray⟩,.slice sp f.keys.length sc,.slice sp2 f.kids.length sc2] 31)).alloc (.cells #[.int .i64 f.kind,.int .i64 f.n,.int .i64 f.g,.string ⟨f.s.toArray⟩,.slice sp f.keys.length sc,.slice sp2 f.kids.length sc2] 31)));have hg:Below w1.heap.size w1 W8:=by rw[<-hW8];exact bel
    have HB8:=Lh (HB1.out.trans (hg.mono HB1.out.size));have HRW:=Lh (aNG (S:=fun b=>b<W8.heap.size) (d:=d-1) (w:=W8) (b:=w1.heap.size+1) (c:=1) (f:=f) (kv:=.slice sp f.keys.length sc) (dv:=.slice sp2 f.kids.length sc2) (by rw[<-hW8];exact heap_alloc2_new w1 _ _) (by rw[<-hW8];simp) (HK.out.grow2 (fun b _ hb=>⟨bGA hb hg.size,hg.block b hb⟩)));have HN:=Lh (show[f].length=1 from rfl);have HTL:=Lh (show∀x∈[f],cN (d-1) x from fun x hx=>by simp only[List.mem_cons,List.not_mem_nil,or_false] at hx;subst hx;exact HTF.out);have hN:1<=8192:=dC;rw[hW8];clear hW8 hg HK HB1 HTF d6 d7;obtain⟨l,hl⟩:=eX ([f]);rw[hl] at HRW HN HV HTL;clear hl;go_wp2_with fail;go_loopw [32,8] (fun i v wr=>∃(k:Nat) (acc:List Pm),k<=1/\i=.int .i64 k/\rR (l.take k)=true/\Hid (acc=tZ (l.take k))/\Hid (acc.length=k)/\acc.length<=k/\aG rT 131 wr W8.heap.size v acc/\Below W8.heap.size W8 wr) (fun i _ _=>1-(intOf i).toNat)
    case atStart=>exact q427
    case round =>
     obtain⟨k,acc,hk,rfl,hall,hacc,hal,hal2,hrow,hbr⟩:=hrel;obtain⟨vp,vc,rfl⟩:=aH hrow;by_cases hkN:k<1
     ·first
      |exfalso;omega
      | have hR:=HRW.out.kept (w':=wr) (fun b h => hbr.block b h)
        have hkl:k<l.length:=q224;obtain⟨b,off,hsp⟩:=hR.some q157;cases hsp;obtain⟨x,q1,m1,e1,q2,m2,e2,hx,hxm,s1,O1,f0,f1,f2,f3,f4,f5⟩:=eN hR HN.out k hkN;have hx2:l[k]=x:=q225;simp only[Nat.zero_add] at f0 f1 f2 f3 f4 f5;exact q284
     ·have hkN2:k=1:=oM;subst hkN2;have HA:=hacc.out;rw[bHC (bGD HN.out)] at HA hall;have HV:=Lh (show(if many<l.length then Res.bad 1 else if l.all dW then .good (acc++List.replicate (many-l.length) uni) else .bad 1)=V by rw[<-HV.out];unfold kW;rw[hall,bGV rfl,HA]);have HRow:=Lh hrow;have HBr:=Lh hbr;clear HA hacc hall hrow hbr hkN hk;by_cases hmany:many<l.length
      ·have HRE:=Lh (show V=.bad 1 by rw[<-HV.out,bGV hmany]);rw[HN.out] at hmany;first
       |exfalso;omega
       | have dm : decide ((1 : Int) ≤ (many : Int)) = false:=decide_eq_false (by omega)
         go_wp2_with fail;exact q345
      ·have HV2:=HV.out;rw[bGU hmany] at HV2;rw[HN.out] at hmany;have HV:=Lh HV2;have dm:decide ((1:Int)<=(many:Int))=true:=bGI oM;clear HV2;go_wp2_with fail;with_reducible refine(dD _ _).mono ?_
       rintro e w2 ⟨rfl,h2⟩;obtain rfl:=h2.symm;go_wp2_with fail;obtain⟨wA,hwA⟩:∃wA,wA=wr:=⟨_,rfl⟩
       subst hwA;try simp only[Int.cast_ofNat_Int]
       go_loopw [49] (fun i wq=>∃j:Nat,j<=1/\i=.int .i64 j/\(l.take j).all dW=true/\Below wA.heap.size wA wq) (fun i _=>1-(intOf i).toNat)
       case atStart=>exact q467
       case round =>
        obtain⟨j,hj,rfl,hall,hbq⟩:=hrel;have HBq:=Lh hbq;by_cases hjN:j<1
        ·first
         |exfalso;omega
         | have hR:=HRW.out.kept (w':=wr) (fun b h => (HBr.out.trans (hbq.mono HBr.out.size)).block b h)
           have hjl:j<l.length:=by rw[HN.out];exact hjN
           obtain⟨b,off,hsp⟩:=hR.some q157;cases hsp;obtain⟨x,q1,m1,e1,q2,m2,e2,hx,hxm,s1,O1,f0,f1,f2,f3,f4,f5⟩:=eN hR HN.out j hjN;have hx2:l[j]=x:=q255;simp only[Nat.zero_add] at f0 f1 f2 f3 f4 f5;exact q285
        ·have hjN2:j=1:=oM;subst hjN2;rw[bHC (bGD HN.out)] at hall;have HRE:=Lh (show Res.good (acc++List.replicate (many-l.length) uni)=V by rw[<-HV.out,hall];rfl);have HRowQ:=Lh (HRow.out.below hbq);have HBQ:=Lh (HBr.out.trans (hbq.mono HBr.out.size));clear hall hj hjN hbq HBq HRow HBr;go_wp2_with fail;obtain⟨wB,hwB⟩:∃wB,wB=wr:=⟨_,rfl⟩
         subst hwB;try simp only[Int.cast_ofNat_Int]
         go_loopw [8] (fun v wq=>∃m:Nat,1+m<=many/\aG rT 131 wq W8.heap.size v (acc++List.replicate m uni)/\Below W8.heap.size W8 wq) (fun v _=>many-aFQ v)
         case atStart=>exact q502
         case round =>
          obtain⟨m,hm2,hrow,hbq⟩:=hrel;obtain⟨vp2,vc2,hvv⟩:=aH hrow;obtain⟨acc2,hacc2⟩:=eX (acc++List.replicate m uni);have HL2:=Lh (show acc2.length=1+m from q257);exact q287
   ·have d7:(f.kind==7)=false:=q137;have HRE:=Lh (show V=.bad 10 by rw[<-HV.out];exact bGU h7);clear h7;go_enter func99,ntmps99
    go_wp2_with fail;refine(HG.out _ ?_).mono ?_
    ·exact bel
    rintro e w1 ⟨sp,sc,sp2,sc2,rfl,hO,hb1⟩;exact q379
def mV(l:List L):Bool:=l.all fun n=>(iR n).isSome
def iB(l:List L):List L:=l.map fun n=>(iR n).getD []
def ofF(o:Ob):Res (List L×List Pm) :=
 if o.kind≠9 then .bad 10 else
 match aGA o with
 |.bad _=>.bad 10
 |.good l =>
  if 8<l.length then .bad 6 else if mV l then
   match rS o l.length with
   |.bad k=>.bad k
   |.good ps=>if ps.all fY then .good (iB l,ps) else .bad 1
  else .bad 15
theorem aYX{n f:L}(h:iR n=some f):f≠[]:=by
 unfold iR at h;repeat' (split at h)
 all_goals (first|(cases h;done)|skip)
 all_goals (cases h)
 all_goals (intro e)
 all_goals (first|(cases e;done)|skip)
 all_goals (subst e;simp_all [pF,aNB,lI,aCG,pG,aNC,aYO,bCT])
theorem sX{l:List Ob}{many:Nat}{ps:List Pm}(h:kW l many=.good ps):ps.length=many:=by
 unfold kW at h;split at h
 ·split at h
  ·cases h
  ·split at h
   ·cases h;rw[bGR,bHK];unfold tZ;rw[List.length_map];omega
   ·cases h
 ·cases h
theorem zX{o:Ob}{many:Nat}{ps:List Pm}(h:rS o many=.good ps):ps.length=many:=by
 unfold rS at h;split at h
 ·exact sX h
 ·split at h
  ·exact sX h
  ·split at h
   ·exact sX h
   ·cases h
theorem aKO{l:List L}{k:Nat}(hk:k<l.length){f:L}(h5:iR l[k]=some f)(ha:mV (l.take k)=true):mV (l.take (k+1))=true/\iB (l.take (k+1))=iB (l.take k)++[f]:=by
 unfold mV iB at *
 rw[List.take_succ,bGE hk];refine⟨?_,by rw[List.map_append];simp[h5]⟩;rw[List.all_append,ha];simp[h5]
theorem aSI{l:List L}{k:Nat}(hk:k<l.length)(h5:iR l[k]=none):mV l=false:=by
 cases h:mV l with
 |false=>rfl
 |true =>
  exact q402
theorem aYY{l:List Pm}{k:Nat}(hk:k<l.length)(h5:fY l[k]=true)(ha:(l.take k).all fY=true):(l.take (k+1)).all fY=true:=by
 exact q522
theorem bDG{l:List Pm}{k:Nat}(hk:k<l.length)(h5:fY l[k]=false):l.all fY=false:=by
 cases h:l.all fY with
 |false=>rfl
 |true =>
  exact q402
theorem aCL{t:TypeId}{w:World}{B:Nat}{p:Option Addr}{n c:Nat}{l:List L}(h:aG uJ t w B (.slice p n c) l)(k:Nat)(hk:k<l.length) :
 ∃g,p=some ⟨g,0,none⟩/\B<=g/\g<w.heap.size/\w.cell? ⟨g,k,none⟩=some (.string ⟨l[k].toArray⟩):=by
 obtain⟨p',c',e,hc⟩:=h.arg;cases e;obtain⟨g,off,h1,h2,h3⟩:=hc k hk;subst h1;have hb:B<=g:=aK h g q132;have h4:=h3 0 _ rfl;rcases h.2 with⟨h5,_⟩|⟨g2,cap,cur,h5,_⟩
 ·cases h5
 ·cases h5;simp only[uJ,Nat.mul_one,Nat.add_zero,Nat.zero_add] at h4;exact⟨g,rfl,hb,h2,h4⟩
theorem aYZ{t:TypeId}{w:World}{B:Nat}{p:Option Addr}{n c:Nat}{l:List Pm}(h:aG rT t w B (.slice p n c) l)(k:Nat)(hk:k<l.length) :
 ∃g,p=some ⟨g,0,none⟩/\B<=g/\g<w.heap.size/\w.cell? ⟨g,k*3,none⟩=some (.int .i64 l[k].pred)/\w.cell? ⟨g,k*3+1,none⟩=some (.int .i64 l[k].colors)/\w.cell? ⟨g,k*3+2,none⟩=some (.int .i64 l[k].columns):=by
 obtain⟨p',c',e,hc⟩:=h.arg;cases e;obtain⟨g,off,h1,h2,h3⟩:=hc k hk;subst h1;have hb:B<=g:=aK h g q132;have h4:=h3 0 _ rfl;have h6:=h3 1 _ rfl;have h7:=h3 2 _ rfl;rcases h.2 with⟨h5,_⟩|⟨g2,cap,cur,h5,_⟩
 ·cases h5
 ·cases h5;simp only[rT,Nat.add_zero,Nat.zero_add] at h4 h6 h7;exact⟨g,rfl,hb,h2,h4,h6,h7⟩
structure lJ (w:World) (b:Nat) (v0 v1 v2:Value):Prop where
 c0:w.heap[b]?=some (.cells #[v0] 28 (0,0))
 c1:w.heap[b+1]?=some (.cells #[v1] 126 (0,0))
 c2:w.heap[b+2]?=some (.cells #[v2] 24 (0,0))
theorem lJ.below{w w':World}{b B:Nat}{v0 v1 v2:Value}(h:lJ w b v0 v1 v2)(hb:Below B w w')(hB:b+2<B):lJ w' b v0 v1 v2 :=
 ⟨(hb.block _ oM).trans h.c0,(hb.block _ oM).trans h.c1,(hb.block _ oM).trans h.c2⟩
theorem lJ.set0{w:World}{b:Nat}{v0 v1 v2:Value}(h:lJ w b v0 v1 v2)(u:Value):lJ (w.setCell ⟨b,0,none⟩ u) b u v1 v2 :=
 ⟨kQ h.c0 u,(bGK _ _ _ _ (by show b+1≠b;omega)).trans h.c1,(bGK _ _ _ _ (by show b+2≠b;omega)).trans h.c2⟩
theorem lJ.set1{w:World}{b:Nat}{v0 v1 v2:Value}(h:lJ w b v0 v1 v2)(u:Value):lJ (w.setCell ⟨b+1,0,none⟩ u) b v0 u v2 :=
 ⟨(bGK _ _ _ _ (by show b≠b+1;omega)).trans h.c0,kQ h.c1 u,(bGK _ _ _ _ (by show b+2≠b+1;omega)).trans h.c2⟩
theorem lJ.set2{w:World}{b:Nat}{v0 v1 v2:Value}(h:lJ w b v0 v1 v2)(u:Value):lJ (w.setCell ⟨b+2,0,none⟩ u) b v0 v1 u :=
 ⟨(bGK _ _ _ _ (by show b≠b+2;omega)).trans h.c0,(bGK _ _ _ _ (by show b+1≠b+2;omega)).trans h.c1,kQ h.c2 u⟩
theorem xE(p q r:Addr)(w:World) :
 CallsD prog 95 #[.pointer (some p),.pointer (some q),.pointer (some r)] .returning w fun e u' w'=>e=.returned (.tuple #[])/\u'=.returning/\w'=w:=by
 refine callsD_of_wpS func95 rfl fun c₀ cs hu=>?_
 simp only[ntmps95,List.size_toArray,bHA,List.length_nil,Nat.reduceAdd,Nat.reduceSub,Array.replicate_succ,Array.replicate_zero,List.push_toArray,List.append_toArray,List.nil_append,List.cons_append];apply wpS_seq
 apply wpS_region
 simp[wpOpsS,go_sem,recoverD,hu,ntmps95,Exit.thenS];refine wpS_of_wp ?_;go_wp2;cases c₀;simp_all [bodyPostS,results,results95]
theorem aGF(B b:Nat)(k:Int)(v0 v1:Value)(y:Int)(older:List PanicEntry)(w:World)(h:lJ w b v0 v1 (.int .i64 y))(hB0:B<=b)(hB:B<=w.heap.size) :
 CallsD prog 95 #[.pointer (some ⟨b,0,none⟩),.pointer (some ⟨b+1,0,none⟩),.pointer (some ⟨b+2,0,none⟩)] (.panicking ({ v:=.iface 161 (.agg #[.int .i64 k]),recovered:=false }::older)) w fun e u' w' =>
  e=.returned (.tuple #[])/\u'=.panicking ({ v:=.iface 161 (.agg #[.int .i64 k]),recovered:=true }::older)/\Below B w w'/\w'.cell? ⟨b,0,none⟩=some (.slice none 0 0)/\w'.cell? ⟨b+1,0,none⟩=some (.slice none 0 0)/\w'.cell? ⟨b+2,0,none⟩=some (.int .i64 k):=by
 have hta:∀(x:Int) (w:World),(Instr.typeAssert (.iface 161 (.agg #[.int .i64 x])) 20 161 true).run prog w=.ok (.tuple #[.agg #[.int .i64 x],.bool true]) w:=fun _ _=>kR
 have HT:=fun(k:Int)=>zR h.c0 h.c1 h.c2 oM oM oM hB0 oM oM hB (.slice none 0 0) (.slice none 0 0) (.int .i64 k) (.cells #[.int .i64 k] 161)
 replace HT:=HT k;obtain⟨a0,f0⟩:=aW h.c0;obtain⟨a1,f1⟩:=aW h.c1;obtain⟨a2,f2⟩:=aW h.c2;have l0:=bGJ h.c0;have l1:=bGJ h.c1;have l2:=bGJ h.c2;have n0:¬b=w.heap.size:=oM;have n1:¬b+1=w.heap.size:=oM;have n2:¬b+2=w.heap.size:=oM;clear h hB0 hB;obtain⟨W,hW⟩:=eX ((((w.setCell ⟨b,0,none⟩ (.slice none 0 0)).setCell ⟨b+1,0,none⟩ (.slice none 0 0)).setCell ⟨b+2,0,none⟩ (.int .i64 k)).alloc (.cells #[.int .i64 k] 161));rw[hW] at HT;obtain⟨HT0,HT1,HT2,HT3⟩:=HT;refine callsD_of_wpS func95 rfl fun c₀ cs hu=>?_
 simp only[ntmps95,List.size_toArray,bHA,List.length_nil,Nat.reduceAdd,Nat.reduceSub,Array.replicate_succ,Array.replicate_zero,List.push_toArray,List.append_toArray,List.nil_append,List.cons_append];apply wpS_seq
 apply wpS_region
 simp[wpOpsS,go_sem,recoverD,hu,ntmps95,Exit.thenS];refine wpS_of_wp ?_;go_wp2_with fail;go_region_law (fail)
 all_goals go_wp2
 all_goals cases c₀
 all_goals simp_all [bodyPostS,results,results95]
def bFT(w:World)(R:Res (List L×List Pm))(e:Ending)(w':World):Prop:=Below w.heap.size w w'/\match R with
 |.good (ns,ps)=>∃v0 v1,e=.returned (.tuple #[v0,v1,.int .i64 0])/\aG uJ 9 w' w.heap.size v0 ns/\aG rT 131 w' w.heap.size v1 ps
 |.bad k=>e=.returned (.tuple #[.slice none 0 0,.slice none 0 0,.int .i64 k])
theorem lJ.made(w:World)(O:Go.Obj):lJ ((((w.alloc O).alloc (.cells #[.slice none 0 0] 28)).alloc (.cells #[.slice none 0 0] 126)).alloc (.cells #[.int .i64 0] 24)) (w.heap.size+1) (.slice none 0 0) (.slice none 0 0) (.int .i64 0):=by
 refine⟨?_,?_,aA _ _ _ sI⟩
 ·rw[bGM _ _ _ sI,bGM _ _ _ sI];exact aA _ _ _ sI
 ·exact q484
theorem aZA{l:List L}(h:mV l=true):∀x∈iB l,x≠[]:=by
 intro x hx;unfold iB at hx;obtain⟨n,hn,rfl⟩:=List.mem_map.1 hx;have:=List.all_eq_true.1 h n hn;cases hf:iR n with
 |none=>rw[hf] at this;cases this
 |some f=>exact aYX hf
theorem bFU(S:Nat->Prop)(d:Nat)(w:World)(p1 p2:Option Addr)(n1 c1 n2 c2:Nat)(o:Ob)(h:aI S d w (aB o.kind o.n o.g o.s (.slice p1 n1 c1) (.slice p2 n2 c2)) o)(ht:cN d o)(hS:∀b,S b->b<w.heap.size):Calls prog 67 #[.agg #[.int .i64 o.kind,.int .i64 o.n,.int .i64 o.g,.string ⟨o.s.toArray⟩,.slice p1 n1 c1,.slice p2 n2 c2]] w (bFT w (ofF o)):=by
 obtain⟨w3,hw3⟩:=eX (((((w.alloc (.cells #[.int .i64 o.kind,.int .i64 o.n,.int .i64 o.g,.string ⟨o.s.toArray⟩,.slice p1 n1 c1,.slice p2 n2 c2] 31)).alloc (.cells #[.slice none 0 0] 28)).alloc (.cells #[.slice none 0 0] 126)).alloc (.cells #[.int .i64 0] 24)));have hX3:lJ w3 (w.heap.size+1) (.slice none 0 0) (.slice none 0 0) (.int .i64 0):=by rw[<-hw3];exact lJ.made w _
 have hb3:Below w.heap.size w w3:=q126;have hA3:w3.heap[w.heap.size]?=some (.cells #[.int .i64 o.kind,.int .i64 o.n,.int .i64 o.g,.string ⟨o.s.toArray⟩,.slice p1 n1 c1,.slice p2 n2 c2] 31 (0,0)):=by
  rw[<-hw3,bGM _ _ _ sO,bGM _ _ _ sO,bGM _ _ _ sI];exact aA _ _ _ rfl
 have hz3:=bGJ hX3.c2;have HL:=Lh (fun(W:World) (hW:Below w.heap.size w W)=>aRY S d W p1 p2 n1 c1 n2 c2 o (h.kept (fun b h=>hW.block b (hS b h)) d) ht (fun b h=>bGA (hS b h) hW.size));have HP:=Lh (fun(many:Nat) (hm:many<=8192) (W:World) (hW:Below w.heap.size w W)=>aYW S d W p1 p2 n1 c1 n2 c2 o (h.kept (fun b h=>hW.block b (hS b h)) d) ht (fun b h=>bGA (hS b h) hW.size) many hm);obtain⟨R,hR⟩:=eX (ofF o);rw[hR];unfold ofF at hR;have HR:=Lh hR;clear hR h ht hS;obtain⟨b0,b1,b2,b3,b4,b5,bf⟩:=aD hA3;by_cases h9:o.kind=9
 ·have d9:(o.kind==9)=true:=by simpa using h9
  have HR2:=HR.out;rw[bGU (fun x=>x h9)] at HR2;have HR:=Lh HR2;clear HR2 h9;obtain⟨RL,hRL⟩:=eX (aGA o);rw[hRL] at HL HR;clear hRL;have HX:=Lh hX3;have HBp:=Lh hb3;have HA3:=Lh hA3;clear hX3 hb3 hA3;go_enter_defers func67,ntmps67
  go_wp2_with(go_at_call 96;(with_reducible refine(dD _ _).mono ?_);rintro e w9 ⟨rfl,h9⟩;obtain rfl:=h9.symm)
  refine(HL.out _ HBp.out).mono ?_;rintro e w4 ⟨hb4,h4⟩;have HX4:=Lh (HX.out.below hb4 oM);have HBp4:=Lh (HBp.out.trans (hb4.mono HBp.out.size));have HA4:=Lh ((hb4.block _ oM).trans HA3.out);have hz4:=hb4.size;clear hw3 HL b0 b1 b2 b3 b4 b5 bf;cases RL with
  |bad k =>
   have HRE:=Lh (show R=.bad 10 from HR.out.symm);obtain rfl:=h4;have HX:=HX4;have HBp:=HBp4;exact q303
  |good l =>
   obtain⟨v,rfl,hrow⟩:=h4;clear hb4 HX HBp HA3;obtain⟨vp,vc,rfl⟩:=aH hrow;have HRow:=Lh hrow;obtain⟨N,hN⟩:=eX (l.length);have HR:=Lh (show(if 8<l.length then Res.bad 6 else if mV l then(match rS o l.length with|.bad k=>.bad k|.good ps=>if ps.all fY then .good (iB l,ps) else .bad 1) else .bad 15)=R from HR.out);rw[hN] at HR HRow ⊢;have HN:=Lh hN;clear hrow hN;by_cases h8:8<N
   ·have d8:decide ((N:Int)<=8)=false:=bGH oM;have HRE:=Lh (show R=.bad 6 by rw[<-HR.out,bGV h8]);have HX:=HX4;have HBp:=HBp4;clear h8;exact q576
   ·have d8:decide ((N:Int)<=8)=true:=bGI oM;have HR2:=HR.out;rw[bGU h8] at HR2;have HR:=Lh HR2;clear HR2;go_wp2_with(go_at_call 96;(with_reducible refine(dD _ _).mono ?_);rintro e w9 ⟨rfl,h9⟩;obtain rfl:=h9.symm)
    go_loopw [26] (fun i wr=>∃(k:Nat) (v:Value),k<=N/\i=.int .i64 k/\mV (l.take k)=true/\(iB (l.take k)).length<=k/\lJ wr (w.heap.size+1) v (.slice none 0 0) (.int .i64 0)/\aG uJ 9 wr w4.heap.size v (iB (l.take k))/\Bes (w.heap.size+1) w4 wr) (fun i _=>N-(intOf i).toNat)
    case atStart=>exact⟨0,_,bGF _,rfl,rfl,bGB _,HX4.out,bF _ _,Bes.refl _ _⟩
    case round =>
     obtain⟨k,v,hk,rfl,hall,hfl,hX,hrow,hbr⟩:=hrel;obtain⟨vq,vd,rfl⟩:=aH hrow;have hzr:=hbr.size;have HX:=Lh hX;have HBp:=Lh (eO HBp4.out hbr (Nat.le_succ _) HBp4.out.size);have HA:=Lh ((hbr.block w.heap.size oM oM).trans HA4.out);have HBr:=Lh hbr;have HRowF:=Lh hrow;clear hX hrow hbr;by_cases hkN:k<N
     ·have hkl:k<l.length:=q224;obtain⟨g,hsp,hg0,hg1,hc⟩:=aCL HRow.out k hkl;subst hsp;have hc1:=(bGO (a:=⟨g,k,none⟩) (HBr.out.block g hg1 oM)).trans hc;obtain⟨x,hx⟩:=eX (l[k]);rw[hx] at hc1;have HF:=Lh (fun W=>aND W x);obtain⟨RF,hRF⟩:=eX (iR x);rw[hRF] at HF;have HRF:=Lh (show iR l[k]=RF by rw[hx];exact hRF);clear hc hx hRF;cases RF with
      |none =>
       have HF:=Lh (show∀W,Calls prog 98 #[.string ⟨x.toArray⟩] W fun e w'=>w'=W/\e=.returned (.tuple #[.string ⟨#[]⟩,.bool false]) from HF.out);have HRE:=Lh (show R=.bad 15 by rw[<-HR.out,aSI hkl HRF.out];rfl);go_wp2_with fail;refine(HF.out _).mono ?_;rintro e w5 ⟨h5,rfl⟩;obtain rfl:=h5.symm;exact q576
      |some f =>
       have HF:=Lh (show∀W,Calls prog 98 #[.string ⟨x.toArray⟩] W fun e w'=>w'=W/\e=.returned (.tuple #[.string ⟨f.toArray⟩,.bool true]) from HF.out);obtain⟨s1,s2⟩:=aKO hkl HRF.out hall;have HS:=Lh (bGQ s1 s2);clear HRF s1 s2;obtain⟨x0,y0⟩:=aW HX.out.c0;obtain⟨FL,hFL⟩:=eX (iB (l.take k));rw[hFL] at HRowF hfl HS x0 HX;clear hFL hall;go_wp2_with fail;refine(HF.out _).mono ?_;rintro e w5 ⟨h5,rfl⟩;obtain rfl:=h5.symm;go_wp2_with(first|(go_at_call 96;(with_reducible refine(dD _ _).mono ?_);rintro e w9 ⟨rfl,h9⟩;obtain rfl:=h9.symm)|(at_builtin;go_must (refine eE (E:=uJ) rfl _ _ rfl underlying28 Tryz.infoStF rfl dC dC w4.heap.size _ FL f HRowF.out rfl rfl oM oM ?_);intro g6 q6 w6 hr6 hb6 hz6 hg6 hor6;(obtain⟨x1,y1⟩:=aW (HX.out.below hb6 oM).c0)))
       go_roundw
       case rel=>exact⟨k+1,_,oM,q12,HS.out.1,by rw[HS.out.2,bGR];simp;omega,(HX.out.below hb6 oM).set0 _,by rw[HS.out.2];exact cG hr6 oM,(HBr.out.belowB hb6 (bGB _)).setCell 0 _⟩
       all_goals exact q422
     ·obtain rfl:k=N:=oM;rw[bHC (bGD HN.out)] at hall hfl HRowF HX;obtain⟨FL,hFL⟩:=eX (iB l);rw[hFL] at hfl HRowF HX;have HNE:=Lh (show∀x∈FL,x≠[] by rw[<-hFL];exact aZA hall);have HFL:=Lh (show FL.length=k by rw[<-hFL];unfold iB;rw[List.length_map,HN.out]);have HP:=Lh (HP.out k oM);have HR2:=HR.out;rw[hall,bGV rfl,hFL] at HR2;have HR:=Lh HR2;clear HR2 hall hFL HX4 HBp4 HA4 hkN hk;obtain⟨RP,hRP⟩:=eX (rS o k);have HPL:=Lh (fun ps (h:RP=.good ps)=>zX (hRP.trans h));rw[hRP] at HP HR;clear hRP;obtain⟨b0,b1,b2,b3,b4,b5,bf⟩:=aD HA.out;rw[HFL.out] at HX HRowF;go_wp2_with fail;refine(HP.out _ HBp.out).mono ?_;rintro e w5 ⟨hb5,h5⟩;have HX5:=Lh (HX.out.below hb5 oM);have HBp5:=Lh (HBp.out.trans (hb5.mono HBp.out.size));have HRow5:=Lh (HRowF.out.below hb5);have hz5:=hb5.size;clear hb5 HX HBp HRowF b0 b1 b2 b3 b4 b5 bf;cases RP with
      |bad j =>
       have HRE:=Lh (show R=.bad j from HR.out.symm);have HX:=HX5;have HBp:=HBp5;obtain rfl:=h5;exact q303
      |good ps =>
       obtain⟨pv,rfl,hrp⟩:=h5;obtain⟨pp,pc,rfl⟩:=aH hrp;have HPN:=Lh (HPL.out ps rfl);rw[HPN.out] at hrp ⊢;have HRz:=Lh (show(if ps.all fY then Res.good (FL,ps) else .bad 1)=R from HR.out);obtain⟨x0,y0⟩:=aW HX5.out.c0;obtain⟨x1,y1⟩:=aW HX5.out.c1;have HRP:=Lh hrp;clear hrp HPL;go_upto_region 13 with fail
       obtain⟨w6,hw6⟩:=eX ((w5.setCell ⟨w.heap.size+1+1,0,none⟩ (.slice pp k pc)));have HX6:=Lh (show lJ w6 (w.heap.size+1) (.slice vq k vd) (.slice pp k pc) (.int .i64 0) by rw[<-hw6];exact HX5.out.set1 _);have HRow6:=Lh (show aG uJ 9 w6 w4.heap.size (.slice vq k vd) FL by rw[<-hw6];exact cG HRow5.out oM);have HRP6:=Lh (show aG rT 131 w6 wr.heap.size (.slice pp k pc) ps by rw[<-hw6];exact cG HRP.out oM);have HBp6:=Lh (show Below w.heap.size w w6 by rw[<-hw6];exact HBp5.out.setCell q207 _);have hz6:w5.heap.size=w6.heap.size:=q164;obtain⟨z0,z1⟩:=aW HX6.out.c0;obtain⟨z2,z3⟩:=aW HX6.out.c1;rw[hw6];clear hw6 x0 y0 x1 y1 HX5 HBp5 HRow5 HRP;go_wp2_with fail;go_loopw [48] (fun i wq=>∃j:Nat,j<=k/\i=.int .i64 j/\(ps.take j).all fY=true/\Below w6.heap.size w6 wq) (fun i _=>k-(intOf i).toNat)
       case atStart=>exact q467
       case round =>
        clear z0 z1 z2 z3;obtain⟨j,hj,rfl,hall,hbq⟩:=hrel;have HX:=Lh (HX6.out.below hbq oM);have HBp:=Lh (HBp6.out.trans (hbq.mono HBp6.out.size));have hzq:=hbq.size;have HBq:=Lh hbq;have HRowQ:=Lh (HRow6.out.below hbq);have HRPQ:=Lh (HRP6.out.below hbq);clear hbq;obtain⟨x0,y0⟩:=aW HX.out.c0;obtain⟨x1,y1⟩:=aW HX.out.c1;obtain⟨x2,y2⟩:=aW HX.out.c2;by_cases hjk:j<k
        ·have hj1:j<FL.length:=by rw[HFL.out];exact hjk
         have hj2:j<ps.length:=by rw[HPN.out];exact hjk
         obtain⟨g,hsp,hg0,hg1,hc⟩:=aCL HRowQ.out j hj1;obtain⟨g2,hsp2,hg2,hg3,hd0,hd1,hd2⟩:=aYZ HRPQ.out j hj2;subst hsp;subst hsp2;have hne:=HNE.out _ (bGG hj1);obtain⟨x,hx⟩:=eX (FL[j]);obtain⟨p,hp⟩:=eX (ps[j]);rw[hx] at hc hne;rw[hp] at hd0 hd1 hd2;have HC:=Lh (fun W=>zS W p);obtain⟨pa,pb,pk⟩:=p;unfold pmV at HC;dsimp only at HC hd0 hd1 hd2;obtain⟨M,hM⟩:=eX (fY ⟨pa,pb,pk⟩);have HM:=Lh (show fY ps[j]=M by rw[hp];exact hM);rw[hM] at HC;clear hx hp hM hj1;cases M with
         |true =>
          have HC:=Lh (show∀W:World,Calls prog 100 #[.agg #[.int .i64 pa,.int .i64 pb,.int .i64 pk]] W fun e w'=>e=.returned (.int .i64 0)/\Below W.heap.size W w' from HC.out);have HS:=Lh (aYY hj2 HM.out hall);clear HM hj2 hne;go_wp2_with fail;refine(HC.out _).mono ?_;rintro e w7 ⟨rfl,hb7⟩;have HB7:=Lh (HBq.out.trans (hb7.mono HBq.out.size));clear hb7;go_wp2_with fail;go_roundw
          case rel=>exact⟨j+1,oM,q12,HS.out,HB7.out⟩
          all_goals exact q422
         |false =>
          have HC:=Lh (show∀W:World,Calls prog 100 #[.agg #[.int .i64 pa,.int .i64 pb,.int .i64 pk]] W fun e w'=>e=.returned (.int .i64 1)/\Below W.heap.size W w' from HC.out);have HRE:=Lh (show R=.bad 1 by rw[<-HRz.out,bDG hj2 HM.out];rfl);have hemp2:=qR hne;have hemp3:=oO hne;have hemp:((⟨x.toArray⟩:ByteArray).toList==([]:L))=false:=by rw[ByteArray.toList_eq];simpa using hne
          clear HM hj2 hne;go_wp2_with fail;refine(HC.out _).mono ?_;rintro e w7 ⟨rfl,hb7⟩;have HB7:=Lh (HBp.out.trans (hb7.mono HBp.out.size));have HX7:=Lh (HX.out.below hb7 oM);have hz7:=hb7.size;obtain⟨x0,y0⟩:=aW HX7.out.c0;obtain⟨x1,y1⟩:=aW HX7.out.c1;obtain⟨x2,y2⟩:=aW HX7.out.c2;clear hb7;go_wp2;have HX9:lJ (((w7.setCell ⟨w.heap.size+1,0,none⟩ (.slice none 0 0)).setCell ⟨w.heap.size+1+1,0,none⟩ (.slice none 0 0)).setCell ⟨w.heap.size+1+1+1,0,none⟩ (.int .i64 1)) (w.heap.size+1) (.slice none 0 0) (.slice none 0 0) (.int .i64 1):=((HX7.out.set0 _).set1 _).set2 _;have HB9:Below w.heap.size w (((w7.setCell ⟨w.heap.size+1,0,none⟩ (.slice none 0 0)).setCell ⟨w.heap.size+1+1,0,none⟩ (.slice none 0 0)).setCell ⟨w.heap.size+1+1+1,0,none⟩ (.int .i64 1)):=((HB7.out.setCell q206 _).setCell q207 _).setCell (by show _<=w.heap.size+1+1+1;omega) _;obtain⟨W9,hW9⟩:=eX ((((w7.setCell ⟨w.heap.size+1,0,none⟩ (.slice none 0 0)).setCell ⟨w.heap.size+1+1,0,none⟩ (.slice none 0 0)).setCell ⟨w.heap.size+1+1+1,0,none⟩ (.int .i64 1)));rw[hW9] at HX9 HB9 ⊢;refine bGW (f:=95) (args:=#[.pointer (some ⟨w.heap.size+1,0,none⟩),.pointer (some ⟨w.heap.size+1+1,0,none⟩),.pointer (some ⟨w.heap.size+1+2,0,none⟩)]) sI q39 ?_;refine(xE _ _ _ _).mono ?_;rintro e u' w'' ⟨rfl,rfl,rfl⟩;have C0:=(aW HX9.c0).1;have C1:=(aW HX9.c1).1;have C2:=(aW HX9.c2).1;simp[Leaves,settle,results,results67,go_sem,C0,C1,C2];exact⟨HB9,q161⟩
        ·obtain rfl:j=k:=oM;rw[bHC (bGD HPN.out)] at hall;have HRE:=Lh (show R=.good (FL,ps) by rw[<-HRz.out,hall];rfl);go_upto_region 20 with fail
         go_region_law (fail)
         all_goals go_wp2
         all_goals have HX9:lJ (((wr.setCell ⟨w.heap.size+1,0,none⟩ (.slice vq j vd)).setCell ⟨w.heap.size+1+1,0,none⟩ (.slice pp j pc)).setCell ⟨w.heap.size+1+1+1,0,none⟩ (.int .i64 0)) (w.heap.size+1) (.slice vq j vd) (.slice pp j pc) (.int .i64 0):=((HX.out.set0 _).set1 _).set2 _
         all_goals have HB9:Below w.heap.size w (((wr.setCell ⟨w.heap.size+1,0,none⟩ (.slice vq j vd)).setCell ⟨w.heap.size+1+1,0,none⟩ (.slice pp j pc)).setCell ⟨w.heap.size+1+1+1,0,none⟩ (.int .i64 0)):=((HBp.out.setCell q206 _).setCell q207 _).setCell (by show _<=w.heap.size+1+1+1;omega) _
         all_goals have HR9:aG uJ 9 (((wr.setCell ⟨w.heap.size+1,0,none⟩ (.slice vq j vd)).setCell ⟨w.heap.size+1+1,0,none⟩ (.slice pp j pc)).setCell ⟨w.heap.size+1+1+1,0,none⟩ (.int .i64 0)) w4.heap.size (.slice vq j vd) FL:=cG (cG (cG HRowQ.out oM) oM) oM
         all_goals have HP9:aG rT 131 (((wr.setCell ⟨w.heap.size+1,0,none⟩ (.slice vq j vd)).setCell ⟨w.heap.size+1+1,0,none⟩ (.slice pp j pc)).setCell ⟨w.heap.size+1+1+1,0,none⟩ (.int .i64 0)) w4.heap.size (.slice pp j pc) ps:=(cG (cG (cG HRPQ.out oM) oM) oM).low oM
         all_goals obtain⟨W9,hW9⟩:=eX ((((wr.setCell ⟨w.heap.size+1,0,none⟩ (.slice vq j vd)).setCell ⟨w.heap.size+1+1,0,none⟩ (.slice pp j pc)).setCell ⟨w.heap.size+1+1+1,0,none⟩ (.int .i64 0)))
         all_goals rw[hW9] at HX9 HB9 HR9 HP9 ⊢
         all_goals refine bGW (f:=95) (args:=#[.pointer (some ⟨w.heap.size+1,0,none⟩),.pointer (some ⟨w.heap.size+1+1,0,none⟩),.pointer (some ⟨w.heap.size+1+2,0,none⟩)]) sI q39 ?_
         all_goals refine(xE _ _ _ _).mono ?_
         all_goals rintro e u' w'' ⟨rfl,rfl,rfl⟩
         all_goals have C0:=(aW HX9.c0).1
         all_goals have C1:=(aW HX9.c1).1
         all_goals have C2:=(aW HX9.c2).1
         all_goals simp[Leaves,settle,results,results67,go_sem,C0,C1,C2]
         all_goals exact⟨HB9.drew,by rw[HRE.out];exact⟨_,_,rfl,HR9.low oM,HP9.low oM⟩⟩
 ·have d9:(o.kind==9)=false:=by simpa using h9
  have HRE:=Lh (show R=.bad 10 from by rw[<-HR.out];exact bGV h9);have HX:=Lh hX3;have HBp:=Lh hb3;clear h9 hX3 hb3 hA3 HP HL HR;go_enter_defers func67,ntmps67
  exact q576
def OkR(most:Nat):Res L->Prop
 |.good t=>t.length<=most
 |.bad k=>k≠0
theorem oW(most:Nat)(out b:L):OkR most (gZ most out b):=by
 unfold gZ;split
 ·show(out++b).length<=most
  rw[bGR];assumption
 ·show(5:Int)≠0
  decide
theorem oX(most:Nat):∀(s:L) (half:Option Nat) (out:L),out.length<=most->OkR most (gI most half out s)
 |[],_,_,_=>q260
 |c::l,half,out,h=>by
  unfold gI;split
  ·exact oX most l half out h
  ·split
   ·cases half with
    |none=>exact h
    |some x=>exact oW most out _
   ·split
    ·exact q541
    ·cases half with
     |none=>exact oX most l _ out h
     |some x =>
      dsimp only;have hp:=oW most out [UInt8.ofNat (16*x+(bI c).toNat)];cases hq:gZ most out [UInt8.ofNat (16*x+(bI c).toNat)] with
      |bad k=>exact q556
      |good o=>rw[hq] at hp;exact oX most l _ o hp
theorem aNK(most:Nat)(out:L)(g:List Nat):OkR most (uG most out g):=by
 unfold uG;split
 ·exact q541
 ·exact oW most out _
theorem jV(most:Nat):∀(s:L) (g:List Nat) (out:L),out.length<=most->OkR most (cJ most g out s)
 |[],_,_,_=>q260
 |c::l,g,out,h=>by
  unfold cJ;split
  ·exact jV most l g out h
  ·split
   ·have hp:=oW most out [0,0,0,0];cases hq:gZ most out [0,0,0,0] with
    |bad k=>exact q556
    |good o=>rw[hq] at hp;exact jV most l _ o hp
   ·split
    ·dsimp only;split
     ·have hp:=aNK most out (g++[c.toNat-33]);cases hq:uG most out (g++[c.toNat-33]) with
      |bad k=>exact q556
      |good o=>rw[hq] at hp;exact jV most l _ o hp
     ·exact jV most l _ out h
    ·split
     ·cases l with
      |nil=>show(4:Int)≠0;decide
      |cons d l' =>
       dsimp only;split
       ·exact q541
       ·split
        ·exact h
        ·exact aNK most out g
     ·exact q541
theorem sY(most:Nat):∀(f:Nat) (out s:L),out.length<=most->OkR most (hU most f out s)
 |0,_,_,_=>q260
 |_+1,_,[],_=>q260
 |f+1,out,c::l,h=>by
  unfold hU;split
  ·exact h
  ·split
   ·split
    ·show(4:Int)≠0;decide
    ·have hp:=oW most out (l.take (c.toNat+1));cases hq:gZ most out (l.take (c.toNat+1)) with
     |bad k=>exact q556
     |good o=>rw[hq] at hp;exact sY most f o _ hp
   ·cases l with
    |nil=>show(4:Int)≠0;decide
    |cons d l' =>
     dsimp only;have hp:=oW most out (List.replicate (257-c.toNat) d);cases hq:gZ most out (List.replicate (257-c.toNat) d) with
     |bad k=>exact q556
     |good o=>rw[hq] at hp;exact sY most f o _ hp
theorem aGG(n hd colors M:Nat):∀(f:Nat) (prev l out:L),out.length+l.length<=M->OkR M (wZ n hd colors f prev l out)
 |0,_,_,_,_=>q260
 |_+1,_,[],out,h=>by show out.length<=M;simp at h;exact h
 |f+1,prev,x::l,out,h=>by
  obtain⟨tag,htag⟩:∃tag,(if hd=1 then x.toNat else 1)=tag:=⟨_,rfl⟩
  rw[pW,htag];split
  ·exact q541
  ·refine aGG n hd colors M f _ _ _ ?_;rw[bGR,mB,bGT,bGS,bGS];simp at h ⊢;omega
theorem bDH(p:Pm)(s:L)(h:s.length<=1048576):OkR 1048576 (aKA p s):=by
 unfold aKA;split
 ·rename_i hn;exact hn
 ·split
  ·exact h
  ·exact aGG _ _ _ _ _ _ _ _ q10
theorem aGH(name:L)(p:Pm)(s:L):OkR 1048576 (oB name p s):=by
 unfold oB;split
 ·show(15:Int)≠0;decide
 ·split
  ·exact oX _ s none [] (bGF _)
  ·split
   ·exact jV _ s [] [] (bGF _)
   ·split
    ·exact sY _ _ [] s (bGF _)
    ·split
     ·unfold pX;cases hu:fS s 1048576 with
      |bad k=>exact tX hu
      |good t=>exact bDH p t (tV hu)
     ·show(1:Int)≠0;decide
def jW:List L->List Pm->L->Res L
 |n::ns,p::ps,s=>match oB n p s with
  |.bad k=>.bad k
  |.good t=>jW ns ps t
 |_,_,s=>.good s
def mW(o:Ob):Res L:=match ofF o with
 |.bad k=>.bad k
 |.good (ns,ps)=>jW ns ps o.s
theorem aGI{ns:List L}{ps:List Pm}{s:L}{j:Nat}(h1:j<ns.length)(h2:j<ps.length) :
 jW (ns.drop j) (ps.drop j) s=match oB ns[j] ps[j] s with|.bad k=>.bad k|.good t=>jW (ns.drop (j+1)) (ps.drop (j+1)) t:=by
 rw[bHH h1,bHH h2];rfl
theorem aZB{o:Ob}{ns:List L}{ps:List Pm}(h:ofF o=.good (ns,ps)):ns.length=ps.length/\ns.length<=8:=by
 unfold ofF at h;split at h
 ·cases h
 ·split at h
  ·cases h
  ·split at h
   ·cases h
   ·split at h
    ·split at h
     ·cases h
     ·rename_i h8 _ _ _ hp
      split at h
      ·cases h;have:=zX hp;unfold iB;rw[List.length_map];omega
      ·cases h
    ·cases h
theorem bDI{o:Ob}{k:Int}(h:ofF o=.bad k):k≠0:=by
 unfold ofF at h;split at h
 ·cases h;decide
 ·split at h
  ·cases h;decide
  ·split at h
   ·cases h;decide
   ·split at h
    ·split at h
     ·rename_i hp
      cases h;unfold rS kW at hp;repeat' (split at hp)
      all_goals (first|(cases hp;decide)|cases hp)
     ·exact q472
    ·cases h;decide
theorem aSJ(S:Nat->Prop)(d:Nat)(w:World)(p1 p2:Option Addr)(n1 c1 n2 c2:Nat)(o:Ob)(h:aI S d w (aB o.kind o.n o.g o.s (.slice p1 n1 c1) (.slice p2 n2 c2)) o)(ht:cN d o)(hS:∀b,S b->b<w.heap.size)(hs:o.s.length<=1000000000)(htab:fX w w.heap.size):Calls prog 37 #[.agg #[.int .i64 o.kind,.int .i64 o.n,.int .i64 o.g,.string ⟨o.s.toArray⟩,.slice p1 n1 c1,.slice p2 n2 c2]] w (gL w (mW o)):=by
 have HO:=Lh (fun(W:World) (hW:Below w.heap.size w W)=>bFU S d W p1 p2 n1 c1 n2 c2 o (h.kept (fun b h=>hW.block b (hS b h)) d) ht (fun b h=>bGA (hS b h) hW.size));have HT:=Lh htab;obtain⟨R,hR⟩:=eX (mW o);rw[hR];unfold mW at hR;obtain⟨RO,hRO⟩:=eX (ofF o);have HLN:=Lh (fun ns ps (h:RO=.good (ns,ps))=>aZB (hRO.trans h));have HER:=Lh (fun k (h:RO=.bad k)=>bDI (hRO.trans h));rw[hRO] at hR HO;have HR:=Lh hR;have HSL:=Lh hs;clear hR hRO h ht hS htab hs;obtain⟨w0,hw0⟩:=eX ((w.alloc (.cells #[.int .i64 o.kind,.int .i64 o.n,.int .i64 o.g,.string ⟨o.s.toArray⟩,.slice p1 n1 c1,.slice p2 n2 c2] 31)));have hA0:w0.heap[w.heap.size]?=some (.cells #[.int .i64 o.kind,.int .i64 o.n,.int .i64 o.g,.string ⟨o.s.toArray⟩,.slice p1 n1 c1,.slice p2 n2 c2] 31 (0,0)):=by rw[<-hw0];exact bGP w _
 have HB0:=Lh (show Below w.heap.size w w0 from q150);have hz0:w0.heap.size=w.heap.size+1:=q151;have HA0:=Lh hA0;obtain⟨b0,b1,b2,b3,b4,b5,bf⟩:=aD hA0;clear hA0;go_enter func37,ntmps37
 go_upto_region 1 with fail
 clear hw0;go_wp2_with fail;refine(HO.out _ HB0.out).mono ?_;rintro e w1 ⟨hb1,h1⟩;have HB1:=Lh (HB0.out.trans (hb1.mono HB0.out.size));have HA1:=Lh ((hb1.block _ oM).trans HA0.out);have hz1:=hb1.size;clear hb1 b0 b1 b2 b3 b4 b5 bf;cases RO with
 |bad k =>
  have hk:=HER.out k rfl;have dk:(k !=0)=true:=q93;have HRE:=Lh (show R=.bad k from HR.out.symm);obtain rfl:=h1;clear hk HR HER;exact q561
 |good x =>
  obtain⟨ns,ps⟩:=x;obtain⟨v0,v1,rfl,hr0,hr1⟩:=h1;have HLN:=Lh (HLN.out ns ps rfl);obtain⟨q0,m0,rfl⟩:=aH hr0;obtain⟨q1,m1,rfl⟩:=aH hr1;have HRow:=Lh hr0;have HRP:=Lh hr1;obtain⟨N,hN⟩:=eX (ns.length);have HN1:=Lh hN;have HN2:=Lh (show ps.length=N by rw[<-hN];exact HLN.out.1.symm);rw[hN] at HRow ⊢;rw[HN2.out] at HRP ⊢;have hN8:N<=8:=by rw[<-hN];exact HLN.out.2
  have HR:=Lh (show jW ns ps o.s=R from HR.out);clear hr0 hr1 hN HLN HER;obtain⟨b0,b1,b2,b3,b4,b5,bf⟩:=aD HA1.out;go_wp2_with fail;go_loopw [7,23] (fun v i wr=>∃(j:Nat) (t:L),j<=N/\i=.int .i64 j/\v=.string ⟨t.toArray⟩/\t.length<=1000000000/\Hid (jW (ns.drop j) (ps.drop j) t=R)/\Below w1.heap.size w1 wr) (fun _ i _=>N-(intOf i).toNat)
  case atStart=>exact⟨0,o.s,bGF _,rfl,rfl,HSL.out,HR,bGL _ _⟩
  case round =>
   clear b0 b1 b2 b3 b4 b5 bf;obtain⟨j,t,hj,rfl,rfl,htl,hR,hbr⟩:=hrel;have HBp:=Lh (HB1.out.trans (hbr.mono HB1.out.size));have HBr:=Lh hbr;by_cases hjN:j<N
   ·have hj1:j<ns.length:=by rw[HN1.out];exact hjN
    have hj2:j<ps.length:=by rw[HN2.out];exact hjN
    obtain⟨g,hsp,hg0,hg1,hc⟩:=aCL (HRow.out.below hbr) j hj1;obtain⟨g2,hsp2,hg2,hg3,hd0,hd1,hd2⟩:=aYZ (HRP.out.below hbr) j hj2;subst hsp;subst hsp2;have hstep:=hR.out;rw[aGI hj1 hj2] at hstep;obtain⟨x,hx⟩:=eX (ns[j]);obtain⟨p,hp⟩:=eX (ps[j]);rw[hx] at hc hstep;rw[hp] at hd0 hd1 hd2 hstep;have HU:=Lh (fun W (hW:Below w.heap.size w W)=>bCX W x p t htl (HT.out.next hW));have hok:=aGH x p t;obtain⟨RU,hRU⟩:=eX (oB x p t);rw[hRU] at HU hok hstep;have HS:=Lh hstep;clear hx hp hRU hstep hj1 hj2 hbr hR;obtain⟨pa,pb,pk⟩:=p;dsimp only at HU hd0 hd1 hd2;go_wp2_with fail;refine(HU.out _ HBp.out).mono ?_;rintro e w2 ⟨hb2,h2⟩;have HB2:=Lh (HBr.out.trans (hb2.mono HBr.out.size));clear HU hb2;cases RU with
    |bad k =>
     have hk:k≠0:=hok;have dk:(k !=0)=true:=q93;obtain rfl:=h2;have HRE:=Lh (show R=.bad k from HS.out.symm);clear hk hok;go_wp2_with fail;go_ret2
     exact⟨HB1.out.trans (HB2.out.mono HB1.out.size),q215⟩
    |good u =>
     have hu:u.length<=1048576:=hok;obtain rfl:=h2;have HS:=Lh (show jW (ns.drop (j+1)) (ps.drop (j+1)) u=R from HS.out);clear hok;go_wp2_with fail;go_roundw
     case rel=>exact⟨j+1,u,oM,q12,rfl,oM,HS,HB2.out⟩
     all_goals exact q422
   ·obtain rfl:j=N:=oM;have HRE:=Lh (show R=.good t by
     rw[<-hR.out,List.drop_of_length_le (bGD HN1.out)];rfl)
    clear hR;go_wp2_with fail;go_ret2
    exact⟨HBp.out,q215⟩
end Go.Proofs.YtdjpkgccakgkbaaGreatDoor
