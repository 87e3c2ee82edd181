/- Parts of the proof: BdA BdP BdB BdC BdD VaJ VaK VaL VaN VaO. -/
import Derived.Test.YtdjpkgccakgkbaaGreatDoorPef
import Derived.Test.YtdjpkgccakgkbaaGreatDoorPea
import Derived.Test.YtdjpkgccakgkbaaGreatDoorPeg
import Derived.Test.YtdjpkgccakgkbaaGreatDoorPee
import Derived.Test.YtdjpkgccakgkbaaGreatDoorPed
import Derived.Test.YtdjpkgccakgkbaaGreatDoorPek
import Derived.Test.YtdjpkgccakgkbaaGreatDoorPem
import Derived.Deep.CutRange
import Derived.Shelf.Spec.SlicesInsert
import Derived.Lib.AppendZerosOnto
import Derived.Laws.NewBlocks
import Derived.Laws.CopyRow
import Derived.OwnWalk
import Derived.Maps.AppendAt
import Derived.Shelf.Spec.SearchS
import Derived.Shelf.Lays2
import Derived.Lib.SliceRun
import Derived.Deep.RegionLaw
import Derived.Deep.Upon
set_option linter.all false
set_option maxRecDepth 100000
set_option maxHeartbeats 8000000
section
variable{p:Prop}
theorem q158(h:p:=by repeat' (first|exact bGL _ _|refine Below.drew ?_|refine Below.alloc ?_ ?_ _|exact bGB _|(show _<=_;simp;done)|(show _<=_;simp;omega)|omega)):p:=h
theorem q159(h:p:=by have hh:=HB2.out;repeat' (first|exact hh|refine Below.setCell ?_ ?_ _|(show T.heap.size<=w1.heap.size;omega)|(show T.heap.size<=T.heap.size;omega))):p:=h
theorem q165(h:p:=by simp at hv;(repeat' (first|rfl|(subst hv;rfl)|(rcases hv with hv|hv)))):p:=h
theorem q166(h:p:=by simp[Act.eval,Act.put]):p:=h
theorem q332(h:p:=by
 go_enter func59,ntmps59
 go_wp2_with fail;refine(HG.out _ ?_).mono ?_
 ·exact bel
 rintro e w1 ⟨q1,e1,q2,e2,rfl,hO,hb1⟩;have HB1:=Lh (show Below w.heap.size w w1 from bHE bel (hb1.mono sI));clear hb1 HG hO;go_wp2_with(first|(go_at_call 28;(with_reducible refine(cC _ _).mono ?_);rintro e w9 ⟨rfl,h9⟩;obtain rfl:=h9.symm)|(go_at_call 28;(with_reducible refine(dA _ _).mono ?_);rintro e w9 ⟨rfl,h9⟩;obtain rfl:=h9.symm))
 have hb:=HB1.out;have hz:=hb.size;exact⟨rfl,bel,rfl⟩):p:=h
theorem q380(h:p:=by
 go_wp2_with(go_at_call 28;(with_reducible refine(dA _ _).mono ?_);rintro e w9 ⟨rfl,h9⟩;obtain rfl:=h9.symm)
 exact⟨rfl,HB1.out.alloc _,q161⟩):p:=h
theorem q389(h:p:=by
 go_wp2_with(first|(go_at_call 28;(with_reducible refine(cC _ _).mono ?_);rintro e w9 ⟨rfl,h9⟩;obtain rfl:=h9.symm)|(go_at_call 28;(with_reducible refine(dA _ _).mono ?_);rintro e w9 ⟨rfl,h9⟩;obtain rfl:=h9.symm))
 exact⟨rfl,HB1.out.alloc _,q161⟩):p:=h
theorem q405(h:p:=by
 go_enter func58,ntmps58
 go_wp2_with fail;go_quiet (fail)
 go_wp2_with(go_at_call 28;(with_reducible refine(dA _ _).mono ?_);rintro e w9 ⟨rfl,h9⟩;obtain rfl:=h9.symm)
 exact⟨rfl,q95,q161⟩):p:=h
theorem q417(h:p:=by
 refine⟨⟨g,0,none⟩,by simp[hc],fun t u hu=>?_⟩;have h0:news.length=0:=by
  rw[hnl,show n-j=0 from oM,Nat.zero_mul]
 rw[List.length_eq_zero_iff.1 h0] at hu;simp at hu):p:=h
theorem q425(h:p:=by
 go_enter func27,ntmps27
 go_wp2_with(go_at_call 28;(with_reducible refine(dA _ _).mono ?_);rintro e w9 ⟨rfl,h9⟩;obtain rfl:=h9.symm)
 exact⟨rfl,rfl,rfl⟩):p:=h
theorem q456(h:p:=by
 rw[<-hnews,List.getElem?_drop,<-hx,List.getElem?_take] at hu;split at hu
 ·simp only[World.cell?,hgd];simpa using hu
 ·cases hu):p:=h
theorem q481(h:p:=by
 have HRE:=Lh (show RV=.bad k from HRV.out.symm);obtain rfl:=h1;go_wp2;exact⟨rfl,HB1.out,q161⟩):p:=h
theorem q491(h:p:=by
 intro t ht;refine⟨?_,by simp[World.frozen?,hgd]⟩;simp only[World.cell?,hgd];simp;omega):p:=h
theorem q515(h:p:=by have:=congrArg List.length t1;rw[bGT] at this;simp at this;omega):p:=h
theorem q516(h:p:=by rw[hW1,<-hcur1,Nat.zero_add];exact gE g _ news _ _ cur hgd hroom):p:=h
theorem q546(h:p:=by exact⟨_,rfl,⟨rfl,.inl ⟨rfl,rfl⟩⟩,bGL _ _⟩):p:=h
end
namespace Go.Proofs.YtdjpkgccakgkbaaGreatDoor
open Go.Proofs.Tryz
open Go.RowKit Fo
theorem aET{p:Prop}(h1:Hid False->p)(h2:p):p:=h2
theorem tK(HF:Hid False)(P:Program)(f:FuncId)(args:Array Value)(v:Value){w:World}:Calls P f args w (fun e w'=>e=.returned v/\w'=w):=HF.out.elim
def RdY(w:World)(r:Nat)(s:ByteArray)(a:Nat):Prop:=w.heap[r]?=some (.cells #[.string s,.int .i64 a] 85 (0,0))
theorem RdY.lt{w:World}{r:Nat}{s:ByteArray}{a:Nat}(h:RdY w r s a):r<w.heap.size:=bGJ h
theorem RdY.cell0{w:World}{r:Nat}{s:ByteArray}{a:Nat}(h:RdY w r s a):w.cell? ⟨r,0,none⟩=some (.string s):=by
 unfold RdY at h;simp[World.cell?,h]
theorem RdY.cell1{w:World}{r:Nat}{s:ByteArray}{a:Nat}(h:RdY w r s a):w.cell? ⟨r,1,none⟩=some (.int .i64 a):=by
 unfold RdY at h;simp[World.cell?,h]
theorem RdY.frozen{w:World}{r:Nat}{s:ByteArray}{a:Nat}(h:RdY w r s a)(o:Nat):w.frozen? ⟨r,o,none⟩=false:=by
 unfold RdY at h;simp[World.frozen?,h]
theorem RdY.below{w w':World}{r:Nat}{s:ByteArray}{a:Nat}(h:RdY w r s a)(hb:Below w.heap.size w w'):RdY w' r s a:=by
 unfold RdY at *;rw[hb.block r (bGJ h)];exact h
theorem RdY.belowB{B:Nat}{w w':World}{r:Nat}{s:ByteArray}{a:Nat}(h:RdY w r s a)(hb:Below B w w')(hB:r<B):RdY w' r s a:=by
 unfold RdY at *;rw[hb.block r hB];exact h
theorem RdY.set{w:World}{r:Nat}{s:ByteArray}{a b:Nat}(h:RdY w r s a):RdY (w.setCell ⟨r,1,none⟩ (.int .i64 b)) r s b:=by
 unfold RdY at *
 have hlt:=bGJ h;exact q399
theorem cC(k:Int)(w:World):Calls prog 28 #[.bool true,.int .i64 k] w fun e w'=>e=.returned (.tuple #[])/\w'=w:=by
 go_enter func28,ntmps28
 exact q418
theorem dA(k:Int)(w:World):Calls prog 28 #[.bool false,.int .i64 k] w fun e w'=>e=.panicked [{ v:=.iface 109 (.agg #[.int .i64 k]),recovered:=false }]/\w'=w:=by
 go_enter func28,ntmps28
 exact q598
theorem aQH(a b c n:Int)(x:ByteArray)(w:World):Calls prog 56 #[.agg #[.int .i64 a,.int .i64 b,.int .i64 c,.int .i64 n,.string x],.int .i64 0] w fun e w'=>e=.returned (.agg #[.int .i64 a,.int .i64 b,.int .i64 c,.int .i64 n,.string x])/\Below w.heap.size w w':=by
 go_enter func56,ntmps56
 go_wp2_with(go_at_call 28;(with_reducible refine(cC _ _).mono ?_);rintro e w9 ⟨rfl,h9⟩;obtain rfl:=h9.symm)
 refine bGN (v:=.agg #[.int .i64 a,.int .i64 b,.int .i64 c,.int .i64 n,.string x]) (by simp[results,results56,go_sem]) rfl ⟨rfl,bel⟩
theorem aWM(a b c n k:Int)(x:ByteArray)(hk:k≠0)(w:World):Calls prog 56 #[.agg #[.int .i64 a,.int .i64 b,.int .i64 c,.int .i64 n,.string x],.int .i64 k] w fun e w'=>e=.panicked [{ v:=.iface 109 (.agg #[.int .i64 k]),recovered:=false }]/\Below w.heap.size w w':=by
 have dk:(k==0)=false:=q93;clear hk;go_enter func56,ntmps56
 go_wp2_with(go_at_call 28;(with_reducible refine(dA _ _).mono ?_);rintro e w9 ⟨rfl,h9⟩;obtain rfl:=h9.symm)
 exact q469
theorem aEU{w:World}{b:Nat}{t:TypeId}{a0 a1 a2 a3 a4 v0 v1 v2 v3 v4:Value}(h:w.heap[b]?=some (.cells #[a0,a1,a2,a3,a4] t (0,0))) :
 (((((w.setCell ⟨b,0,none⟩ v0).setCell ⟨b,1,none⟩ v1).setCell ⟨b,2,none⟩ v2).setCell ⟨b,3,none⟩ v3).setCell ⟨b,4,none⟩ v4).heap[b]?=some (.cells #[v0,v1,v2,v3,v4] t (0,0)):=by
 rw[aC (aC (aC (aC (aC h))))];rfl
def aWN(l:L)(a:Nat):Res (Tok×Nat×Nat):=match (aM (l.drop a)).2 with
 |.bad k=>.bad k
 |.good t=>if t.kind=0 then .bad 4 else .good (t,a+(aM (l.drop a)).1,a+(aM (l.drop a)).1+t.len)
def aWO(w:World)(r:Nat)(s:ByteArray)(R:Res (Tok×Nat×Nat))(e:Ending)(w':World):Prop:=Bes r w w'/\match R with
 |.good (t,p,q)=>e=.returned (tkV t p)/\RdY w' r s q/\q=p+t.len/\q<=s.size
 |.bad k=>e=.panicked [{ v:=.iface 109 (.agg #[.int .i64 k]),recovered:=false }]
theorem aIR(r:Nat)(s:ByteArray)(a p:Nat)(t:Tok)(ha:a<=s.size)(hs:s.size<=140737488355327)(m:Int)(w:World)(hm:aF w m)(hr:RdY w r s a)
 (h:(aM (s.data.toList.drop a)).2=.good t) (hp:a+(aM (s.data.toList.drop a)).1=p) :
 Calls prog 31 #[.pointer (some ⟨r,0,none⟩)] w (aWO w r s (if t.kind=0 then .bad 4 else .good (t,p,p+t.len))):=by
 have hqs:p+t.len<=s.size:=by
  have h1:=(cW h).1;rw[bGS] at h1;have h2:s.data.toList.length=s.size:=rfl;omega
 obtain⟨RR,hRR⟩:∃RR,(if t.kind=0 then(.bad 4:Res (Tok×Nat×Nat)) else .good (t,p,p+t.len))=RR:=⟨_,rfl⟩
 rw[hRR];have HRR:=Lh hRR;clear hRR;obtain⟨q,hq⟩:=eX (p+t.len);have HN:=Lh (fun W hW=>gB s a p t h hp ha hs m W hW);simp only[hq] at HN;have hc0:=hr.cell0;have hc1:=hr.cell1;have hf0:=hr.frozen 1;have hlt:=hr.lt;have hA:∀W,Below w.heap.size w W->aF W m:=fun W hb=>hm.below hb
 have HA:=Lh hA;clear h hp hA;go_enter func31,ntmps31
 go_upto_region 1 with fail
 go_cut [3] (fun s3 wx=>∃g:Nat,s3=.pointer (some ⟨g,0,none⟩)/\wx.heap[g]?=some (.cells #[.int .i64 t.kind,.int .i64 p,.int .i64 q,.int .i64 t.n,.string ⟨t.s.toArray⟩] 81 (0,0))/\w.heap.size<g/\Below (w.heap.size+1) (w.alloc (.cells #[.int .i64 0,.int .i64 0,.int .i64 0,.int .i64 0,.string ⟨#[]⟩] 81)) wx)
 case first =>
  have ne1:¬r=w.heap.size+1:=oM;have ne2:¬w.heap.size+1=r:=oM;have hT0:(w.alloc (.cells #[.int .i64 0,.int .i64 0,.int .i64 0,.int .i64 0,.string ⟨#[]⟩] 81)).cell? ⟨r,0,none⟩=some (.string s):=(World.cell?_alloc_lt (a:=⟨r,0,none⟩) _ _ hlt).trans hc0;have hT1:(w.alloc (.cells #[.int .i64 0,.int .i64 0,.int .i64 0,.int .i64 0,.string ⟨#[]⟩] 81)).cell? ⟨r,1,none⟩=some (.int .i64 a):=(World.cell?_alloc_lt (a:=⟨r,1,none⟩) _ _ hlt).trans hc1;have hTz:(w.alloc (.cells #[.int .i64 0,.int .i64 0,.int .i64 0,.int .i64 0,.string ⟨#[]⟩] 81)).heap.size=w.heap.size+1:=sI;have HT:=Lh (show Below w.heap.size w (w.alloc (.cells #[.int .i64 0,.int .i64 0,.int .i64 0,.int .i64 0,.string ⟨#[]⟩] 81)) from bel);obtain⟨T,hT⟩:=eX ((w.alloc (.cells #[.int .i64 0,.int .i64 0,.int .i64 0,.int .i64 0,.string ⟨#[]⟩] 81)));rw[hT] at hT0 hT1 hTz HT;simp only[hT];have hrT:r<T.heap.size:=oM;have HTz:=Lh hTz;have HTT:=Lh hT;have hwT:w.heap.size<=T.heap.size:=oM;clear hTz hc0 hc1 hf0 hT;go_region_law (first
   |(go_simp;go_at_call 57;(with_reducible refine(HN.out _ (HA.out _ ?_)).mono ?_);(exact HT.out.trans (show Below _ T _ from q158));rintro e w1 ⟨rfl,hb1⟩;(have HB1:=Lh (show Below T.heap.size T w1 from bHE q158 (hb1.mono (by first|exact bGB _|(simp;done)|(simp;omega)))));(have hz1:=HB1.out.size);(try (have hX1:=(hb1.block T.heap.size sI).trans (bGP T _);have hXl:=bGJ hX1));clear hb1)
   |(go_simp;go_at_call 56;(with_reducible refine(aQH _ _ _ _ _ _).mono ?_);rintro e w2 ⟨rfl,hb2⟩;(have HB2:=Lh (show Below T.heap.size T w2 from HB1.out.trans (bHE q158 (hb2.mono (by first|exact hz1|(simp;done)|(simp;omega))))));(have hz2:=HB2.out.size);(try (have hX2:=(hb2.block T.heap.size hXl).trans hX1;have hX2l:=bGJ hX2;obtain⟨t0,t1,t2,t3,t4,tf⟩:=eM hX2));(try (have hX2:=(hb2.block w1.heap.size sI).trans (bGP w1 _);have hX2l:=bGJ hX2;obtain⟨t0,t1,t2,t3,t4,tf⟩:=eM hX2));clear hb2))
  all_goals go_wp2_with fail
  all_goals go_meet
  all_goals (try rw[HTT.out])
  all_goals first
   |(refine⟨w2.heap.size,?_,?_⟩;with_reducible rfl;exact⟨bGP w2 _,by have:=HTz.out;omega,(Below.alloc HB2.out hz2 _).mono (bGD HTz.out.symm)⟩)
   |(refine⟨w1.heap.size,?_,?_⟩;with_reducible rfl;exact⟨aEU hX2,by have:=HTz.out;omega,Below.mono q159 (bGD HTz.out.symm)⟩)
   |(refine⟨T.heap.size,?_,?_⟩;with_reducible rfl;exact⟨aEU hX2,by have:=HTz.out;omega,Below.mono q159 (bGD HTz.out.symm)⟩)
 case rest =>
  obtain⟨g,rfl,hgB,hg,hb⟩:=hcut;obtain⟨g0,g1,g2,g3,g4,gf⟩:=eM hgB;obtain⟨hc,hf⟩:=aQ hb;have hrw:RdY wc r s a:=(hr.below (w':=(w.alloc (.cells #[.int .i64 0,.int .i64 0,.int .i64 0,.int .i64 0,.string ⟨#[]⟩] 81))) bel).belowB hb oM;have k1:=hrw.cell1;have kf:=hrw.frozen;have hgr:¬g=r:=oM;have hrg:¬r=g:=oM;have hrz:¬r=w.heap.size:=oM;have hzr:¬w.heap.size=r:=oM;by_cases hk:t.kind=0
  ·have hk2:(t.kind !=0)=false:=q93;have HRE:=Lh (show RR=.bad 4 from HRR.out.symm.trans (bGV hk));clear hk;go_wp2_with(go_at_call 28;(with_reducible refine(dA _ _).mono ?_);rintro e w9 ⟨rfl,h9⟩;obtain rfl:=h9.symm)
   refine⟨rfl,?_⟩;rw[HRE.out];exact⟨q95,rfl⟩
  ·have hk2:(t.kind !=0)=true:=q93;have HRE:=Lh (show RR=.good (t,p,p+t.len) from HRR.out.symm.trans (bGU hk));clear hk;go_wp2_with(go_at_call 28;(with_reducible refine(cC _ _).mono ?_);rintro e w9 ⟨rfl,h9⟩;obtain rfl:=h9.symm)
   refine bGN (v:=tkV t p) (by simp[results,results31,go_sem,hc,hf,tkV,hq]) rfl ?_;rw[HRE.out];refine⟨?_,rfl,?_,rfl,hqs⟩
   ·exact q95
   ·exact q458
theorem aQI(r:Nat)(s:ByteArray)(a:Nat)(k:Int)(ha:a<=s.size)(hs:s.size<=140737488355327)(m:Int)(w:World)(hm:aF w m)(hr:RdY w r s a)
 (h:(aM (s.data.toList.drop a)).2=.bad k) :
 Calls prog 31 #[.pointer (some ⟨r,0,none⟩)] w (aWO w r s (.bad k)):=by
 have HN:=Lh (fun W hW=>kE s a k h ha hs m W hW);have hk:k≠0:=by have:=lP h;omega
 have HM:=Lh (fun a b c n x W=>aWM a b c n k x hk W);have hc0:=hr.cell0;have hc1:=hr.cell1;have hlt:=hr.lt;have hA:∀W,Below w.heap.size w W->aF W m:=fun W hb=>hm.below hb
 have HA:=Lh hA;clear h hA hk;go_enter func31,ntmps31
 go_upto_region 1 with fail
 have hT0:(w.alloc (.cells #[.int .i64 0,.int .i64 0,.int .i64 0,.int .i64 0,.string ⟨#[]⟩] 81)).cell? ⟨r,0,none⟩=some (.string s):=(World.cell?_alloc_lt (a:=⟨r,0,none⟩) _ _ hlt).trans hc0;have hT1:(w.alloc (.cells #[.int .i64 0,.int .i64 0,.int .i64 0,.int .i64 0,.string ⟨#[]⟩] 81)).cell? ⟨r,1,none⟩=some (.int .i64 a):=(World.cell?_alloc_lt (a:=⟨r,1,none⟩) _ _ hlt).trans hc1;have hTz:(w.alloc (.cells #[.int .i64 0,.int .i64 0,.int .i64 0,.int .i64 0,.string ⟨#[]⟩] 81)).heap.size=w.heap.size+1:=sI;have HT:=Lh (show Below w.heap.size w (w.alloc (.cells #[.int .i64 0,.int .i64 0,.int .i64 0,.int .i64 0,.string ⟨#[]⟩] 81)) from bel);obtain⟨T,hT⟩:=eX ((w.alloc (.cells #[.int .i64 0,.int .i64 0,.int .i64 0,.int .i64 0,.string ⟨#[]⟩] 81)));rw[hT] at hT0 hT1 hTz HT;simp only[hT];have hrT:r<T.heap.size:=oM;have HTz:=Lh hTz;have hwT:w.heap.size<=T.heap.size:=oM;clear hTz hc0 hc1 hT;go_region_law (first
  |(go_simp;go_at_call 57;(with_reducible refine(HN.out _ (HA.out _ ?_)).mono ?_);(exact HT.out.trans (show Below _ T _ from q158));rintro e w1 ⟨rfl,hb1⟩;(have HB1:=Lh (show Below T.heap.size T w1 from bHE q158 (hb1.mono (by first|exact bGB _|(simp;done)|(simp;omega)))));(have hz1:=HB1.out.size);(try (have hX1:=(hb1.block T.heap.size sI).trans (bGP T _);have hXl:=bGJ hX1;obtain⟨t0,t1,t2,t3,t4,tf⟩:=eM hX1));clear hb1)
  |(go_simp;go_at_call 56;refine aET (fun HF=>?_) (by(with_reducible refine(HM.out _ _ _ _ _ _).mono ?_);rintro e w2 ⟨rfl,hb2⟩;exact⟨rfl,Bes.of_below (HT.out.trans (Below.mono (HB1.out.trans (bHE q158 (hb2.mono (by first|exact hz1|(simp;done)|(simp;omega))))) hwT)),rfl⟩);(with_reducible refine(tK HF _ _ _ (.agg #[.int .i64 0,.int .i64 0,.int .i64 0,.int .i64 0,.string ⟨#[]⟩])).mono ?_);rintro e w9 ⟨rfl,h9⟩;obtain rfl:=h9.symm))
 all_goals exact q392
theorem aWP(r:Nat)(s:ByteArray)(a:Nat)(ha:a<=s.size)(hs:s.size<=140737488355327)(m:Int)(w:World)(hm:aF w m)(hr:RdY w r s a) :
 Calls prog 31 #[.pointer (some ⟨r,0,none⟩)] w (aWO w r s (aWN s.data.toList a)):=by
 unfold aWN;cases h:(aM (s.data.toList.drop a)).2 with
 |bad k=>exact aQI r s a k ha hs m w hm hr h
 |good t=>exact aIR r s a _ t ha hs m w hm hr h rfl
end Go.Proofs.YtdjpkgccakgkbaaGreatDoor
namespace Fo
def bBI:L:=[111,98,106]
def kH:L:=[101,110,100,111,98,106]
def qT:L:=[115,116,114,101,97,109]
def mM:L:=[101,110,100,115,116,114,101,97,109]
def aBD(l:L)(lo hi:Int):Res (Int×L):=match bE l with
 |.bad k=>.bad k
 |.good (t,r)=>if t.kind=1 then(if lo<=t.n/\t.n<=hi then .good (t.n,r) else .bad 2) else .bad 3
def nV(l x:L):Res L:=match bE l with
 |.bad k=>.bad k
 |.good (t,r)=>if t.kind=5/\t.s=x then .good r else .bad 3
def vZ(l:L):Res ((Int×Int)×L):=match aBD l 1 8191 with
 |.bad k=>.bad k
 |.good (n,r)=>match aBD r 0 65535 with
  |.bad k=>.bad k
  |.good (g,r)=>match nV r bBI with
   |.bad k=>.bad k
   |.good r=>.good ((n,g),r)
def jM(o:Ob)(k:L):Ob :=
 if o.keys[cR o.keys k]?=some k then o.withK (o.keys.take (cR o.keys k)++o.keys.drop (cR o.keys k+1)) (o.kids.take (cR o.keys k)++o.kids.drop (cR o.keys k+1)) else o
def iC(o:Ob)(data:L):Ob:=.mk 9 o.n o.g data (jM o bB).keys (jM o bB).kids
def aEV(o:Ob):Res Int:=match fE o bB with
 |none=>.bad 3
 |some v=>if v.kind=2 then(if 0<=v.n then .good v.n else .bad 2) else .bad 10
def wC(l:L):Res L:=if l=[]\/l=[13] then .bad 4 else if l.take 1=[10] then .good (l.drop 1) else if l.take 2=[13,10] then .good (l.drop 2) else .bad 3
def bBJ(o:Ob)(len:Int):Res Int:=if len<0 then aEV o else .good len
def yU(o:Ob)(n:Nat)(l:L):Res (Ob×L):=match nV (l.drop n) mM with
 |.bad k=>.bad k
 |.good r=>match nV r kH with
  |.bad k=>.bad k
  |.good r=>.good (iC o (l.take n),r)
def iV(o:Ob)(len:Int)(l:L):Res (Ob×L):=match wC l with
 |.bad k=>.bad k
 |.good l1=>match bBJ o len with
  |.bad k=>.bad k
  |.good n=>if 1048576<n then .bad 5 else if(l1.length:Int)<n then .bad 4 else yU o n.toNat l1
def wD(o:Ob)(len:Int)(l:L):Res (Ob×L):=match bE l with
 |.bad k=>.bad k
 |.good (t,r)=>if t.kind=5/\t.s=kH then .good (o,r) else if t.kind=5/\t.s=qT/\o.kind=7 then iV o len r else .bad 3
def aEW(l:L)(len:Int):Res (It×L) :=
 if len < -1 then .bad 1 else match vZ l with
 |.bad k=>.bad k
 |.good ((n,g),r)=>match fA r with
  |.bad k=>.bad k
  |.good (o,r)=>if o.kind=8 then .bad 10 else match wD o len r with
   |.bad k=>.bad k
   |.good (o,r)=>.good (⟨n,g,o⟩,r)
def tL(s:L)(a len:Int):Res (It×L):=if 0<=a/\a<=s.length then aEW (s.drop a.toNat) len else .bad 1
theorem uU{α:Type}{l:List α}{i:Nat}{x:α}(h:x∈l.take i++l.drop (i+1)):x∈l :=
 (List.mem_append.1 h).elim List.mem_of_mem_take List.mem_of_mem_drop
theorem aBE{α:Type}(l:List α)(i:Nat):(l.take i++l.drop (i+1)).Sublist l:=by
 conv=>rhs;rw[<-List.take_append_drop i l]
 refine List.Sublist.append (List.Sublist.refl _) ?_;rw[<-List.drop_drop];exact List.drop_sublist 1 _
theorem aBF{α:Type}(l:List α)(i:Nat)(hi:i<l.length):(l.take i++l.drop (i+1)).length=l.length-1:=by
 rw[bGR,bGT,bGS];omega
theorem bDX{l:List L}{k:L}(hp:l.Pairwise (·<·)){i:Nat}(hi:l[i]?=some k):k∉l.take i++l.drop (i+1):=by
 obtain⟨h1,h2⟩:=List.getElem?_eq_some_iff.1 hi;intro h;rcases List.mem_append.1 h with h|h
 ·obtain⟨j,hj,e⟩:=List.mem_iff_getElem.1 h;rw[List.getElem_take] at e;rw[bGT] at hj;have:=(List.pairwise_iff_getElem.1 hp) j i oM h1 oM;rw[e,h2] at this;exact List.lt_irrefl _ this
 ·obtain⟨j,hj,e⟩:=List.mem_iff_getElem.1 h;rw[List.getElem_drop] at e;rw[bGS] at hj;have:=(List.pairwise_iff_getElem.1 hp) i (i+1+j) h1 oM oM;rw[e,h2] at this;exact List.lt_irrefl _ this
theorem aQJ{l:List L}{k:L}(hp:l.Pairwise (·<·))(h:l[cR l k]?≠some k):k∉l:=by
 intro hk;rcases List.mem_append.1 ((List.take_append_drop (cR l k) l).symm▸hk) with h1|h1
 ·exact List.lt_irrefl _ (qM l k k h1)
 ·obtain⟨j,hj,e⟩:=List.mem_iff_getElem.1 h1;rw[List.getElem_drop] at e;rw[bGS] at hj;have hl:cR l k<l.length:=oM;cases j with
  |zero=>exact h (by rw[bGE hl];exact congrArg some e)
  |succ j =>
   have h2:=(List.pairwise_iff_getElem.1 hp) (cR l k) (cR l k+(j+1)) hl oM oM;rw[e] at h2;exact qN l k hp (l[cR l k]'hl) (List.mem_iff_getElem.2 ⟨0,q160,by rw[List.getElem_drop];rfl⟩) h2
theorem bBK{o:Ob}{k:L}(h:aUR o):(jM o k).keys.length=(jM o k).kids.length/\(jM o k).keys.Sublist o.keys/\(∀x∈(jM o k).kids,x∈o.kids)/\(jM o k).kids.length<=o.kids.length/\k∉(jM o k).keys:=by
 unfold jM;split
 ·rename_i hk
  have hi:=(List.getElem?_eq_some_iff.1 hk).1;refine⟨?_,aBE _ _,fun x hx=>uU hx,?_,bDX h.up hk⟩
  ·show(o.keys.take _++o.keys.drop _).length=(o.kids.take _++o.kids.drop _).length
   rw[aBF _ _ hi,aBF _ _ (by rw[<-h.len];exact hi),h.len]
  ·show(o.kids.take _++o.kids.drop _).length<=_
   rw[aBF _ _ (by rw[<-h.len];exact hi)];omega
 ·rename_i hk
  exact⟨h.len,List.Sublist.refl _,fun x hx=>hx,bGB _,aQJ h.up hk⟩
theorem wE{o:Ob}{data:L}(h:aT 24 o=0)(h7:o.kind=7)(hd:data.length<=1048576):aT 24 (iC o data)=0:=by
 have hc:=(dJ 23 o).1 h;have hk:=(lQ o (.inl h7)).1 hc.keys;obtain⟨h1,h2,h3,h4,h5⟩:=bBK (k:=bB) hk;have hu:=hc.uses;refine(dJ 23 _).2 ⟨?_,fun _=>rfl,rfl,?_,bGC h4 hc.many,?_,fun x hx=>hc.kids x (h3 x hx)⟩
 ·unfold eT at hu ⊢;rw[h7] at hu;simp[eB] at hu;show eB (iC o data) false false true true=true
  unfold eB;show((false||o.n==0)&&(false||o.g==0)&&(true||_)&&(true||_))=true
  simpa using hu.1
 ·show data.length<=gO 9
  exact hd
 ·refine(lQ _ (.inr rfl)).2 ⟨h1,fun k hk2=>hk.name k (h2.subset (show k∈(jM o bB).keys from hk2)),hk.up.sublist h2,fun _ k hk2 e=>h5 (by have h:=hk2;rw[e] at h;exact h),fun x hx=>hk.kids x (h3 x hx)⟩
end Fo
namespace Go.Proofs.YtdjpkgccakgkbaaGreatDoor
open Go.Proofs.Tryz
open Go.RowKit Fo
def bDY{α:Type}(w:World)(r:Nat)(s:ByteArray)(V:α->Value->Prop)(R:Res (α×L))(e:Ending)(w':World):Prop:=Bes r w w'/\match R with
 |.good (x,aP)=>(∃v,e=.returned v/\V x v)/\∃q,q<=s.size/\aP=s.data.toList.drop q/\RdY w' r s q
 |.bad k=>e=.panicked [{ v:=.iface 109 (.agg #[.int .i64 k]),recovered:=false }]
def tokY(t:Tok)(v:Value):Prop:=∃p q:Int,v=.agg #[.int .i64 t.kind,.int .i64 p,.int .i64 q,.int .i64 t.n,.string ⟨t.s.toArray⟩]
theorem aBG(r:Nat)(s:ByteArray)(a:Nat)(ha:a<=s.size)(hs:s.size<=140737488355327)(m:Int)(w:World)(hm:aF w m)(hr:RdY w r s a)(hrm:r≠1):Calls prog 31 #[.pointer (some ⟨r,0,none⟩)] w (bDY w r s tokY (bE (s.data.toList.drop a))):=by
 refine(aWP r s a ha hs m w hm hr).mono ?_;rintro e w' ⟨hb,h⟩;refine⟨hb,?_⟩;unfold aWN at h;unfold bE;cases hn:(aM (s.data.toList.drop a)).2 with
 |bad k=>rw[hn] at h;exact h
 |good t =>
  rw[hn] at h;dsimp only at h ⊢;by_cases hk:t.kind=0
  ·rw[bGV hk] at h ⊢;exact h
  ·rw[bGU hk] at h ⊢;obtain⟨rfl,h2,_,h4⟩:=h;refine⟨⟨_,rfl,_,_,rfl⟩,_,h4,?_,h2⟩;rw[List.drop_drop,bHM]
def intY(n:Int)(v:Value):Prop:=v=.int .i64 n
theorem bBL(r:Nat)(s:ByteArray)(a:Nat)(ha:a<=s.size)(hs:s.size<=140737488355327)(m:Int)(w:World)(hm:aF w m)(hr:RdY w r s a)(hrm:r≠1)(lo hi:Int):Calls prog 54 #[.pointer (some ⟨r,0,none⟩),.int .i64 lo,.int .i64 hi] w (bDY w r s intY (aBD (s.data.toList.drop a) lo hi)):=by
 have HN:=Lh (fun W (hW:Below w.heap.size w W)=>aBG r s a ha hs m W (hm.below hW) (hr.below hW) hrm);have hlt:=hr.lt;obtain⟨RV,hRV⟩:=eX (aBD (s.data.toList.drop a) lo hi);rw[hRV];unfold aBD at hRV;obtain⟨R,hR⟩:=eX (bE (s.data.toList.drop a));rw[hR] at HN hRV;have HRV:=Lh hRV;clear hR hRV;go_enter func54,ntmps54
 go_wp2_with fail;refine(HN.out _ bel).mono ?_;rintro e w1 ⟨hb1,h1⟩;have HB1:=Lh (Bes.trans (show Bes r w _ from q95) hb1);have hz1:=hb1.size;clear hb1;cases R with
 |bad k =>
  exact q481
 |good x =>
  obtain⟨t,aP⟩:=x;obtain⟨⟨v,rfl,p,q,rfl⟩,z,hzs,rfl,hr1⟩:=h1;have HR1:=Lh hr1;have hl1:=hr1.lt;clear hr1;obtain⟨tk,tl,tn,ts⟩:=t;dsimp only;by_cases hk:tk=1
  ·subst hk;by_cases h0:lo<=tn
   ·have d0:decide (lo<=tn)=true:=bGI h0;by_cases h2:tn<=hi
    ·have d2:decide (tn<=hi)=true:=bGI h2;have HRE:=Lh (show RV=.good (tn,s.data.toList.drop z) from HRV.out.symm.trans (show(if(1:Int)=1 then(if lo<=tn/\tn<=hi then(.good (tn,s.data.toList.drop z):Res (Int×L)) else .bad 2) else .bad 3)=.good (tn,s.data.toList.drop z) by rw[bGV rfl,bGV ⟨h0,h2⟩]));clear h0 h2;go_wp2_with(go_at_call 28;(with_reducible refine(cC _ _).mono ?_);rintro e w9 ⟨rfl,h9⟩;obtain rfl:=h9.symm)
     go_ret
     refine⟨(HB1.out.alloc _),?_⟩;rw[HRE.out];exact⟨⟨_,rfl,rfl⟩,z,hzs,rfl,HR1.out.below bel⟩
    ·have d2:decide (tn<=hi)=false:=bGH h2;have HRE:=Lh (show RV=.bad 2 from HRV.out.symm.trans (show(if(1:Int)=1 then(if lo<=tn/\tn<=hi then(.good (tn,s.data.toList.drop z):Res (Int×L)) else .bad 2) else .bad 3)=.bad 2 by rw[bGV rfl,bGU (fun h=>h2 h.2)]));clear h0 h2;exact q389
   ·have d0:decide (lo<=tn)=false:=bGH h0;have HRE:=Lh (show RV=.bad 2 from HRV.out.symm.trans (show(if(1:Int)=1 then(if lo<=tn/\tn<=hi then(.good (tn,s.data.toList.drop z):Res (Int×L)) else .bad 2) else .bad 3)=.bad 2 by rw[bGV rfl,bGU (fun h=>h0 h.1)]));clear h0;exact q389
  ·have d0:(tk==1)=false:=q93;have HRE:=Lh (show RV=.bad 3 from HRV.out.symm.trans (show(if tk=1 then(if lo<=tn/\tn<=hi then(.good (tn,s.data.toList.drop z):Res (Int×L)) else .bad 2) else .bad 3)=.bad 3 from bGU hk));clear hk;exact q380
def bFH(w:World)(r:Nat)(s:ByteArray)(R:Res L)(e:Ending)(w':World):Prop:=Bes r w w'/\match R with
 |.good aP=>e=.returned (.tuple #[])/\∃q,q<=s.size/\aP=s.data.toList.drop q/\RdY w' r s q
 |.bad k=>e=.panicked [{ v:=.iface 109 (.agg #[.int .i64 k]),recovered:=false }]
theorem aEX(r:Nat)(s:ByteArray)(a:Nat)(ha:a<=s.size)(hs:s.size<=140737488355327)(m:Int)(w:World)(hm:aF w m)(hr:RdY w r s a)(hrm:r≠1)(x:L):Calls prog 55 #[.pointer (some ⟨r,0,none⟩),.string ⟨x.toArray⟩] w (bFH w r s (nV (s.data.toList.drop a) x)):=by
 have HN:=Lh (fun W (hW:Below w.heap.size w W)=>aBG r s a ha hs m W (hm.below hW) (hr.below hW) hrm);have hlt:=hr.lt;obtain⟨RV,hRV⟩:=eX (nV (s.data.toList.drop a) x);rw[hRV];unfold nV at hRV;obtain⟨R,hR⟩:=eX (bE (s.data.toList.drop a));rw[hR] at HN hRV;have HRV:=Lh hRV;clear hR hRV;go_enter func55,ntmps55
 go_wp2_with fail;refine(HN.out _ bel).mono ?_;rintro e w1 ⟨hb1,h1⟩;have HB1:=Lh (Bes.trans (show Bes r w _ from q95) hb1);have hz1:=hb1.size;clear hb1;cases R with
 |bad k =>
  exact q481
 |good y =>
  obtain⟨t,aP⟩:=y;obtain⟨⟨v,rfl,p,q,rfl⟩,z,hzs,rfl,hr1⟩:=h1;have HR1:=Lh hr1;have hl1:=hr1.lt;clear hr1;obtain⟨tk,tl,tn,ts⟩:=t;dsimp only;by_cases hk:tk=5
  ·subst hk;by_cases hx:ts=x
   ·subst hx;have HRE:=Lh (show RV=.good (s.data.toList.drop z) from HRV.out.symm.trans (show(if(5:Int)=5/\ts=ts then(.good (s.data.toList.drop z):Res L) else .bad 3)=.good (s.data.toList.drop z) from bGV ⟨rfl,rfl⟩));go_wp2_with(go_at_call 28;(with_reducible refine(cC _ _).mono ?_);rintro e w9 ⟨rfl,h9⟩;obtain rfl:=h9.symm)
    go_end0
    refine⟨(HB1.out.alloc _),?_⟩;rw[HRE.out];exact⟨rfl,z,hzs,rfl,HR1.out.below bel⟩
   ·have HRE:=Lh (show RV=.bad 3 from HRV.out.symm.trans (show(if(5:Int)=5/\ts=x then(.good (s.data.toList.drop z):Res L) else .bad 3)=.bad 3 from bGU (fun h=>hx h.2)));have dx:(ts==x)=false:=by simpa using hx
    clear hx;exact q380
  ·have d0:(tk==5)=false:=q93;have HRE:=Lh (show RV=.bad 3 from HRV.out.symm.trans (show(if tk=5/\ts=x then(.good (s.data.toList.drop z):Res L) else .bad 3)=.bad 3 from bGU (fun h=>hk h.1)));clear hk;exact q380
theorem aWQ(r:Nat)(s:ByteArray)(a:Nat)(ha:a<=s.size)(hs:s.size<=140737488355327)(m:Int)(w:World)(hm:aF w m)(hr:RdY w r s a)(hrm:r≠1):Calls prog 29 #[.pointer (some ⟨r,0,none⟩)] w (bDY w r s (fun(x:Int×Int) v=>v=.tuple #[.int .i64 x.1,.int .i64 x.2]) (vZ (s.data.toList.drop a))):=by
 have HN:=Lh (fun q (hq:q<=s.size) W (hmW:aF W m) (hr:RdY W r s q) lo hi=>bBL r s q hq hs m W hmW hr hrm lo hi);have HW:=Lh (fun q (hq:q<=s.size) W (hmW:aF W m) (hr:RdY W r s q)=>aEX r s q hq hs m W hmW hr hrm bBI);have hlt:=hr.lt;obtain⟨RH,hRH⟩:=eX (vZ (s.data.toList.drop a));rw[hRH];unfold vZ at hRH;obtain⟨R1,hR1⟩:=eX (aBD (s.data.toList.drop a) 1 8191);have H1:=Lh (hR1▸HN.out a ha w hm hr 1 8191);rw[hR1] at hRH;have HRH:=Lh hRH;clear hR1 hRH;go_enter func29,ntmps29
 go_wp2_with fail;refine H1.out.mono ?_;rintro e w1 ⟨hb1,h1⟩;have hm1:aF w1 m:=hm.bes hb1 hrm;cases R1 with
 |bad k =>
  have HRE:=Lh (show RH=.bad k from HRH.out.symm);obtain rfl:=h1;go_wp2;exact⟨rfl,hb1,q161⟩
 |good y =>
  obtain⟨n,aP⟩:=y;obtain⟨⟨v,rfl,rfl⟩,q,hq,rfl,hr1⟩:=h1;obtain⟨R2,hR2⟩:=eX (aBD (s.data.toList.drop q) 0 65535);have H2:=Lh (hR2▸HN.out q hq w1 hm1 hr1 0 65535);have HRH2:=HRH.out;dsimp only at HRH2;rw[hR2] at HRH2;have HRH:=Lh HRH2;clear hR2 H1 HRH2;go_wp2_with fail;refine H2.out.mono ?_;rintro e w2 ⟨hb2,h2⟩;have hm2:aF w2 m:=hm1.bes hb2 hrm;have hb02:=hb1.trans hb2;cases R2 with
  |bad k =>
   have HRE:=Lh (show RH=.bad k from HRH.out.symm);obtain rfl:=h2;go_wp2;exact⟨rfl,hb02,q161⟩
  |good y =>
   obtain⟨g,aP⟩:=y;obtain⟨⟨v,rfl,rfl⟩,q2,hq2,rfl,hr2⟩:=h2;obtain⟨R3,hR3⟩:=eX (nV (s.data.toList.drop q2) bBI);have H3:=Lh (hR3▸HW.out q2 hq2 w2 hm2 hr2);have HRH2:=HRH.out;dsimp only at HRH2;rw[hR3] at HRH2;have HRH:=Lh HRH2;unfold bBI at H3;clear hR3 H2 HRH2;go_wp2_with fail;refine H3.out.mono ?_;rintro e w3 ⟨hb3,h3⟩;have hb03:=hb02.trans hb3;cases R3 with
   |bad k =>
    have HRE:=Lh (show RH=.bad k from HRH.out.symm);obtain rfl:=h3;go_wp2;exact⟨rfl,hb03,q161⟩
   |good aP =>
    obtain⟨rfl,q3,hq3,rfl,hr3⟩:=h3;have HRE:=Lh (show RH=.good ((n,g),s.data.toList.drop q3) from HRH.out.symm);go_wp2;go_ret2
    refine⟨hb03,?_⟩;rw[HRE.out];exact⟨⟨_,rfl,rfl⟩,q3,hq3,rfl,hr3⟩
theorem aIS(s:ByteArray)(a:Nat)(ha:a<=s.size)(w:World):Calls prog 27 #[.string s,.int .i64 a] w fun e w'=>e=.returned (.pointer (some ⟨w.heap.size,0,none⟩))/\RdY w' w.heap.size s a/\Below w.heap.size w w':=by
 have d0:decide ((a:Int)<=(s.size:Int))=true:=sO;have d1:decide (a<=s.size)=true:=by simpa using ha
 clear ha;go_enter func27,ntmps27
 go_wp2_with(go_at_call 28;(with_reducible refine(cC _ _).mono ?_);rintro e w9 ⟨rfl,h9⟩;obtain rfl:=h9.symm)
 go_ret
 exact⟨rfl,aA _ _ _ rfl,bel⟩
theorem aQK(s:ByteArray)(a:Int)(ha:a<0\/(s.size:Int)<a)(w:World):Calls prog 27 #[.string s,.int .i64 a] w fun e w'=>e=.panicked [{ v:=.iface 109 (.agg #[.int .i64 1]),recovered:=false }]/\w'=w:=by
 by_cases h0:a<0
 ·have d0:decide (0<=a)=false:=sO;clear ha h0;exact q425
 ·have d0:decide (0<=a)=true:=sO;have d1:decide (a<=(s.size:Int))=false:=sO;clear ha h0;exact q425
theorem Bes.grown'{r b:Nat}{a w w':World}(h:Bes r a w)(hg:w.grownBy w' (some b))(hb:a.heap.size<=b):Bes r a w' :=
 ⟨hg.os.trans h.os,hg.tape.trans h.tape,hg.output.trans h.output,bGC h.size hg.size,fun k hk hr=>(hg.block k (bGA hk h.size) (fun e=>q123)).trans (h.block k hk hr)⟩
def bDZ(w:World)(r:Nat)(s:ByteArray)(R:Res (Ob×L))(e:Ending)(w':World):Prop:=Bes r w w'/\match R with
 |.good (o,aP)=>(∃p1 n1 c1 p2 n2 c2,e=.returned (.agg #[.int .i64 o.kind,.int .i64 o.n,.int .i64 o.g,.string ⟨o.s.toArray⟩,.slice p1 n1 c1,.slice p2 n2 c2])/\aI (fun b=>w.heap.size<=b) 25 w' (aB o.kind o.n o.g o.s (.slice p1 n1 c1) (.slice p2 n2 c2)) o)/\∃q,q<=s.size/\aP=s.data.toList.drop q/\RdY w' r s q
 |.bad k=>e=.panicked [{ v:=.iface 109 (.agg #[.int .i64 k]),recovered:=false }]
theorem aIT(r:Nat)(s:ByteArray)(a:Nat)(ha:a<=s.size)(hs:s.size<=140737488355327)(m:Int)(w:World)(hm:aF w m)(hr:RdY w r s a)(hrm:r≠1):Calls prog 30 #[.pointer (some ⟨r,0,none⟩)] w (bDZ w r s (fA (s.data.toList.drop a))):=by
 have HOB:=Lh (fun W (hW:Below w.heap.size w W)=>sG s a ha hs m W (hm.below hW));have hlt:=hr.lt;obtain⟨R,hR⟩:=eX (fA (s.data.toList.drop a));have HCO:=Lh (fun k (h:R=.bad k)=>kG (hR.trans h));rw[hR] at HOB ⊢;clear hR;go_enter func30,ntmps30
 go_upto_region 1 with fail
 obtain⟨w0,hw0⟩:=eX (w.alloc (.cells #[.int .i64 0,.int .i64 0,.int .i64 0,.string ⟨#[]⟩,.slice none 0 0,.slice none 0 0] 31));have hb0:Below w.heap.size w w0:=q150;have hA0:w0.heap[w.heap.size]?=some (.cells #[.int .i64 0,.int .i64 0,.int .i64 0,.string ⟨#[]⟩,.slice none 0 0,.slice none 0 0] 31 (0,0)):=by rw[<-hw0];exact bGP w _
 have hz0:w.heap.size+1<=w0.heap.size:=q151;rw[hw0];clear hw0;have hr0:=hr.below hb0;have k0:=hr0.cell0;have k1:=hr0.cell1;have kf:=hr0.frozen;have hlt0:=hr0.lt;have ne1:¬r=w0.heap.size:=oM;have ne2:¬w0.heap.size=r:=oM;have HR0:=Lh hr0;have HB0:=Lh hb0;have HA0:=Lh hA0;clear hr0 hb0 hA0 hr;cases R with
 |bad k =>
  have dk:(k==0)=false:=by have:=HCO.out k rfl;simp;omega
  go_cut [5] (fun s5 wx=>s5=.int .i64 k/\Below w0.heap.size w0 wx)
  case first =>
   go_region_held3 (fun w'=>w'.cell? ⟨r,0,none⟩=some (.string s)/\w'.cell? ⟨r,1,none⟩=some (.int .i64 a)) (go_keep) ((go_at_call 52;refine(HOB.out _ (HB0.out.trans (Below.mono (show Below w0.heap.size w0 _ from bel) HB0.out.size))).mono ?_;rintro e w5 ⟨rfl,hb⟩;obtain⟨hc,hf⟩:=aZ hb;have hz:=hb.size;simp at hz;have hbw:Below w0.heap.size w0 w5:=bel;have k0:=(hbw.cell (p:=⟨r,0,none⟩) hlt0).trans k0;have k1:=(hbw.cell (p:=⟨r,1,none⟩) hlt0).trans k1))
   all_goals go_wp2_with fail
   all_goals go_meet
   all_goals exact⟨rfl,bel⟩
  case rest =>
   obtain⟨rfl,hb⟩:=hcut;go_wp2_with(go_at_call 28;(with_reducible refine(dA _ _).mono ?_);rintro e w9 ⟨rfl,h9⟩;obtain rfl:=h9.symm)
   exact⟨rfl,Bes.of_below (HB0.out.trans (hb.mono HB0.out.size)),rfl⟩
 |good x =>
  obtain⟨o,aP⟩:=x;go_cut [3,4,5] (fun s3 s4 s5 wx=>∃(g z:Nat) (p1:Option Addr) (n1 c1:Nat) (p2:Option Addr) (n2 c2:Nat),s3=.pointer (some ⟨g,0,none⟩)/\s4=.int .i64 z/\s5=.int .i64 0/\z<=s.size/\aP=s.data.toList.drop z/\wx.heap[g]?=some (.cells #[.int .i64 o.kind,.int .i64 o.n,.int .i64 o.g,.string ⟨o.s.toArray⟩,.slice p1 n1 c1,.slice p2 n2 c2] 31 (0,0))/\w0.heap.size<=g /\
   Hid (aI (fun b=>w0.heap.size<=b) 25 wx (aB o.kind o.n o.g o.s (.slice p1 n1 c1) (.slice p2 n2 c2)) o)/\Below w0.heap.size w0 wx)
  case first =>
   go_region_held3 (fun w'=>w'.cell? ⟨r,0,none⟩=some (.string s)/\w'.cell? ⟨r,1,none⟩=some (.int .i64 a)) (go_keep) ((go_at_call 52;refine(HOB.out _ (HB0.out.trans (Below.mono (show Below w0.heap.size w0 _ from bel) HB0.out.size))).mono ?_;rintro e w5 ⟨p1,n1,c1,p2,n2,c2,z,rfl,hz1,hrest,hO5,hb⟩;obtain⟨hc,hf⟩:=aZ hb;have hz:=hb.size;simp at hz;have hbw:Below w0.heap.size w0 w5:=bel;have k0:=(hbw.cell (p:=⟨r,0,none⟩) hlt0).trans k0;have k1:=(hbw.cell (p:=⟨r,1,none⟩) hlt0).trans k1))
   all_goals go_wp2_with fail
   all_goals go_meet
   ·exact⟨w5.heap.size,z,p1,n1,c1,p2,n2,c2,rfl,rfl,rfl,hz1,hrest,aA _ _ _ rfl,hbw.size,Lh (hO5.grow (fun b h1 h2=>⟨h1,bGM _ _ _ h2⟩)),hbw.alloc hbw.size _⟩
   ·have B1:w5.heap[w0.heap.size]?=some (.cells #[.int .i64 0,.int .i64 0,.int .i64 0,.string ⟨#[]⟩,.slice none 0 0,.slice none 0 0] 31 (0,0)):=(hb.block _ sI).trans (aA w0 _ _ rfl);have hg6:=bA w5 w0.heap.size 0 1 2 3 4 5 (.int .i64 o.kind) (.int .i64 o.n) (.int .i64 o.g) (.string ⟨o.s.toArray⟩) (.slice p1 n1 c1) (.slice p2 n2 c2);exact⟨w0.heap.size,z,p1,n1,c1,p2,n2,c2,rfl,rfl,rfl,hz1,hrest,cL B1,bGB _,Lh (hO5.grow (fun b h1 h2=>⟨q162,hg6.block b h2 (fun e=>by simp at e h1;omega)⟩)),hbw.grown hg6 hbw.size (fun k e=>q125)⟩
  case rest =>
   obtain⟨g,z,p1,n1,c1,p2,n2,c2,rfl,rfl,rfl,hz1,rfl,hG,hg,HO,hbx⟩:=hcut;obtain⟨w5,rfl⟩:∃w5,w5=wc:=⟨_,rfl⟩
   have hz5:=hbx.size;have hr5:=HR0.out.below hbx;have hX5:=(hbx.block w.heap.size oM).trans HA0.out;have hB5:Bes r w w5:=Bes.of_below (HB0.out.trans (hbx.mono HB0.out.size));have hgl:=bGJ hG;have j1:=hr5.cell1;have jf:=hr5.frozen;have nx1:¬g=r:=oM;have nx2:¬r=g:=oM;have nx3:¬g=w.heap.size:=oM;have nx4:¬w.heap.size=g:=oM;have nx5:¬r=w.heap.size:=oM;have nx6:¬w.heap.size=r:=oM;have HR5:=Lh hr5;have HX5:=Lh hX5;have HG5:=Lh hG;obtain⟨g0,g1,g2,g3,g4,g5,gf⟩:=aD hG;clear hr5 hbx hG k0 k1 kf ne1 ne2 hX5;go_upto_region 4 with(go_at_call 28;(with_reducible refine(cC _ _).mono ?_);rintro e w9 ⟨rfl,h9⟩;obtain rfl:=h9.symm)
   obtain⟨w6,hw6⟩:=eX (w5.setCell ⟨r,1,none⟩ (.int .i64 z));rw[hw6];have hs56:Bes r w5 w6:=q163;have hr6:RdY w6 r s z:=by rw[<-hw6];exact HR5.out.set
   have hX6:=(hs56.block w.heap.size oM oM).trans HX5.out;have hG6:=(hs56.block g oM oM).trans HG5.out;have hz6:w6.heap.size=w5.heap.size:=q164;have HO6:=Lh (show aI (fun b=>w0.heap.size<=b) 25 w6 (aB o.kind o.n o.g o.s (.slice p1 n1 c1) (.slice p2 n2 c2)) o from HO.out.grow (fun b h1 h2=>⟨h1,hs56.block b h2 oM⟩));clear hw6 g0 g1 g2 g3 g4 g5 gf j1 jf;obtain⟨g0,g1,g2,g3,g4,g5,gf⟩:=aD hG6;obtain⟨x0,x1,x2,x3,x4,x5,xf⟩:=aD hX6;go_wp2;obtain⟨w7,hw7⟩:=eX (((((((w6.setCell ⟨w.heap.size,0,none⟩ (.int .i64 o.kind)).setCell ⟨w.heap.size,1,none⟩ (.int .i64 o.n)).setCell ⟨w.heap.size,2,none⟩ (.int .i64 o.g)).setCell ⟨w.heap.size,3,none⟩ (.string ⟨o.s.toArray⟩)).setCell ⟨w.heap.size,4,none⟩ (.slice p1 n1 c1)).setCell ⟨w.heap.size,5,none⟩ (.slice p2 n2 c2)));rw[hw7];have sg7:=bA w6 w.heap.size 0 1 2 3 4 5 (.int .i64 o.kind) (.int .i64 o.n) (.int .i64 o.g) (.string ⟨o.s.toArray⟩) (.slice p1 n1 c1) (.slice p2 n2 c2);have Z7:=cL (v0:=.int .i64 o.kind) (v1:=.int .i64 o.n) (v2:=.int .i64 o.g) (v3:=.string ⟨o.s.toArray⟩) (v4:=.slice p1 n1 c1) (v5:=.slice p2 n2 c2) hX6;rw[hw7] at sg7 Z7;clear hw7 g0 g1 g2 g3 g4 g5 gf x0 x1 x2 x3 x4 x5 xf;obtain⟨x0,x1,x2,x3,x4,x5,xf⟩:=aD Z7;refine bGN (v:=.agg #[.int .i64 o.kind,.int .i64 o.n,.int .i64 o.g,.string ⟨o.s.toArray⟩,.slice p1 n1 c1,.slice p2 n2 c2]) (by simp[results,results30,go_sem,x0,x1,x2,x3,x4,x5,xf]) rfl ?_
   refine⟨(hB5.trans hs56).grown' sg7 (bGB _),⟨p1,n1,c1,p2,n2,c2,rfl,HO6.out.grow (fun b h1 h2=>⟨oM,sg7.block b h2 (fun e=>q123)⟩)⟩,z,hz1,rfl,?_⟩;unfold RdY at *
   rw[sg7.block r oM (fun e=>q123)];exact hr6
theorem aIU{S:Nat->Prop}{d:Nat}{w:World}{cs:List Value}{o:Ob}(h:aI S d w cs o):∃e,d=e+1:=by
 exact q545
theorem aWR(S:Nat->Prop)(d:Nat)(w:World)(cs:List Value)(o:Ob)(key:L)(h:aI S d w cs o)(ht:cN d o)(hS:∀b,S b->b<w.heap.size) :
 Calls prog 46 #[.agg cs.toArray,.string ⟨key.toArray⟩] w (eY (d-1) w (fE o key)):=by
 obtain⟨e,rfl⟩:=aIU h;exact qS S e w cs o key h ht hS
def bFI(w:World)(R:Res Int)(e:Ending)(w':World):Prop:=Below w.heap.size w w'/\match R with
 |.good n=>e=.returned (.int .i64 n)
 |.bad k=>e=.panicked [{ v:=.iface 109 (.agg #[.int .i64 k]),recovered:=false }]
theorem bBM(S:Nat->Prop)(d:Nat)(w:World)(p1 p2:Option Addr)(n1 c1 n2 c2:Nat)(o:Ob)(h:aI S d w (aB o.kind o.n o.g o.s (.slice p1 n1 c1) (.slice p2 n2 c2)) o)(ht:cN d o)(hS:∀b,S b->b<w.heap.size):Calls prog 59 #[.agg #[.int .i64 o.kind,.int .i64 o.n,.int .i64 o.g,.string ⟨o.s.toArray⟩,.slice p1 n1 c1,.slice p2 n2 c2]] w (bFI w (aEV o)):=by
 have HG:=Lh (fun(W:World) (hW:Below w.heap.size w W)=>aWR S d W _ o bB (h.kept (fun b h=>hW.block b (hS b h)) d) ht (fun b h=>bGA (hS b h) hW.size));unfold aB bB at HG;obtain⟨V,hV⟩:=eX (aEV o);rw[hV];unfold aEV bB at hV;obtain⟨R,hR⟩:=eX (fE o [76,101,110,103,116,104]);rw[hR] at hV HG;have HV:=Lh hV;clear hV hR h ht hS;unfold eY at HG;cases R with
 |none =>
  have HV:=Lh (show V=.bad 3 from HV.out.symm);rw[HV.out];go_enter func59,ntmps59
  go_wp2_with fail;refine(HG.out _ ?_).mono ?_
  ·exact bel
  rintro e w1 ⟨rfl,hb1⟩;have HB1:=Lh (show Below w.heap.size w w1 from bHE bel (hb1.mono sI));clear hb1 HG;go_wp2_with(go_at_call 28;(with_reducible refine(dA _ _).mono ?_);rintro e w9 ⟨rfl,h9⟩;obtain rfl:=h9.symm)
  have hb:=HB1.out;have hz:=hb.size;exact⟨rfl,bel,rfl⟩
 |some v =>
  dsimp only at HV;by_cases hk:v.kind=2
  ·have dk:(v.kind==2)=true:=q93;by_cases hn:0<=v.n
   ·have dn:decide (0<=v.n)=true:=bGI hn;have HRE:=Lh (show V=.good v.n from by rw[<-HV.out,bGV hk,bGV hn]);rw[HRE.out];clear HV hk hn HRE;go_enter func59,ntmps59
    go_wp2_with fail;refine(HG.out _ ?_).mono ?_
    ·exact bel
    rintro e w1 ⟨q1,e1,q2,e2,rfl,hO,hb1⟩;have HB1:=Lh (show Below w.heap.size w w1 from bHE bel (hb1.mono sI));clear hb1 HG hO;go_wp2_with(go_at_call 28;(with_reducible refine(cC _ _).mono ?_);rintro e w9 ⟨rfl,h9⟩;obtain rfl:=h9.symm)
    go_ret
    have hb:=HB1.out;have hz:=hb.size;exact⟨bel,rfl⟩
   ·have dn:decide (0<=v.n)=false:=bGH hn;have HRE:=Lh (show V=.bad 2 from by rw[<-HV.out,bGV hk,bGU hn]);rw[HRE.out];clear HV hk hn HRE;exact q332
  ·have dk:(v.kind==2)=false:=q93;have HRE:=Lh (show V=.bad 10 from by rw[<-HV.out,bGU hk]);rw[HRE.out];clear HV hk HRE;exact q332
theorem aIV(s:ByteArray)(a:Nat):(s.extract a s.size).toList=s.data.toList.drop a:=by
 rw[ByteArray.toList_eq];exact Lib.extract_to_end s a
theorem aEY{l x:L}:Lib.hasPrefix l x=decide (l.take x.length=x):=by
 rw[Bool.eq_iff_iff,decide_eq_true_eq];unfold Lib.hasPrefix;rw[List.isPrefixOf_iff_prefix,List.prefix_iff_eq_take];exact eq_comm
theorem aWS(r:Nat)(s:ByteArray)(a:Nat)(ha:a<=s.size)(hs:s.size<=140737488355327)(m:Int)(w:World)(hm:aF w m)(hr:RdY w r s a)(hrm:r≠1):Calls prog 58 #[.pointer (some ⟨r,0,none⟩)] w (bFH w r s (wC (s.data.toList.drop a))):=by
 have k0:=hr.cell0;have k1:=hr.cell1;have kf:=hr.frozen;have hlt:=hr.lt;have HR:=Lh hr;have hl:=aIV s a;obtain⟨LB,hLB⟩:=eX (s.extract a s.size);have hLs:LB.size=s.size-a:=by rw[<-hLB];simp[ByteArray.size_extract]
 rw[hLB] at hl;have hlen:(s.data.toList.drop a).length=s.size-a:=by rw[bGS];rfl
 have hl2:LB.data.toList=s.data.toList.drop a:=by rw[<-Lib.toList_data];exact hl
 have HB1:=Lh (fun(W:World) b (hb:decide ((s.data.toList.drop a).take 1=[10])=b)=>show Calls prog 11 #[.string LB,.string ⟨#[10]⟩,.int .i64 0] W (fun e w'=>e=.returned (.bool b)/\w'=W) from dQ LB ⟨#[10]⟩ 0 b (by rw[aEY,List.drop_zero,hl2];exact hb) (bGF _) q26 W);have HB2:=Lh (fun(W:World) b (hb:decide ((s.data.toList.drop a).take 2=[13,10])=b)=>show Calls prog 11 #[.string LB,.string ⟨#[13,10]⟩,.int .i64 0] W (fun e w'=>e=.returned (.bool b)/\w'=W) from dQ LB ⟨#[13,10]⟩ 0 b (by rw[aEY,List.drop_zero,hl2];exact hb) (bGF _) q26 W);obtain⟨RV,hRV⟩:=eX (wC (s.data.toList.drop a));rw[hRV];unfold wC at hRV;have hsz:=ha;have hdd:∀k,(s.data.toList.drop a).drop k=s.data.toList.drop (a+k):=fun k=>by rw[List.drop_drop]
 obtain⟨l,hll⟩:=eX (s.data.toList.drop a);rw[hll] at hl hlen HB1 HB2 hRV hdd;have HRV:=Lh hRV;have HL:=Lh (bGQ hlen hdd);clear hRV hll hLs hlen hdd hl2;by_cases h0:l=[]
 ·have d0:LB.toList.isEmpty=true:=by rw[hl,h0];rfl
  have d1:LB.toList=[]:=by rw[hl,h0]
  have HRE:=Lh (show RV=.bad 4 from HRV.out.symm.trans (bGV (.inl h0)));clear h0 hl;exact q405
 ·have d0:LB.toList.isEmpty=false:=by rw[hl];simpa using h0
  have d1:¬LB.toList=[]:=by rw[hl];exact h0
  by_cases h13:l=[13]
  ·have d2:(LB.toList==[13])=true:=by rw[hl,h13];rfl
   have HRE:=Lh (show RV=.bad 4 from HRV.out.symm.trans (bGV (.inr h13)));clear h0 hl h13;exact q405
  ·have d2:(LB.toList==[13])=false:=by rw[hl];simpa using h13
   have HRV:=Lh (show(if l.take 1=[10] then Res.good (l.drop 1) else if l.take 2=[13,10] then .good (l.drop 2) else .bad 3)=RV from by
    have h:=HRV.out;rw[bGU (fun h=>h.elim h0 h13)] at h;exact h)
   clear h0 h13 hl;go_enter func58,ntmps58
   go_wp2_with fail;go_quiet (fail)
   obtain⟨w0,hw0⟩:=eX (w.drewN nq);have hb0:Below w.heap.size w w0:=by rw[<-hw0];exact aN (bGL _ _) nq
   rw[hw0];clear hw0;have hr0:=HR.out.below hb0;have hlt0:=hr0.lt;have hb1:Below w0.heap.size w0 (w0.alloc (.cells #[.string ⟨#[10]⟩,.string ⟨#[13,10]⟩] 9)):=(bGL _ _).alloc (bGB _) _;have hr1:=hr0.below hb1;have hz1:w0.heap.size+1=(w0.alloc (.cells #[.string ⟨#[10]⟩,.string ⟨#[13,10]⟩] 9)).heap.size:=sI;have E1:(w0.alloc (.cells #[.string ⟨#[10]⟩,.string ⟨#[13,10]⟩] 9)).heap[w0.heap.size]?=some (.cells #[.string ⟨#[10]⟩,.string ⟨#[13,10]⟩] 9 (0,0)):=bGP w0 _;have HBe:=Lh (Bes.of_below (r:=r) (hb0.trans (hb1.mono hb0.size)));go_wp2_with(go_at_call 28;(with_reducible refine(cC _ _).mono ?_);rintro e w9 ⟨rfl,h9⟩;obtain rfl:=h9.symm)
   go_loopw [23] (fun i wr=>wr=(w0.alloc (.cells #[.string ⟨#[10]⟩,.string ⟨#[13,10]⟩] 9))/\(i=.int .i64 0\/(i=.int .i64 1/\l.take 1≠[10])\/(i=.int .i64 2/\l.take 1≠[10]/\l.take 2≠[13,10]))) (fun i _=>2-(intOf i).toNat)
   case atStart=>exact⟨rfl,.inl rfl⟩
   case round =>
    obtain⟨hwr,hi⟩:=hrel;obtain⟨W1,hW1⟩:=eX ((w0.alloc (.cells #[.string ⟨#[10]⟩,.string ⟨#[13,10]⟩] 9)));rw[hW1] at hwr hr1 hz1 E1 HBe ⊢;obtain rfl:=hwr.symm;have j1:=hr1.cell1;have jf:=hr1.frozen;have hl1:=hr1.lt;have e0:W1.cell? ⟨w0.heap.size,0,none⟩=some (.string ⟨#[10]⟩):=by simp[World.cell?,E1]
    have e1:W1.cell? ⟨w0.heap.size,1,none⟩=some (.string ⟨#[13,10]⟩):=by simp[World.cell?,E1]
    have hw1:IntKind.i64.wrap ((a:Int)+1)=(a:Int)+1:=IntWalk.i64_in _ oM;have hw2:IntKind.i64.wrap ((a:Int)+2)=(a:Int)+2:=IntWalk.i64_in _ oM;have HR1:=Lh hr1;clear hr1 E1 hr0 hb1 hb0 hz1 k0 k1 kf hW1;rcases hi with rfl|⟨rfl,n1⟩|⟨rfl,n1,n2⟩
    ·by_cases t1:l.take 1=[10]
     ·have HC:=HB1.out W1 true (bGI t1);have HRE:=Lh (show RV=.good (l.drop 1) from HRV.out.symm.trans (bGV t1));have hl1':1<=l.length:=by
       exact q515
      have hd:=HL.out.2 1;have hq:a+1<=s.size:=by have:=HL.out.1;omega
      clear t1 HB2;go_wp2_with(go_at_call 11;(with_reducible refine HC.mono ?_);rintro e w9 ⟨rfl,h9⟩;obtain rfl:=h9.symm)
      refine bGN (results_none rfl _ _ _) rfl ?_;refine⟨HBe.out.setCell _ _,?_⟩;rw[HRE.out];exact⟨rfl,a+1,hq,hd,by have:=HR1.out.set (b:=a+1);simpa using this⟩
     ·have HC:=HB1.out W1 false (bGH t1);have HT:=Lh t1;clear t1 HB2;go_wp2_with(go_at_call 11;(with_reducible refine HC.mono ?_);rintro e w9 ⟨rfl,h9⟩;obtain rfl:=h9.symm)
      go_roundw
      case rel=>exact⟨by trivial,.inr (.inl ⟨by trivial,HT.out⟩)⟩
      all_goals simp[intOf]
    ·by_cases t1:l.take 2=[13,10]
     ·have HC:=HB2.out W1 true (bGI t1);have HRE:=Lh (show RV=.good (l.drop 2) from HRV.out.symm.trans (by rw[bGU n1,bGV t1]));have hl1':2<=l.length:=by
       exact q515
      have hd:=HL.out.2 2;have hq:a+2<=s.size:=by have:=HL.out.1;omega
      clear t1 n1 HB1;go_wp2_with(go_at_call 11;(with_reducible refine HC.mono ?_);rintro e w9 ⟨rfl,h9⟩;obtain rfl:=h9.symm)
      refine bGN (results_none rfl _ _ _) rfl ?_;refine⟨HBe.out.setCell _ _,?_⟩;rw[HRE.out];exact⟨rfl,a+2,hq,hd,by have:=HR1.out.set (b:=a+2);simpa using this⟩
     ·have HC:=HB2.out W1 false (bGH t1);have HT:=Lh (bGQ n1 t1);clear t1 n1 HB1;go_wp2_with(go_at_call 11;(with_reducible refine HC.mono ?_);rintro e w9 ⟨rfl,h9⟩;obtain rfl:=h9.symm)
      go_roundw
      case rel=>exact⟨by trivial,.inr (.inr ⟨by trivial,HT.out⟩)⟩
      all_goals simp[intOf]
    ·have HRE:=Lh (show RV=.bad 3 from HRV.out.symm.trans (by rw[bGU n1,bGU n2]));clear n1 n2 HB1 HB2;go_wp2_with(go_at_call 28;(with_reducible refine(dA _ _).mono ?_);rintro e w9 ⟨rfl,h9⟩;obtain rfl:=h9.symm)
     exact⟨rfl,HBe.out,q161⟩
theorem aWT(S:Nat->Prop)(kv:Value)(ks:List L)(w:World)(h:cU S w kv ks)(hn:ks.length<=8192) :
 Calls prog 104 #[kv] w fun e w'=>∃v',e=.returned v'/\w'.ownsRow w.heap.size 9 1 v' ks.length (ks.map fun x=>Value.string ⟨x.toArray⟩)/\Below w.heap.size w w':=by
 rcases h with⟨rfl,p,c,rfl⟩|⟨b,o,c,rfl,hb,hc⟩
 ·cases p with
  |none =>
   refine(Tryz.slices_Clone_string_nil 0 c w).mono ?_;rintro e w' ⟨rfl,rfl⟩;exact q546
  |some a =>
   refine(Tryz.slices_Clone_string_zero a c w).mono ?_;rintro e w' ⟨v',rfl,hown,_,hbe⟩;exact⟨_,rfl,hown,hbe⟩
 ·refine(Tryz.slices_Clone_string b o ks.length c (ks.map fun x=>(⟨x.toArray⟩:ByteArray)) w sI oM (fun j hj=>by
   have hj2:j<ks.length:=q14;rw[hc j hj2];simp[List.getD,hj2])).mono ?_
  rintro e w' ⟨v',rfl,hown,_,hbe⟩;refine⟨_,rfl,?_,hbe⟩;rw[bHC sI,List.map_map] at hown;exact hown
theorem bBN{S:Nat->Prop}{d:Nat}{w:World}{os:List Ob}{b off:Nat}
 (h:∀i (h:i<os.length),∃ks:List Value,ks.length=6/\(∀j (hj:j<ks.length),w.cell? ⟨b,off+6*i+j,none⟩=some ks[j])/\aI S d w ks os[i]) :
 ∃css:List (List Value),bJ S d w css os/\∀j u,css.flatten[j]?=some u->w.cell? ⟨b,off+j,none⟩=some u:=by
 obtain⟨css,hl,hc⟩:∃css:List (List Value),css.length=os.length/\∀i (hi:i<os.length) cs,css[i]?=some cs->cs.length=6/\(∀j (hj:j<cs.length),w.cell? ⟨b,off+6*i+j,none⟩=some cs[j])/\aI S d w cs os[i]:=by
  refine⟨List.ofFn (fun i:Fin os.length=>Classical.choose (h i.1 i.2)),sI,fun i hi cs hcs=>?_⟩;rw[List.getElem?_ofFn] at hcs;simp only[hi,dite_true,Option.some.injEq] at hcs;subst hcs;exact Classical.choose_spec (h i hi)
 have hk:bJ S d w css os:=⟨hl,fun i cs o h1 h2=>by
  have hi:i<os.length:=(List.getElem?_eq_some_iff.1 h2).1;obtain⟨g1,g2,g3⟩:=hc i hi cs h1;rw[bGE hi] at h2;cases h2;exact⟨g1,g3⟩⟩
 refine⟨css,hk,fun j u hj=>?_⟩;have h6:=hk.six;have hjl:j<css.flatten.length:=(List.getElem?_eq_some_iff.1 hj).1;rw[aTL h6] at hjl;have hi:j/6<css.length:=oM;have hq:css[j/6]?=some css[j/6]:=bGE hi;obtain⟨g1,g2,g3⟩:=hc (j/6) oM _ hq;have e:6*(j/6)+j % 6=j:=oM;have r:=oG h6 hq (show j % 6<6 from oM);rw[e,hj,bGE oM] at r;have r2:=g2 (j % 6) oM;rw[show off+6*(j/6)+j % 6=off+j from oM] at r2;rw[r2,<-r]
theorem yV(b off n c:Nat)(p:Option Addr)(news:List Value)(w:World)(hl:news.length=n*6)(hn:n<=8192)(hp:n=0\/p=some ⟨b,off,none⟩)
 (hc:∀j u,news[j]?=some u->w.cell? ⟨b,off+j,none⟩=some u) (h1:∀u∈news,u.oneCell'=true) :
 Calls prog 188 #[.slice p n c] w fun e w'=>∃v',e=.returned v'/\w'.ownsRow w.heap.size 31 6 v' n news/\Below w.heap.size w w':=by
 obtain⟨i0,hi,hz0,hz1,hz2⟩:=info_parts Tryz.infoOb;have q24:∀(w:World) (a:Option Addr) (n c n' c':Nat),(binOp .eql 29 (.slice a n c) (.slice none n' c')).run prog w=.ok (.bool a.isNone) w:=fun w a n c n' c'=>Lib.run_eql_slice_nil w _ _ a n c n' c' underlying29
 cases p with
 |none =>
  obtain rfl:n=0:=by rcases hp with h|h;exact h;cases h
  obtain rfl:news=[]:=bHI oM;go_enter func188,ntmps188
  go_wp2;go_ret
  exact q546
 |some a =>
  have hsrc:∀j u,news[j]?=some u->w.cell? (a.add j)=some u:=fun j u hj=>by
   rcases hp with h|h
   ·subst h;obtain rfl:news=[]:=bHI oM;simp at hj
   ·cases h;rw[Addr.add_lit];exact hc j u hj
  have HS:=Lh hsrc;have HL:=Lh hl;have H1:=Lh h1;clear hsrc hl h1 hc hp;go_enter func188,ntmps188
  go_wp2_with(at_builtin;refine wpList_append_own _ rfl _ _ 29 rfl w.heap.size 31 i0 (.agg #[.int .i64 0,.int .i64 0,.int .i64 0,.string ⟨#[]⟩,.slice none 0 0,.slice none 0 0]) 6 88 underlying29 hi hz0 hz1 hz2 rfl dC _ _ _ rfl (World.ownsRow_made w #[] 0 (bGB _) (bGF _) sI) a n c news rfl HL.out (fun j u hj=>Lib.cell?_alloc_some _ (HS.out j u hj)) H1.out q26 oM sI ?_)
  intro v' w1 hown hgrow hnil;go_wp2;go_ret
  refine⟨v',rfl,by simpa using hown,?_⟩;exact((bGL _ w).alloc (bGB _) _).grown hgrow sI (by intro k hk;simp[Value.ownBlock] at hk;omega)
theorem bJ.one{S:Nat->Prop}{d:Nat}{w:World}{css:List (List Value)}{os:List Ob}(h:bJ S d w css os):∀u∈css.flatten,u.oneCell'=true:=by
 intro u hu;obtain⟨cs,hcs,hu⟩:=List.mem_flatten.1 hu;obtain⟨i,hi,rfl⟩:=List.mem_iff_getElem.1 hcs;have hi2:i<os.length:=by rw[<-h.1];exact hi
 obtain⟨_,hO⟩:=h.2 i _ os[i] (bGE hi) (bGE hi2);obtain⟨p1,n1,c1,p2,n2,c2,e⟩:=hO.shape;rw[e] at hu;exact qB _ _ _ _ _ _ _ u hu
theorem aIW(S:Nat->Prop)(d:Nat)(dv:Value)(os:List Ob)(w:World)(h:cF S d w dv os)(hn:os.length<=8192)(hS:∀b,S b->b<w.heap.size) :
 Calls prog 188 #[dv] w fun e w'=>∃v' css,e=.returned v'/\w'.ownsRow w.heap.size 31 6 v' os.length css.flatten/\bJ S d w' css os/\Below w.heap.size w w':=by
 rcases h with⟨rfl,p,c,rfl⟩|⟨b,off,c,rfl,hb,hc⟩
 ·refine(yV 0 0 0 c p [] w rfl oM (.inl rfl) (fun j u hj=>by simp at hj) (fun u hu=>by cases hu)).mono ?_;rintro e w' ⟨v',rfl,hown,hbe⟩;exact⟨v',[],rfl,hown,.nil,hbe⟩
 ·obtain⟨css,hk,hcell⟩:=bBN hc;refine(yV b off os.length c _ css.flatten w (by rw[aTL hk.six,hk.1];omega) hn (.inr rfl) hcell hk.one).mono ?_;rintro e w' ⟨v',rfl,hown,hbe⟩;exact⟨v',css,rfl,hown,hk.grow (fun b h _=>⟨h,hbe.block b (hS b h)⟩),hbe⟩
theorem qM:∀{l:List L} {k:L} {j:Nat},j<cR l k->∃h:j<l.length,l[j]<k
 |[],_,_,h=>absurd h (by simp[cR])
 |x::l,k,j,h=>by
  unfold cR at h;by_cases hx:x<k
  ·rw[bGV hx] at h;cases j with
   |zero=>exact⟨sI,hx⟩
   |succ j =>
    obtain⟨h1,h2⟩:=qM (l:=l) (k:=k) (j:=j) oM;exact⟨q37,q97⟩
  ·rw[bGU hx] at h;omega
theorem qN:∀{l:List L} {k:L},l.Pairwise (·<·)->∀{j:Nat} (h:j<l.length),cR l k<=j->¬l[j]<k
 |x::l,k,hp,j,h,hj=>by
  unfold cR at hj;obtain⟨hp1,hp2⟩:=List.pairwise_cons.1 hp;by_cases hx:x<k
  ·rw[bGV hx] at hj;cases j with
   |zero=>omega
   |succ j =>
    have:=qN (k:=k) hp2 (j:=j) q10 oM;simpa using this
  ·cases j with
   |zero=>exact hx
   |succ j =>
    have hj2:j<l.length:=q10;have h1:=hp1 l[j] (bGG hj2);show¬l[j]<k
    exact fun hlt=>hx (List.lt_trans h1 hlt)
theorem bEA(ks:List L)(key:L)(hup:ks.Pairwise (·<·)) :
 Lib.bsGo (fun t=>Op.bytesLess (⟨(ks.getD t key).toArray⟩:ByteArray).toList (⟨key.toArray⟩:ByteArray).toList) ks.length 0 ks.length=cR ks key:=by
 refine Lib.bsGo_spec _ (cR ks key) (fun t ht=>?_) (fun t ht=>?_) ks.length 0 ks.length (bGB _) (bGF _) (aLZ ks key)
 ·obtain⟨h1,h2⟩:=qM ht;rw[Lib.toList_data,Lib.toList_data,bytesLess_eq,bGX,bGE h1];simpa using h2
 ·rw[Lib.toList_data,Lib.toList_data,bytesLess_eq];by_cases h1:t<ks.length
  ·rw[bGX,bGE h1];simpa using qN hup h1 ht
  ·rw[bGX,bGZ oM];simp
theorem wF:∀{css:List (List Value)},(∀cs∈css,cs.length=6)->∀i,i<=css.length->css.flatten.take (i*6)=(css.take i).flatten
 |[],_,i,h=>sI
 |c::css,h6,i,h=>by
  cases i with
  |zero=>simp
  |succ i =>
   have hc:=h6 c sI;rw[List.flatten_cons,List.take_succ_cons,List.flatten_cons,List.take_append,hc,bHC oM,show(i+1)*6-6=i*6 by omega];rw[wF (fun x hx=>h6 x (by simp[hx])) i q10]
theorem wG:∀{css:List (List Value)},(∀cs∈css,cs.length=6)->∀i,i<=css.length->css.flatten.drop (i*6)=(css.drop i).flatten
 |[],_,i,h=>sI
 |c::css,h6,i,h=>by
  cases i with
  |zero=>simp
  |succ i =>
   have hc:=h6 c sI;rw[List.flatten_cons,List.drop_succ_cons,List.drop_append,hc,List.drop_eq_nil_of_le oM,List.nil_append,show(i+1)*6-6=i*6 by omega];exact wG (fun x hx=>h6 x (by simp[hx])) i q10
theorem aEZ{w:World}{B:Nat}{v:Value}{ks:List L}(h:w.ownsRow B 9 1 v ks.length (ks.map fun x=>Value.string ⟨x.toArray⟩)):cU (fun b=>B<=b) w v ks:=by
 rcases h.2 with⟨rfl,h0⟩|⟨g,cap,cur,rfl,hB,hgb,_,_,_,h4⟩
 ·exact .inl ⟨List.length_eq_zero_iff.1 h0,none,0,rfl⟩
 ·refine .inr ⟨g,0,cap,rfl,hB,fun i hi=>?_⟩;have h5:cur[i]?=some (Value.string ⟨(ks[i]).toArray⟩):=by
   have:(cur.toList.take (ks.length*1))[i]?=some (Value.string ⟨(ks[i]).toArray⟩):=by rw[h4];simp[hi]
   rw[List.getElem?_take_of_lt oM] at this;simpa using this
  simp[World.cell?,hgb,h5]
def Tryz.lays26_ren:Go.Shelf.Ren:=⟨fun|26=>139|33=>184|34=>185|38=>226|n=>n,fun|0=>0|3=>3|4=>4|9=>9|24=>28|40=>132|n=>n,fun|n=>n⟩
theorem Tryz.lays26:Go.Proofs.Lays2.n26 prog Tryz.lays26_ren:={
 mixed:=kR
 f26:=func139.trans (congrArg some kR)
 f33:=func184.trans (congrArg some kR)
 f34:=func185.trans (congrArg some kR)
 f38:=func226.trans (congrArg some kR)
 t0:=underlying0
 a0:=isAgg0
 z0:=sizeOf0
 v0:=zeroValue0
 t3:=underlying3
 a3:=isAgg3
 z3:=sizeOf3
 v3:=zeroValue3
 t4:=underlying4
 a4:=isAgg4
 z4:=sizeOf4
 v4:=zeroValue4
 t9:=underlying9
 a9:=isAgg9
 z9:=sizeOf9
 v9:=zeroValue9
 t24:=underlying28
 a24:=isAgg28
 z24:=sizeOf28
 v24:=zeroValue28
 t40:=underlying132
 a40:=isAgg132
 z40:=sizeOf132
 v40:=zeroValue132 }
theorem aMG{w:World}{b o:Nat}{t:TypeId}{cur:Array Value}{v:Value}(h:w.heap[b]?=some (.cells cur t (0,0))) :
 (w.setCell ⟨b,o,none⟩ v).heap[b]?=some (.cells (cur.setIfInBounds o v) t (0,0)):=by
 exact q443
theorem yW{w:World}{b o k:Nat}{v:Value}{x:Go.Obj}(h:w.heap[k]?=some x)(hne:k≠b):(w.setCell ⟨b,o,none⟩ v).heap[k]?=some x :=
 (bGK _ _ _ k hne).trans h
theorem aBH{w:World}{B b o n k:Nat}{t:TypeId}{v u:Value}{xs:List Value}(h:w.ownsRow B t k v n xs)(hb:b<B):(w.setCell ⟨b,o,none⟩ u).ownsRow B t k v n xs:=by
 rcases h with⟨h0,h1|⟨g,cap,cur,h1,h2,h3,h4⟩⟩
 ·exact⟨h0,.inl h1⟩
 ·exact⟨h0,.inr ⟨g,cap,cur,h1,h2,by rw[bGK _ _ _ g (by show g≠b;omega)];exact h3,h4⟩⟩
theorem aQL{w w':World}{B n k:Nat}{t:TypeId}{v:Value}{xs:List Value}(h:w.ownsRow B t k v n xs)(hb:Below w.heap.size w w'):w'.ownsRow B t k v n xs :=
 World.ownsRow.kept h (row:=none) ⟨hb.os,hb.tape,hb.output,hb.size,fun k hk _=>hb.block k hk⟩ (Classical.em _)
theorem sJ{w w':World}{B n k:Nat}{t:TypeId}{v u:Value}{xs:List Value}(h:w.ownsRow B t k v n xs)(hg:w.grownBy w' u.ownBlock)(hne:∀b,v.ownBlock=some b->u.ownBlock≠some b):w'.ownsRow B t k v n xs:=by
 rcases h with⟨h0,h1|⟨g,cap,cur,h1,h2,h3,h4⟩⟩
 ·exact⟨h0,.inl h1⟩
 ·subst h1;exact⟨h0,.inr ⟨g,cap,cur,rfl,h2,by rw[hg.block g (bGJ h3) (fun e=>hne g q132 e.symm)];exact h3,h4⟩⟩
theorem oR{w w':World}{b B n k:Nat}{t:TypeId}{v:Value}{xs:List Value}{c:Go.Obj}(h:w.ownsRow B t k v n xs)(hg:w.grownBy w' v.ownBlock)(hb:b<B)(hc:w.heap[b]?=some c):w'.heap[b]?=some c :=
 (hg.block b (bGJ hc) (fun e=>by have:=aK h b e.symm;omega)).trans hc
theorem aWU(S:Nat->Prop)(d:Nat)(w:World)(o:Ob)(p1 p2:Option Addr)(n1 c1 n2 c2:Nat)(h:aI S d w (aB o.kind o.n o.g o.s (.slice p1 n1 c1) (.slice p2 n2 c2)) o)(hsm:cE d o)(hS:∀b,S b->b<w.heap.size)(hc:aT 24 o=0) :
 Calls prog 94 #[.agg (aB o.kind o.n o.g o.s (.slice p1 n1 c1) (.slice p2 n2 c2)).toArray] w fun e w'=>e=.returned (.tuple #[.agg (aB o.kind o.n o.g o.s (.slice p1 n1 c1) (.slice p2 n2 c2)).toArray,.int .i64 0])/\Below w.heap.size w w':=by
 have HC:=Lh (fun(W:World) (hW:Below w.heap.size w W)=>jA S d W _ o (h.kept (fun b h=>hW.block b (hS b h)) d) hsm (fun b h=>bGA (hS b h) hW.size));rw[hc] at HC;unfold aB at HC ⊢;clear h hsm hS hc;go_enter func94,ntmps94
 go_upto_region 1 with fail
 obtain⟨w0,hw0⟩:=eX (((w.alloc (.cells #[.int .i64 o.kind,.int .i64 o.n,.int .i64 o.g,.string ⟨o.s.toArray⟩,.slice p1 n1 c1,.slice p2 n2 c2] 31)).alloc (.cells #[.int .i64 0,.int .i64 0,.int .i64 0,.string ⟨#[]⟩,.slice none 0 0,.slice none 0 0] 31)));rw[hw0];have A0:w0.heap[w.heap.size]?=some (.cells #[.int .i64 o.kind,.int .i64 o.n,.int .i64 o.g,.string ⟨o.s.toArray⟩,.slice p1 n1 c1,.slice p2 n2 c2] 31 (0,0)):=by
  exact q359
 have A1:w0.heap[w.heap.size+1]?=some (.cells #[.int .i64 0,.int .i64 0,.int .i64 0,.string ⟨#[]⟩,.slice none 0 0,.slice none 0 0] 31 (0,0)):=by
  exact q413
 have hbw:Below w.heap.size w w0:=q150;have hz0:w.heap.size+2<=w0.heap.size:=q151;clear hw0;obtain⟨b0,b1,b2,b3,b4,b5,bf⟩:=aD A0;go_wp2_with fail;refine(HC.out _ hbw).mono ?_;rintro e w1 ⟨rfl,hb1⟩;have A0:=(hb1.block _ oM).trans A0;have A1:=(hb1.block _ oM).trans A1;have hbw:=hbw.trans (hb1.mono hbw.size);have hz1:=hb1.size;clear hb1 b0 b1 b2 b3 b4 b5 bf;obtain⟨b0,b1,b2,b3,b4,b5,bf⟩:=aD A0;obtain⟨z0,z1,z2,z3,z4,z5,zf⟩:=aD A1;go_wp2;obtain⟨w9,hw9⟩:=eX (((((((w1.setCell ⟨w.heap.size+1,0,none⟩ (.int .i64 o.kind)).setCell ⟨w.heap.size+1,1,none⟩ (.int .i64 o.n)).setCell ⟨w.heap.size+1,2,none⟩ (.int .i64 o.g)).setCell ⟨w.heap.size+1,3,none⟩ (.string ⟨o.s.toArray⟩)).setCell ⟨w.heap.size+1,4,none⟩ (.slice p1 n1 c1)).setCell ⟨w.heap.size+1,5,none⟩ (.slice p2 n2 c2)));rw[hw9];have sg9:=bA w1 (w.heap.size+1) 0 1 2 3 4 5 (.int .i64 o.kind) (.int .i64 o.n) (.int .i64 o.g) (.string ⟨o.s.toArray⟩) (.slice p1 n1 c1) (.slice p2 n2 c2);have Z:=cL (v0:=.int .i64 o.kind) (v1:=.int .i64 o.n) (v2:=.int .i64 o.g) (v3:=.string ⟨o.s.toArray⟩) (v4:=.slice p1 n1 c1) (v5:=.slice p2 n2 c2) A1;rw[hw9] at sg9 Z;have hbw9:Below w.heap.size w w9:=hbw.grown sg9 hbw.size (fun k h=>q153);clear hw9 b0 b1 b2 b3 b4 b5 bf z0 z1 z2 z3 z4 z5 zf;obtain⟨s0,s1,s2,s3,s4,s5,sf⟩:=aD Z
 refine bGN (v:=.tuple #[.agg #[.int .i64 o.kind,.int .i64 o.n,.int .i64 o.g,.string ⟨o.s.toArray⟩,.slice p1 n1 c1,.slice p2 n2 c2],.int .i64 0]) (by simp[results,results94,go_sem,s0,s1,s2,s3,s4,s5]) rfl ⟨rfl,hbw9⟩
theorem gE(b:Nat)(t:TypeId):∀(vs:List Value) (o:Nat) (w:World) (cur:Array Value),w.heap[b]?=some (.cells cur t (0,0))->o+vs.length<=cur.size ->
 (w.setCells b o vs).heap[b]?=some (.cells (cur.toList.take o++vs++cur.toList.drop (o+vs.length)).toArray t (0,0))
 |[],o,w,cur,h,_=>by
  simp only[World.setCells,List.append_nil,List.length_nil,Nat.add_zero,List.take_append_drop];simpa using h
 |v::vs,o,w,cur,h,hl=>by
  simp only[bHA] at hl;have h1:=aMG (o:=o) (v:=v) h;rw[show w.setCells b o (v::vs)=(w.setCell ⟨b,o,none⟩ v).setCells b (o+1) vs from rfl,gE b t vs (o+1) _ _ h1 sO];have ho:o<cur.toList.length:=sO;congr 3
  simp only[Array.toList_setIfInBounds];rw[List.take_set,List.take_succ,List.drop_set_of_lt oM,bGE ho];simp only[Option.toList_some,bHA];rw[List.set_append_right _ _ sO];simp only[bGT];rw[show o-min o cur.toList.length=0 from oM];simp[bHM,Nat.add_comm 1]
theorem eI(b:Nat):∀(vs:List Value) (o:Nat) (w:World),w.grownBy (w.setCells b o vs) (some b)
 |[],_,w=>⟨rfl,rfl,rfl,bGB _,fun k _ _=>rfl⟩
 |v::vs,o,w=>by
  have h:=eI b vs (o+1) (w.setCell ⟨b,o,none⟩ v);exact⟨h.os,h.tape,h.output,bGC (bGD q18) h.size,fun k hk hne=>(h.block k (by simpa[World.setCell] using hk) hne).trans (bGK _ _ _ _ (fun e=>hne (by rw[show k=b from e])))⟩
def aBI(B:Nat)(e:TypeId)(k n i:Nat)(v:Value)(xs:List Value)(w:World)(r:Ending)(w':World):Prop :=
 ∃v',r=.returned v'/\w'.ownsRow B e k v' (n-1) (xs.take (i*k)++xs.drop ((i+1)*k))/\w.grownBy w' v.ownBlock
theorem yX{cur xs:List Value}{p k N:Nat}{zs:List Value}(hx:cur.take N=xs)(hxl:xs.length=N)(hp:p+k<=N) :
 (((cur.take p++xs.drop (p+k)++cur.drop (p+(xs.drop (p+k)).length)).take (N-k)++zs++(cur.take p++xs.drop (p+k)++cur.drop (p+(xs.drop (p+k)).length)).drop (N-k+zs.length))).take (N-k)=xs.take p++xs.drop (p+k):=by
 have h1:(cur.take p).length=p:=by
  have:N<=cur.length:=by rw[<-hxl,<-hx,bGT];omega
  rw[bGT];omega
 have h2:(xs.drop (p+k)).length=N-(p+k):=by rw[bGS,hxl]
 have h3:(cur.take p++xs.drop (p+k)).length=N-k:=by rw[bGR,h1,h2];omega
 have h4:cur.take p=xs.take p:=by rw[<-hx,List.take_take];congr 1;omega
 have h5:(cur.take p++xs.drop (p+k)++cur.drop (p+(xs.drop (p+k)).length)).take (N-k)=cur.take p++xs.drop (p+k):=by
  rw[List.take_append_of_le_length oM,bHC (bGD h3)]
 rw[h5,List.append_assoc,List.take_append_of_le_length oM,bHC oM,h4]
theorem aWV(B:Nat)(v:Value)(n i j:Nat)(xs:List Value)(w:World)(h:w.ownsRow B 31 6 v n xs)(hi:i<n)(hji:j=i+1)(hn:n<=8192)(hx1:∀u∈xs,u.oneCell'=true) :
 Calls prog 187 #[v,.int .i64 i,.int .i64 j] w (aBI B 31 6 n i v xs w):=by
 obtain⟨i0,hi0,hz0,hz1,hz2⟩:=info_parts Tryz.infoOb;rcases h with⟨hxl,⟨rfl,rfl⟩|⟨g,cap,cur,rfl,hBg,hg,hnc,hcm,hcs,hx⟩⟩
 ·omega
 obtain⟨news,hnews⟩:=eX (xs.drop (j*6));have hnl:news.length=(n-j)*6:=by rw[<-hnews,bGS,hxl,Nat.sub_mul]
 have hgd:w.drew.heap[g]?=some (.cells cur 31 (0,0)):=hg;obtain⟨A,hA,hsrc⟩:∃A:Addr,(if cap=j then some (⟨g,0,none⟩:Addr) else some ⟨g,j*6,none⟩)=some A/\Hid (∀t u,news[t]?=some u->w.drew.cell? (A.add t)=some u):=by
  by_cases hc:cap=j
  ·exact q417
  ·refine⟨⟨g,j*6,none⟩,by simp[hc],fun t u hu=>?_⟩;rw[Addr.add_lit];exact q456
 have s1:Hid (news.length=(n-j)*6):=hnl;have s2:Hid (∀u∈news,u.oneCell'=true):=fun u hu=>hx1 u (List.mem_of_mem_drop (hnews▸hu))
 have hroom:i*6+news.length<=cur.size:=by rw[hnl,hcs];omega
 have s3:Hid (∀t,t<news.length->(w.drew.cell? ⟨g,0+i*6+t,none⟩).isSome=true/\w.drew.frozen? ⟨g,0+i*6+t,none⟩=false):=by
  exact q491
 obtain⟨W1,hW1⟩:∃W1,W1=w.drew.setCells g (0+i*6) news:=⟨_,rfl⟩
 obtain⟨cur1,hcur1⟩:∃cur1:Array Value,(cur.toList.take (i*6)++news++cur.toList.drop (i*6+news.length)).toArray=cur1:=⟨_,rfl⟩
 have hg1:W1.heap[g]?=some (.cells cur1 31 (0,0)):=by
  exact q516
 have hc1s:cur1.size=cap*6:=by
  rw[<-hcur1];simp[hnl];omega
 have hsg1:w.grownBy W1 (some g):=by
  rw[hW1];have h:=eI g news (0+i*6) w.drew;exact⟨h.os,h.tape,h.output,h.size,h.block⟩
 have hcl:∀ty l c,l=1->(Builtin.clear_ #[29] ty #[.slice (some ⟨g,(i+(n-j))*6,none⟩) l c]).run prog W1=.ok (.tuple #[]) (W1.setCells g ((i+(n-j))*6) [.int .i64 0,.int .i64 0,.int .i64 0,.string ⟨#[]⟩,.slice none 0 0,.slice none 0 0]):=by
  rintro ty l c rfl;have hst:=run_storeCells_cells (P:=prog) g ((i+(n-j))*6) [.int .i64 0,.int .i64 0,.int .i64 0,.string ⟨#[]⟩,.slice none 0 0,.slice none 0 0] 0 W1 (fun t ht=>by
   simp only[World.cell?,hg1];simp at ht ⊢;omega) (fun t ht=>by simp[World.frozen?,hg1]) (fun v hv=>q165)
  simp only[Nat.add_zero] at hst;try simp only[Nat.mul_one] at hst
  have hzc:(Builtin.zeroCells (Value.cells (.agg #[.int .i64 0,.int .i64 0,.int .i64 0,.string ⟨#[]⟩,.slice none 0 0,.slice none 0 0])) 1).toList=[.int .i64 0,.int .i64 0,.int .i64 0,.string ⟨#[]⟩,.slice none 0 0,.slice none 0 0]:=kR;simp[Builtin.clear_,run_underlying underlying29,zeroValue31,hzc,hst]
 have hsg2:=eI g [.int .i64 0,.int .i64 0,.int .i64 0,.string ⟨#[]⟩,.slice none 0 0,.slice none 0 0] ((i+(n-j))*6) W1;have hg2:=gE g 31 [.int .i64 0,.int .i64 0,.int .i64 0,.string ⟨#[]⟩,.slice none 0 0,.slice none 0 0] ((i+(n-j))*6) W1 cur1 hg1 (by rw[hc1s];simp;omega);have HOUT:=Lh (show aBI B 31 6 n i (.slice (some ⟨g,0,none⟩) n cap) xs w (.returned (.slice (some ⟨g,0,none⟩) (i+(n-j)) cap)) (W1.setCells g ((i+(n-j))*6) [.int .i64 0,.int .i64 0,.int .i64 0,.string ⟨#[]⟩,.slice none 0 0,.slice none 0 0]) from by
  refine⟨_,rfl,⟨?_,.inr ⟨g,cap,_,by rw[show i+(n-j)=n-1 from oM],hBg,hg2,oM,hcm,?_,?_⟩⟩,?_⟩
  ·rw[bGR,bGT,bGS,hxl];omega
  ·simp[hc1s];omega
  ·subst hji;have h:=yX (cur:=cur.toList) (xs:=xs) (p:=i*6) (k:=6) (N:=n*6) (zs:=[.int .i64 0,.int .i64 0,.int .i64 0,.string ⟨#[]⟩,.slice none 0 0,.slice none 0 0]) hx hxl oM;rw[<-hcur1,<-hnews,show(i+1)*6=i*6+6 by omega,show(i+(n-(i+1)))*6=n*6-6 by omega,show(n-1)*6=n*6-6 by omega];exact h
  ·exact⟨hsg2.os.trans hsg1.os,hsg2.tape.trans hsg1.tape,hsg2.output.trans hsg1.output,bGC hsg1.size hsg2.size,fun k hk hne=>(hsg2.block k (bGA hk hsg1.size) hne).trans (hsg1.block k hk hne)⟩)
 have hW:Hid (W1=w.drew.setCells g (0+i*6) news):=hW1;have HCL:=Lh hcl;have hic:i<=cap:=oM;have hjc:j<=cap:=oM;have hcc:cap<=9223372036854775807:=by unfold maxLen at hcm;omega
 have hij:i<=j:=oM;have hlt:i<j:=oM;have heq:¬i=j:=oM;have hj:j<=n:=oM;have hL1:n-(i+(n-j))=1:=oM;have hcl2:=fun ty=>HCL.out ty 1 (cap-(i+(n-j))) rfl
 try simp only[Nat.mul_one] at hcl2
 try simp only[Nat.mul_one] at HOUT
 try simp only[Nat.mul_one] at hA
 clear hW1 hg1 hgd hnl hnews hx hxl hx1 hji hg2 hsg2 hsg1 hcur1 hc1s hroom hcl hg hcs;go_enter func187,ntmps187
 go_wp2_with fail;go_region_law (refine step_append_room rfl (.tmp 22) (.tmp 25) 29 rfl 31 i0 6 underlying29 hi0 hz1 g 0 i cap q166 A (n-j) (cap-j) news q166 s1.out hsrc.out s2.out oM s3.out ?_;rw[<-hW.out])
 go_wp2;go_ret
 exact HOUT.out
theorem Tryz.infoStD:(prog.info? 9).map (fun i=>(i.zero,i.size,i.bytes))=some (some (.string ⟨#[]⟩),1,16):=kR
theorem aWW(B:Nat)(v:Value)(n i j:Nat)(xs:List Value)(w:World)(h:w.ownsRow B 9 1 v n xs)(hi:i<n)(hji:j=i+1)(hn:n<=8192)(hx1:∀u∈xs,u.oneCell'=true) :
 Calls prog 186 #[v,.int .i64 i,.int .i64 j] w (aBI B 9 1 n i v xs w):=by
 obtain⟨i0,hi0,hz0,hz1,hz2⟩:=info_parts Tryz.infoStD;rcases h with⟨hxl,⟨rfl,rfl⟩|⟨g,cap,cur,rfl,hBg,hg,hnc,hcm,hcs,hx⟩⟩
 ·omega
 obtain⟨news,hnews⟩:=eX (xs.drop (j*1));have hnl:news.length=(n-j)*1:=by rw[<-hnews,bGS,hxl,Nat.sub_mul]
 have hgd:w.drew.heap[g]?=some (.cells cur 9 (0,0)):=hg;obtain⟨A,hA,hsrc⟩:∃A:Addr,(if cap=j then some (⟨g,0,none⟩:Addr) else some ⟨g,j*1,none⟩)=some A/\Hid (∀t u,news[t]?=some u->w.drew.cell? (A.add t)=some u):=by
  by_cases hc:cap=j
  ·exact q417
  ·refine⟨⟨g,j*1,none⟩,by simp[hc],fun t u hu=>?_⟩;rw[Addr.add_lit];exact q456
 have s1:Hid (news.length=(n-j)*1):=hnl;have s2:Hid (∀u∈news,u.oneCell'=true):=fun u hu=>hx1 u (List.mem_of_mem_drop (hnews▸hu))
 have hroom:i*1+news.length<=cur.size:=by rw[hnl,hcs];omega
 have s3:Hid (∀t,t<news.length->(w.drew.cell? ⟨g,0+i*1+t,none⟩).isSome=true/\w.drew.frozen? ⟨g,0+i*1+t,none⟩=false):=by
  exact q491
 obtain⟨W1,hW1⟩:∃W1,W1=w.drew.setCells g (0+i*1) news:=⟨_,rfl⟩
 obtain⟨cur1,hcur1⟩:∃cur1:Array Value,(cur.toList.take (i*1)++news++cur.toList.drop (i*1+news.length)).toArray=cur1:=⟨_,rfl⟩
 have hg1:W1.heap[g]?=some (.cells cur1 9 (0,0)):=by
  exact q516
 have hc1s:cur1.size=cap*1:=by
  rw[<-hcur1];simp[hnl];omega
 have hsg1:w.grownBy W1 (some g):=by
  rw[hW1];have h:=eI g news (0+i*1) w.drew;exact⟨h.os,h.tape,h.output,h.size,h.block⟩
 have hcl:∀ty l c,l=1->(Builtin.clear_ #[28] ty #[.slice (some ⟨g,(i+(n-j))*1,none⟩) l c]).run prog W1=.ok (.tuple #[]) (W1.setCells g ((i+(n-j))*1) [.string ⟨#[]⟩]):=by
  rintro ty l c rfl;have hst:=run_storeCells_cells (P:=prog) g ((i+(n-j))*1) [.string ⟨#[]⟩] 0 W1 (fun t ht=>by
   simp only[World.cell?,hg1];simp at ht ⊢;omega) (fun t ht=>by simp[World.frozen?,hg1]) (fun v hv=>q165)
  simp only[Nat.add_zero] at hst;try simp only[Nat.mul_one] at hst
  have hzc:(Builtin.zeroCells (Value.cells (.string ⟨#[]⟩)) 1).toList=[.string ⟨#[]⟩]:=kR;simp[Builtin.clear_,run_underlying underlying28,zeroValue9,hzc,hst]
 have hsg2:=eI g [.string ⟨#[]⟩] ((i+(n-j))*1) W1;have hg2:=gE g 9 [.string ⟨#[]⟩] ((i+(n-j))*1) W1 cur1 hg1 (by rw[hc1s];simp;omega);have HOUT:=Lh (show aBI B 9 1 n i (.slice (some ⟨g,0,none⟩) n cap) xs w (.returned (.slice (some ⟨g,0,none⟩) (i+(n-j)) cap)) (W1.setCells g ((i+(n-j))*1) [.string ⟨#[]⟩]) from by
  refine⟨_,rfl,⟨?_,.inr ⟨g,cap,_,by rw[show i+(n-j)=n-1 from oM],hBg,hg2,oM,hcm,?_,?_⟩⟩,?_⟩
  ·rw[bGR,bGT,bGS,hxl];omega
  ·simp[hc1s];omega
  ·subst hji;have h:=yX (cur:=cur.toList) (xs:=xs) (p:=i*1) (k:=1) (N:=n*1) (zs:=[.string ⟨#[]⟩]) hx hxl oM;rw[<-hcur1,<-hnews,show(i+1)*1=i*1+1 by omega,show(i+(n-(i+1)))*1=n*1-1 by omega,show(n-1)*1=n*1-1 by omega];exact h
  ·exact⟨hsg2.os.trans hsg1.os,hsg2.tape.trans hsg1.tape,hsg2.output.trans hsg1.output,bGC hsg1.size hsg2.size,fun k hk hne=>(hsg2.block k (bGA hk hsg1.size) hne).trans (hsg1.block k hk hne)⟩)
 have hW:Hid (W1=w.drew.setCells g (0+i*1) news):=hW1;have HCL:=Lh hcl;have hic:i<=cap:=oM;have hjc:j<=cap:=oM;have hcc:cap<=9223372036854775807:=by unfold maxLen at hcm;omega
 have hij:i<=j:=oM;have hlt:i<j:=oM;have heq:¬i=j:=oM;have hj:j<=n:=oM;have hL1:n-(i+(n-j))=1:=oM;have hcl2:=fun ty=>HCL.out ty 1 (cap-(i+(n-j))) rfl
 try simp only[Nat.mul_one] at hcl2
 try simp only[Nat.mul_one] at HOUT
 try simp only[Nat.mul_one] at hA
 clear hW1 hg1 hgd hnl hnews hx hxl hx1 hji hg2 hsg2 hsg1 hcur1 hc1s hroom hcl hg hcs;go_enter func186,ntmps186
 go_wp2_with fail;go_region_law (refine step_append_room rfl (.tmp 22) (.tmp 25) 28 rfl 9 i0 1 underlying28 hi0 hz1 g 0 i cap q166 A (n-j) (cap-j) news q166 s1.out hsrc.out s2.out oM s3.out ?_;rw[<-hW.out])
 go_wp2;go_ret
 exact HOUT.out
end Go.Proofs.YtdjpkgccakgkbaaGreatDoor
