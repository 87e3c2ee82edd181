/- Parts of the proof: Next. -/
import Derived.Test.YtdjpkgccakgkbaaGreatDoorPeFix
set_option linter.all false
set_option maxRecDepth 100000
set_option maxHeartbeats 8000000
section
variable{p:Prop}
theorem q86(h:p:=by have:=hb.size;simp at this;omega):p:=h
theorem q87(h:p:=by have:=hm.lt;omega):p:=h
theorem q88(h:p:=by simp[results,results92,go_sem,hcz,hfz,hc1,hf1]):p:=h
theorem q89(h:p:=by rw[HL.out,<-HS.out];omega):p:=h
theorem q90(h:p:=by simp only[eR,hi,hd,hw,Bool.false_eq_true,if_false,if_true]):p:=h
theorem q338(h:p:=by
 rintro e w3 ⟨rfl,hb3⟩;replace hb3:=hb2.trans (hb3.mono hB2);have hB3:w.heap.size+2<=w3.heap.size:=bGC hB1 hb3.size;obtain⟨hc3,hf3⟩:=aQ hb3;go_wp2_with fail;refine(cV _ _).mono ?_;rintro e wz ⟨rfl,hb4⟩;replace hb4:=hb3.trans (hb4.mono hB3);obtain⟨hcz,hfz⟩:=aQ hb4;go_wp2;refine bGN (v:=.tuple #[.agg #[.int .i64 0,.int .i64 0,.int .i64 0,.int .i64 0,.string ⟨#[]⟩],.int .i64 2]) q88 rfl ⟨q28,bel⟩):p:=h
theorem q376(h:p:=by
 obtain⟨hcz,hfz⟩:=aQ hb4;go_wp2;refine bGN (v:=.tuple #[.agg #[.int .i64 5,.int .i64 a,.int .i64 (a+N),.int .i64 0,.string r],.int .i64 0]) q88 rfl ⟨?_,bel⟩;rw[HX.out];unfold nC;rw[bGU (show¬127<r.data.toList.length by rw[HL.out,<-HS.out];omega)];simp[mG,HL.out]):p:=h
theorem q386(h:p:=by
 obtain⟨hcz,hfz⟩:=aQ hb4;go_wp2;refine bGN (v:=.tuple #[.agg #[.int .i64 0,.int .i64 0,.int .i64 0,.int .i64 0,.string ⟨#[]⟩],.int .i64 5]) q88 rfl ⟨?_,bel⟩;rw[HX.out];unfold nC;rw[bGV (show 127<r.data.toList.length from q89)];rfl):p:=h
end
namespace Go.Proofs.YtdjpkgccakgkbaaGreatDoor
open Go.Proofs.Tryz
open Go.RowKit Fo
theorem aDG(s:ByteArray)(hs:s.size<=140737488355327)(m:Int)(w:World)(hm:aF w m) :
 Calls prog 138 #[.string s] w fun e w'=>e=.returned (bAK (pH s.data.toList))/\Below w.heap.size w w':=by
 by_cases h:s.size<=40
 ·exact bAL s h m w hm
 ·exact aOG s oM hs w
theorem aOI{l:L}(h:jF l=true):nJ l=1:=by simp[nJ,h]
theorem aHK{l:L}(h:jF l=false)(h2:l.contains 46=true):nJ l=2:=by simp[nJ,h];simpa using h2
theorem aHL{l:L}(h:jF l=false)(h2:l.contains 46=false):nJ l=0:=by simp[nJ,h];simpa using h2
theorem lO(s:ByteArray)(k:Int)(h:nJ s.data.toList=k)(hs:s.size<=140737488355327)(w:World) :
 Calls prog 136 #[.string s] w fun e w'=>e=.returned (.int .i64 k)/\Below w.heap.size w w':=h▸aTX s hs w
theorem aOJ(s:ByteArray)(k:Int)(h1:jF s.data.toList=true)(h:iM s.data.toList=.bad k)(hs:s.size<=140737488355327)(w:World) :
 Calls prog 137 #[.string s] w fun e w'=>e=.returned (.tuple #[.int .i64 0,.int .i64 k])/\Below w.heap.size w w':=by
 have:=aDE s hs h1 w;rw[h] at this;exact this
theorem aHM(s:ByteArray)(k:Int)(h1:jF s.data.toList=true)(h:iM s.data.toList=.good k)(hs:s.size<=140737488355327)(w:World) :
 Calls prog 137 #[.string s] w fun e w'=>e=.returned (.tuple #[.int .i64 k,.int .i64 0])/\Below w.heap.size w w':=by
 have:=aDE s hs h1 w;rw[h] at this;exact this
theorem aDH(s:ByteArray)(k:Int)(h:pH s.data.toList=.bad k)(hs:s.size<=140737488355327)(m:Int)(w:World)(hm:aF w m) :
 Calls prog 138 #[.string s] w fun e w'=>e=.returned (.tuple #[.int .i64 0,.int .i64 k])/\Below w.heap.size w w':=by
 have:=aDG s hs m w hm;rw[h] at this;exact this
theorem aOK(s:ByteArray)(k:Int)(h:pH s.data.toList=.good k)(hs:s.size<=140737488355327)(m:Int)(w:World)(hm:aF w m) :
 Calls prog 138 #[.string s] w fun e w'=>e=.returned (.tuple #[.int .i64 k,.int .i64 0])/\Below w.heap.size w w':=by
 have:=aDG s hs m w hm;rw[h] at this;exact this
theorem aAI{l:L}{e:Int}(h:iM l=.bad e):e=2:=by
 unfold iM at h;split at h
 ·cases h;rfl
 ·cases h
theorem aHN{l:L}{e:Int}(h:pH l=.bad e):e=2\/e=3:=by
 unfold pH at h;split at h
 ·cases h;simp
 ·split at h
  ·cases h;simp
  ·split at h
   ·cases h;simp
   ·dsimp only at h;by_cases hb:1073741824<(if(if iG l then gA ((bU (aL l)).drop 4) else mF ((bU (aL l)).drop 4)) then val (eC (aL l)++dE (bU (aL l)))+1 else val (eC (aL l)++dE (bU (aL l))))
    ·rw[bGV hb] at h;cases h;simp
    ·rw[bGU hb] at h;cases h
theorem aLV(s:ByteArray)(a:Nat)(ha:a<s.size)(hs:s.size<=140737488355327)(m:Int)(w:World)(hm:aF w m) :
 Calls prog 92 #[.agg #[.string s,.int .i64 a]] w fun e w'=>e=.returned (mG a (eR ((s.data.toList.drop a).take (iS (s.data.toList.drop a)))))/\Below w.heap.size w w':=by
 have hmx:s.size<=maxLen:=q26;obtain⟨N,hN⟩:=eX (iS (s.data.toList.drop a));have hNle:a+N<=s.size:=by have:=aLL (s.data.toList.drop a);rw[hN] at this;simp at this;omega
 have hrun:=aTN s a a oM hmx;rw[hN] at hrun;rw[hN];obtain⟨r,hr⟩:=eX (s.extract a (a+N));have hrl:(s.data.toList.drop a).take N=r.data.toList:=by rw[<-hr,Lib.extract_data,show a+N-a=N from oM]
 have hrs:r.size=N:=by rw[<-hr];simp;omega
 rw[hrl];have hlen:r.data.toList.length=N:=hrs;have HR:=Lh hrun;have HS:=Lh hrs;have HL:=Lh hlen;have hrs2:r.size<=140737488355327:=oM;clear hrun hN hrl hrs hlen;cases hi:jF r.data.toList
 ·cases hd:r.data.toList.contains 46
  ·have HC:=Lh (aHL hi hd);have HX:=Lh (show eR r.data.toList=nC 5 r.data.toList.length r.data.toList 127 by simp only[eR,hi,hd,Bool.false_eq_true,if_false]);clear hi hd;go_enter func92,ntmps92
   go_wp2_with fail;refine(HR.out _).mono ?_;rintro e w1 ⟨rfl,hb⟩;obtain⟨hc1,hf1⟩:=aZ hb;have hB1:w.heap.size+2<=w1.heap.size:=q86;have hm1:aF w1 m:=(hm.below bel).below hb;go_wp2_with fail;refine(lO r _ HC.out hrs2 _).mono ?_;rintro e w2 ⟨rfl,hb2⟩;replace hb2:=hb2.mono hB1;have hB2:w.heap.size+2<=w2.heap.size:=bGC hB1 hb2.size;have hm2:aF w2 m:=hm1.belowB hb2 q87;obtain⟨hc2,hf2⟩:=aQ hb2;go_wp2_with fail;by_cases h127:r.size<=127
   ·refine(qC s a 5 _ r 127 q26 _ h127).mono ?_;rintro e wz ⟨rfl,hb4⟩;replace hb4:=hb2.trans (hb4.mono hB2);exact q376
   ·refine(lL s a 5 _ r 127 q26 _ oM).mono ?_;rintro e wz ⟨rfl,hb4⟩;replace hb4:=hb2.trans (hb4.mono hB2);exact q386
  ·have HC:=Lh (aHK hi hd);cases hw:pH r.data.toList with
   |bad e =>
    have HW:=Lh hw;rcases aHN hw with rfl|rfl
    ·have HX:=Lh (show eR r.data.toList=.bad 2 from q90);clear hi hd hw;go_enter func92,ntmps92
     go_wp2_with fail;refine(HR.out _).mono ?_;rintro e w1 ⟨rfl,hb⟩;obtain⟨hc1,hf1⟩:=aZ hb;have hB1:w.heap.size+2<=w1.heap.size:=q86;have hm1:aF w1 m:=(hm.below bel).below hb;go_wp2_with fail;refine(lO r _ HC.out hrs2 _).mono ?_;rintro e w2 ⟨rfl,hb2⟩;replace hb2:=hb2.mono hB1;have hB2:w.heap.size+2<=w2.heap.size:=bGC hB1 hb2.size;have hm2:aF w2 m:=hm1.belowB hb2 q87;obtain⟨hc2,hf2⟩:=aQ hb2;go_wp2_with fail;refine(aDH r 2 HW.out hrs2 m _ hm2).mono ?_;exact q338
    ·have HX:=Lh (show eR r.data.toList=nC 5 r.data.toList.length r.data.toList 127 from q90);clear hi hd hw;go_enter func92,ntmps92
     go_wp2_with fail;refine(HR.out _).mono ?_;rintro e w1 ⟨rfl,hb⟩;obtain⟨hc1,hf1⟩:=aZ hb;have hB1:w.heap.size+2<=w1.heap.size:=q86;have hm1:aF w1 m:=(hm.below bel).below hb;go_wp2_with fail;refine(lO r _ HC.out hrs2 _).mono ?_;rintro e w2 ⟨rfl,hb2⟩;replace hb2:=hb2.mono hB1;have hB2:w.heap.size+2<=w2.heap.size:=bGC hB1 hb2.size;have hm2:aF w2 m:=hm1.belowB hb2 q87;obtain⟨hc2,hf2⟩:=aQ hb2;go_wp2_with fail;refine(aDH r 3 HW.out hrs2 m _ hm2).mono ?_;rintro e w3 ⟨rfl,hb3⟩;replace hb3:=hb2.trans (hb3.mono hB2);have hB3:w.heap.size+2<=w3.heap.size:=bGC hB1 hb3.size;obtain⟨hc3,hf3⟩:=aQ hb3;go_wp2_with fail;by_cases h127:r.size<=127
     ·refine(qC s a 5 _ r 127 q26 _ h127).mono ?_;rintro e wz ⟨rfl,hb4⟩;replace hb4:=hb3.trans (hb4.mono hB3);exact q376
     ·refine(lL s a 5 _ r 127 q26 _ oM).mono ?_;rintro e wz ⟨rfl,hb4⟩;replace hb4:=hb3.trans (hb4.mono hB3);exact q386
   |good n =>
    have HW:=Lh hw;have HX:=Lh (show eR r.data.toList=.good ⟨2,r.data.toList.length,n,[]⟩ from q90);clear hi hd hw;go_enter func92,ntmps92
    go_wp2_with fail;refine(HR.out _).mono ?_;rintro e w1 ⟨rfl,hb⟩;obtain⟨hc1,hf1⟩:=aZ hb;have hB1:w.heap.size+2<=w1.heap.size:=q86;have hm1:aF w1 m:=(hm.below bel).below hb;go_wp2_with fail;refine(lO r _ HC.out hrs2 _).mono ?_;rintro e w2 ⟨rfl,hb2⟩;replace hb2:=hb2.mono hB1;have hB2:w.heap.size+2<=w2.heap.size:=bGC hB1 hb2.size;have hm2:aF w2 m:=hm1.belowB hb2 q87;obtain⟨hc2,hf2⟩:=aQ hb2;go_wp2_with fail;refine(aOK r n HW.out hrs2 m _ hm2).mono ?_;rintro e wz ⟨rfl,hb4⟩;replace hb4:=hb2.trans (hb4.mono hB2);obtain⟨hcz,hfz⟩:=aQ hb4;go_wp2;refine bGN (v:=.tuple #[.agg #[.int .i64 2,.int .i64 a,.int .i64 (a+N),.int .i64 n,.string ⟨#[]⟩],.int .i64 0]) q88 rfl ⟨?_,bel⟩;rw[HX.out];simp only[mG,HL.out];simp
 ·have HI:=Lh hi;have HC:=Lh (aOI hi);cases hw:iM r.data.toList with
  |bad e =>
   have he:=aAI hw;subst he;have HW:=Lh hw;have HX:=Lh (show eR r.data.toList=.bad 2 by simp only[eR,hi,hw,if_true]);clear hi hw;go_enter func92,ntmps92
   go_wp2_with fail;refine(HR.out _).mono ?_;rintro e w1 ⟨rfl,hb⟩;obtain⟨hc1,hf1⟩:=aZ hb;have hB1:w.heap.size+2<=w1.heap.size:=q86;have hm1:aF w1 m:=(hm.below bel).below hb;go_wp2_with fail;refine(lO r _ HC.out hrs2 _).mono ?_;rintro e w2 ⟨rfl,hb2⟩;replace hb2:=hb2.mono hB1;have hB2:w.heap.size+2<=w2.heap.size:=bGC hB1 hb2.size;have hm2:aF w2 m:=hm1.belowB hb2 q87;obtain⟨hc2,hf2⟩:=aQ hb2;go_wp2_with fail;refine(aOJ r 2 HI.out HW.out hrs2 _).mono ?_;exact q338
  |good n =>
   have HW:=Lh hw;have HX:=Lh (show eR r.data.toList=.good ⟨1,r.data.toList.length,n,[]⟩ by simp only[eR,hi,hw,if_true]);clear hi hw;go_enter func92,ntmps92
   go_wp2_with fail;refine(HR.out _).mono ?_;rintro e w1 ⟨rfl,hb⟩;obtain⟨hc1,hf1⟩:=aZ hb;have hB1:w.heap.size+2<=w1.heap.size:=q86;have hm1:aF w1 m:=(hm.below bel).below hb;go_wp2_with fail;refine(lO r _ HC.out hrs2 _).mono ?_;rintro e w2 ⟨rfl,hb2⟩;replace hb2:=hb2.mono hB1;have hB2:w.heap.size+2<=w2.heap.size:=bGC hB1 hb2.size;have hm2:aF w2 m:=hm1.belowB hb2 q87;obtain⟨hc2,hf2⟩:=aQ hb2;go_wp2_with fail;refine(aHM r n HI.out HW.out hrs2 _).mono ?_;rintro e wz ⟨rfl,hb4⟩;replace hb4:=hb2.trans (hb4.mono hB2);obtain⟨hcz,hfz⟩:=aQ hb4;go_wp2;refine bGN (v:=.tuple #[.agg #[.int .i64 1,.int .i64 a,.int .i64 (a+N),.int .i64 n,.string ⟨#[]⟩],.int .i64 0]) q88 rfl ⟨?_,bel⟩;rw[HX.out];simp only[mG,HL.out];simp
end Go.Proofs.YtdjpkgccakgkbaaGreatDoor
