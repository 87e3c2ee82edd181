/- Parts of the proof: LexNext. -/
import Derived.Test.YtdjpkgccakgkbaaGreatDoorPec
set_option linter.all false
set_option maxRecDepth 100000
set_option maxHeartbeats 8000000
section
variable{p:Prop}
theorem q91(h:p:=by simp[results,results57,go_sem,hcz,hfz,show w.heap.size<w.heap.size+1+1 from oM]):p:=h
theorem q92(h:p:=by rw[HX.out,HE.out];simp[mG]):p:=h
theorem q302(h:p:=by
 go_enter func57,ntmps57
 go_wp2_with(go_at_call 87;refine(fQ _ _ p HP.out ha hmx.out _).mono ?_;rintro e w' ⟨rfl,rfl⟩)
 go_quiet ((go_at_call 11;exact bHD (cZ s p _ hp hmx.out HD.out _)))
 go_wp2_with fail;refine(aLM s p 1 oM hmx.out _).mono ?_;rintro e wz ⟨rfl,hb⟩;obtain⟨hcz,hfz⟩:=aZ hb;have hsz:w.heap.size+2<=wz.heap.size:=q86;go_wp2;refine bGN (v:=.tuple #[.agg #[.int .i64 6,.int .i64 p,.int .i64 (p+1),.int .i64 0,.string (s.extract p (p+1))],.int .i64 0]) q91 rfl ⟨q92,bel⟩):p:=h
theorem q318(h:p:=by
 rintro e wz ⟨rfl,hb⟩;obtain⟨hcz,hfz⟩:=aZ hb;have hsz:w.heap.size+2<=wz.heap.size:=q86;go_wp2;refine bGN (v:=.tuple #[.agg #[.int .i64 t.kind,.int .i64 p,.int .i64 (p+t.len),.int .i64 t.n,.string ⟨t.s.toArray⟩],.int .i64 0]) q91 rfl ⟨by simp[mG],bel⟩):p:=h
theorem q320(h:p:=by
 rintro e wz ⟨rfl,hb⟩;obtain⟨hcz,hfz⟩:=aZ hb;have hsz:w.heap.size+2<=wz.heap.size:=q86;go_wp2;refine bGN (v:=.tuple #[.agg #[.int .i64 0,.int .i64 0,.int .i64 0,.int .i64 0,.string ⟨#[]⟩],.int .i64 k]) q91 rfl ⟨rfl,bel⟩):p:=h
theorem q326(h:p:=by
 go_enter func57,ntmps57
 go_wp2_with(go_at_call 87;refine(fQ _ _ p HP.out ha hmx.out _).mono ?_;rintro e w' ⟨rfl,rfl⟩)
 go_quiet ((go_at_call 11;exact bHD (cZ s p _ hp hmx.out HD.out _)))
 go_wp2_with fail;refine(cV _ _).mono ?_;rintro e wz ⟨rfl,hb⟩;obtain⟨hcz,hfz⟩:=aZ hb;have hsz:w.heap.size+2<=wz.heap.size:=q86;go_wp2;refine bGN (v:=.tuple #[.agg #[.int .i64 0,.int .i64 0,.int .i64 0,.int .i64 0,.string ⟨#[]⟩],.int .i64 3]) q91 rfl ⟨q28,bel⟩):p:=h
theorem q327(h:p:=by
 go_enter func57,ntmps57
 go_wp2_with(go_at_call 87;refine(fQ _ _ p HP.out ha hmx.out _).mono ?_;rintro e w' ⟨rfl,rfl⟩)
 go_quiet ((go_at_call 11;exact bHD (cZ s p _ hp hmx.out HD.out _)))
 go_wp2_with fail;refine(aLM s p 2 oM hmx.out _).mono ?_;rintro e wz ⟨rfl,hb⟩;obtain⟨hcz,hfz⟩:=aZ hb;have hsz:w.heap.size+2<=wz.heap.size:=q86;go_wp2;refine bGN (v:=.tuple #[.agg #[.int .i64 6,.int .i64 p,.int .i64 (p+2),.int .i64 0,.string (s.extract p (p+2))],.int .i64 0]) q91 rfl ⟨q92,bel⟩):p:=h
end
namespace Go.Proofs.YtdjpkgccakgkbaaGreatDoor
open Go.Proofs.Tryz
open Go.RowKit Fo
theorem qJ{f:FuncId}{args:Array Value}{w:World}{a:Nat}{X:Res Tok}{k:Int}(h:X=.bad k)
 (hc:Calls prog f args w fun e w'=>e=.returned (mG a X)/\Below w.heap.size w w') :
 Calls prog f args w fun e w'=>e=.returned (.tuple #[.agg #[.int .i64 0,.int .i64 0,.int .i64 0,.int .i64 0,.string ⟨#[]⟩],.int .i64 k])/\Below w.heap.size w w':=by
 rw[h] at hc;exact hc
theorem nM{f:FuncId}{args:Array Value}{w:World}{a:Nat}{X:Res Tok}{t:Tok}(h:X=.good t)
 (hc:Calls prog f args w fun e w'=>e=.returned (mG a X)/\Below w.heap.size w w') :
 Calls prog f args w fun e w'=>e=.returned (.tuple #[.agg #[.int .i64 t.kind,.int .i64 a,.int .i64 (a+t.len:Nat),.int .i64 t.n,.string ⟨t.s.toArray⟩],.int .i64 0])/\Below w.heap.size w w':=by
 rw[h] at hc;exact hc
theorem fQ(s:ByteArray)(a p:Nat)(h:a+dY false (s.data.toList.drop a)=p)(ha:a<=s.size)(hs:s.size<=maxLen)(w:World) :
 Calls prog 87 #[.string s,.int .i64 a] w fun e w'=>e=.returned (.int .i64 p)/\w'=w:=by
 rw[<-h];exact aZZ s a ha hs w
theorem cZ(s:ByteArray)(p:Nat)(b:Bool)(hp:p<s.size)(hs:s.size<=maxLen)(hb:((s.data.toList.drop (p+1)).head?==some s[p])=b)(w:World) :
 Calls prog 11 #[.string s,.string (s.extract p (p+1)),.int .i64 ((p:Int)+1)] w fun e w'=>e=.returned (.bool b)/\w'=w:=by
 refine dQ s _ (p+1) b ?_ oM hs w;rw[aNW s p hp,<-hb];cases s.data.toList.drop (p+1) with
 |nil=>simp[Lib.hasPrefix]
 |cons d l=>simp[Lib.hasPrefix,List.isPrefixOf,Bool.beq_comm]
theorem bFB(s:ByteArray)(p:Nat)(hp:p+1<s.size):s.extract p (p+2)=⟨#[s[p],s[p+1]]⟩:=by
 apply ByteArray.ext_iff.2
 apply Array.toList_inj.1
 rw[Lib.extract_data,aV s p oM,aV s (p+1) hp];simp
theorem aUC{s:ByteArray}{p:Nat}{c:UInt8}(h:(s.data.toList.drop (p+1)).head?=some c):∃h:p+1<s.size,s[p+1]=c:=by
 have hk:p+1<s.size:=by
  apply Classical.byContradiction;intro h2
  rw[List.drop_eq_nil_of_le (by have:s.data.toList.length=s.size:=rfl;omega)] at h;simp at h
 refine⟨hk,?_⟩;rw[aV s _ hk] at h;simpa using h
theorem aLW(s:ByteArray)(a:Nat)(ha:a<=s.size)(hs:s.size<=140737488355327)(m:Int)(w:World)(hm:aF w m) :
 Calls prog 57 #[.string s,.int .i64 a] w fun e w'=>e=.returned (mG (a+(aM (s.data.toList.drop a)).1) (aM (s.data.toList.drop a)).2)/\Below w.heap.size w w':=by
 have hmx:Hid (s.size<=maxLen):=q32;have hz0:decide ((a:Int)<0)=false:=sI;have hz1:decide (s.size<a)=false:=sO;unfold aM;obtain⟨p,hp0⟩:=eX (a+dY false (s.data.toList.drop a));have hple:p<=s.size:=by have:=aTJ false (s.data.toList.drop a);simp at this;omega
 rw[List.drop_drop];simp only[hp0];have HP:=Lh hp0;clear hp0;by_cases hp:p<s.size
 ·have hne:s.data.toList.drop p≠[]:=by rw[aV s p hp];simp
  rw[bGU hne];obtain⟨X,hX⟩:=eX (rW (s.data.toList.drop p));rw[hX];have hX0:=Lh hX;rw[aV s p hp] at hX;unfold rW at hX;have hpe:((p:Int)==(s.size:Int))=false:=sO;have hm2:aF ((w.alloc (.cells #[.int .i64 0,.int .i64 0,.int .i64 0,.int .i64 0,.string ⟨#[]⟩] 81)).alloc (.cells #[.string s,.int .i64 p] 155)) m:=hm.below bel;clear hne;by_cases h91:s[p]=91
  ·have t91:((s[p].toNat:Int)==91)=true:=cP (n:=91) dC h91;have HX:=Lh (show X=.good ⟨6,1,0,[s[p]]⟩ by rw[<-hX,h91];rfl);have HE:=Lh (aNW s p hp);obtain⟨b,hd⟩:=eX (((s.data.toList.drop (p+1)).head?==some s[p]));have HD:=Lh hd;clear hX hd h91;exact q302
  ·have t91:((s[p].toNat:Int)==91)=false:=eD (n:=91) dC h91;have g91:=h91;clear h91;by_cases h93:s[p]=93
   ·have t93:((s[p].toNat:Int)==93)=true:=cP (n:=93) dC h93;have HX:=Lh (show X=.good ⟨6,1,0,[s[p]]⟩ by rw[<-hX,h93];rfl);have HE:=Lh (aNW s p hp);obtain⟨b,hd⟩:=eX (((s.data.toList.drop (p+1)).head?==some s[p]));have HD:=Lh hd;clear hX hd h93 g91;exact q302
   ·have t93:((s[p].toNat:Int)==93)=false:=eD (n:=93) dC h93;have g93:=h93;clear h93;by_cases h123:s[p]=123
    ·have t123:((s[p].toNat:Int)==123)=true:=cP (n:=123) dC h123;have HX:=Lh (show X=.good ⟨6,1,0,[s[p]]⟩ by rw[<-hX,h123];rfl);have HE:=Lh (aNW s p hp);obtain⟨b,hd⟩:=eX (((s.data.toList.drop (p+1)).head?==some s[p]));have HD:=Lh hd;clear hX hd h123 g91 g93;exact q302
    ·have t123:((s[p].toNat:Int)==123)=false:=eD (n:=123) dC h123;have g123:=h123;clear h123;by_cases h125:s[p]=125
     ·have t125:((s[p].toNat:Int)==125)=true:=cP (n:=125) dC h125;have HX:=Lh (show X=.good ⟨6,1,0,[s[p]]⟩ by rw[<-hX,h125];rfl);have HE:=Lh (aNW s p hp);obtain⟨b,hd⟩:=eX (((s.data.toList.drop (p+1)).head?==some s[p]));have HD:=Lh hd;clear hX hd h125 g91 g93 g123;exact q302
     ·have t125:((s[p].toNat:Int)==125)=false:=eD (n:=125) dC h125;have g125:=h125;clear h125;by_cases h60:s[p]=60
      ·have t60:((s[p].toNat:Int)==60)=true:=cP (n:=60) dC h60;cases hd:((s.data.toList.drop (p+1)).head?==some s[p])
       ·have HD:=Lh hd;have hXX:aZY (s.data.toList.drop (p+1))=X:=by
         rw[h60] at hd;simp only[beq_eq_false_iff_ne,ne_eq] at hd;rw[<-hX,h60];dsimp only;rw[bGU dC,bGV dC,bGU hd]
        clear hX hd h60 g91 g93 g123 g125;cases X with
        |bad k =>
         have HXX:=Lh hXX;clear hXX;go_enter func57,ntmps57
         go_wp2_with(go_at_call 87;refine(fQ _ _ p HP.out ha hmx.out _).mono ?_;rintro e w' ⟨rfl,rfl⟩)
         go_quiet ((go_at_call 11;exact bHD (cZ s p _ hp hmx.out HD.out _)))
         go_wp2_with fail;refine(qJ HXX.out (aTT s p hp hs _)).mono ?_;exact q320
        |good t =>
         have HXX:=Lh hXX;clear hXX;go_enter func57,ntmps57
         go_wp2_with(go_at_call 87;refine(fQ _ _ p HP.out ha hmx.out _).mono ?_;rintro e w' ⟨rfl,rfl⟩)
         go_quiet ((go_at_call 11;exact bHD (cZ s p _ hp hmx.out HD.out _)))
         go_wp2_with fail;refine(nM HXX.out (aTT s p hp hs _)).mono ?_;exact q318
       ·have HD:=Lh hd;have hd2:(s.data.toList.drop (p+1)).head?=some 60:=by rw[h60] at hd;simpa using hd
        have HX:=Lh (show X=.good ⟨6,2,0,[60,60]⟩ by rw[<-hX,h60];simp[hd2]);obtain⟨hp1,hs1⟩:=aUC hd2;have HE:=Lh (show s.extract p (p+2)=⟨#[60,60]⟩ by rw[bFB s p hp1,h60,hs1]);clear hX hd hd2 hs1 h60 g91 g93 g123 g125;exact q327
      ·have t60:((s[p].toNat:Int)==60)=false:=eD (n:=60) dC h60;have g60:=h60;clear h60;by_cases h62:s[p]=62
       ·have t62:((s[p].toNat:Int)==62)=true:=cP (n:=62) dC h62;cases hd:((s.data.toList.drop (p+1)).head?==some s[p])
        ·have HD:=Lh hd;have HX:=Lh (show X=.bad 3 by rw[h62] at hd;simp only[beq_eq_false_iff_ne,ne_eq] at hd;rw[<-hX,h62];dsimp only;rw[bGU dC,bGU dC,bGV dC,bGU hd]);clear hX hd h62 g91 g93 g123 g125 g60;exact q326
        ·have HD:=Lh hd;have hd2:(s.data.toList.drop (p+1)).head?=some 62:=by rw[h62] at hd;simpa using hd
         have HX:=Lh (show X=.good ⟨6,2,0,[62,62]⟩ by rw[<-hX,h62];simp[hd2]);obtain⟨hp1,hs1⟩:=aUC hd2;have HE:=Lh (show s.extract p (p+2)=⟨#[62,62]⟩ by rw[bFB s p hp1,h62,hs1]);clear hX hd hd2 hs1 h62 g91 g93 g123 g125 g60;exact q327
       ·have t62:((s[p].toNat:Int)==62)=false:=eD (n:=62) dC h62;have g62:=h62;clear h62;by_cases h47:s[p]=47
        ·have t47:((s[p].toNat:Int)==47)=true:=cP (n:=47) dC h47;have hXX:yC (s.data.toList.drop (p+1))=X:=by
          rw[<-hX,h47];simp
         obtain⟨b,hd⟩:=eX (((s.data.toList.drop (p+1)).head?==some s[p]));have HD:=Lh hd;clear hX hd h47 g91 g93 g123 g125 g60 g62;cases X with
         |bad k =>
          have HXX:=Lh hXX;clear hXX;go_enter func57,ntmps57
          go_wp2_with(go_at_call 87;refine(fQ _ _ p HP.out ha hmx.out _).mono ?_;rintro e w' ⟨rfl,rfl⟩)
          go_quiet ((go_at_call 11;exact bHD (cZ s p _ hp hmx.out HD.out _)))
          go_wp2_with fail;refine(qJ HXX.out (aLN s p hp hs _)).mono ?_;exact q320
         |good t =>
          have HXX:=Lh hXX;clear hXX;go_enter func57,ntmps57
          go_wp2_with(go_at_call 87;refine(fQ _ _ p HP.out ha hmx.out _).mono ?_;rintro e w' ⟨rfl,rfl⟩)
          go_quiet ((go_at_call 11;exact bHD (cZ s p _ hp hmx.out HD.out _)))
          go_wp2_with fail;refine(nM HXX.out (aLN s p hp hs _)).mono ?_;exact q318
        ·have t47:((s[p].toNat:Int)==47)=false:=eD (n:=47) dC h47;have g47:=h47;clear h47;by_cases h40:s[p]=40
         ·have t40:((s[p].toNat:Int)==40)=true:=cP (n:=40) dC h40;have hXX:aLJ (s.data.toList.drop (p+1))=X:=by
           rw[<-hX,h40];simp
          obtain⟨b,hd⟩:=eX (((s.data.toList.drop (p+1)).head?==some s[p]));have HD:=Lh hd;clear hX hd h40 g91 g93 g123 g125 g60 g62 g47;cases X with
          |bad k =>
           have HXX:=Lh hXX;clear hXX;go_enter func57,ntmps57
           go_wp2_with(go_at_call 87;refine(fQ _ _ p HP.out ha hmx.out _).mono ?_;rintro e w' ⟨rfl,rfl⟩)
           go_quiet ((go_at_call 11;exact bHD (cZ s p _ hp hmx.out HD.out _)))
           go_wp2_with fail;refine(qJ HXX.out (aLQ s p hp hs _)).mono ?_;exact q320
          |good t =>
           have HXX:=Lh hXX;clear hXX;go_enter func57,ntmps57
           go_wp2_with(go_at_call 87;refine(fQ _ _ p HP.out ha hmx.out _).mono ?_;rintro e w' ⟨rfl,rfl⟩)
           go_quiet ((go_at_call 11;exact bHD (cZ s p _ hp hmx.out HD.out _)))
           go_wp2_with fail;refine(nM HXX.out (aLQ s p hp hs _)).mono ?_;exact q318
         ·have t40:((s[p].toNat:Int)==40)=false:=eD (n:=40) dC h40;have g40:=h40;clear h40;by_cases h41:s[p]=41
          ·have t41:((s[p].toNat:Int)==41)=true:=cP (n:=41) dC h41;have HX:=Lh (show X=.bad 3 by rw[<-hX,h41];rfl);obtain⟨b,hd⟩:=eX (((s.data.toList.drop (p+1)).head?==some s[p]));have HD:=Lh hd;clear hX hd h41 g91 g93 g123 g125 g60 g62 g47 g40;exact q326
          ·have t41:((s[p].toNat:Int)==41)=false:=eD (n:=41) dC h41;have g41:=h41;clear h41;have hXX:eR ((s.data.toList.drop p).take (iS (s.data.toList.drop p)))=X:=by
            rw[<-hX,aV s p hp];simp[g91,g93,g123,g125,g60,g62,g47,g40,g41]
           obtain⟨b,hd⟩:=eX (((s.data.toList.drop (p+1)).head?==some s[p]));have HD:=Lh hd;clear hX hd g91 g93 g123 g125 g60 g62 g47 g40 g41;cases X with
           |bad k =>
            have HXX:=Lh hXX;clear hXX;go_enter func57,ntmps57
            go_wp2_with(go_at_call 87;refine(fQ _ _ p HP.out ha hmx.out _).mono ?_;rintro e w' ⟨rfl,rfl⟩)
            go_quiet ((go_at_call 11;exact bHD (cZ s p _ hp hmx.out HD.out _)))
            go_wp2_with fail;refine(qJ HXX.out (aLV s p hp hs m _ (hm2.below (aN (bGL _ _) _)))).mono ?_;exact q320
           |good t =>
            have HXX:=Lh hXX;clear hXX;go_enter func57,ntmps57
            go_wp2_with(go_at_call 87;refine(fQ _ _ p HP.out ha hmx.out _).mono ?_;rintro e w' ⟨rfl,rfl⟩)
            go_quiet ((go_at_call 11;exact bHD (cZ s p _ hp hmx.out HD.out _)))
            go_wp2_with fail;refine(nM HXX.out (aLV s p hp hs m _ (hm2.below (aN (bGL _ _) _)))).mono ?_;exact q318
 ·have hp2:p=s.size:=oM;rw[bGV (List.drop_eq_nil_of_le (by have:s.data.toList.length=s.size:=rfl;omega))];subst hp2;go_enter func57,ntmps57
  go_wp2_with(go_at_call 87;refine(fQ _ _ _ HP.out ha hmx.out _).mono ?_;rintro e w' ⟨rfl,rfl⟩)
  refine bGN (v:=.tuple #[.agg #[.int .i64 0,.int .i64 s.size,.int .i64 s.size,.int .i64 0,.string ⟨#[]⟩],.int .i64 0]) (by simp[results,results57,go_sem]) rfl ⟨by simp[mG],bel⟩
end Go.Proofs.YtdjpkgccakgkbaaGreatDoor
