/- Parts of the proof: Ifl BtA BtB BtC CoP CoA CoQ CoB CoC CoD. -/
import Derived.Test.YtdjpkgccakgkbaaGreatDoorPea
import Derived.PlainAid
import Derived.Deep.OwnRows
import Derived.StillTailTactics
set_option linter.all false
set_option maxRecDepth 100000
set_option maxHeartbeats 8000000
section
variable{p:Prop}
theorem q181(h:p:=by unfold wrap64;omega):p:=h
theorem q182(h:p:=by rw[<-hx];exact HN.out.2 _ (bGG hkl)):p:=h
theorem q183(h:p:=by show w.heap.size≠w.heap.size+1;omega):p:=h
theorem q369(h:p:=by
 clear HCB;go_wp2;go_ret
 exact⟨eA HE.out.symm,hbr⟩):p:=h
theorem q454(h:p:=by
 have h16:i<16:=hi;match i,h16 with
 |0,_|1,_|2,_|3,_|4,_|5,_|6,_|7,_|8,_|9,_|10,_|11,_|12,_|13,_|14,_|15,_=>rfl
 |i+16,h=>exact absurd h oM):p:=h
theorem q512(h:p:=by
 dsimp only;by_cases hk:i=k
 ·rw[bGV hk,bGV hk]
 ·rw[bGU hk,bGU hk]):p:=h
theorem q529(h:p:=by
 rintro e w1 ⟨rfl,hb1⟩;clear HC;go_wp2;go_ret2
 exact⟨rfl,hb1⟩):p:=h
theorem q594(h:p:=by
 clear e2 hu ha hle;go_enter func264,ntmps264
 go_wp2;exact q393):p:=h
end
namespace Fo
def gM(s:L)(p:Nat):Nat:=(s.getD (p/8) 0).toNat/2 ^ (p % 8) % 2
def fJ(s:L):Nat->Nat->Nat
 |_,0=>0
 |p,n+1=>gM s p+2*fJ s (p+1) n
def aS(s:L)(p n:Nat):Res (Nat×Nat):=if p+n<=8*s.length then .good (fJ s p n,p+n) else .bad 4
def iH(lens:List Nat)(l:Nat):Nat:=lens.countP (·==l)
def nF(lens:List Nat)(l:Nat):List Nat:=(List.range lens.length).filter fun i=>lens.getD i 0==l
def bY(lens:List Nat):Int :=
 if 288<lens.length then 6
 else if lens.any (15<·) then 1
 else
  let sum:=(lens.map fun l=>if l=0 then 0 else 2 ^ (15-l)).sum
  let signs:=lens.countP (· !=0)
  if sum=32768\/signs=0\/(signs=1/\iH lens 1=1) then 0 else 13
def fW(s:L)(lens:List Nat):Nat->Nat->Nat->Nat->Nat->Res (Nat×Nat)
 |0,_,_,_,_=>.bad 13
 |f+1,p,l,code,first =>
  if lens.all (·<l) then .bad 13
  else if p<8*s.length then
   let code:=2*code+gM s p
   let first:=2*first
   if code-first<iH lens l then .good ((nF lens l).getD (code-first) 0,p+1)
   else fW s lens f (p+1) (l+1) code (first+iH lens l)
  else .bad 4
def eJ(s:L)(lens:List Nat)(p:Nat):Res (Nat×Nat):=fW s lens 16 p 1 0 0
def jO(aR:Nat):Nat:=if aR<265\/284<aR then 0 else(aR-261)/4
def kK(aR:Nat):Nat:=if aR<4 then 0 else(aR-2)/2
def kL(aR:Nat):Nat:=if aR=285 then 258 else 3+((List.range (aR-257)).map fun i=>2 ^ jO (257+i)).sum
def qV(aR:Nat):Nat:=1+((List.range aR).map fun i=>2 ^ kK i).sum
def kM(out:L)(back:Nat):Nat->L
 |0=>out
 |n+1=>kM (out++[out.getD (out.length-back) 0]) back n
def gW:List Nat:=List.replicate 144 8++List.replicate 112 9++List.replicate 24 7++List.replicate 8 8
def jP:List Nat:=List.replicate 32 5
def eQ(s:L)(most p:Nat)(out:L):Res (L×Nat) :=
 match aS s ((p+7)/8*8) 16 with
 |.bad k=>.bad k
 |.good (n,p1) =>
  match aS s p1 16 with
  |.bad k=>.bad k
  |.good (m,p2) =>
   if m+n≠65535 then .bad 3
   else if most<out.length+n then .bad 5
   else if s.length<p2/8+n then .bad 4
   else .good (out++(s.drop (p2/8)).take n,p2+8*n)
def cX(s:L)(most:Nat)(near far:List Nat):Nat->Nat->L->Res (L×Nat)
 |0,_,_=>.bad 4
 |f+1,p,out =>
  match eJ s near p with
  |.bad k=>.bad k
  |.good (aR,p1) =>
   if aR<256 then(if most<out.length+1 then .bad 5 else cX s most near far f p1 (out++[UInt8.ofNat aR]))
   else if aR=256 then .good (out,p1)
   else if 285<aR then .bad 13
   else
    match aS s p1 (jO aR) with
    |.bad k=>.bad k
    |.good (v,p2) =>
     match eJ s far p2 with
     |.bad k=>.bad k
     |.good (d,p3) =>
      if 29<d then .bad 13
      else
       match aS s p3 (kK d) with
       |.bad k=>.bad k
       |.good (w,p4) =>
        if out.length<qV d+w then .bad 14
        else if most<out.length+(kL aR+v) then .bad 5
        else cX s most near far f p4 (kM out (qV d+w) (kL aR+v))
def gX:List Nat:=[16,17,18,0,8,7,9,6,10,5,11,4,12,3,13,2,14,1,15]
def gY(s:L):List Nat->Nat->List Nat->Res (List Nat×Nat)
 |[],p,lens=>.good (lens,p)
 |i::l,p,lens =>
  match aS s p 3 with
  |.bad k=>.bad k
  |.good (v,p1)=>gY s l p1 (lens.set i v)
def fK(s:L)(code:List Nat)(many:Nat):Nat->Nat->List Nat->Res (List Nat×Nat)
 |0,_,_=>.bad 4
 |f+1,p,l =>
  if many<=l.length then .good (l,p)
  else
   match eJ s code p with
   |.bad k=>.bad k
   |.good (aR,p1) =>
    if aR<16 then fK s code many f p1 (l++[aR])
    else if aR=16/\l=[] then .bad 3
    else
     let what:=if aR=16 then l.getLastD 0 else 0
     let bits:=if aR=18 then 7 else if aR=17 then 3 else 2
     let least:=if aR=18 then 11 else 3
     match aS s p1 bits with
     |.bad k=>.bad k
     |.good (v,p2)=>if many<l.length+(least+v) then .bad 3 else fK s code many f p2 (l++List.replicate (least+v) what)
def dB(s:L)(most p:Nat)(out:L):Res (L×Nat) :=
 match aS s p 5 with
 |.bad k=>.bad k
 |.good (hl,p1) =>
  if 29<hl then .bad 3
  else
   match aS s p1 5 with
   |.bad k=>.bad k
   |.good (hd,p2) =>
    if 29<hd then .bad 3
    else
     match aS s p2 4 with
     |.bad k=>.bad k
     |.good (hc,p3) =>
      match gY s (gX.take (hc+4)) p3 (List.replicate 19 0) with
      |.bad k=>.bad k
      |.good (code,p4) =>
       if bY code≠0 then .bad (bY code)
       else
        match fK s code (hl+257+(hd+1)) 400 p4 [] with
        |.bad k=>.bad k
        |.good (l,p5) =>
         if l.getD 256 0=0 then .bad 13
         else if bY (l.take (hl+257))≠0 then .bad (bY (l.take (hl+257)))
         else if bY (l.drop (hl+257))≠0 then .bad (bY (l.drop (hl+257)))
         else cX s most (l.take (hl+257)) (l.drop (hl+257)) (8*s.length+1) p5 out
def gG(s:L)(most:Nat):Nat->Nat->L->Res (L×Nat)
 |0,_,_=>.bad 4
 |f+1,p,out =>
  match aS s p 1 with
  |.bad k=>.bad k
  |.good (last,p1) =>
   match aS s p1 2 with
   |.bad k=>.bad k
   |.good (kind,p2) =>
    match (if kind=0 then eQ s most p2 out else if kind=1 then cX s most gW jP (8*s.length+1) p2 out else if kind=2 then dB s most p2 out else .bad 3) with
    |.bad k=>.bad k
    |.good (out1,p3)=>if last=1 then .good (out1,p3) else gG s most f p3 out1
def eK(s:L)(most:Int):Res (L×Nat) :=
 if most<0 then .bad 1
 else
  match gG s (min most.toNat 1048576) (8*s.length+1) 0 [] with
  |.bad k=>.bad k
  |.good (out,p)=>.good (out,(p+7)/8)
theorem aBP(s:L)(p:Nat):gM s p<=1:=by unfold gM;omega
theorem wK(s:L):∀(n p:Nat),fJ s p (n+1)=fJ s p n+2 ^ n*gM s (p+n)
 |0,p=>by simp[fJ]
 |n+1,p=>by
  have ih:=wK s n (p+1);have e1:fJ s p (n+1+1)=gM s p+2*fJ s (p+1) (n+1):=rfl;have e2:fJ s p (n+1)=gM s p+2*fJ s (p+1) n:=rfl;rw[e1,ih,e2,Nat.pow_succ,show p+1+n=p+(n+1) from oM,Nat.mul_add];have:2*(2 ^ n*gM s (p+(n+1)))=2 ^ n*2*gM s (p+(n+1)):=by rw[bHL (2 ^ n) 2,Nat.mul_assoc]
  omega
theorem wL(s:L):∀(n p:Nat),fJ s p n<2 ^ n
 |0,p=>by simp[fJ]
 |n+1,p=>by
  have ih:=wL s n (p+1);have h1:=aBP s p;show gM s p+2*fJ s (p+1) n<2 ^ (n+1)
  rw[Nat.pow_succ];omega
theorem aMH{n v b:Nat}(h:v<2 ^ n):v ||| (b*2 ^ n)=v+2 ^ n*b:=by
 rw[Nat.or_comm,bHL b,<-Nat.two_pow_add_eq_or_of_lt h];omega
end Fo
namespace Go.Proofs.YtdjpkgccakgkbaaGreatDoor
open Go.Proofs.Tryz
open Go.RowKit Fo
def RdB(w:World)(r:Nat)(s:L)(way p:Nat):Prop :=
 w.heap[r]?=some (.cells #[.int .i64 way,.int .i64 ((p % 8:Nat):Int),.string ⟨s.toArray⟩,.int .i64 ((p/8:Nat):Int)] 372 (0,0))/\p<=8*s.length/\s.length<=1000000000000
theorem eL{w:World}{b:Nat}{t:TypeId}{v0 v1 v2 v3:Value}(h:w.heap[b]?=some (.cells #[v0,v1,v2,v3] t (0,0))) :
 w.cell? ⟨b,0,none⟩=some v0/\w.cell? ⟨b,1,none⟩=some v1/\w.cell? ⟨b,2,none⟩=some v2/\w.cell? ⟨b,3,none⟩=some v3/\∀o,w.frozen? ⟨b,o,none⟩=false:=by
 exact q374
theorem aFB(w:World)(r:Nat)(u:Int)(h:w.cell? ⟨r,1,none⟩=some (.int .i64 u)) :
 Calls prog 343 #[.pointer (some ⟨r,0,none⟩),.int .i64 1] w fun e w'=>e=.returned (.int .i64 u)/\w'=w:=by
 go_enter func343,ntmps343
 go_wp2;exact q393
theorem aFC(w:World)(r way:Nat)(h:w.cell? ⟨r,0,none⟩=some (.int .i64 way))(hw:way<=1) :
 Calls prog 334 #[.pointer (some ⟨r,0,none⟩),.int .i64 1] w fun e w'=>e=.returned (.bool false)/\w'=w:=by
 have h01:way=0\/way=1:=oM;rcases h01 with rfl|rfl
 all_goals
  go_enter func334,ntmps334
  go_wp2;exact q393
theorem aXA(s:L)(p:Nat)(hp:p/8<s.length)(h:p/8<(⟨s.toArray⟩:ByteArray).size):bits BinOp.and IntKind.i64 (wrap64 (((⟨s.toArray⟩:ByteArray)[p/8]'h).toNat:Int)/2 ^ (p % 8)) 1=(gM s p:Int):=by
 have e:((⟨s.toArray⟩:ByteArray)[p/8]'h)=s[p/8]:=rfl;rw[e];have hb:=UInt8.toNat_lt s[p/8];have e2:wrap64 ((s[p/8].toNat:Nat):Int)=((s[p/8].toNat:Nat):Int):=q181;rw[e2];unfold gM;rw[bGX,bGE hp,Option.getD_some];obtain⟨c,hc⟩:=eX (s[p/8].toNat);rw[hc] at hb ⊢;have e3:((c:Int)/2 ^ (p % 8))=((c/2 ^ (p % 8):Nat):Int):=by push_cast;rfl
 rw[e3];obtain⟨q,hq⟩:=eX (c/2 ^ (p % 8));have hq2:q<256:=by rw[<-hq];exact Nat.lt_of_le_of_lt (Nat.div_le_self _ _) hb
 rw[hq];have key:(List.range 256).all (fun q=>bits BinOp.and IntKind.i64 (q:Int) 1==((q % 2:Nat):Int))=true:=q8;have:=List.all_eq_true.1 key q (List.mem_range.2 hq2);exact eq_of_beq this
theorem aQP(s:L)(p u a:Nat)(hu:p % 8=u)(ha:p/8=a)(hal:a<s.length)(h:a<(⟨s.toArray⟩:ByteArray).size):bits BinOp.and IntKind.i64 (wrap64 (((⟨s.toArray⟩:ByteArray)[a]'h).toNat:Int)/2 ^ u) 1=(gM s p:Int):=by
 subst hu ha;exact aXA s p hal h
theorem aXB{w:World}{r:Nat}{s:L}{way p u a n:Nat}(hP:p % 8=u/\p/8=a)(hle:p<8*s.length)(hs:s.length<=1000000000000)(h8:u+1<8)
 (hB:w.heap[r]?=some (.cells #[.int .i64 way,.int .i64 (u:Int),.string ⟨s.toArray⟩,.int .i64 (a:Int)] 372 (0,0))) :
 RdB ((w.drewN n).setCell ⟨r,1,none⟩ (.int .i64 ((u:Int)+1))) r s way (p+1)/\Bes r w ((w.drewN n).setCell ⟨r,1,none⟩ (.int .i64 ((u:Int)+1))):=by
 have e1:(p+1) % 8=u+1:=oM;have e2:(p+1)/8=a:=oM;refine⟨⟨?_,oM,hs⟩,q95⟩;rw[e1,e2,aC (w:=w.drewN n) hB];rfl
theorem aXC{w:World}{r:Nat}{s:L}{way p u a n:Nat}(hP:p % 8=u/\p/8=a)(hle:p<8*s.length)(hs:s.length<=1000000000000)(h8:u+1=8)
 (hB:w.heap[r]?=some (.cells #[.int .i64 way,.int .i64 (u:Int),.string ⟨s.toArray⟩,.int .i64 (a:Int)] 372 (0,0))) :
 RdB ((((w.drewN n).setCell ⟨r,1,none⟩ (.int .i64 ((u:Int)+1))).setCell ⟨r,1,none⟩ (.int .i64 0)).setCell ⟨r,3,none⟩ (.int .i64 ((a:Int)+1))) r s way (p+1)/\Bes r w ((((w.drewN n).setCell ⟨r,1,none⟩ (.int .i64 ((u:Int)+1))).setCell ⟨r,1,none⟩ (.int .i64 0)).setCell ⟨r,3,none⟩ (.int .i64 ((a:Int)+1))):=by
 have e1:(p+1) % 8=0:=oM;have e2:(p+1)/8=a+1:=oM;refine⟨⟨?_,oM,hs⟩,q95⟩;rw[e1,e2,aC (aC (aC (w:=w.drewN n) hB))];rfl
theorem bEE(w:World)(r:Nat)(s:L)(way p:Nat)(h:RdB w r s way p)(hp:p<8*s.length) :
 Calls prog 349 #[.pointer (some ⟨r,0,none⟩),.int .i64 1] w fun e w'=>e=.returned (.int .i64 (gM s p))/\RdB w' r s way (p+1)/\Bes r w w':=by
 obtain⟨hB,hle,hs⟩:=h;obtain⟨u,hu⟩:=eX (p % 8);obtain⟨a,ha⟩:=eX (p/8);have hu8:u<8:=oM;have hal:a<s.length:=oM;rw[hu,ha] at hB;have hby:=aQP s p u a hu ha hal;obtain⟨bt,hbt⟩:∃b,gM s p=b:=⟨_,rfl⟩
 rw[hbt] at hby ⊢;obtain⟨c0,c1,c2,c3,cf⟩:=eL hB;have hlt:=bGJ hB;have HBY:=Lh hby;have HP:=Lh (bGQ hu ha);clear hby hbt hu ha;cases h8:((u:Int)+1==8)
 ·have h8':u+1<8:=by simp at h8;omega
  go_enter func349,ntmps349
  go_wp2_with fail;go_quiet ((go_at_call 343;exact bHD (aFB _ _ _ c1)))
  go_wp2_with fail;go_ret
  exact⟨eA (HBY.out _),aXB (n:=nq) HP.out hp hs h8' hB⟩
 ·have h8':u+1=8:=by simp at h8;omega
  go_enter func349,ntmps349
  go_wp2_with fail;go_quiet ((go_at_call 343;exact bHD (aFB _ _ _ c1)))
  go_wp2_with fail;go_ret
  exact⟨eA (HBY.out _),aXC (n:=nq) HP.out hp hs h8' hB⟩
theorem aMI(w:World)(r:Nat)(s:L)(way p:Nat)(h:RdB w r s way p) :
 Calls prog 348 #[.pointer (some ⟨r,0,none⟩)] w fun e w'=>e=.returned (.int .i64 ((8*s.length-p:Nat):Int))/\∃m,w'=w.drewN m:=by
 obtain⟨hB,hle,hs⟩:=h;obtain⟨c0,c1,c2,c3,cf⟩:=eL hB;obtain⟨u,hu⟩:=eX (p % 8);obtain⟨a,ha⟩:=eX (p/8);rw[hu] at c1;rw[ha] at c3;obtain⟨N,hN⟩:=eX (s.length);have hres:(8:Int)*((N:Int)-a)-u=((8*N-p:Nat):Int):=oM;have hsz:(⟨s.toArray⟩:ByteArray).size=N:=hN;have h1:IntKind.i64.wrap ((N:Int)-a)=(N:Int)-a:=q167;have h2:IntKind.i64.wrap (8*((N:Int)-a))=8*((N:Int)-a):=q167;have h3:IntKind.i64.wrap (8*((N:Int)-a)-u)=8*((N:Int)-a)-u:=q167;have HR:=Lh hres;rw[hN];clear hB hu ha hle hN hres;go_enter func348,ntmps348
 go_wp2_with fail;go_quiet (fail)
 all_goals go_wp2
 go_ret
 exact⟨eA HR.out,nq,rfl⟩
def RdW(w:World)(r:Nat)(s:L)(p:Nat):Prop:=∃way,way<=1/\RdB w r s way p
theorem Bes.drewN'{r:Nat}{w:World}(m:Nat):Bes r w (w.drewN m):=⟨rfl,rfl,rfl,bGB _,fun _ _ _=>rfl⟩
theorem zC(a:Nat)(ha:a<9223372036854775808):(BitVec.ofInt 64 (a:Int)).toNat=a:=by
 rw[BitVec.ofInt_natCast,BitVec.toNat_ofNat];exact Nat.mod_eq_of_lt oM
theorem wM(a b:Nat)(ha:a<9223372036854775808)(hb:b<9223372036854775808):bits .or .i64 (a:Int) (b:Int)=((a ||| b:Nat):Int):=by
 have hx:a ||| b<2 ^ 63:=Nat.or_lt_two_pow oM oM
 show IntKind.i64.wrap ((BitVec.ofInt 64 (a:Int) ||| BitVec.ofInt 64 (b:Int)).toNat:Int)=_
 rw[BitVec.toNat_or,zC a ha,zC b hb,IntKind.wrap_i64];omega
theorem aQQ(s:L)(p k:Nat)(hk:k<24):bits BinOp.or IntKind.i64 (fJ s p k:Int) (wrap64 ((gM s (p+k):Int)*2 ^ k))=((fJ s p (k+1):Nat):Int):=by
 have h1:=aBP s (p+k);have h2:=wL s k p;have hpw:2 ^ k<=2 ^ 24:=Nat.pow_le_pow_right dC oM;have hle:gM s (p+k)*2 ^ k<=2 ^ 24:=bGC (Nat.mul_le_mul_right _ h1) oM;have e:((gM s (p+k):Int)*2 ^ k)=((gM s (p+k)*2 ^ k:Nat):Int):=by push_cast;rfl
 have e2:wrap64 ((gM s (p+k)*2 ^ k:Nat):Int)=((gM s (p+k)*2 ^ k:Nat):Int):=q181;rw[e,e2,wM _ _ oM oM,aMH h2,wK]
theorem RdW.step{w:World}{r:Nat}{s:L}{way p k:Nat}(hw:way<=1)(h:RdB w r s way (p+k+1)):RdW w r s (p+(k+1)):=⟨way,hw,h⟩
theorem aXD(w:World)(r:Nat)(s:L)(p n:Nat)(h:RdW w r s p)(hn:n<=24)(hp:8*s.length<p+n) :
 Calls prog 340 #[.pointer (some ⟨r,0,none⟩),.int .i64 n,.int .i64 1] w fun e w'=>e=.returned (.tuple #[.int .i64 0,.int .i64 4])/\Bes r w w':=by
 obtain⟨way,hw,h⟩:=h;have HL:=Lh (aMI w r s way p h);obtain⟨hB,hle,hs⟩:=h;obtain⟨c0,c1,c2,c3,cf⟩:=eL hB;have HO:=Lh (aFC w r way c0 hw);obtain⟨N,hN⟩:=eX (8*s.length-p);rw[hN] at HL;have hnN:(N:Int)<n:=oM;have d1:decide ((n:Int)<0)=false:=sI;have d2:decide (24<(n:Int))=false:=sO;clear hB hN hp hle;go_enter func340,ntmps340
 go_wp2_with fail;refine HO.out.mono ?_;rintro e w1 ⟨rfl,rfl⟩;go_wp2_with fail;refine HL.out.mono ?_;rintro e w1 ⟨rfl,m,rfl⟩;go_wp2_with fail;go_ret2
 exact⟨rfl,Bes.drewN' m⟩
theorem bBQ(w:World)(r:Nat)(s:L)(p n:Nat)(h:RdW w r s p)(hn:n<=24)(hp:p+n<=8*s.length) :
 Calls prog 340 #[.pointer (some ⟨r,0,none⟩),.int .i64 n,.int .i64 1] w fun e w'=>e=.returned (.tuple #[.int .i64 (fJ s p n),.int .i64 0])/\RdW w' r s (p+n)/\Bes r w w':=by
 obtain⟨way,hw,h⟩:=h;have HL:=Lh (aMI w r s way p h);have HB:=Lh h;obtain⟨hB,hle,hs⟩:=h;obtain⟨c0,c1,c2,c3,cf⟩:=eL hB;have HO:=Lh (aFC w r way c0 hw);obtain⟨N,hN⟩:=eX (8*s.length-p);rw[hN] at HL;have hnN:decide (N<n)=false:=sO;have d1:decide ((n:Int)<0)=false:=sI;have d2:decide (24<(n:Int))=false:=sO;have HP:=Lh (bGQ hp hs);clear hB hN hp hle c0 c1 c2 c3 cf;go_enter func340,ntmps340
 go_wp2_with fail;refine HO.out.mono ?_;rintro e w1 ⟨rfl,rfl⟩;go_wp2_with fail;refine HL.out.mono ?_;rintro e w1 ⟨rfl,m,rfl⟩;go_wp2_with fail;obtain⟨w2,hw2⟩:=eX (w1.drewN m);have hr2:RdW w2 r s p:=by rw[<-hw2];exact⟨way,hw,HB.out⟩
 have hb2:Bes r w1 w2:=by rw[<-hw2];exact Bes.drewN' m
 rw[hw2];clear hw2 HB HO HL;go_loopw [8,35] (fun v i wr=>∃k:Nat,k<=n/\i=.int .i64 k/\v=.int .i64 (fJ s p k)/\RdW wr r s (p+k)/\Bes r w1 wr) (fun _ i _=>n-(intOf i).toNat)
 case atStart=>exact⟨0,bGF _,rfl,rfl,hr2,hb2⟩
 case round =>
  clear hr2 hb2;obtain⟨k,hk,rfl,rfl,⟨way,hw,hr⟩,hbr⟩:=hrel;by_cases hkn:k<n
  ·have HO:=Lh (bEE wr r s way (p+k) hr (by have:=HP.out;omega));clear hr;go_wp2_with fail;refine HO.out.mono ?_;rintro e w3 ⟨rfl,hr3,hb3⟩;have HV:=Lh (aQQ s p k oM);have hr3':=RdW.step hw hr3;have hb4:=hbr.trans hb3;clear HO hr3 hb3 hbr;go_wp2;go_roundw
   case rel=>exact⟨k+1,oM,q12,congrArg _ HV.out,hr3',hb4⟩
   case measure=>exact q339
  ·have hkn:k=n:=oM;subst hkn;cases k with
   |zero =>
    go_wp2_with fail;go_ret2
    exact⟨rfl,⟨way,hw,hr⟩,hbr⟩
   |succ k =>
    have hB:=hr.1;obtain⟨c0,c1,c2,c3,cf⟩:=eL hB;have hlt:=bGJ hB;go_wp2_with fail;go_ret2
    exact⟨rfl,⟨1,bGB _,by rw[aC hB];rfl,hr.2⟩,q95⟩
theorem aXE(w:World)(r:Nat)(s:L)(p n:Nat)(h:RdW w r s p)(hn:n<=24)(hp:p+n<=8*s.length) :
 Calls prog 325 #[.pointer (some ⟨r,0,none⟩),.int .i64 n] w fun e w'=>e=.returned (.tuple #[.int .i64 (fJ s p n),.int .i64 0])/\RdW w' r s (p+n)/\Bes r w w':=by
 have HT:=Lh (bBQ w r s p n h hn hp);clear h hn hp;go_enter func325,ntmps325
 go_wp2_with fail;refine HT.out.mono ?_;rintro e w1 ⟨rfl,hr,hb⟩;clear HT;go_wp2;go_ret2
 exact⟨rfl,hr,hb⟩
theorem aFD(w:World)(r:Nat)(s:L)(p n:Nat)(h:RdW w r s p)(hn:n<=24)(hp:8*s.length<p+n) :
 Calls prog 325 #[.pointer (some ⟨r,0,none⟩),.int .i64 n] w fun e w'=>e=.returned (.tuple #[.int .i64 0,.int .i64 4])/\Bes r w w':=by
 have HT:=Lh (aXD w r s p n h hn hp);clear h hn hp;go_enter func325,ntmps325
 go_wp2_with fail;refine HT.out.mono ?_;rintro e w1 ⟨rfl,hb⟩;clear HT;go_wp2;go_ret2
 exact⟨rfl,hb⟩
theorem aXF(w:World)(r:Nat)(s:L)(p:Nat)(h:RdW w r s p) :
 Calls prog 326 #[.pointer (some ⟨r,0,none⟩)] w fun e w'=>e=.returned (.tuple #[])/\RdW w' r s ((p+7)/8*8)/\Bes r w w':=by
 obtain⟨way,hw,hB,hle,hs⟩:=h;obtain⟨u,hu⟩:=eX (p % 8);obtain⟨a,ha⟩:=eX (p/8);rw[hu,ha] at hB;obtain⟨c0,c1,c2,c3,cf⟩:=eL hB;have hlt:=bGJ hB;cases u with
 |zero =>
  have e1:((p+7)/8*8) % 8=0:=oM;have e2:((p+7)/8*8)/8=a:=oM;have HE:=Lh (bGQ e1 e2);clear e1 e2 hu;go_enter func326,ntmps326
  go_wp2;go_end0
  exact⟨rfl,⟨0,bGF _,⟨by rw[HE.out.1,HE.out.2,aC (aC hB)];rfl,oM,hs⟩⟩,q95⟩
 |succ u =>
  have e1:((p+7)/8*8) % 8=0:=oM;have e2:((p+7)/8*8)/8=a+1:=oM;have HE:=Lh (bGQ e1 e2);clear e1 e2 hu;go_enter func326,ntmps326
  go_wp2;go_end0
  exact⟨rfl,⟨0,bGF _,⟨by rw[HE.out.1,HE.out.2,aC (aC (aC hB))];rfl,oM,hs⟩⟩,q95⟩
theorem jC(s:L)(a n:Nat):(⟨((s.drop a).take n).toArray⟩:ByteArray)=(⟨s.toArray⟩:ByteArray).extract a (a+n):=by
 apply ByteArray.ext
 apply Array.ext'
 simp[ByteArray.data_extract,List.extract_eq_drop_take]
theorem bEF(w:World)(r:Nat)(s:L)(a n:Nat)(h:RdW w r s (8*a))(hn:a+n<=s.length) :
 Calls prog 329 #[.pointer (some ⟨r,0,none⟩),.int .i64 n] w fun e w'=>e=.returned (.tuple #[.string ⟨((s.drop a).take n).toArray⟩,.int .i64 0])/\RdW w' r s (8*(a+n))/\Bes r w w':=by
 obtain⟨way,hw,hB,hle,hs⟩:=h;rw[show 8*a % 8=0 from oM,show 8*a/8=a from oM] at hB;obtain⟨c0,c1,c2,c3,cf⟩:=eL hB;have hlt:=bGJ hB;obtain⟨N,hN⟩:=eX (s.length);have hsz:(⟨s.toArray⟩:ByteArray).size=N:=hN;have h1:IntKind.i64.wrap ((N:Int)-a)=(N:Int)-a:=q167;obtain⟨E,hE⟩:=eX (a+n);have h2:IntKind.i64.wrap ((a:Int)+n)=(E:Int):=q167;have h3:IntKind.i64.wrap ((E:Int)-n)=(a:Int):=q167;have h5:a<=E:=oM;have h4:decide ((N:Int)-a<n)=false:=sO;have d1:decide ((n:Int)<0)=false:=sI;have HS:=Lh (jC s a n);have hn2:E<=N:=oM;rw[hE] at HS ⊢;have HN:=Lh (bGQ hN hs);clear hN hs hn hle;go_enter func329,ntmps329
 go_wp2_with fail;go_quiet (fail)
 all_goals go_wp2_with fail
 obtain⟨w2,hw2⟩:=eX ((w.drewN nq).setCell ⟨r,3,none⟩ (.int .i64 (E:Int)));have hB2:w2.heap[r]?=some (.cells #[.int .i64 way,.int .i64 (0:Nat),.string ⟨s.toArray⟩,(.int .i64 (E:Int))] 372 (0,0)):=by rw[<-hw2,aC (w:=w.drewN nq) hB];rfl
 have hb2:Bes r w w2:=by rw[<-hw2];exact q95
 rw[hw2];clear hw2 c0 c1 c2 c3 cf hB;obtain⟨c0,c1,c2,c3,cf⟩:=eL hB2;have hr2:RdW w2 r s (8*E):=⟨way,hw,by rw[show 8*E % 8=0 from oM,show 8*E/8=E from oM];exact hB2,by have:=HN.out.1;omega,HN.out.2⟩;go_quiet (fail)
 all_goals go_wp2_with fail
 go_ret2
 exact⟨congrArg (fun z=>Ending.returned (.tuple #[.string z,.int .i64 0])) HS.out.symm,⟨hr2.choose,hr2.choose_spec⟩,hb2.trans (Bes.drewN' _)⟩
theorem bFJ(w:World)(r:Nat)(s:L)(p:Nat)(h:RdW w r s p) :
 Calls prog 264 #[.pointer (some ⟨r,0,none⟩)] w fun e w'=>e=.returned (.int .i64 ((p+7)/8:Nat))/\w'=w:=by
 obtain⟨way,hw,hB,hle,hs⟩:=h;obtain⟨u,hu⟩:=eX (p % 8);obtain⟨a,ha⟩:=eX (p/8);rw[hu,ha] at hB;obtain⟨c0,c1,c2,c3,cf⟩:=eL hB;cases u with
 |zero =>
  have e2:(p+7)/8=a:=oM;rw[e2];exact q594
 |succ u =>
  have e2:(p+7)/8=a+1:=oM;rw[e2];have h1:IntKind.i64.wrap ((a:Int)+1)=(a:Int)+1:=q167;exact q594
theorem bBR(w:World)(s:L)(hs:s.length<=1000000000000) :
 Calls prog 262 #[.string ⟨s.toArray⟩] w fun e w'=>e=.returned (.pointer (some ⟨w.heap.size,0,none⟩))/\RdW w' w.heap.size s 0/\Below w.heap.size w w':=by
 go_enter func262,ntmps262
 go_wp2;go_ret
 exact⟨rfl,⟨0,bGF _,aA _ _ _ rfl,bGF _,hs⟩,bel⟩
end Go.Proofs.YtdjpkgccakgkbaaGreatDoor
namespace Fo
def aY(l:List Nat)(i:Nat):Nat:=if i=0 then 0 else iH l i
def lD(n:Nat->Nat):Nat->Nat
 |0=>0
 |k+1=>lD n k+n (k+1)*2 ^ (15-(k+1))
def eU(n:Nat->Nat):Nat->Nat
 |0=>0
 |k+1=>eU n k+n (k+1)
def nG(x i:Nat):Nat:=if i≠0/\x=i then 1 else 0
theorem zD(x:Nat)(l:List Nat)(i:Nat):aY (x::l) i=aY l i+nG x i:=by
 unfold aY nG iH;by_cases h:i=0
 ·simp[h]
 ·rw[bGU h,bGU h,List.countP_cons];by_cases e:x=i
  ·simp[e,h]
  ·simp[e]
theorem aFE(f g:Nat->Nat):∀k,lD (fun i=>f i+g i) k=lD f k+lD g k
 |0=>rfl
 |k+1=>by
  show lD _ k+_=_+_
  rw[aFE f g k];unfold lD;rw[Nat.add_mul];cases k<;>simp[lD]<;>omega
theorem zE(f g:Nat->Nat):∀k,eU (fun i=>f i+g i) k=eU f k+eU g k
 |0=>rfl
 |k+1=>by
  show eU _ k+(f (k+1)+g (k+1))=(eU f k+f (k+1))+(eU g k+g (k+1))
  rw[zE f g k];omega
theorem aFF(x:Nat):∀k,lD (nG x) k=if x≠0/\x<=k then 2 ^ (15-x) else 0
 |0=>by by_cases h:x=0<;>simp[lD,h]
 |k+1=>by
  show lD _ k+_=_
  rw[aFF x k];unfold nG;by_cases h0:x=0
  ·subst h0;simp
  ·by_cases h1:x=k+1
   ·subst h1;simp
   ·by_cases h2:x<=k
    ·rw[bGV ⟨h0,h2⟩,bGU oM,bGV ⟨h0,oM⟩];simp
    ·rw[bGU oM,bGU oM,bGU oM];simp
theorem zF(x:Nat):∀k,eU (nG x) k=if x≠0/\x<=k then 1 else 0
 |0=>by by_cases h:x=0<;>simp[eU,h]
 |k+1=>by
  show eU _ k+_=_
  rw[zF x k];unfold nG;by_cases h0:x=0
  ·subst h0;simp
  ·by_cases h1:x=k+1
   ·subst h1;simp
   ·by_cases h2:x<=k
    ·rw[bGV ⟨h0,h2⟩,bGU oM,bGV ⟨h0,oM⟩]
    ·rw[bGU oM,bGU oM,bGU oM]
theorem aFG:∀(l:List Nat),(∀x∈l,x<=15)->lD (aY l) 15=(l.map fun l=>if l=0 then 0 else 2 ^ (15-l)).sum
 |[],_=>rfl
 |x::l,h=>by
  have ih:=aFG l fun y hy=>h y (by simp[hy])
  have hx:=h x sI;have e:aY (x::l)=fun i=>aY l i+nG x i:=funext fun i=>zD x l i
  rw[e,aFE,ih,aFF,List.map_cons,List.sum_cons];by_cases h0:x=0
  ·simp[h0]
  ·rw[bGV ⟨h0,hx⟩,bGU h0];omega
theorem zG:∀(l:List Nat),(∀x∈l,x<=15)->eU (aY l) 15=l.countP (· !=0)
 |[],_=>rfl
 |x::l,h=>by
  have ih:=zG l fun y hy=>h y (by simp[hy])
  have hx:=h x sI;have e:aY (x::l)=fun i=>aY l i+nG x i:=funext fun i=>zD x l i
  rw[e,zE,ih,zF,List.countP_cons];by_cases h0:x=0
  ·simp[h0]
  ·rw[bGV ⟨h0,hx⟩];simp[h0]
theorem aQR(l:List Nat)(h:∀x∈l,x<=15):bY l=if 288<l.length then 6 else if lD (aY l) 15=32768\/eU (aY l) 15=0\/(eU (aY l) 15=1/\aY l 1=1) then 0 else 13:=by
 unfold bY;have h2:l.any (15<·)=false:=by
  rw[List.any_eq_false];exact q537
 rw[h2,aFG l h,zG l h];simp only[Bool.false_eq_true,if_false,aY];rfl
theorem aBQ(l:List Nat)(i:Nat):aY l i<=l.length:=by
 unfold aY iH;split
 ·omega
 ·exact List.countP_le_length
theorem aMJ{n:Nat->Nat}{M:Nat}(h:∀i,n i<=M):∀k,lD n k<=k*M*32768
 |0=>by simp[lD]
 |k+1=>by
  have ih:=aMJ h k;have h1:n (k+1)*2 ^ (15-(k+1))<=M*32768:=Nat.mul_le_mul (h _) (bGC (Nat.pow_le_pow_right dC (show 15-(k+1)<=15 from oM)) dC);show lD n k+_<=_
  rw[Nat.add_mul,Nat.add_mul,Nat.one_mul];omega
theorem aFH{n:Nat->Nat}{M:Nat}(h:∀i,n i<=M):∀k,eU n k<=k*M
 |0=>by simp[eU]
 |k+1=>by
  have ih:=aFH h k;have:=h (k+1);show eU n k+_<=_
  rw[Nat.add_mul,Nat.one_mul];omega
end Fo
namespace Go.Proofs.YtdjpkgccakgkbaaGreatDoor
open Go.Proofs.Tryz
open Go.RowKit Fo
def cD:Enc Nat:=⟨1,fun x=>[.int .i64 x],fun _=>rfl,fun x u hu=>by simp only[List.mem_cons,List.not_mem_nil,or_false] at hu;subst hu;rfl⟩
theorem jQ{w:World}{p:Option Addr}{n c:Nat}{l:List Nat}(h:bC cD w (.slice p n c) l)(k:Nat)(hk:k<l.length) :
 ∃g off,p=some ⟨g,off,none⟩/\g<w.heap.size/\w.cell? ⟨g,off+k,none⟩=some (.int .i64 (l[k]:Nat)):=by
 obtain⟨p',c',e,h⟩:=h;cases e;obtain⟨g,off,h1,h2,h3⟩:=h k hk;have:=h3 0 _ rfl;simp only[cD,Nat.mul_one,Nat.add_zero] at this;exact⟨g,off,h1,h2,this⟩
def uF(f:Nat->Nat):Value:=.agg #[.int .i64 (f 0:Nat),.int .i64 (f 1:Nat),.int .i64 (f 2:Nat),.int .i64 (f 3:Nat),.int .i64 (f 4:Nat),.int .i64 (f 5:Nat),.int .i64 (f 6:Nat),.int .i64 (f 7:Nat),.int .i64 (f 8:Nat),.int .i64 (f 9:Nat),.int .i64 (f 10:Nat),.int .i64 (f 11:Nat),.int .i64 (f 12:Nat),.int .i64 (f 13:Nat),.int .i64 (f 14:Nat),.int .i64 (f 15:Nat)]
def bK(w:World)(g:Nat)(f:Nat->Nat):Prop:=w.rowIs g 393 16 fun i=>.int .i64 (f i)
theorem bK.new(w:World):bK (w.alloc (.cells #[.int .i64 0,.int .i64 0,.int .i64 0,.int .i64 0,.int .i64 0,.int .i64 0,.int .i64 0,.int .i64 0,.int .i64 0,.int .i64 0,.int .i64 0,.int .i64 0,.int .i64 0,.int .i64 0,.int .i64 0,.int .i64 0] 393)) w.heap.size fun _=>0 :=
 World.rowIs_alloc w #[.int .i64 0,.int .i64 0,.int .i64 0,.int .i64 0,.int .i64 0,.int .i64 0,.int .i64 0,.int .i64 0,.int .i64 0,.int .i64 0,.int .i64 0,.int .i64 0,.int .i64 0,.int .i64 0,.int .i64 0,.int .i64 0] 393 _ fun i hi=>by
  exact q454
theorem bK.kept{w w':World}{g:Nat}{f:Nat->Nat}(h:bK w g f)(e:w'.heap[g]?=w.heap[g]?):bK w' g f:=World.rowIs.of_block h e
theorem bK.lt{w:World}{g:Nat}{f:Nat->Nat}(h:bK w g f):g<w.heap.size:=World.rowIs.lt h
theorem bK.at{w:World}{g:Nat}{f:Nat->Nat}(h:bK w g f)(k:Nat)(hk:k<16):w.cell? ⟨g,k,none⟩=some (.int .i64 (f k:Nat)):=World.rowIs.cell h hk
theorem bK.put{w:World}{g:Nat}{f:Nat->Nat}(h:bK w g f)(k v:Nat):bK (w.setCell ⟨g,k,none⟩ (.int .i64 (v:Nat))) g (fun m=>if m=k then v else f m):=by
 refine(World.rowIs.set h k (.int .i64 (v:Nat))).congr fun i _=>?_
 exact q512
theorem bK.same{w:World}{g:Nat}{f f':Nat->Nat}(h:bK w g f)(e:∀k,k<16->f k=f' k):bK w g f':=World.rowIs.congr h fun i hi=>by rw[e i hi]
theorem bK.all{w:World}{g:Nat}{f:Nat->Nat}(h:bK w g f) :
 w.cell? ⟨g,0,none⟩=some (.int .i64 (f 0:Nat))/\w.cell? ⟨g,1,none⟩=some (.int .i64 (f 1:Nat))/\w.cell? ⟨g,2,none⟩=some (.int .i64 (f 2:Nat))/\w.cell? ⟨g,3,none⟩=some (.int .i64 (f 3:Nat)) /\
 w.cell? ⟨g,4,none⟩=some (.int .i64 (f 4:Nat))/\w.cell? ⟨g,5,none⟩=some (.int .i64 (f 5:Nat))/\w.cell? ⟨g,6,none⟩=some (.int .i64 (f 6:Nat))/\w.cell? ⟨g,7,none⟩=some (.int .i64 (f 7:Nat)) /\
 w.cell? ⟨g,8,none⟩=some (.int .i64 (f 8:Nat))/\w.cell? ⟨g,9,none⟩=some (.int .i64 (f 9:Nat))/\w.cell? ⟨g,10,none⟩=some (.int .i64 (f 10:Nat))/\w.cell? ⟨g,11,none⟩=some (.int .i64 (f 11:Nat)) /\
 w.cell? ⟨g,12,none⟩=some (.int .i64 (f 12:Nat))/\w.cell? ⟨g,13,none⟩=some (.int .i64 (f 13:Nat))/\w.cell? ⟨g,14,none⟩=some (.int .i64 (f 14:Nat))/\w.cell? ⟨g,15,none⟩=some (.int .i64 (f 15:Nat))/\∀o,w.frozen? ⟨g,o,none⟩=false :=
 ⟨h.at 0 dC,h.at 1 dC,h.at 2 dC,h.at 3 dC,h.at 4 dC,h.at 5 dC,h.at 6 dC,h.at 7 dC,h.at 8 dC,h.at 9 dC,h.at 10 dC,h.at 11 dC,h.at 12 dC,h.at 13 dC,h.at 14 dC,h.at 15 dC,fun o=>World.rowIs.frozen h o⟩
theorem bK.block{w:World}{g:Nat}{f:Nat->Nat}(h:bK w g f):w.heap[g]?=some (.cells #[.int .i64 (f 0:Nat),.int .i64 (f 1:Nat),.int .i64 (f 2:Nat),.int .i64 (f 3:Nat),.int .i64 (f 4:Nat),.int .i64 (f 5:Nat),.int .i64 (f 6:Nat),.int .i64 (f 7:Nat),.int .i64 (f 8:Nat),.int .i64 (f 9:Nat),.int .i64 (f 10:Nat),.int .i64 (f 11:Nat),.int .i64 (f 12:Nat),.int .i64 (f 13:Nat),.int .i64 (f 14:Nat),.int .i64 (f 15:Nat)] 393 (0,0)):=by
 obtain⟨cs,h1,h2,h3⟩:=h;rw[h1];congr 2
 apply Array.ext_getElem?
 intro i;by_cases hi:i<16
 ·rw[h3 i hi];have key:∀i:Fin 16,(#[.int .i64 (f 0:Nat),.int .i64 (f 1:Nat),.int .i64 (f 2:Nat),.int .i64 (f 3:Nat),.int .i64 (f 4:Nat),.int .i64 (f 5:Nat),.int .i64 (f 6:Nat),.int .i64 (f 7:Nat),.int .i64 (f 8:Nat),.int .i64 (f 9:Nat),.int .i64 (f 10:Nat),.int .i64 (f 11:Nat),.int .i64 (f 12:Nat),.int .i64 (f 13:Nat),.int .i64 (f 14:Nat),.int .i64 (f 15:Nat)]:Array Value)[i.1]?=some (.int .i64 ((f i.1:Nat):Int)):=by
   intro⟨i,hi⟩;match i,hi with
   |0,_|1,_|2,_|3,_|4,_|5,_|6,_|7,_|8,_|9,_|10,_|11,_|12,_|13,_|14,_|15,_=>rfl
   |i+16,h=>exact absurd h oM
  exact(key ⟨i,hi⟩).symm
 ·rw[Array.getElem?_eq_none oM,Array.getElem?_eq_none sO]
theorem bDM{w:World}{b:Nat}{t:TypeId}{u0 u1 u2 u3 u4 u5 u6 u7 u8 u9 u10 u11 u12 u13 u14 u15:Value}(h:w.heap[b]?=some (.cells #[u0,u1,u2,u3,u4,u5,u6,u7,u8,u9,u10,u11,u12,u13,u14,u15] t (0,0)))(v0 v1 v2 v3 v4 v5 v6 v7 v8 v9 v10 v11 v12 v13 v14 v15:Value) :
 (((((((((((((((((w.setCell ⟨b,0,none⟩ (v0)).setCell ⟨b,1,none⟩ (v1)).setCell ⟨b,2,none⟩ (v2)).setCell ⟨b,3,none⟩ (v3)).setCell ⟨b,4,none⟩ (v4)).setCell ⟨b,5,none⟩ (v5)).setCell ⟨b,6,none⟩ (v6)).setCell ⟨b,7,none⟩ (v7)).setCell ⟨b,8,none⟩ (v8)).setCell ⟨b,9,none⟩ (v9)).setCell ⟨b,10,none⟩ (v10)).setCell ⟨b,11,none⟩ (v11)).setCell ⟨b,12,none⟩ (v12)).setCell ⟨b,13,none⟩ (v13)).setCell ⟨b,14,none⟩ (v14)).setCell ⟨b,15,none⟩ (v15))).heap[b]?=some (.cells #[v0,v1,v2,v3,v4,v5,v6,v7,v8,v9,v10,v11,v12,v13,v14,v15] t (0,0)):=by
 rw[aC (aC (aC (aC (aC (aC (aC (aC (aC (aC (aC (aC (aC (aC (aC (aC h)))))))))))))))];simp only[List.setIfInBounds_toArray,List.set_cons_succ,List.set_cons_zero]
theorem tP{w0 w:World}{B b:Nat}(h:Below B w0 w)(hB:B<=b)(v0 v1 v2 v3 v4 v5 v6 v7 v8 v9 v10 v11 v12 v13 v14 v15:Value):Below B w0 (((((((((((((((((w.setCell ⟨b,0,none⟩ (v0)).setCell ⟨b,1,none⟩ (v1)).setCell ⟨b,2,none⟩ (v2)).setCell ⟨b,3,none⟩ (v3)).setCell ⟨b,4,none⟩ (v4)).setCell ⟨b,5,none⟩ (v5)).setCell ⟨b,6,none⟩ (v6)).setCell ⟨b,7,none⟩ (v7)).setCell ⟨b,8,none⟩ (v8)).setCell ⟨b,9,none⟩ (v9)).setCell ⟨b,10,none⟩ (v10)).setCell ⟨b,11,none⟩ (v11)).setCell ⟨b,12,none⟩ (v12)).setCell ⟨b,13,none⟩ (v13)).setCell ⟨b,14,none⟩ (v14)).setCell ⟨b,15,none⟩ (v15))) :=
 ((((((((((((((((h.setCell hB _).setCell hB _).setCell hB _).setCell hB _).setCell hB _).setCell hB _).setCell hB _).setCell hB _).setCell hB _).setCell hB _).setCell hB _).setCell hB _).setCell hB _).setCell hB _).setCell hB _).setCell hB _)
theorem wN{w:World}{b:Nat}{t:TypeId}{v0 v1 v2 v3 v4 v5 v6 v7 v8 v9 v10 v11 v12 v13 v14 v15:Value}(h:w.heap[b]?=some (.cells #[v0,v1,v2,v3,v4,v5,v6,v7,v8,v9,v10,v11,v12,v13,v14,v15] t (0,0))) :
 w.cell? ⟨b,0,none⟩=some v0/\w.cell? ⟨b,1,none⟩=some v1/\w.cell? ⟨b,2,none⟩=some v2/\w.cell? ⟨b,3,none⟩=some v3/\w.cell? ⟨b,4,none⟩=some v4/\w.cell? ⟨b,5,none⟩=some v5/\w.cell? ⟨b,6,none⟩=some v6/\w.cell? ⟨b,7,none⟩=some v7/\w.cell? ⟨b,8,none⟩=some v8/\w.cell? ⟨b,9,none⟩=some v9/\w.cell? ⟨b,10,none⟩=some v10/\w.cell? ⟨b,11,none⟩=some v11/\w.cell? ⟨b,12,none⟩=some v12/\w.cell? ⟨b,13,none⟩=some v13/\w.cell? ⟨b,14,none⟩=some v14/\w.cell? ⟨b,15,none⟩=some v15/\∀o,w.frozen? ⟨b,o,none⟩=false:=by
 exact q374
theorem pT(w:World)(v:Value)(l:List Nat)(h:bC cD w v l)(hl:∀x∈l,x<=15)(hn:l.length<=1000000) :
 Calls prog 316 #[v] w fun e w'=>e=.returned (uF (aY l))/\Below w.heap.size w w':=by
 obtain⟨p,c,rfl,_⟩:=id h;have HR:=Lh h;obtain⟨N,hN⟩:=eX (l.length);rw[hN] at HR hn ⊢;have HN:=Lh (bGQ hN hl);clear h hN hl;go_enter func316,ntmps316
 go_upto_region 2 with fail
 obtain⟨w0,hw0⟩:=eX ((w.alloc (.cells #[.int .i64 0,.int .i64 0,.int .i64 0,.int .i64 0,.int .i64 0,.int .i64 0,.int .i64 0,.int .i64 0,.int .i64 0,.int .i64 0,.int .i64 0,.int .i64 0,.int .i64 0,.int .i64 0,.int .i64 0,.int .i64 0] 393)).alloc (.cells #[.int .i64 0,.int .i64 0,.int .i64 0,.int .i64 0,.int .i64 0,.int .i64 0,.int .i64 0,.int .i64 0,.int .i64 0,.int .i64 0,.int .i64 0,.int .i64 0,.int .i64 0,.int .i64 0,.int .i64 0,.int .i64 0] 393));have hO0:bK w0 (w.heap.size+1) (aY []):=by
  have h:=bK.new (w.alloc (.cells #[.int .i64 0,.int .i64 0,.int .i64 0,.int .i64 0,.int .i64 0,.int .i64 0,.int .i64 0,.int .i64 0,.int .i64 0,.int .i64 0,.int .i64 0,.int .i64 0,.int .i64 0,.int .i64 0,.int .i64 0,.int .i64 0] 393));rw[World.size_alloc] at h;rw[<-hw0];exact h.same fun k _=>by simp[aY,iH]
 have hR0:bK w0 w.heap.size (fun _=>0):=by rw[<-hw0];exact(bK.new w).kept (bGM _ _ _ sI)
 have hb0:Below w.heap.size w w0:=q150;rw[hw0];clear hw0;go_wp2_with fail;go_loopw [8] (fun i wr=>∃k:Nat,k<=N/\i=.int .i64 k/\bK wr (w.heap.size+1) (aY (l.take k))/\bK wr w.heap.size (fun _=>0)/\Below w.heap.size w wr) (fun i _=>N-(intOf i).toNat)
 case atStart=>exact⟨0,bGF _,rfl,hO0,hR0,hb0⟩
 case round =>
  clear hO0 hR0 hb0;obtain⟨k,hk,rfl,hO,hR,hbr⟩:=hrel;by_cases hkN:k<N
  ·have hkl:k<l.length:=by rw[HN.out.1];exact hkN
   obtain⟨g,off,rfl,hg,e0⟩:=jQ (HR.out.below hbr) k hkl;obtain⟨x,hx⟩:=eX (l[k]);rw[hx] at e0;have hx15:x<=15:=q182;have HTK:=Lh (show l.take (k+1)=l.take k++[x] by rw[List.take_succ_eq_append_getElem hkl,hx]);have hlt:=hO.lt;clear hx;cases x with
   |zero =>
    have HS:=Lh (show bK wr (w.heap.size+1) (aY (l.take (k+1))) from hO.same fun m _=>by
     rw[HTK.out];unfold aY iH;by_cases h0:m=0
     ·rw[bGV h0,bGV h0]
     ·rw[bGU h0,bGU h0,List.countP_append];simp[List.countP_cons];omega)
    go_wp2;go_roundw
    case rel=>exact⟨k+1,oM,q12,HS.out,hR,hbr⟩
    case measure=>exact q339
   |succ x =>
    obtain⟨y,hy⟩:=eX (x+1);rw[hy] at e0 hx15 HTK;have hy0:0<y:=oM;have hc:=hO.at y oM;obtain⟨z,hz⟩:=eX (aY (l.take k) y);rw[hz] at hc;have hzk:z<=k:=by
     rw[<-hz];unfold aY iH;split
     ·omega
     ·have:=List.countP_le_length (p:=(·==y)) (l:=l.take k);rw[bGT] at this;omega
    have hfr:w.heap.size+1<wr.heap.size:=hlt;have hff:=(bK.all hO).2.2.2.2.2.2.2.2.2.2.2.2.2.2.2.2 y;have h1:IntKind.i64.wrap ((z:Int)+1)=((z+1:Nat):Int):=q167;have HS:=Lh (show bK (wr.setCell ⟨w.heap.size+1,y,none⟩ (.int .i64 ((z+1:Nat):Int))) (w.heap.size+1) (aY (l.take (k+1))) from(hO.put y (z+1)).same fun m _=>by
     rw[HTK.out];unfold aY iH at hz ⊢;rw[bGU oM] at hz;by_cases h0:m=0
     ·rw[bGU oM,bGV h0,bGV h0]
     ·by_cases hm:m=y
      ·subst hm;rw[bGV rfl,bGU h0,List.countP_append,hz];simp
      ·rw[bGU hm,bGU h0,bGU h0,List.countP_append];simp[List.countP_cons];omega)
    have hx16:(y:Int)<16:=oM;clear hx15 hy hz;go_wp2;go_roundw
    case rel=>exact⟨k+1,oM,q12,HS.out,hR.kept (bGK _ _ _ _ q183),hbr.setCell (by show _<=_;simp) _⟩
    case measure=>exact q339
  ·have hkn:k=N:=oM;subst hkn;have hO2:bK wr (w.heap.size+1) (aY l):=by
    rw[bHC (by rw[HN.out.1];exact bGB _)] at hO;exact hO
   have hOB:=hO2.block;obtain⟨e0,e1,e2,e3,e4,e5,e6,e7,e8,e9,e10,e11,e12,e13,e14,e15,ef⟩:=hO2.all;obtain⟨r0,r1,r2,r3,r4,r5,r6,r7,r8,r9,r10,r11,r12,r13,r14,r15,rf⟩:=hR.all;have hRB:=hR.block;have hlt:=hR.lt;clear hO hO2;go_wp2;obtain⟨w9,hw9⟩:=eX (((((((((((((((((wr.setCell ⟨w.heap.size,0,none⟩ (.int .i64 (aY l 0:Nat))).setCell ⟨w.heap.size,1,none⟩ (.int .i64 (aY l 1:Nat))).setCell ⟨w.heap.size,2,none⟩ (.int .i64 (aY l 2:Nat))).setCell ⟨w.heap.size,3,none⟩ (.int .i64 (aY l 3:Nat))).setCell ⟨w.heap.size,4,none⟩ (.int .i64 (aY l 4:Nat))).setCell ⟨w.heap.size,5,none⟩ (.int .i64 (aY l 5:Nat))).setCell ⟨w.heap.size,6,none⟩ (.int .i64 (aY l 6:Nat))).setCell ⟨w.heap.size,7,none⟩ (.int .i64 (aY l 7:Nat))).setCell ⟨w.heap.size,8,none⟩ (.int .i64 (aY l 8:Nat))).setCell ⟨w.heap.size,9,none⟩ (.int .i64 (aY l 9:Nat))).setCell ⟨w.heap.size,10,none⟩ (.int .i64 (aY l 10:Nat))).setCell ⟨w.heap.size,11,none⟩ (.int .i64 (aY l 11:Nat))).setCell ⟨w.heap.size,12,none⟩ (.int .i64 (aY l 12:Nat))).setCell ⟨w.heap.size,13,none⟩ (.int .i64 (aY l 13:Nat))).setCell ⟨w.heap.size,14,none⟩ (.int .i64 (aY l 14:Nat))).setCell ⟨w.heap.size,15,none⟩ (.int .i64 (aY l 15:Nat))))
   have hB9:=bDM hRB (.int .i64 (aY l 0:Nat)) (.int .i64 (aY l 1:Nat)) (.int .i64 (aY l 2:Nat)) (.int .i64 (aY l 3:Nat)) (.int .i64 (aY l 4:Nat)) (.int .i64 (aY l 5:Nat)) (.int .i64 (aY l 6:Nat)) (.int .i64 (aY l 7:Nat)) (.int .i64 (aY l 8:Nat)) (.int .i64 (aY l 9:Nat)) (.int .i64 (aY l 10:Nat)) (.int .i64 (aY l 11:Nat)) (.int .i64 (aY l 12:Nat)) (.int .i64 (aY l 13:Nat)) (.int .i64 (aY l 14:Nat)) (.int .i64 (aY l 15:Nat));have hb9:=tP hbr (bGB _) (.int .i64 (aY l 0:Nat)) (.int .i64 (aY l 1:Nat)) (.int .i64 (aY l 2:Nat)) (.int .i64 (aY l 3:Nat)) (.int .i64 (aY l 4:Nat)) (.int .i64 (aY l 5:Nat)) (.int .i64 (aY l 6:Nat)) (.int .i64 (aY l 7:Nat)) (.int .i64 (aY l 8:Nat)) (.int .i64 (aY l 9:Nat)) (.int .i64 (aY l 10:Nat)) (.int .i64 (aY l 11:Nat)) (.int .i64 (aY l 12:Nat)) (.int .i64 (aY l 13:Nat)) (.int .i64 (aY l 14:Nat)) (.int .i64 (aY l 15:Nat));rw[hw9] at hB9 hb9 ⊢;clear hw9;obtain⟨s0,s1,s2,s3,s4,s5,s6,s7,s8,s9,s10,s11,s12,s13,s14,s15,sf⟩:=wN hB9;exact bGN (v:=uF (aY l)) (by simp[results,results316,go_sem,s0,s1,s2,s3,s4,s5,s6,s7,s8,s9,s10,s11,s12,s13,s14,s15,uF]) rfl ⟨rfl,hb9⟩
end Go.Proofs.YtdjpkgccakgkbaaGreatDoor
namespace Fo
def lW(l:List Nat)(k:Nat):List Nat:=(List.range k).flatMap fun i=>nF l (i+1)
def sM(l:List Nat)(L j:Nat):List Nat:=(List.range j).filter fun i=>l.getD i 0==L
theorem aFI(l:List Nat)(L:Nat):sM l L l.length=nF l L:=rfl
theorem aQS(l:List Nat)(L j:Nat):sM l L (j+1)=sM l L j++(if l.getD j 0=L then[j] else[]):=by
 unfold sM;rw[List.range_succ,List.filter_append];congr 1
 rw[List.filter_cons,List.filter_nil];by_cases h:l.getD j 0=L
 ·rw[bGV q10,bGV h]
 ·rw[bGU q10,bGU h]
theorem oT(l:List Nat)(k:Nat):lW l (k+1)=lW l k++nF l (k+1):=by
 unfold lW;rw[List.range_succ,List.flatMap_append];simp
theorem aMK(l:List Nat)(L j:Nat):(sM l L j).length<=j:=by
 have:=List.length_filter_le (fun i=>l.getD i 0==L) (List.range j);rw[List.length_range] at this;exact this
theorem aBR(l:List Nat):∀k,(lW l k).length<=k*l.length
 |0=>by simp[lW]
 |k+1=>by
  rw[oT,bGR,Nat.add_mul,Nat.one_mul];have h1:=aBR l k;have h2:=aMK l (k+1) l.length;rw[aFI] at h2;omega
theorem qW(l:List Nat)(L:Nat):(nF l L).length=iH l L:=by
 unfold nF iH;have h:l=(List.range l.length).map fun i=>l.getD i 0:=by
  apply List.ext_getElem
  ·simp
  ·intro i h1 h2;simp[bGX,bGE h1]
 rw[<-List.countP_eq_length_filter];conv=>rhs;rw[h]
 rw[List.countP_map];rfl
def gH(l:List Nat)(k:Nat):List Nat:=(lW l 15).drop (lW l k).length
theorem aFJ(l:List Nat)(k:Nat):∀m,∃Y,lW l (k+m)=lW l k++Y
 |0=>⟨[],sI⟩
 |m+1=>by
  obtain⟨Y,h⟩:=aFJ l k m;exact⟨Y++nF l (k+m+1),by rw[<-bHM,oT,h,List.append_assoc]⟩
theorem jR(l:List Nat){k:Nat}(hk:k<15):gH l k=nF l (k+1)++gH l (k+1):=by
 obtain⟨Y,h⟩:=aFJ l (k+1) (15-(k+1));rw[show k+1+(15-(k+1))=15 from oM] at h;have h2:lW l 15=lW l k++(nF l (k+1)++Y):=by rw[h,oT,List.append_assoc]
 have e1:gH l k=nF l (k+1)++Y:=by unfold gH;rw[h2,List.drop_left]
 have e2:gH l (k+1)=Y:=by unfold gH;rw[h,List.drop_left]
 rw[e1,e2]
theorem zH(l:List Nat):gH l 15=[]:=by unfold gH;rw[List.drop_length]
theorem aJG(l:List Nat):gH l 0=lW l 15:=by unfold gH;simp[lW]
theorem zI(l:List Nat)(h:∀x∈l,x<=15):∀m k,k+m=15->((gH l k=[])↔(l.all (·<k+1))=true)
 |0,k,hk=>by
  have:k=15:=oM;subst this;rw[zH];refine⟨fun _=>?_,fun _=>rfl⟩;rw[bHB];exact q537
 |m+1,k,hk=>by
  have ih:=zI l h m (k+1) oM;rw[jR l oM,List.append_eq_nil_iff,ih,<-List.length_eq_zero_iff,qW];unfold iH;rw[List.countP_eq_zero,bHB,bHB];constructor
  ·rintro⟨h1,h2⟩ x hx;have a:=h1 x hx;have b:=h2 x hx;simp at a b ⊢;omega
  ·intro h1;refine⟨fun x hx=>?_,fun x hx=>?_⟩
   ·have a:=h1 x hx;simp at a ⊢;omega
   ·have a:=h1 x hx;simp at a ⊢;omega
theorem aQT(l:List Nat)(h:∀x∈l,x<=15){k:Nat}(hk:k<=15):((gH l k=[])↔(l.all (·<k+1))=true):=zI l h (15-k) k oM
def bP(n:Nat->Nat):Nat->Nat
 |0=>0
 |1=>0
 |l+2=>2*(bP n (l+1)+n (l+1))
theorem aXG(s:L)(l:List Nat)(f p k C first:Nat)(h:l.all (·<k)=true):fW s l (f+1) p k C first=.bad 13:=by
 unfold fW;rw[bGV h]
theorem aJH(s:L)(l:List Nat)(f p k C first:Nat)(h:l.all (·<k)=false)(hp:¬p<8*s.length):fW s l (f+1) p k C first=.bad 4:=by
 unfold fW;rw[bGU (by rw[h];decide),bGU hp]
theorem aXH(s:L)(l:List Nat)(f p k C first:Nat)(h:l.all (·<k)=false)(hp:p<8*s.length)(hd:2*C+gM s p-2*first<iH l k) :
 fW s l (f+1) p k C first=.good ((nF l k).getD (2*C+gM s p-2*first) 0,p+1):=by
 unfold fW;rw[bGU (by rw[h];decide),bGV hp];dsimp only;rw[bGV hd]
theorem bBS(s:L)(l:List Nat)(f p k C first:Nat)(h:l.all (·<k)=false)(hp:p<8*s.length)(hd:¬2*C+gM s p-2*first<iH l k) :
 fW s l (f+1) p k C first=fW s l f (p+1) (k+1) (2*C+gM s p) (2*first+iH l k):=by
 conv=>lhs;unfold fW
 rw[bGU (by rw[h];decide),bGV hp];dsimp only;rw[bGU hd]
end Fo
namespace Go.Proofs.YtdjpkgccakgkbaaGreatDoor
open Go.Proofs.Tryz
open Go.RowKit Fo
theorem bK.boxed(w:World)(n:Nat->Nat):bK (w.alloc (.cells #[.int .i64 (n 0:Nat),.int .i64 (n 1:Nat),.int .i64 (n 2:Nat),.int .i64 (n 3:Nat),.int .i64 (n 4:Nat),.int .i64 (n 5:Nat),.int .i64 (n 6:Nat),.int .i64 (n 7:Nat),.int .i64 (n 8:Nat),.int .i64 (n 9:Nat),.int .i64 (n 10:Nat),.int .i64 (n 11:Nat),.int .i64 (n 12:Nat),.int .i64 (n 13:Nat),.int .i64 (n 14:Nat),.int .i64 (n 15:Nat)] 393)) w.heap.size n :=
 World.rowIs_alloc w #[.int .i64 (n 0:Nat),.int .i64 (n 1:Nat),.int .i64 (n 2:Nat),.int .i64 (n 3:Nat),.int .i64 (n 4:Nat),.int .i64 (n 5:Nat),.int .i64 (n 6:Nat),.int .i64 (n 7:Nat),.int .i64 (n 8:Nat),.int .i64 (n 9:Nat),.int .i64 (n 10:Nat),.int .i64 (n 11:Nat),.int .i64 (n 12:Nat),.int .i64 (n 13:Nat),.int .i64 (n 14:Nat),.int .i64 (n 15:Nat)] 393 _ fun i hi=>by
  exact q454
theorem aXI{n:Nat->Nat}{M:Nat}(h:∀l,n l<=M):∀l,bP n (l+1)+2*M<=2 ^ (l+1)*M
 |0=>by simp[bP]
 |l+1=>by
  have ih:=aXI h l;have h1:=h (l+1);show 2*(bP n (l+1)+n (l+1))+2*M<=2 ^ (l+1+1)*M
  rw[Nat.pow_succ,bHL (2 ^ (l+1)) 2,Nat.mul_assoc];omega
theorem aQU{n:Nat->Nat}(h:∀l,n l<=1000000)(l:Nat)(hl:l<=15):bP n l<=100000000000:=by
 cases l with
 |zero=>simp[bP]
 |succ l =>
  have h1:=aXI h l;have h2:2 ^ (l+1)<=2 ^ 15:=Nat.pow_le_pow_right dC hl;have h3:2 ^ (l+1)*1000000<=2 ^ 15*1000000:=Nat.mul_le_mul_right _ h2;omega
theorem zJ(w:World)(n:Nat->Nat)(hn:∀l,n l<=1000000) :
 Calls prog 317 #[uF n] w fun e w'=>e=.returned (uF (bP n))/\Below w.heap.size w w':=by
 have HF:=Lh (fun l hl=>aQU hn l hl);have HNL:=Lh hn;unfold uF;go_enter func317,ntmps317
 go_upto_region 2 with fail
 obtain⟨w0,hw0⟩:=eX (((w.alloc (.cells #[.int .i64 (n 0:Nat),.int .i64 (n 1:Nat),.int .i64 (n 2:Nat),.int .i64 (n 3:Nat),.int .i64 (n 4:Nat),.int .i64 (n 5:Nat),.int .i64 (n 6:Nat),.int .i64 (n 7:Nat),.int .i64 (n 8:Nat),.int .i64 (n 9:Nat),.int .i64 (n 10:Nat),.int .i64 (n 11:Nat),.int .i64 (n 12:Nat),.int .i64 (n 13:Nat),.int .i64 (n 14:Nat),.int .i64 (n 15:Nat)] 393)).alloc (.cells #[.int .i64 0,.int .i64 0,.int .i64 0,.int .i64 0,.int .i64 0,.int .i64 0,.int .i64 0,.int .i64 0,.int .i64 0,.int .i64 0,.int .i64 0,.int .i64 0,.int .i64 0,.int .i64 0,.int .i64 0,.int .i64 0] 393)).alloc (.cells #[.int .i64 0,.int .i64 0,.int .i64 0,.int .i64 0,.int .i64 0,.int .i64 0,.int .i64 0,.int .i64 0,.int .i64 0,.int .i64 0,.int .i64 0,.int .i64 0,.int .i64 0,.int .i64 0,.int .i64 0,.int .i64 0] 393));have hN0:bK w0 w.heap.size n:=by rw[<-hw0];exact(bK.boxed w n).kept ((bGM _ _ _ sO).trans (bGM _ _ _ sI))
 have hR0:bK w0 (w.heap.size+1) (fun _=>0):=by
  have h:=bK.new (w.alloc (.cells #[.int .i64 (n 0:Nat),.int .i64 (n 1:Nat),.int .i64 (n 2:Nat),.int .i64 (n 3:Nat),.int .i64 (n 4:Nat),.int .i64 (n 5:Nat),.int .i64 (n 6:Nat),.int .i64 (n 7:Nat),.int .i64 (n 8:Nat),.int .i64 (n 9:Nat),.int .i64 (n 10:Nat),.int .i64 (n 11:Nat),.int .i64 (n 12:Nat),.int .i64 (n 13:Nat),.int .i64 (n 14:Nat),.int .i64 (n 15:Nat)] 393));rw[World.size_alloc] at h;rw[<-hw0];exact h.kept (bGM _ _ _ sI)
 have hO0:bK w0 (w.heap.size+2) (fun m=>if m<=1 then bP n m else 0):=by
  have h:=bK.new ((w.alloc (.cells #[.int .i64 (n 0:Nat),.int .i64 (n 1:Nat),.int .i64 (n 2:Nat),.int .i64 (n 3:Nat),.int .i64 (n 4:Nat),.int .i64 (n 5:Nat),.int .i64 (n 6:Nat),.int .i64 (n 7:Nat),.int .i64 (n 8:Nat),.int .i64 (n 9:Nat),.int .i64 (n 10:Nat),.int .i64 (n 11:Nat),.int .i64 (n 12:Nat),.int .i64 (n 13:Nat),.int .i64 (n 14:Nat),.int .i64 (n 15:Nat)] 393)).alloc (.cells #[.int .i64 0,.int .i64 0,.int .i64 0,.int .i64 0,.int .i64 0,.int .i64 0,.int .i64 0,.int .i64 0,.int .i64 0,.int .i64 0,.int .i64 0,.int .i64 0,.int .i64 0,.int .i64 0,.int .i64 0,.int .i64 0] 393));simp only[World.size_alloc] at h;rw[<-hw0];exact h.same fun k _=>by
   by_cases hk:k<=1
   ·rw[bGV hk];rcases(show k=0\/k=1 from oM) with rfl|rfl<;>rfl
   ·rw[bGU hk]
 have hb0:Below w.heap.size w w0:=q150;rw[hw0];clear hw0;go_wp2_with fail;go_loopw [4] (fun i wr=>∃j:Nat,1<=j/\j<=15/\i=.int .i64 (j:Nat)/\bK wr (w.heap.size+2) (fun m=>if m<=j then bP n m else 0)/\bK wr w.heap.size n/\bK wr (w.heap.size+1) (fun _=>0)/\Below w.heap.size w wr) (fun i _=>15-(intOf i).toNat)
 case atStart=>exact⟨1,bGB _,oM,rfl,hO0,hN0,hR0,hb0⟩
 case round =>
  clear hO0 hN0 hR0 hb0;obtain⟨j,hj0,hj,rfl,hO,hN,hR,hbr⟩:=hrel;by_cases hjN:j<15
  ·obtain⟨q,hq⟩:=eX (j+1);have f0:=hO.at j oM;have f1:=hO.at q oM;have n0:=hN.at j oM;rw[bGV (bGB _)] at f0;rw[bGU oM] at f1;obtain⟨z,hz⟩:=eX (bP n j);obtain⟨y,hy⟩:=eX (n j);have hz1:=HF.out j oM;have hy1:=HNL.out j;have hstep:bP n q=2*(z+y):=by
    obtain⟨k,rfl⟩:∃k,j=k+1:=⟨j-1,oM⟩
    rw[<-hq,<-hz,<-hy];rfl
   have hO2:bK (wr.setCell ⟨w.heap.size+2,q,none⟩ (.int .i64 ((2*(z+y):Nat):Int))) (w.heap.size+2) (fun m=>if m<=q then bP n m else 0):=(hO.put q (2*(z+y))).same fun m _=>by
    by_cases hm:m=q
    ·subst hm;rw[bGV rfl,bGV (bGB _),hstep]
    ·rw[bGU hm];by_cases hm2:m<=j
     ·rw[bGV hm2,bGV oM]
     ·rw[bGU hm2,bGU oM]
   rw[hz] at f0 hz1;rw[hy] at n0 hy1;have ff:=(bK.all hO).2.2.2.2.2.2.2.2.2.2.2.2.2.2.2.2 q;have hlt:=hO.lt;have h0:IntKind.i64.wrap ((j:Int)+1)=(q:Int):=q167;have h1:IntKind.i64.wrap ((z:Int)+y)=((z+y:Nat):Int):=q167;obtain⟨T,hT⟩:=eX (z+y);obtain⟨T2,hT2⟩:=eX (2*T);rw[hT] at h1 hO2;rw[hT2] at hO2;have h2:IntKind.i64.wrap (2*(T:Int))=(T2:Int):=q167;have HST:=Lh (bGQ hO2 (bGQ (hN.kept (w':=wr.setCell ⟨w.heap.size+2,q,none⟩ (.int .i64 (T2:Int))) (bGK _ _ _ _ q184)) (hR.kept (w':=wr.setCell ⟨w.heap.size+2,q,none⟩ (.int .i64 (T2:Int))) (bGK _ _ _ _ q185))));have HQ:=Lh hq;have k16:(j:Int)<16:=oM;have k17:(q:Int)<16:=oM;clear hz hy hstep hT hT2 hq hO2 hO hN hR;go_wp2_with fail;go_still_tail 11,kR
   change wpList _ _ _ _ _ wr.drew
   go_wp2_with fail;go_roundw
   case rel=>exact⟨q,by have:=HQ.out;omega,by have:=HQ.out;omega,rfl,HST.out.1,HST.out.2.1,HST.out.2.2,(hbr.setCell (p:=⟨w.heap.size+2,q,none⟩) q186 _).drew⟩
   case measure=>simp[intOf];have:=HQ.out;omega
  ·have hj15:j=15:=oM;subst hj15;have hO2:bK wr (w.heap.size+2) (bP n):=hO.same fun m hm=>by rw[bGV oM]
   have hOB:=hO2.block;obtain⟨e0,e1,e2,e3,e4,e5,e6,e7,e8,e9,e10,e11,e12,e13,e14,e15,ef⟩:=hO2.all;obtain⟨r0,r1,r2,r3,r4,r5,r6,r7,r8,r9,r10,r11,r12,r13,r14,r15,rf⟩:=hR.all;have hRB:=hR.block;have hlt:=hR.lt;clear hO hO2 hN;go_wp2_with fail;obtain⟨w9,hw9⟩:=eX (((((((((((((((((wr.setCell ⟨w.heap.size+1,0,none⟩ (.int .i64 (bP n 0:Nat))).setCell ⟨w.heap.size+1,1,none⟩ (.int .i64 (bP n 1:Nat))).setCell ⟨w.heap.size+1,2,none⟩ (.int .i64 (bP n 2:Nat))).setCell ⟨w.heap.size+1,3,none⟩ (.int .i64 (bP n 3:Nat))).setCell ⟨w.heap.size+1,4,none⟩ (.int .i64 (bP n 4:Nat))).setCell ⟨w.heap.size+1,5,none⟩ (.int .i64 (bP n 5:Nat))).setCell ⟨w.heap.size+1,6,none⟩ (.int .i64 (bP n 6:Nat))).setCell ⟨w.heap.size+1,7,none⟩ (.int .i64 (bP n 7:Nat))).setCell ⟨w.heap.size+1,8,none⟩ (.int .i64 (bP n 8:Nat))).setCell ⟨w.heap.size+1,9,none⟩ (.int .i64 (bP n 9:Nat))).setCell ⟨w.heap.size+1,10,none⟩ (.int .i64 (bP n 10:Nat))).setCell ⟨w.heap.size+1,11,none⟩ (.int .i64 (bP n 11:Nat))).setCell ⟨w.heap.size+1,12,none⟩ (.int .i64 (bP n 12:Nat))).setCell ⟨w.heap.size+1,13,none⟩ (.int .i64 (bP n 13:Nat))).setCell ⟨w.heap.size+1,14,none⟩ (.int .i64 (bP n 14:Nat))).setCell ⟨w.heap.size+1,15,none⟩ (.int .i64 (bP n 15:Nat))))
   have hB9:=bDM hRB (.int .i64 (bP n 0:Nat)) (.int .i64 (bP n 1:Nat)) (.int .i64 (bP n 2:Nat)) (.int .i64 (bP n 3:Nat)) (.int .i64 (bP n 4:Nat)) (.int .i64 (bP n 5:Nat)) (.int .i64 (bP n 6:Nat)) (.int .i64 (bP n 7:Nat)) (.int .i64 (bP n 8:Nat)) (.int .i64 (bP n 9:Nat)) (.int .i64 (bP n 10:Nat)) (.int .i64 (bP n 11:Nat)) (.int .i64 (bP n 12:Nat)) (.int .i64 (bP n 13:Nat)) (.int .i64 (bP n 14:Nat)) (.int .i64 (bP n 15:Nat));have hb9:=tP hbr (show w.heap.size<=w.heap.size+1 from Nat.le_succ _) (.int .i64 (bP n 0:Nat)) (.int .i64 (bP n 1:Nat)) (.int .i64 (bP n 2:Nat)) (.int .i64 (bP n 3:Nat)) (.int .i64 (bP n 4:Nat)) (.int .i64 (bP n 5:Nat)) (.int .i64 (bP n 6:Nat)) (.int .i64 (bP n 7:Nat)) (.int .i64 (bP n 8:Nat)) (.int .i64 (bP n 9:Nat)) (.int .i64 (bP n 10:Nat)) (.int .i64 (bP n 11:Nat)) (.int .i64 (bP n 12:Nat)) (.int .i64 (bP n 13:Nat)) (.int .i64 (bP n 14:Nat)) (.int .i64 (bP n 15:Nat));rw[hw9] at hB9 hb9 ⊢;clear hw9;obtain⟨s0,s1,s2,s3,s4,s5,s6,s7,s8,s9,s10,s11,s12,s13,s14,s15,sf⟩:=wN hB9;exact bGN (v:=uF (bP n)) (by simp[results,results317,go_sem,s0,s1,s2,s3,s4,s5,s6,s7,s8,s9,s10,s11,s12,s13,s14,s15,uF]) rfl ⟨rfl,hb9⟩
theorem aXJ(X P:Nat)(hX:X<=1000000000)(hP:P<=1000000000):wrap64 ((X:Int)+wrap64 (P:Int))=((X+P:Nat):Int):=by
 have h:wrap64 (P:Int)=(P:Int):=q181;rw[h];unfold wrap64;omega
theorem aXK(X f t:Nat)(hX:X<=1000000000)(hf:f<=288)(ht:t<=15):wrap64 ((X:Int)+wrap64 ((f:Int)*2 ^ t))=((X+f*2 ^ t:Nat):Int):=by
 have e:((f:Int)*2 ^ t)=((f*2 ^ t:Nat):Int):=by push_cast;rfl
 have h1:2 ^ t<=32768:=bGC (Nat.pow_le_pow_right dC ht) dC;have h2:f*2 ^ t<=288*32768:=Nat.mul_le_mul hf h1;rw[e];exact aXJ X _ hX (bGC h2 dC)
theorem zK(w:World)(v:Value)(l:List Nat)(h:bC cD w v l)(hl:∀x∈l,x<=15)(hn:l.length<=1000000) :
 Calls prog 336 #[v] w fun e w'=>e=.returned (.int .i64 (bY l))/\Below w.heap.size w w':=by
 have hcb:=aQR l hl;obtain⟨p,c,rfl,_⟩:=id h;have HR:=Lh h;have HC:=Lh (fun(W:World) (hW:Below w.heap.size w W)=>pT W _ l (h.below hW) hl hn);obtain⟨N,hN⟩:=eX (l.length);rw[hN] at HR HC hn hcb ⊢;have HN:=Lh (bGQ hN hl);clear h hN hl;by_cases h288:288<N
 ·rw[bGV h288] at hcb;have HCB:=Lh hcb;clear hcb;go_enter func336,ntmps336
  go_wp2;go_ret
  exact⟨eA HCB.out.symm,bel⟩
 ·rw[bGU h288] at hcb;have HCB:=Lh hcb;clear hcb;have d288:decide (288<(N:Int))=false:=sO;go_enter func336,ntmps336
  go_wp2_with fail;go_loopw [14] (fun i wr=>∃k:Nat,k<=N/\i=.int .i64 k/\Below w.heap.size w wr) (fun i _=>N-(intOf i).toNat)
  case atStart=>exact⟨0,bGF _,rfl,bel⟩
  case round =>
   obtain⟨k,hk,rfl,hbr⟩:=hrel;by_cases hkN:k<N
   ·have hkl:k<l.length:=by rw[HN.out.1];exact hkN
    obtain⟨g,off,rfl,hg,e0⟩:=jQ (HR.out.below hbr) k hkl;obtain⟨x,hx⟩:=eX (l[k]);rw[hx] at e0;have hx15:x<=15:=q182;have d1:decide ((x:Int)<0)=false:=sI;have d2:decide (15<(x:Int))=false:=sO;clear hx hx15;go_wp2;go_roundw
    case rel=>exact⟨k+1,oM,q12,hbr⟩
    case measure=>exact q339
   ·have hkn:k=N:=oM;subst hkn;go_wp2_with fail;refine(HC.out _ hbr).mono ?_;rintro e w1 ⟨rfl,hb1⟩;have hbw:=hbr.trans (hb1.mono hbr.size);unfold uF;clear HC hb1 hbr;go_upto_region 10 with fail
    obtain⟨F,hF⟩:=eX (aY l);have hFk:∀i,F i<=288:=fun i=>by rw[<-hF];have:=aBQ l i;rw[HN.out.1] at this;omega
    rw[hF] at HCB;simp only[hF];clear hF;obtain⟨w2,hw2⟩:=eX (w1.alloc (.cells #[.int .i64 (F 0:Nat),.int .i64 (F 1:Nat),.int .i64 (F 2:Nat),.int .i64 (F 3:Nat),.int .i64 (F 4:Nat),.int .i64 (F 5:Nat),.int .i64 (F 6:Nat),.int .i64 (F 7:Nat),.int .i64 (F 8:Nat),.int .i64 (F 9:Nat),.int .i64 (F 10:Nat),.int .i64 (F 11:Nat),.int .i64 (F 12:Nat),.int .i64 (F 13:Nat),.int .i64 (F 14:Nat),.int .i64 (F 15:Nat)] 393));obtain⟨g,hg⟩:=eX (w1.heap.size);have hO2:bK w2 g F:=by rw[<-hw2,<-hg];exact bK.boxed w1 F
    have hb2:Below w.heap.size w w2:=by rw[<-hw2];exact hbw.alloc hbw.size _
    rw[hw2];simp only[hg];have HS:=Lh (fun k=>aMJ hFk k);have HG:=Lh (fun k=>aFH hFk k);have HFK:=Lh hFk;clear hw2 hbw hg hFk;go_wp2_with fail;go_loopw [6,7,8] (fun s6 s7 i wr=>∃j:Nat,j<=15/\i=.int .i64 ((j+1:Nat):Int)/\s6=.int .i64 (lD F j:Nat)/\s7=.int .i64 (eU F j:Nat)/\bK wr g F/\Below w.heap.size w wr) (fun _ _ i _=>16-(intOf i).toNat)
    case atStart=>exact⟨0,oM,rfl,rfl,rfl,hO2,hb2⟩
    case round =>
     clear hO2 hb2;obtain⟨j,hj,rfl,rfl,rfl,hO,hbr⟩:=hrel;by_cases hj15:j<15
     ·obtain⟨q,hq⟩:=eX (j+1);have e0:=hO.at q oM;have hS:=HS.out j;have hG:=HG.out j;have hf:=HFK.out q;have hs1:lD F q=lD F j+F q*2 ^ (15-q):=by rw[<-hq];rfl
      have hg1:eU F q=eU F j+F q:=by rw[<-hq];rfl
      obtain⟨f,hfq⟩:=eX (F q);rw[hfq] at e0 hf hs1 hg1;obtain⟨t,ht⟩:=eX (15-q);rw[ht] at hs1;obtain⟨X,hX⟩:=eX (lD F j);obtain⟨Y,hY⟩:=eX (eU F j);rw[hX] at hs1 hS;rw[hY] at hg1 hG;rw[hq];simp only[hX,hY];have h0:IntKind.i64.wrap (15-(q:Int))=(t:Int):=q167;have q16:(q:Int)<16:=oM;have q15:decide ((q:Int)<=15)=true:=sO;have hX9:X<=1000000000:=oM;have HSX:=Lh (show wrap64 ((X:Int)+wrap64 ((f:Int)*2 ^ t))=((lD F q:Nat):Int) from by
       rw[hs1];exact aXK X f t hX9 hf oM)
      have HGX:=Lh (show(Y:Int)+f=((eU F q:Nat):Int) from by rw[hg1];push_cast;rfl);have hq15:q<=15:=oM;have hy1:IntKind.i64.wrap ((Y:Int)+f)=(Y:Int)+f:=q167;clear hs1 hg1 hX9;go_wp2_with fail;go_roundw
      case rel=>exact⟨q,hq15,q12,congrArg _ HSX.out,congrArg _ HGX.out,hO,hbr⟩
      case measure=>exact q339
     ·have hj2:j=15:=oM;subst hj2;have e1:=hO.at 1 dC;obtain⟨X,hX⟩:=eX (lD F 15);obtain⟨Y,hY⟩:=eX (eU F 15);obtain⟨f,hfq⟩:=eX (F 1);rw[hfq] at e1;rw[hX,hY,hfq] at HCB;rw[hX,hY];clear hX hY hfq;cases c1:((X:Int)==32768)
      ·cases c2:((Y:Int)==0)
       ·cases c3:((Y:Int)==1)
        ·have HE := Lib.hid (show bY l=13 from by
          rw[HCB.out,bGU];simp at c1 c2 c3;omega)
         exact q369
        ·cases c4:((f:Int)==1)
         ·have HE := Lib.hid (show bY l=13 from by
           rw[HCB.out,bGU];simp at c1 c2 c3 c4;omega)
          exact q369
         ·have HE := Lib.hid (show bY l=0 from by
           rw[HCB.out,bGV];simp at c3 c4;omega)
          exact q369
       ·have HE := Lib.hid (show bY l=0 from by
         rw[HCB.out,bGV];simp at c2;omega)
        exact q369
      ·have HE := Lib.hid (show bY l=0 from by
        rw[HCB.out,bGV];simp at c1;omega)
       exact q369
def lE(w:World)(g:Nat)(t:TypeId)(n:Nat)(f:Nat->Int):Prop:=w.rowIs g t n fun i=>.int .i64 (f i)
theorem lE.put{w:World}{g n:Nat}{t:TypeId}{f:Nat->Int}(h:lE w g t n f)(k:Nat)(v:Int):lE (w.setCell ⟨g,k,none⟩ (.int .i64 v)) g t n (fun m=>if m=k then v else f m):=by
 refine(World.rowIs.set h k (.int .i64 v)).congr fun i _=>?_
 exact q512
theorem lE.kept{w w':World}{g n:Nat}{t:TypeId}{f:Nat->Int}(h:lE w g t n f)(e:w'.heap[g]?=w.heap[g]?):lE w' g t n f:=World.rowIs.of_block h e
theorem lE.at{w:World}{g n:Nat}{t:TypeId}{f:Nat->Int}(h:lE w g t n f)(k:Nat)(hk:k<n):w.cell? ⟨g,k,none⟩=some (.int .i64 (f k)):=World.rowIs.cell h hk
theorem lE.lt{w:World}{g n:Nat}{t:TypeId}{f:Nat->Int}(h:lE w g t n f):g<w.heap.size:=World.rowIs.lt h
theorem lE.fro{w:World}{g n:Nat}{t:TypeId}{f:Nat->Int}(h:lE w g t n f)(o:Nat):w.frozen? ⟨g,o,none⟩=false:=World.rowIs.frozen h o
theorem lE.made(w:World)(N:Nat):lE (w.alloc (.cells (madeCells #[.int .i64 0] N) 3)) w.heap.size 3 N fun _=>0:=by
 refine⟨_,bGP _ _,size_madeCells _ _,fun i hi=>?_⟩;have h1:i % 1=0:=Nat.mod_one i;simp[madeCells,hi,h1]
theorem Tryz.infoIn:(prog.info? 3).map (fun i=>(i.zero,i.size,i.bytes))=some (some (.int .i64 0),1,8):=kR
theorem zL(N:Nat)(hN:N<=1000000)(w:World):(Instr.makeSlice 346 (.int .i64 (N:Int)) (.int .i64 (N:Int))).run prog w=.ok (.slice (some ⟨w.heap.size,0,none⟩) N N) (w.alloc (.cells (madeCells #[.int .i64 0] N) 3)):=by
 obtain⟨i,hi,h⟩:=Option.map_eq_some_iff.1 Tryz.infoIn;simp only[Prod.mk.injEq] at h;obtain⟨hz,hs,hb⟩:=h;have hr:=run_make (P:=prog) w 346 3 i _ underlying346 hi hz .i64 .i64 N N oM (Int.le_refl _) (by rw[hb];omega) oM;simp only[Int.toNat_natCast,hs,Nat.mul_one] at hr;exact hr
theorem aQV(w:World)(v:Value)(l:List Nat)(h:bC cD w v l)(hl:∀x∈l,x<=15)(hn:l.length<=1000000)(hb:bY l≠0) :
 Calls prog 314 #[v] w fun e w'=>e=.returned (.tuple #[.slice none 0 0,.int .i64 (bY l)])/\Below w.heap.size w w':=by
 have HC:=Lh (fun(W:World) (hW:Below w.heap.size w W)=>zK W v l (h.below hW) hl hn);obtain⟨K,hK⟩:=eX (bY l);rw[hK] at HC hb ⊢;have hk:(K !=0)=true:=by simpa using hb
 clear h hl hn hb hK;go_enter func314,ntmps314
 go_wp2_with fail;refine(HC.out _ (bGL _ _)).mono ?_;exact q529
theorem aXL(w:World)(v:Value)(l:List Nat)(h:bC cD w v l)(hl:∀x∈l,x<=15)(hn:l.length<=1000000)(hb:bY l=0) :
 Calls prog 314 #[v] w fun e w'=>∃q m d,e=.returned (.tuple #[.slice q m d,.int .i64 0])/\Below w.heap.size w w':=by
 have HC:=Lh (fun(W:World) (hW:Below w.heap.size w W)=>zK W v l (h.below hW) hl hn);rw[hb] at HC;obtain⟨p,c,rfl,_⟩:=id h;have HR:=Lh h;have HN0:=Lh (fun(W:World) (hW:Below w.heap.size w W)=>pT W _ l (h.below hW) hl hn);obtain⟨N,hN⟩:=eX (l.length);rw[hN] at HR HC HN0 hn ⊢;have HN:=Lh (bGQ hN hl);have hmk:=fun W=>zL N hn W
 have HF:=Lh (fun(W:World)=>zJ W (aY l) (fun i=>by have:=aBQ l i;omega));clear h hN hl hb;go_enter func314,ntmps314
 go_wp2_with fail;refine(HC.out _ (bGL _ _)).mono ?_;rintro e w1 ⟨rfl,hb1⟩;clear HC;go_wp2_with fail;refine(HN0.out _ hb1).mono ?_;rintro e w2 ⟨rfl,hb2⟩;have hbw2:=hb1.trans (hb2.mono hb1.size);clear HN0 hb1 hb2;go_wp2_with fail;refine(HF.out _).mono ?_;rintro e w3 ⟨rfl,hb3⟩;have hbw3:=hbw2.trans (hb3.mono hbw2.size);clear HF hb3 hbw2;obtain⟨F,hF⟩:=eX (bP (aY l));rw[hF];clear hF;unfold uF;go_upto_region 5 with fail
 obtain⟨w4,hw4⟩:=eX (w3.alloc (.cells #[.int .i64 (F 0:Nat),.int .i64 (F 1:Nat),.int .i64 (F 2:Nat),.int .i64 (F 3:Nat),.int .i64 (F 4:Nat),.int .i64 (F 5:Nat),.int .i64 (F 6:Nat),.int .i64 (F 7:Nat),.int .i64 (F 8:Nat),.int .i64 (F 9:Nat),.int .i64 (F 10:Nat),.int .i64 (F 11:Nat),.int .i64 (F 12:Nat),.int .i64 (F 13:Nat),.int .i64 (F 14:Nat),.int .i64 (F 15:Nat)] 393));obtain⟨g,hg⟩:=eX (w3.heap.size);have hO4:lE w4 g 393 16 (fun i=>(F i:Int)):=by rw[<-hw4,<-hg];exact bK.boxed w3 F
 have hb4:Below w.heap.size w w4:=by rw[<-hw4];exact hbw3.alloc hbw3.size _
 have hgw:w.heap.size<=g:=by rw[<-hg];exact hbw3.size
 rw[hw4];simp only[hg];clear hw4 hbw3 hg;have hz4:=hb4.size;go_upto_region 6 with fail
 obtain⟨w5,hw5⟩:=eX (w4.alloc (.cells (madeCells #[.int .i64 0] N) 3));obtain⟨o,ho⟩:=eX (w4.heap.size);have hR5:lE w5 o 3 N (fun _=>0):=by rw[<-hw5,<-ho];exact lE.made w4 N
 have hO5:lE w5 g 393 16 (fun i=>(F i:Int)):=by rw[<-hw5];exact hO4.kept (bGM _ _ _ hO4.lt)
 have hb5:Below w.heap.size w w5:=by rw[<-hw5];exact hb4.alloc hz4 _
 have hgo:g<o:=by rw[<-ho];exact hO4.lt
 rw[hw5];simp only[ho];clear hw5 ho hb4 hO4 hmk;go_wp2_with fail;go_loopw [22] (fun i wr=>∃(k:Nat) (f h:Nat->Int),k<=N/\i=.int .i64 k/\lE wr g 393 16 f/\lE wr o 3 N h/\Below w.heap.size w wr) (fun i _=>N-(intOf i).toNat)
 case atStart=>exact⟨0,_,_,bGF _,rfl,hO5,hR5,hb5⟩
 case round =>
  clear hO5 hR5 hb5;obtain⟨k,f,h,hk,rfl,hO,hR,hbr⟩:=hrel;by_cases hkN:k<N
  ·have hkl:k<l.length:=by rw[HN.out.1];exact hkN
   obtain⟨b,off,rfl,hb,e0⟩:=jQ (HR.out.below hbr) k hkl;obtain⟨x,hx⟩:=eX (l[k]);rw[hx] at e0;have hx15:x<=15:=q182;clear hx;cases x with
   |zero =>
    go_wp2;go_roundw
    case rel=>exact⟨k+1,f,h,oM,q12,hO,hR,hbr⟩
    case measure=>exact q339
   |succ x =>
    obtain⟨y,hy⟩:=eX (x+1);rw[hy] at e0 hx15;have hy0:0<y:=oM;have y16:(y:Int)<16:=oM;have c0:=hO.at y oM;have cf:=hO.fro y;have r0:=hR.at k hkN;have rf:=hR.fro k;have hgl:=hO.lt;have hol:=hR.lt;have hgo1:¬g=o:=oM;have hgo2:¬o=g:=oM;clear hy hx15;go_upto_region 11 with fail
    obtain⟨w6,hw6⟩:=eX (wr.setCell ⟨o,k,none⟩ (.int .i64 (f y)));have hO6:lE w6 g 393 16 f:=by rw[<-hw6];exact hO.kept (bGK _ _ _ _ hgo1)
    have hR6:=hR.put k (f y);have hb6:Below w.heap.size w w6:=by rw[<-hw6];exact hbr.setCell (by show _<=o;omega) _
    rw[hw6] at hR6 ⊢;have c6:=hO6.at y oM;have cf6:=hO6.fro y;have hgl6:=hO6.lt;clear hw6 c0 cf r0 rf hO hR hbr hgl hol;go_wp2;go_roundw
    case rel=>exact⟨k+1,_,_,oM,q12,hO6.put y _,hR6.kept (bGK _ _ _ _ hgo2),hb6.setCell (by show _<=g;omega) _⟩
    case measure=>exact q339
  ·have hkn:k=N:=oM;subst hkn;go_wp2;go_ret2
   exact⟨_,_,_,rfl,hbr⟩
end Go.Proofs.YtdjpkgccakgkbaaGreatDoor
