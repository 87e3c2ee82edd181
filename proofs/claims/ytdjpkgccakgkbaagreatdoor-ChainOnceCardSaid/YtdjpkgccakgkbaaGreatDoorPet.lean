/- Parts of the proof: DyA BlK AlA ZlA AsC AsD AsE. -/
import Derived.Test.YtdjpkgccakgkbaaGreatDoorPes
import Derived.Recover
import Derived.Defers
import Derived.Deep.RegionLaw
import Derived.BigRegion
import Derived.StillTailTactics
import Derived.Deep.QuietTactic
import Derived.BigQuiet
import Derived.Test.YtdjpkgccakgkbaaGreatDoorPer
import Derived.Lib.ConvBytes
set_option linter.all false
set_option maxRecDepth 100000
set_option maxHeartbeats 8000000
section
variable{p:Prop}
theorem q203(h:p:=by rw[bGS];have:=HLL.out.2;omega):p:=h
theorem q204(h:p:=by first|exact bGL _ _|exact Below.drew (bGL _ _)|exact cO _):p:=h
theorem q205(h:p:=by rw[<-HR2.out]):p:=h
theorem q206(h:p:=by show _<=w.heap.size+1;omega):p:=h
theorem q207(h:p:=by show _<=w.heap.size+1+1;omega):p:=h
theorem q208(h:p:=by rw[IntKind.wrap_u32];omega):p:=h
theorem q209(h:p:=by rw[Lib.bytesWorld_size];omega):p:=h
theorem q210(h:p:=by rw[bHJ,IntKind.wrap_u8];omega):p:=h
theorem q309(h:p:=by
 rw[hX] at HC hR2;have HR2:=Lh hR2;clear HR1 hR2;go_wp2_with fail;refine HC.out.mono ?_;rintro e w3 ⟨hb3,h3⟩;clear HC;cases X with
 |bad k =>
  have HRE:=Lh (show R=.bad k from q205);obtain rfl:=h3;clear HR2;go_wp2_with fail;exact⟨rfl,HW2.out.trans hb3,q161⟩
 |good x =>
  obtain⟨o2,p3⟩:=x;obtain⟨rfl,vo2,hV⟩:=h3;have HRE:=Lh (show R=.good (last,o2,p3) from q205);have HV:=Lh hV;have HB3:=Lh (HW2.out.trans hb3);clear HR2 hV hb3;go_wp2;go_ret
  refine⟨HB3.out,?_⟩;rw[HRE.out];exact⟨by rw[HL.out];rfl,vo2,HV.out⟩):p:=h
theorem q383(h:p:=by
 clear hR;go_wp2_with(first
  |(go_at_call 196;(with_reducible refine(dS 4 _).mono ?_);rintro e w9 ⟨rfl,h9⟩;obtain rfl:=h9.symm)
  |(go_at_call 196;(with_reducible refine(iJ _ _).mono ?_);rintro e w9 ⟨rfl,rfl⟩))
 exact⟨rfl,HB.out,q161⟩):p:=h
theorem q445(h:p:=by
 go_wp2_with(go_at_call 261;(with_reducible refine(dO _ _).mono ?_);rintro e w9 ⟨rfl,h9⟩;obtain rfl:=h9.symm)
 exact⟨rfl,HW2.out,q161⟩):p:=h
theorem q447(h:p:=by
 rw[hbt] at h1;have HRE:=Lh (show R=.bad k from by rw[<-HR.out,hbt]);obtain rfl:=h1;clear HR;go_wp2_with fail;exact⟨rfl,HW1.out,q161⟩):p:=h
theorem q471(h:p:=by
 have h:=jC s a (s.length-a);rw[show a+(s.length-a)=s.length from oM,bHC q160] at h;exact h.symm):p:=h
theorem q483(h:p:=by
 rw[run_sliceAt_array_h W _ _ ht .i64 _ oM (by rw[hl];omega),hs,hl];simp[Result.andThen,slicedAt,Addr.add]):p:=h
theorem q484(h:p:=by rw[bGM _ _ _ sI];exact aA _ _ _ sI):p:=h
theorem q533(h:p:=by
 match i,hi with
 |0,_=>rfl
 |1,_=>rfl
 |2,_=>rfl
 |3,_=>rfl
 |4,_=>rfl):p:=h
theorem q540(h:p:=by
 have:=(List.getElem?_eq_some_iff.1 hu).1;simpa[dV] using this):p:=h
end
namespace Go.Proofs.YtdjpkgccakgkbaaGreatDoor
open Go.Proofs.Tryz
open Go.RowKit Fo
def iQ(w:World)(r:Nat):Prop:=4<r/\r<=w.heap.size/\∀i,i<19->w.cell? ⟨4,i,none⟩=some (.int .i64 (gX.getD i 0:Nat))
theorem iQ.below{w w':World}{r:Nat}(h:iQ w r)(hb:Below r w w'):iQ w' r :=
 ⟨h.1,bGC h.2.1 hb.size,fun i hi=>(bGO (hb.block _ h.1)).trans (h.2.2 i hi)⟩
theorem iQ.low{w:World}{r r':Nat}(h:iQ w r)(hr:r<=r')(hl:r'<=w.heap.size):iQ w r':=⟨bGA h.1 hr,hl,h.2.2⟩
theorem aXV:∀i,i<19->gX.getD i 0<19:=dC
theorem aCA(l:List Nat):cD.row l=l.map fun x=>Value.int .i64 (x:Nat):=by
 induction l with
 |nil=>rfl
 |cons a l ih=>show _::cD.row l=_;rw[ih];rfl
theorem aXW{w:World}{g:Nat}{t:TypeId}{l:List Nat}(h:w.heap[g]?=some (.cells (cD.row l).toArray t (0,0)))(i v:Nat):(w.setCell ⟨g,i,none⟩ (.int .i64 (v:Nat))).heap[g]?=some (.cells (cD.row (l.set i v)).toArray t (0,0)):=by
 rw[aC h,aCA,aCA,List.map_set];simp
theorem aXX{w:World}{g:Nat}{t:TypeId}{l:List Nat}(h:w.heap[g]?=some (.cells (cD.row l).toArray t (0,0)))(i:Nat)(hi:i<l.length):∃x:Nat,w.cell? ⟨g,i,none⟩=some (.int .i64 (x:Nat)):=by
 refine⟨l[i],?_⟩;rw[cell_of_row _ _ _ _ _ _ h,aCA];simp[hi]
theorem aMS{w:World}{g:Nat}{t:TypeId}{cs:Array Value}(h:w.heap[g]?=some (.cells cs t (0,0)))(o:Nat):w.frozen? ⟨g,o,none⟩=false:=by
 simp[World.frozen?,h]
theorem FlV.setOther{w:World}{f r:Nat}{s:L}{most p:Nat}{out:L}{vo:Value}(h:FlV w f r s most p out vo)(g o:Nat)(v:Value)(hf:f≠g)(hr:r≠g)(ho:∀k,vo.ownBlock=some k->k≠g):FlV (w.setCell ⟨g,o,none⟩ v) f r s most p out vo:=by
 obtain⟨way,hw,hB,h1,h2⟩:=h.rd;exact⟨(bGK _ _ _ _ hf).trans h.blk,fB h.row fun k hk=>bGK _ _ _ _ (ho k hk),⟨way,hw,(bGK _ _ _ _ hr).trans hB,h1,h2⟩,h.lt⟩
theorem aXY(a:Addr)(C:Nat)(hC:C<=19)(W:World):(Instr.sliceAt 363 (.pointer (some a)) none (some (.int .i64 (C:Nat))) none).run prog W=.ok (.slice (some a) C 19) W:=by
 have ht:prog.underlying 363=some (.array (prog.arrayLen 363) (prog.elem 363)):=kR;have hl:prog.arrayLen 363=19:=kR;have hs:(sizeOf (prog.elem 363)).run prog W=.ok 1 W:=kR;exact q483
theorem bCA(a:Addr)(W:World):(Instr.sliceAt 363 (.pointer (some a)) none none none).run prog W=.ok (.slice (some a) 19 19) W:=by
 have ht:prog.underlying 363=some (.array (prog.arrayLen 363) (prog.elem 363)):=kR;have hl:prog.arrayLen 363=19:=kR;have hs:(sizeOf (prog.elem 363)).run prog W=.ok 1 W:=kR;rw[run_sliceAt_array_all W _ _ ht,hs,hl];simp[Result.andThen,slicedAt,Addr.add]
theorem aRI(g off n c S:Nat)(hS:S<=c)(W:World):(Instr.slice 346 (.slice (some ⟨g,off,none⟩) n c) none (some (.int .i64 (S:Nat))) none).run prog W=.ok (.slice (some ⟨g,off,none⟩) S c) W:=by
 have ht:prog.underlying 346=some (.slice (prog.elem 346)):=kR;have hs:(sizeOf (prog.elem 346)).run prog W=.ok 1 W:=kR;rw[run_slice_h W _ _ n c ht .i64 _ oM oM,hs];simp[Result.andThen,sliced,Addr.add]
theorem aRJ(g off n c S:Nat)(h0:0<S)(hS:S<n)(hc:n<=c)(W:World):(Instr.slice 346 (.slice (some ⟨g,off,none⟩) n c) (some (.int .i64 (S:Nat))) none none).run prog W=.ok (.slice (some ⟨g,off+S,none⟩) (n-S) (c-S)) W:=by
 have ht:prog.underlying 346=some (.slice (prog.elem 346)):=kR;have hs:(sizeOf (prog.elem 346)).run prog W=.ok 1 W:=kR;have h1:¬c=S:=oM;have h2:¬S=0:=oM;rw[run_slice_l W _ _ n c ht .i64 _ oM oM,hs];simp[Result.andThen,sliced,Addr.add,h1,h2]
theorem hZ{r:Nat}{w w7 W w9:World}(h:Below r w w7)(hW:Below w7.heap.size w7 W)(h9:Below W.heap.size W w9)(hr:r<=w7.heap.size):Below r w w9:=(h.trans (hW.mono hr)).trans (h9.mono (bGC hr hW.size))
theorem cO(w:World):Below w.heap.size w w.drew.drew:=Below.drew (Below.drew (bGL _ _))
def aXZ(s:L)(most:Nat)(out:L)(hl hd:Nat)(code:List Nat)(p4:Nat):Res (L×Nat) :=
 if bY code≠0 then .bad (bY code)
 else
  match fK s code (hl+257+(hd+1)) 400 p4 [] with
  |.bad k=>.bad k
  |.good (l,p5) =>
   if l.getD 256 0=0 then .bad 13
   else if bY (l.take (hl+257))≠0 then .bad (bY (l.take (hl+257)))
   else if bY (l.drop (hl+257))≠0 then .bad (bY (l.drop (hl+257)))
   else cX s most (l.take (hl+257)) (l.drop (hl+257)) (8*s.length+1) p5 out
theorem aYA{s:L}{most:Nat}{out:L}{hl hd:Nat}{code:List Nat}{p4:Nat}(h:bY code≠0):aXZ s most out hl hd code p4=.bad (bY code):=by unfold aXZ;rw[bGV h]
theorem aFR(s:L)(most p:Nat)(out:L):dB s most p out =
 match aS s p 5 with
 |.bad k=>.bad k
 |.good (hl,p1) =>
  if 29<hl then .bad 3
  else
   match aS s p1 5 with
   |.bad k=>.bad k
   |.good (hd,p2) =>
    if 29<hd then .bad 3
    else
     match aS s p2 4 with
     |.bad k=>.bad k
     |.good (hc,p3) =>
      match gY s (gX.take (hc+4)) p3 (List.replicate 19 0) with
      |.bad k=>.bad k
      |.good (code,p4)=>aXZ s most out hl hd code p4:=rfl
theorem aJM(w:World)(f r:Nat)(s:L)(most p:Nat)(out:L)(vo:Value)(h:FlV w f r s most p out vo)(hm:most<=1048576)(hl:out.length<=most)(hrep:iK w r)(hord:iQ w r) :
 Calls prog 303 #[.pointer (some ⟨f,0,none⟩)] w (wP w f r s most (dB s most p out)):=by
 obtain⟨R,hR⟩:=eX (dB s most p out);rw[hR];rw[aFR] at hR;have HR:=Lh hR;have H:=Lh h;have HP:=Lh (bGQ hrep hord);have hfl:=bGJ h.blk;have hrf:=h.lt;have hrl:r<w.heap.size:=oM;have HB:=Lh (cS w f r vo most s p 5 h.blk h.rd dC);clear h hR hrep hord;go_enter func303,ntmps303
 go_wp2_with fail;refine HB.out.mono ?_;rintro e w1 ⟨hb1,h1⟩;clear HB;have HW1:=Lh (bM hb1 hrl);cases hbt:aS s p 5 with
 |bad k =>
  exact q447
 |good x =>
  obtain⟨hl',p1⟩:=x;rw[hbt] at h1;obtain⟨rfl,hr1⟩:=h1;have H1:=Lh (H.out.bits hb1 hr1);have hn32:=(aX hbt).1;have hR1:=HR.out;rw[hbt] at hR1;dsimp only at hR1;have HR1:=Lh hR1;have hrl1:r<w1.heap.size:=bGA hrl HW1.out.size;have hw1:IntKind.i64.wrap ((hl':Int)+257)=((hl'+257:Nat):Int):=q167;obtain⟨S,hS⟩:=eX (hl'+257);rw[hS] at hw1;clear HR hR1 hbt hb1 hr1 H;by_cases hl29:hl'<=29
  ·have d1:decide ((S:Int)<=286)=true:=sO;have hR2:=HR1.out;rw[bGU oM] at hR2;have HR2:=Lh hR2;have HB:=Lh (cS w1 f r vo most s p1 5 H1.out.blk H1.out.rd dC);clear HR1 hR2 hn32;go_wp2_with(go_at_call 261;(with_reducible refine(cI _ _).mono ?_);rintro e w9 ⟨rfl,h9⟩;obtain rfl:=h9.symm)
   refine HB.out.mono ?_;rintro e w2 ⟨hb2,h2⟩;clear HB;have HW2:=Lh (HW1.out.trans (bM hb2 hrl1));cases hbt:aS s p1 5 with
   |bad k =>
    exact q446
   |good x =>
    obtain⟨hd,p2⟩:=x;rw[hbt] at h2;obtain⟨rfl,hr2⟩:=h2;have H2:=Lh (H1.out.bits hb2 hr2);have hn32:=(aX hbt).1;have hR3:=HR2.out;rw[hbt] at hR3;dsimp only at hR3;have HR3:=Lh hR3;have hrl2:r<w2.heap.size:=bGA hrl1 hb2.size;have hw2:IntKind.i64.wrap ((hd:Int)+1)=((hd+1:Nat):Int):=q167;obtain⟨D,hD⟩:=eX (hd+1);rw[hD] at hw2;clear HR2 hR3 hbt hb2 hr2 H1 HW1 hw1 d1;by_cases hd29:hd<=29
    ·have d2:decide ((D:Int)<=30)=true:=sO;have hR4:=HR3.out;rw[bGU oM] at hR4;have HR4:=Lh hR4;clear HR3 hR4 hn32;go_upto_region 5 with(go_at_call 261;(with_reducible refine(cI _ _).mono ?_);rintro e w9 ⟨rfl,h9⟩;obtain rfl:=h9.symm)
     obtain⟨w3,hw3⟩:=eX (w2.alloc (.cells #[.int .i64 0,.int .i64 0,.int .i64 0,.int .i64 0,.int .i64 0,.int .i64 0,.int .i64 0,.int .i64 0,.int .i64 0,.int .i64 0,.int .i64 0,.int .i64 0,.int .i64 0,.int .i64 0,.int .i64 0,.int .i64 0,.int .i64 0,.int .i64 0,.int .i64 0] 363));obtain⟨g,hg⟩:=eX (w2.heap.size);have hb3:Below w2.heap.size w2 w3:=q126;have hG3:w3.heap[g]?=some (.cells (cD.row (List.replicate 19 0)).toArray 363 (0,0)):=by rw[<-hw3];exact aA _ _ _ hg.symm
     have hg3:=bGJ hG3;have H3:=Lh (H2.out.below hb3);have HW3:=Lh (HW2.out.trans (hb3.mono (bGY hrl2)));have hrg:r<g:=oM;have hfg:f<g:=by rw[<-hg];exact bGJ H2.out.blk
     have hvo:∀k,vo.ownBlock=some k->k≠g:=fun k hk e=>by have:=cM H2.out.row k hk;omega
     have HB:=Lh (cS w3 f r vo most s p2 4 H3.out.blk H3.out.rd dC);rw[hw3];simp only[hg];clear hw3 hb3 hg HW2 H2 d2 hw2 hrl2;go_wp2_with fail;refine HB.out.mono ?_;rintro e w4 ⟨hb4,h4⟩;clear HB;have HW4:=Lh (HW3.out.trans (bM hb4 (Nat.lt_trans hrg hg3)));cases hbt:aS s p2 4 with
     |bad k =>
      rw[hbt] at h4;have HRE:=Lh (show R=.bad k from by rw[<-HR4.out,hbt]);obtain rfl:=h4;clear HR4;go_wp2_with fail;exact⟨rfl,HW4.out,q161⟩
     |good x =>
      obtain⟨hc,p3⟩:=x;rw[hbt] at h4;obtain⟨rfl,hr4⟩:=h4;have H4:=Lh (H3.out.bits hb4 hr4);have hn16:=(aX hbt).1;have hR5:=HR4.out;rw[hbt] at hR5;dsimp only at hR5;have hG4:=(hb4.block g hg3 oM).trans hG3;have hg4:=bGJ hG4;have hw4:IntKind.i64.wrap ((hc:Int)+4)=((hc+4:Nat):Int):=q167;obtain⟨C,hC⟩:=eX (hc+4);rw[hC] at hw4 hR5;have hC19:C<=19:=oM;obtain⟨R',hR'⟩:=eX (gY s (gX.take C) p3 (List.replicate 19 0));rw[hR'] at hR5;have HR5:=Lh hR5;have HS0:=Lh hR';clear HR4 hR5 hR' hbt hb4 hr4 H3 HW3 hG3 hg3 hn16 hC;have hah:=fun(W:World)=>aXY ⟨4,0,none⟩ C hC19 W
      go_wp2_with fail;go_loopw [25] (fun i wr=>∃(k pk:Nat) (lens:List Nat),k<=C/\i=.int .i64 k/\wr.heap[g]?=some (.cells (cD.row lens).toArray 363 (0,0))/\lens.length=19/\FlV wr f r s most pk out vo/\Below r w wr/\Hid (gY s ((gX.take C).drop k) pk lens=R')) (fun i _=>C-(intOf i).toNat)
      case atStart=>exact⟨0,p3,List.replicate 19 0,bGF _,rfl,hG4,sI,H4.out,HW4.out,HS0⟩
      case round =>
       clear hG4 H4 HW4;obtain⟨k,pk,lens,hk,rfl,hG,hlen,hV,hbr,HS⟩:=hrel;have hgl:=bGJ hG;have HV:=Lh hV;have HBr:=Lh hbr;have HG:=Lh hG;clear hV hbr hG;by_cases hkC:k<C
       ·obtain⟨x,hx⟩:=eX (gX.getD k 0);have hoc:=(HP.out.2.below HBr.out).2.2 k oM;rw[hx] at hoc;have hx19:x<19:=by rw[<-hx];exact aXV k oM
        have hxi:(x:Int)<19:=oM;have hdr:(gX.take C).drop k=x::(gX.take C).drop (k+1):=by
         have hkl:k<(gX.take C).length:=by rw[bGT];show k<min C 19;omega
         rw[bHH hkl,List.getElem_take,<-hx];congr 1
         rw[bGX,bGE (by show k<19;omega)];rfl
        have hS:=HS.out;rw[hdr] at hS;unfold gY at hS;have HS2:=Lh hS;have HB:=Lh (cS wr f r vo most s pk 3 HV.out.blk HV.out.rd dC);have hrw:r<wr.heap.size:=oM;clear hS HS hdr hx;go_wp2_with fail;refine HB.out.mono ?_;rintro e w5 ⟨hb5,h5⟩;clear HB;have HW5:=Lh (HBr.out.trans (bM hb5 hrw));cases hbt:aS s pk 3 with
        |bad k =>
         rw[hbt] at h5;have HRE:=Lh (show R=.bad k from by rw[<-HR5.out,<-HS2.out,hbt]);obtain rfl:=h5;clear HS2;go_wp2_with fail;exact⟨rfl,HW5.out,q161⟩
        |good y =>
         obtain⟨v,p5⟩:=y;rw[hbt] at h5;obtain⟨rfl,hr5⟩:=h5;have hS:=HS2.out;rw[hbt] at hS;dsimp only at hS;have HS3:=Lh hS;have HG5:=Lh ((hb5.block g hgl oM).trans HG.out);have HV5:=Lh (HV.out.bits hb5 hr5);obtain⟨y,hy⟩:=aXX HG5.out x oM;have hyf:=aMS HG5.out x;have hgl5:=bGJ HG5.out;clear hS HS2 hbt hb5 hr5 HG HV;go_wp2_with fail;go_roundw
         case rel=>exact⟨k+1,p5,lens.set x v,oM,q12,aXW HG5.out x v,by rw[List.length_set];exact hlen,HV5.out.setOther g x _ oM oM hvo,HW5.out.setCell (by show r<=g;omega) _,HS3⟩
         case measure=>exact q339
       ·obtain rfl:k=C:=oM;have hS:=HS.out;rw[List.drop_eq_nil_of_le q170] at hS;unfold gY at hS;subst hS;have HR6:=Lh (show aXZ s most out hl' hd lens pk=R from HR5.out);have HL15:=Lh ((oA _ _ _ _ _ _ HS0.out).2.2 (by intro x hx;have:=(List.mem_replicate.1 hx).2;omega));have harg:∀W:World,Below wr.heap.size wr W->bC cD W (.slice (some ⟨g,0,none⟩) 19 19) lens:=fun W hW=>by
         have h:=lX (E:=cD) (c:=19) ((hW.block g hgl).trans HG.out);rw[hlen] at h;exact h
        have HA:=Lh harg;clear HS HS0 HR5 harg;have haa:=fun(W:World)=>bCA ⟨g,0,none⟩ W
        go_upto_region 10 with fail
        have hg10:=hgl;have hrw:r<wr.heap.size:=oM;by_cases hcb:bY lens=0
        ·have HN:=Lh (wO wr (.slice (some ⟨g,0,none⟩) 19 19) lens (HA.out _ (bGL _ _)) HL15.out oM oM hcb);have hR7:=HR6.out;unfold aXZ at hR7;rw[bGU (by rw[hcb];exact fun h=>h rfl),hS,hD] at hR7;have HR7:=Lh hR7;obtain⟨M,hM⟩:=eX (S+D);rw[hM] at HR7;have hMw:IntKind.i64.wrap ((S:Int)+D)=(M:Int):=q167;clear HR6 hR7 HA;go_wp2_with fail;refine HN.out.mono ?_;rintro e w6 ⟨t1,ht1,rfl,hT1,hb6⟩;have H6:=Lh (HV.out.below hb6);have HW6:=Lh (HBr.out.trans (hb6.mono (bGY hrw)));have hz6:=hb6.size;have HLN:=Lh (aJL w6 f r t1 s most pk vo lens M H6.out.blk H6.out.rd hrf hT1 oM (HP.out.1.below HW6.out) HL15.out oM oM);obtain⟨RL,hRL⟩:=eX (fK s lens M 400 pk []);rw[hRL] at HLN HR7;have HRL:=Lh hRL;clear HN hT1 ht1 hRL HV HBr HG;go_wp2_with(first|(go_at_call 331;(with_reducible refine(jD _ _).mono ?_);rintro e w9 ⟨rfl,h9⟩;obtain rfl:=h9.symm))
         refine HLN.out.mono ?_;rintro e w7 ⟨hb7,h7⟩;clear HLN;have hrw6:r<w6.heap.size:=oM;have HW7:=Lh (HW6.out.trans (bM hb7 hrw6));cases RL with
         |bad k =>
          have HRE:=Lh (show R=.bad k from by rw[<-HR7.out]);obtain rfl:=h7;clear HR7;go_wp2_with fail;exact⟨rfl,HW7.out,q161⟩
         |good y =>
          obtain⟨l,p5⟩:=y;obtain⟨v7,rfl,hrow7,hrd7⟩:=h7;obtain⟨hl15,hlM⟩:=pU _ _ _ _ _ _ _ _ (by intro x hx;cases hx) (bGF _) HRL.out;have H7:=Lh (H6.out.bits hb7 hrd7);have hR8:=HR7.out;dsimp only at hR8;have HR8:=Lh hR8;obtain⟨p7,c7,rfl⟩:=aH hrow7;have hcap:=aFK hrow7;have hM256:256<l.length:=oM;obtain⟨g7,off7,e7,hg7,hc256⟩:=jQ (aG.arg hrow7) 256 hM256;subst e7;obtain⟨y,hy⟩:=eX (l[256]);rw[hy] at hc256;have hyd:l.getD 256 0=y:=by rw[bGX,bGE hM256,hy];rfl
          rw[hyd] at HR8;have HRA:=Lh (aG.arg hrow7);rw[hlM] at hcap HRA;have HLL:=Lh (bGQ hl15 hlM);have hM2:256<M:=oM;have hM3:S<M/\0<S/\M-S=D/\M<=350/\0<D:=oM;simp only[hlM];clear HR7 hR8 hrow7 hrd7 hy hyd HRL hl15 hlM hM256 H6 HW6 HP haa hah;by_cases hy0:y=0
          ·have dy:decide ((0:Int)<y)=false:=sO;have HRE:=Lh (show R=.bad 13 from by rw[<-HR8.out,bGV hy0]);clear HR8;subst hy0;go_wp2_with(go_at_call 261;(with_reducible refine(dO _ _).mono ?_);rintro e w9 ⟨rfl,h9⟩;obtain rfl:=h9.symm)
           exact⟨rfl,HW7.out,q161⟩
          ·have dy:decide (0<y)=true:=sO;have hR9:=HR8.out;rw[bGU hy0] at hR9;have hs1:=fun(W:World)=>aRI g7 off7 M c7 S oM W
           have hs2:=fun(W:World)=>aRJ g7 off7 M c7 S oM oM hcap W
           have hA2:∀W:World,Below w7.heap.size w7 W->bC cD W (.slice (some ⟨g7,off7+S,none⟩) (M-S) (c7-S)) (l.drop S):=fun W hW=>by
            have h:=bC.drop (HRA.out.below hW) S oM (c7-S);rw[show off7+S*cD.k=off7+S from by show off7+S*1=_;omega] at h;exact h
           have HA1:=Lh (fun(W:World) (hW:Below w7.heap.size w7 W)=>bC.take (HRA.out.below hW) S oM c7);have HA2:=Lh hA2;have hrw7:r<w7.heap.size:=by have:=hb7.size;omega
           have hf7:=bGJ H7.out.blk;clear HR8 hA2;go_upto_region 12 with(go_at_call 261;(with_reducible refine(cI _ _).mono ?_);rintro e w9 ⟨rfl,h9⟩;obtain rfl:=h9.symm)
           by_cases hk1:bY (l.take S)=0
           ·rw[bGU (fun h=>h hk1)] at hR9;have HN1:=Lh (fun(W:World) (hW:Below w7.heap.size w7 W)=>wO W _ (l.take S) (HA1.out W hW) (fun x hx=>HLL.out.1 x (List.mem_of_mem_take hx)) (by rw[bGT];have:=HLL.out.2;omega) q170 hk1);by_cases hk2:bY (l.drop S)=0
            ·rw[bGU (fun h=>h hk2)] at hR9;have HN2:=Lh (fun(W:World) (hW:Below w7.heap.size w7 W)=>wO W _ (l.drop S) (HA2.out W hW) (fun x hx=>HLL.out.1 x (List.mem_of_mem_drop hx)) q203 q203 hk2);rw[hM3.2.2.1] at HN2;have HX:=Lh (bGQ hk1 hk2);have HCO:=Lh (fun(w10:World) (t3 t4:Nat) h1 h2 h3 h4 h5=>aFO w10 f r t3 t4 w7.heap.size s most p5 out vo (l.take S) (l.drop S) h1 hm hl h2 h3 h4 h5 hf7 (fun g hg=>.inl (cM H7.out.row g hg)) (fun x hx=>HLL.out.1 x (List.mem_of_mem_take hx)) q170 (fun x hx=>HLL.out.1 x (List.mem_of_mem_drop hx)) q203);rw[hR9] at HCO;clear hR9 hk1 hk2;cases R with
             |bad K =>
              go_region_law (first
               |(go_simp;go_at_call 290;(with_reducible refine(HN1.out _ ?_).mono ?_);(first|exact bGL _ _|exact Below.drew (bGL _ _)|exact cO _);rintro e w9 ⟨t3,ht3,rfl,hT3,hb9⟩;(have HB9:=Lh (hZ (r:=w7.heap.size) (bGL _ _) q204 hb9 (bGB _)));(have ht3':w7.heap.size<=t3:=ht3);clear hb9 ht3)
               |(go_simp;go_at_call 331;(with_reducible refine(jD _ _).mono ?_);rintro e w11 ⟨rfl,h9⟩;obtain rfl:=h9.symm)
               |(go_simp;go_at_call 290;(with_reducible refine(HN2.out _ ?_).mono ?_);(first|exact HB9.out|exact Below.drew HB9.out|exact Below.drew (Below.drew HB9.out));rintro e w10 ⟨t4,ht4,rfl,hT4,hb10⟩;(have HB10:=Lh (hZ (r:=w9.heap.size) (bGL _ _) q204 hb10 (bGB _)));(have ht4':w7.heap.size<=t4:=bGC HB9.out.size ht4);clear hb10 ht4)
               |(go_simp;go_at_call 330;(refine kN (fun HF=>?_) ((HCO.out w10 t3 t4 (H7.out.below (HB9.out.trans (HB10.out.mono HB9.out.size))) (hT3.below HB10.out) hT4 ht3' ht4').mono (by rintro e w12 ⟨hb12,rfl⟩;exact⟨rfl,(HW7.out.trans ((HB9.out.trans (HB10.out.mono HB9.out.size)).mono oM)).trans hb12,rfl⟩)));refine(HF.out.elim:Calls prog 330 _ _ (fun e w'=>e=.returned (.tuple #[])/\w'=w10)).mono ?_;rintro e w11 ⟨rfl,h9⟩;obtain rfl:=h9.symm))
              all_goals exact q392
             |good z =>
              obtain⟨o2,p6⟩:=z;go_region_law (first
               |(go_simp;go_at_call 290;(with_reducible refine(HN1.out _ ?_).mono ?_);(first|exact bGL _ _|exact Below.drew (bGL _ _)|exact cO _);rintro e w9 ⟨t3,ht3,rfl,hT3,hb9⟩;(have HB9:=Lh (hZ (r:=w7.heap.size) (bGL _ _) q204 hb9 (bGB _)));(have ht3':w7.heap.size<=t3:=ht3);clear hb9 ht3)
               |(go_simp;go_at_call 331;(with_reducible refine(jD _ _).mono ?_);rintro e w11 ⟨rfl,h9⟩;obtain rfl:=h9.symm)
               |(go_simp;go_at_call 290;(with_reducible refine(HN2.out _ ?_).mono ?_);(first|exact HB9.out|exact Below.drew HB9.out|exact Below.drew (Below.drew HB9.out));rintro e w10 ⟨t4,ht4,rfl,hT4,hb10⟩;(have HB10:=Lh (hZ (r:=w9.heap.size) (bGL _ _) q204 hb10 (bGB _)));(have ht4':w7.heap.size<=t4:=bGC HB9.out.size ht4);clear hb10 ht4)
               |(go_simp;go_at_call 330;refine(HCO.out w10 t3 t4 (H7.out.below (HB9.out.trans (HB10.out.mono HB9.out.size))) (hT3.below HB10.out) hT4 ht3' ht4').mono ?_;rintro e w12 ⟨hb12,rfl,h12⟩))
              all_goals
               go_end0
               exact⟨(HW7.out.trans ((HB9.out.trans (HB10.out.mono HB9.out.size)).mono oM)).trans hb12,rfl,h12⟩
            ·have HRE:=Lh (show R=.bad (bY (l.drop S)) from by rw[<-hR9,bGV hk2]);have HN2:=Lh (fun(W:World) (hW:Below w7.heap.size w7 W)=>aBS W _ (l.drop S) (HA2.out W hW) (fun x hx=>HLL.out.1 x (List.mem_of_mem_drop hx)) q203 hk2);rw[hM3.2.2.1] at HN2;obtain⟨K,hK⟩:=eX (bY (l.drop S));rw[hK] at HN2 HRE hk2;have HX:=Lh hk1;clear hR9 hK hk1;go_region_law (first
              |(go_simp;go_at_call 290;(with_reducible refine(HN1.out _ ?_).mono ?_);(first|exact bGL _ _|exact Below.drew (bGL _ _)|exact cO _);rintro e w9 ⟨t3,ht3,rfl,hT3,hb9⟩;(have HB9:=Lh (hZ (r:=w7.heap.size) (bGL _ _) q204 hb9 (bGB _)));(have ht3':w7.heap.size<=t3:=ht3);clear hb9 ht3)
              |(go_simp;go_at_call 331;(with_reducible refine(jD _ _).mono ?_);rintro e w11 ⟨rfl,h9⟩;obtain rfl:=h9.symm)
              |(go_simp;go_at_call 290;(with_reducible refine(HN2.out _ ?_).mono ?_);(first|exact HB9.out|exact Below.drew HB9.out|exact Below.drew (Below.drew HB9.out));rintro e w10 ⟨rfl,hb10⟩;(have HW10:=Lh (hZ HW7.out (by first|exact HB9.out|exact Below.drew HB9.out|exact Below.drew (Below.drew HB9.out)) hb10 oM));clear hb10)
              |(go_simp;go_at_call 331;refine kN (fun HF=>?_) ((wT _ _ hk2 _).mono (by rintro e w11 ⟨rfl,h9⟩;obtain rfl:=h9.symm;exact⟨rfl,HW10.out,q161⟩));refine(HF.out.elim:Calls prog 331 _ _ (fun e w'=>e=.returned (.pointer none)/\w'=w10)).mono ?_;rintro e w11 ⟨rfl,h9⟩;obtain rfl:=h9.symm)
              |(go_simp;go_at_call 330;refine(HF.out.elim:Calls prog 330 _ _ (fun e w'=>e=.returned (.tuple #[])/\w'=w10)).mono ?_;rintro e w11 ⟨rfl,h9⟩;obtain rfl:=h9.symm))
             all_goals exact q392
           ·have HRE:=Lh (show R=.bad (bY (l.take S)) from by rw[<-hR9,bGV hk1]);have HN1:=Lh (fun(W:World) (hW:Below w7.heap.size w7 W)=>aBS W _ (l.take S) (HA1.out W hW) (fun x hx=>HLL.out.1 x (List.mem_of_mem_take hx)) q170 hk1);obtain⟨K,hK⟩:=eX (bY (l.take S));rw[hK] at HN1 HRE hk1;clear hR9 hK;go_region_law (first
             |(go_simp;go_at_call 290;(with_reducible refine(HN1.out _ ?_).mono ?_);(first|exact bGL _ _|exact Below.drew (bGL _ _)|exact cO _);rintro e w9 ⟨rfl,hb9⟩;(have HW9:=Lh (hZ HW7.out q204 hb9 oM));clear hb9)
             |(go_simp;go_at_call 331;refine kN (fun HF=>?_) ((wT _ _ hk1 _).mono (by rintro e w9 ⟨rfl,h9⟩;obtain rfl:=h9.symm;exact⟨rfl,HW9.out,q161⟩));refine(HF.out.elim:Calls prog 331 _ _ (fun e w'=>e=.returned (.pointer none)/\w'=w9)).mono ?_;rintro e w9 ⟨rfl,h9⟩;obtain rfl:=h9.symm)
             |(go_simp;go_at_call 290;refine(HF.out.elim:Calls prog 290 _ _ (fun e w'=>e=.returned (.tuple #[.pointer none,.int .i64 K])/\w'=w9)).mono ?_;rintro e w9 ⟨rfl,h9⟩;obtain rfl:=h9.symm)
             |(go_simp;go_at_call 330;refine(HF.out.elim:Calls prog 330 _ _ (fun e w'=>e=.returned (.tuple #[])/\w'=w9)).mono ?_;rintro e w9 ⟨rfl,h9⟩;obtain rfl:=h9.symm))
            all_goals exact q392
        ·have HN:=Lh (aBS wr (.slice (some ⟨g,0,none⟩) 19 19) lens (HA.out _ (bGL _ _)) HL15.out oM hcb);have HRE:=Lh (show R=.bad (bY lens) from by rw[<-HR6.out,aYA hcb]);obtain⟨K,hK⟩:=eX (bY lens);rw[hK] at HN HRE hcb;clear HR6 HA hK;go_wp2_with fail;refine HN.out.mono ?_;rintro e w6 ⟨rfl,hb6⟩;have HW6:=Lh (HBr.out.trans (hb6.mono (bGY hrw)));clear HN;go_wp2_with(first|(go_at_call 331;(with_reducible refine(wT _ _ hcb _).mono ?_);rintro e w9 ⟨rfl,h9⟩;obtain rfl:=h9.symm))
         exact⟨rfl,HW6.out,q161⟩
    ·have d2:decide ((D:Int)<=30)=false:=sO;have HRE:=Lh (show R=.bad 3 from by rw[<-HR3.out,bGV oM]);clear HR3;exact q445
  ·have d1:decide ((S:Int)<=286)=false:=sO;have HRE:=Lh (show R=.bad 3 from by rw[<-HR1.out,bGV oM]);clear HR1;go_wp2_with(go_at_call 261;(with_reducible refine(dO _ _).mono ?_);rintro e w9 ⟨rfl,h9⟩;obtain rfl:=h9.symm)
   exact⟨rfl,HW1.out,q161⟩
def bFL(w:World)(f r:Nat)(s:L)(most:Nat)(R:Res (Nat×L×Nat))(e:Ending)(w':World):Prop :=
 Below r w w'/\match R with
 |.good (last,out,p)=>e=.returned (.bool (decide (last=1)))/\∃vo,FlV w' f r s most p out vo
 |.bad k=>e=.panicked [{ v:=.iface 323 (.agg #[.int .i64 k]),recovered:=false }]
theorem aYB(w:World)(f r:Nat)(s:L)(most p:Nat)(out:L)(vo:Value)(h:FlV w f r s most p out vo)(hm:most<=1048576)(hl:out.length<=most)(hrep:iK w r)(hord:iQ w r) :
 Calls prog 263 #[.pointer (some ⟨f,0,none⟩)] w (bFL w f r s most (iP s most p out)):=by
 obtain⟨R,hR⟩:=eX (iP s most p out);rw[hR];unfold iP at hR;have HR:=Lh hR;have H:=Lh h;have HP:=Lh (bGQ hrep hord);have hfl:=bGJ h.blk;have hrf:=h.lt;have hrl:r<w.heap.size:=oM;have HB:=Lh (cS w f r vo most s p 1 h.blk h.rd dC);clear h hR hrep hord;go_enter func263,ntmps263
 go_wp2_with fail;refine HB.out.mono ?_;rintro e w1 ⟨hb1,h1⟩;clear HB;have HW1:=Lh (bM hb1 hrl);cases hbt:aS s p 1 with
 |bad k =>
  exact q447
 |good x =>
  obtain⟨last,p1⟩:=x;rw[hbt] at h1;obtain⟨rfl,hr1⟩:=h1;have H1:=Lh (H.out.bits hb1 hr1);have hR1:=HR.out;rw[hbt] at hR1;dsimp only at hR1;have HR1:=Lh hR1;have hrl1:r<w1.heap.size:=bGA hrl HW1.out.size;have HB:=Lh (cS w1 f r vo most s p1 2 H1.out.blk H1.out.rd dC);obtain⟨b,hb⟩:∃b:Bool,((last:Int)==1)=b:=⟨_,rfl⟩
  have HL:=Lh (show decide (last=1)=b from by rw[<-hb];by_cases h:last=1<;>simp[h]<;>omega);clear HR hR1 hbt hb1 hr1 H;go_wp2_with fail;refine HB.out.mono ?_;rintro e w2 ⟨hb2,h2⟩;clear HB;have HW2:=Lh (HW1.out.trans (bM hb2 hrl1));cases hbt:aS s p1 2 with
  |bad k =>
   rw[hbt] at h2;have HRE:=Lh (show R=.bad k from by rw[<-HR1.out,hbt]);obtain rfl:=h2;clear HR1;go_wp2_with fail;exact⟨rfl,HW2.out,q161⟩
  |good x =>
   obtain⟨kind,p2⟩:=x;rw[hbt] at h2;obtain⟨rfl,hr2⟩:=h2;have H2:=Lh (H1.out.bits hb2 hr2);have hk4:=(aX hbt).1;have hR1:=HR1.out;rw[hbt] at hR1;dsimp only at hR1;have HR1:=Lh hR1;clear hR1 hbt hb2 hr2 H1 HW1 hb;have hk:kind=0\/kind=1\/kind=2\/kind=3:=oM;clear hk4;rcases hk with rfl|rfl|rfl|rfl
   ·have HC:=Lh (aQY w2 f r s most p2 out vo H2.out hm hl);have hR2:=HR1.out;rw[bGV rfl] at hR2;obtain⟨X,hX⟩:=eX (eQ s most p2 out);exact q309
   ·have HC:=Lh (aRH w2 f r s most p2 out vo H2.out hm hl);have hR2:=HR1.out;rw[bGU dC,bGV rfl] at hR2;obtain⟨X,hX⟩:=eX (cX s most gW jP (8*s.length+1) p2 out);exact q309
   ·have HC:=Lh (aJM w2 f r s most p2 out vo H2.out hm hl (HP.out.1.below HW2.out) (HP.out.2.below HW2.out));have hR2:=HR1.out;rw[bGU dC,bGU dC,bGV rfl] at hR2;obtain⟨X,hX⟩:=eX (dB s most p2 out);exact q309
   ·have HRE:=Lh (show R=.bad 3 from by rw[<-HR1.out,bGU dC,bGU dC,bGU dC]);clear HR1;exact q445
theorem aW{w:World}{b:Nat}{t:TypeId}{v:Value}(h:w.heap[b]?=some (.cells #[v] t (0,0))):w.cell? ⟨b,0,none⟩=some v/\w.frozen? ⟨b,0,none⟩=false:=by
 exact q374
theorem kQ{w:World}{g:Nat}{t:TypeId}{v:Value}(h:w.heap[g]?=some (.cells #[v] t (0,0)))(u:Value):(w.setCell ⟨g,0,none⟩ u).heap[g]?=some (.cells #[u] t (0,0)):=by
 rw[aC h];rfl
theorem zR{w:World}{B g0 g1 g2:Nat}{t0 t1 t2:TypeId}{v0 v1 v2:Value}(h0:w.heap[g0]?=some (.cells #[v0] t0 (0,0)))(h1:w.heap[g1]?=some (.cells #[v1] t1 (0,0)))(h2:w.heap[g2]?=some (.cells #[v2] t2 (0,0)))
 (h01:g0≠g1) (h02:g0≠g2) (h12:g1≠g2) (hB0:B<=g0) (hB1:B<=g1) (hB2:B<=g2) (hB:B<=w.heap.size) (u0 u1 u2:Value) (o:Obj) :
 Below B w ((((w.setCell ⟨g0,0,none⟩ u0).setCell ⟨g1,0,none⟩ u1).setCell ⟨g2,0,none⟩ u2).alloc o).drew /\
 ((((w.setCell ⟨g0,0,none⟩ u0).setCell ⟨g1,0,none⟩ u1).setCell ⟨g2,0,none⟩ u2).alloc o).cell? ⟨g0,0,none⟩=some u0 /\
 ((((w.setCell ⟨g0,0,none⟩ u0).setCell ⟨g1,0,none⟩ u1).setCell ⟨g2,0,none⟩ u2).alloc o).cell? ⟨g1,0,none⟩=some u1 /\
 ((((w.setCell ⟨g0,0,none⟩ u0).setCell ⟨g1,0,none⟩ u1).setCell ⟨g2,0,none⟩ u2).alloc o).cell? ⟨g2,0,none⟩=some u2:=by
 have l0:=bGJ h0;have l1:=bGJ h1;have l2:=bGJ h2;have a0:((((w.setCell ⟨g0,0,none⟩ u0).setCell ⟨g1,0,none⟩ u1).setCell ⟨g2,0,none⟩ u2).alloc o).heap[g0]?=some (.cells #[u0] t0 (0,0)):=by
  rw[bGM _ _ _ q128,bGK _ _ _ _ h02,bGK _ _ _ _ h01];exact kQ h0 u0
 have a1:((((w.setCell ⟨g0,0,none⟩ u0).setCell ⟨g1,0,none⟩ u1).setCell ⟨g2,0,none⟩ u2).alloc o).heap[g1]?=some (.cells #[u1] t1 (0,0)):=by
  rw[bGM _ _ _ q128,bGK _ _ _ _ h12];exact kQ ((bGK _ _ _ _ (fun e=>h01 e.symm)).trans h1) u1
 have a2:((((w.setCell ⟨g0,0,none⟩ u0).setCell ⟨g1,0,none⟩ u1).setCell ⟨g2,0,none⟩ u2).alloc o).heap[g2]?=some (.cells #[u2] t2 (0,0)):=by
  rw[bGM _ _ _ q128];exact kQ ((bGK _ _ _ _ (fun e=>h12 e.symm)).trans ((bGK _ _ _ _ (fun e=>h02 e.symm)).trans h2)) u2
 exact⟨Below.drew (((((bGL B w).setCell hB0 _).setCell hB1 _).setCell hB2 _).alloc q128 _),(aW a0).1,(aW a1).1,(aW a2).1⟩
theorem aJN(p q r:Addr)(w:World) :
 CallsD prog 260 #[.pointer (some p),.pointer (some q),.pointer (some r)] .returning w fun e u' w'=>e=.returned (.tuple #[])/\u'=.returning/\w'=w:=by
 refine callsD_of_wpS func260 rfl fun c₀ cs hu=>?_
 simp only[ntmps260,List.size_toArray,bHA,List.length_nil,Nat.reduceAdd,Nat.reduceSub,Array.replicate_succ,Array.replicate_zero,List.push_toArray,List.append_toArray,List.nil_append,List.cons_append];apply wpS_seq
 apply wpS_region
 simp[wpOpsS,go_sem,recoverD,hu,ntmps260,Exit.thenS];refine wpS_of_wp ?_;go_wp2;cases c₀;simp_all [bodyPostS,results,results260]
theorem tS(B g0 g1 g2:Nat)(k:Int)(s:ByteArray)(n y:Int)(older:List PanicEntry)(w:World)(h0:w.heap[g0]?=some (.cells #[.string s] 9 (0,0)))(h1:w.heap[g1]?=some (.cells #[.int .i64 n] 3 (0,0)))(h2:w.heap[g2]?=some (.cells #[.int .i64 y] 24 (0,0)))
 (h01:g0≠g1) (h02:g0≠g2) (h12:g1≠g2) (hB0:B<=g0) (hB1:B<=g1) (hB2:B<=g2) (hB:B<=w.heap.size) :
 CallsD prog 260 #[.pointer (some ⟨g0,0,none⟩),.pointer (some ⟨g1,0,none⟩),.pointer (some ⟨g2,0,none⟩)] (.panicking ({ v:=.iface 323 (.agg #[.int .i64 k]),recovered:=false }::older)) w fun e u' w' =>
  e=.returned (.tuple #[])/\u'=.panicking ({ v:=.iface 323 (.agg #[.int .i64 k]),recovered:=true }::older)/\Below B w w'/\w'.cell? ⟨g0,0,none⟩=some (.string ⟨#[]⟩)/\w'.cell? ⟨g1,0,none⟩=some (.int .i64 0)/\w'.cell? ⟨g2,0,none⟩=some (.int .i64 k):=by
 have hta:∀(x:Int) (w:World),(Instr.typeAssert (.iface 323 (.agg #[.int .i64 x])) 20 323 true).run prog w=.ok (.tuple #[.agg #[.int .i64 x],.bool true]) w:=fun _ _=>kR
 obtain⟨a0,f0⟩:=aW h0;obtain⟨a1,f1⟩:=aW h1;obtain⟨a2,f2⟩:=aW h2;have l0:=bGJ h0;have l1:=bGJ h1;have l2:=bGJ h2;have n0:¬g0=w.heap.size:=oM;have n1:¬g1=w.heap.size:=oM;have n2:¬g2=w.heap.size:=oM;have HT:=zR h0 h1 h2 h01 h02 h12 hB0 hB1 hB2 hB (.string ⟨#[]⟩) (.int .i64 0) (.int .i64 k) (.cells #[.int .i64 k] 323);clear h0 h1 h2 hB0 hB1 hB2 hB;obtain⟨W,hW⟩:=eX ((((w.setCell ⟨g0,0,none⟩ (.string ⟨#[]⟩)).setCell ⟨g1,0,none⟩ (.int .i64 0)).setCell ⟨g2,0,none⟩ (.int .i64 k)).alloc (.cells #[.int .i64 k] 323));rw[hW] at HT;obtain⟨HT0,HT1,HT2,HT3⟩:=HT;refine callsD_of_wpS func260 rfl fun c₀ cs hu=>?_
 simp only[ntmps260,List.size_toArray,bHA,List.length_nil,Nat.reduceAdd,Nat.reduceSub,Array.replicate_succ,Array.replicate_zero,List.push_toArray,List.append_toArray,List.nil_append,List.cons_append];apply wpS_seq
 apply wpS_region
 simp[wpOpsS,go_sem,recoverD,hu,ntmps260,Exit.thenS];refine wpS_of_wp ?_;go_wp2_with fail;go_region_law (fail)
 all_goals go_wp2
 all_goals cases c₀
 all_goals simp_all [bodyPostS,results,results260]
 all_goals trace_state
def bEL(w:World)(s:L)(R:Res (L×Nat))(e:Ending)(w':World):Prop :=
 Below w.heap.size w w'/\match R with
 |.good (out,n)=>e=.returned (.tuple #[.string ⟨out.toArray⟩,.int .i64 (n:Nat),.int .i64 0])/\n<=s.length
 |.bad k=>e=.returned (.tuple #[.string ⟨#[]⟩,.int .i64 0,.int .i64 k])
def aJO(w:World)(b:Nat):Prop:=w.heap[b]?=some (.cells #[.string ⟨#[]⟩] 9 (0,0))/\w.heap[b+1]?=some (.cells #[.int .i64 0] 3 (0,0))/\w.heap[b+1+1]?=some (.cells #[.int .i64 0] 24 (0,0))
theorem aJO.below{w w':World}{b B:Nat}(h:aJO w b)(hb:Below B w w')(hB:b+1+1<B):aJO w' b :=
 ⟨(hb.block _ oM).trans h.1,(hb.block _ oM).trans h.2.1,(hb.block _ oM).trans h.2.2⟩
theorem aJO.made(w:World):aJO (((w.alloc (.cells #[.string ⟨#[]⟩] 9)).alloc (.cells #[.int .i64 0] 3)).alloc (.cells #[.int .i64 0] 24)) w.heap.size:=by
 refine⟨?_,?_,aA _ _ _ sI⟩
 ·rw[bGM _ _ _ sO,bGM _ _ _ sI];exact aA _ _ _ rfl
 ·exact q484
theorem bEM(w:World)(s:L)(most:Int)(hs:s.length<=1000000000)(hrep:iK w w.heap.size)(hord:iQ w w.heap.size) :
 Calls prog 240 #[.string ⟨s.toArray⟩,.int .i64 most] w (bEL w s (eK s most)):=by
 obtain⟨R,hR⟩:=eX (eK s most);rw[hR];unfold eK at hR;obtain⟨w3,hw3⟩:=eX ((((w.alloc (.cells #[.string ⟨#[]⟩] 9)).alloc (.cells #[.int .i64 0] 3)).alloc (.cells #[.int .i64 0] 24)));have hX3:aJO w3 w.heap.size:=by rw[<-hw3];exact aJO.made w
 have hb3:Below w.heap.size w w3:=q126;have hz3:=bGJ hX3.2.2;by_cases hm0:most<0
 ·rw[bGV hm0] at hR;subst hR;have d1:decide (0<=most)=false:=sO;have HX:=Lh hX3;have HBp:=Lh hb3;clear hm0 hX3 hb3;go_enter_defers func240,ntmps240
  go_wp2_with(go_at_call 261;(with_reducible refine(dO _ _).mono ?_);rintro e w9 ⟨rfl,h9⟩;obtain rfl:=h9.symm)
  go_wp2;refine bGW (f:=260) (args:=#[.pointer (some ⟨w.heap.size,0,none⟩),.pointer (some ⟨w.heap.size+1,0,none⟩),.pointer (some ⟨w.heap.size+1+1,0,none⟩)]) sI q39 ?_;refine(tS w.heap.size _ _ _ _ _ _ _ _ _ HX.out.1 HX.out.2.1 HX.out.2.2 oM oM oM oM oM oM HBp.out.size).mono ?_;rintro e u' w'' ⟨rfl,rfl,hbf,C0,C1,C2⟩;simp[Leaves,settle,results,results240,go_sem,C0,C1,C2];exact⟨HBp.out.trans hbf,rfl⟩
 ·rw[bGU hm0] at hR;have d1:decide (0<=most)=true:=sO;obtain⟨LM,hLM⟩:=eX (min most.toNat 1048576);have hmin:min most 1048576=(LM:Int):=oM;have hmL:LM<=1048576:=oM;rw[hLM] at hR;obtain⟨R',hR'⟩:=eX (gG s LM (8*s.length+1) 0 []);rw[hR'] at hR;have HR:=Lh hR;have HR':=Lh hR';have HF:=Lh (bBR w3 s oM);have hrep3:=hrep.below hb3;have hord3:=hord.below hb3;clear hR hR' hm0;go_enter_defers func240,ntmps240
  go_wp2_with(go_at_call 261;(with_reducible refine(cI _ _).mono ?_);rintro e w9 ⟨rfl,h9⟩;obtain rfl:=h9.symm)
  refine HF.out.mono ?_;rintro e w4 ⟨rfl,hr4,hb4⟩;clear HF hw3;obtain⟨r,hr⟩:=eX (w3.heap.size);rw[hr] at hr4 hb4;simp only[hr];go_upto_region 4 with fail
  obtain⟨w5,hw5⟩:=eX (w4.alloc (.cells #[.pointer (some ⟨r,0,none⟩),.slice none 0 0,.int .i64 (LM:Nat)] 328));obtain⟨f,hf⟩:=eX (w4.heap.size);have hb5:Below w4.heap.size w4 w5:=by rw[<-hw5];exact bel
  have hF5:FlB w5 f r (.slice none 0 0) LM:=by rw[<-hw5];exact aA _ _ _ hf.symm
  have hrf:r<f:=by
   obtain⟨_,_,hB,_⟩:=hr4;rw[<-hf];exact bGJ hB
  have hV5:FlV w5 f r s LM 0 [] (.slice none 0 0):=⟨hF5,bF _ _,fN hr4 hb5 oM,hrf⟩;have hb35:Below r w3 w5:=hb4.trans (hb5.mono oM);have hrl5:r<w5.heap.size:=by have:=bGJ hF5;omega
  have HV5:=Lh hV5;have HX5:=Lh (hX3.below hb35 oM);have HBp5:=Lh (hb3.trans (hb35.mono oM));have HP:=Lh (bGQ ((hrep3.below (hb35.mono oM)).low (r':=r) oM (bGY hrl5)) ((hord3.below (hb35.mono oM)).low (r':=r) oM (bGY hrl5)));rw[hw5];simp only[hf];clear hw5 hf hb5 hF5 hV5 hb35 hr4 hb4 hrep3 hord3 hrep hord hX3 hb3;go_wp2_with fail;go_loopw [] (fun wr=>∃(fu p:Nat) (out:L) (vo:Value),FlV wr f r s LM p out vo/\out.length<=LM/\Below r w5 wr/\Hid (gG s LM fu p out=R')/\8*s.length<fu+p) (fun wr=>8*s.length+1-sR wr r)
  case atStart=>exact⟨8*s.length+1,0,[],_,HV5.out,bGF _,bGL _ _,HR',oM⟩
  case round =>
   clear HR' HV5;obtain⟨fu,p,out,vo,hV,hl,hB,HR',hfu⟩:=hrel;have hpl:=hV.rd.place;obtain⟨fu,rfl⟩:∃g,fu=g+1:=⟨fu-1,oM⟩
   have hR:=HR'.out;rw[mR] at hR;have HR2:=Lh hR;have HB:=Lh (aYB wr f r s LM p out vo hV hmL hl (HP.out.1.below hB) (HP.out.2.below hB));have hM1:sR wr r=p:=hpl.1;have HV:=Lh hV;have HBw:=Lh hB;have hrw:=hB.size;clear hR HR' hV hpl hB;go_wp2_with fail;refine HB.out.mono ?_;rintro e w6 ⟨hb6,h6⟩;have HB6:=Lh (HBw.out.trans hb6);have HX:=Lh (HX5.out.below HB6.out oM);have HBp:=Lh (HBp5.out.trans (HB6.out.mono oM));clear HB hb6;cases hbk:iP s LM p out with
   |bad k =>
    rw[hbk] at h6;have hR':R'=.bad k:=by rw[<-HR2.out,hbk]
    have HRE:=Lh (show R=.bad k from by rw[<-HR.out,hR']);obtain rfl:=h6;clear HR2 HR hR';go_wp2;refine bGW (f:=260) (args:=#[.pointer (some ⟨w.heap.size,0,none⟩),.pointer (some ⟨w.heap.size+1,0,none⟩),.pointer (some ⟨w.heap.size+1+1,0,none⟩)]) sI q39 ?_;refine(tS w.heap.size _ _ _ _ _ _ _ _ _ HX.out.1 HX.out.2.1 HX.out.2.2 oM oM oM oM oM oM HBp.out.size).mono ?_;rintro e u' w'' ⟨rfl,rfl,hbf,C0,C1,C2⟩;simp[Leaves,settle,results,results240,go_sem,C0,C1,C2];refine⟨HBp.out.trans hbf,?_⟩;rw[HRE.out]
   |good x =>
    obtain⟨last,o2,p2⟩:=x;rw[hbk] at h6;obtain⟨rfl,vo2,hV2⟩:=h6;obtain⟨g1,g2⟩:=tR hbk hl;have hR3:=HR2.out;rw[hbk] at hR3;dsimp only at hR3;have hM2:=hV2.rd.place;have HV2:=Lh hV2;clear HR2 hbk hV2;by_cases hlast:last=1
    ·have dl:decide (last=1)=true:=by simp;exact hlast
     rw[bGV hlast] at hR3;have HRE:=Lh (show R=.good (o2,(p2+7)/8) from by rw[<-HR.out,<-hR3]);obtain⟨q,hq⟩:=eX ((p2+7)/8);have hqn:q<=s.length:=by have:=hM2.2;omega
     rw[hq] at HRE;have hcv0:=qA (fM.2 HV2.out.row);have hcv1:=qA (fM.2 HV2.out.drew.row);have hcv2:=qA (fM.2 HV2.out.drew.drew.row);have HAT:=Lh (fun(W:World) (hW:RdW W r s p2)=>bFJ W r s p2 hW);rw[hq] at HAT;obtain⟨c0,c1,c2,cf⟩:=aE HV2.out.blk;obtain⟨E0,F0⟩:=aW HX.out.1;obtain⟨E1,F1⟩:=aW HX.out.2.1;obtain⟨E2,F2⟩:=aW HX.out.2.2;have hz6:=bGJ HX.out.2.2;have hl0:w.heap.size<w6.heap.size:=oM;have hl1:w.heap.size+1<w6.heap.size:=oM;clear hR3 hlast hq hM2;rw[dl];go_upto_region 5 with fail
     go_still_tail 10,kR
     still_call (HAT.out _ (show RdW w6.drew r s p2 from HV2.out.drew.rd))
     repeat still_step
     try refine wpStill_nil ?_
     change wpList _ _ _ _ _ w6.drew
     go_wp2;refine bGW (f:=260) (args:=#[.pointer (some ⟨w.heap.size,0,none⟩),.pointer (some ⟨w.heap.size+1,0,none⟩),.pointer (some ⟨w.heap.size+1+1,0,none⟩)]) sI q39 ?_;refine(aJN _ _ _ _).mono ?_;rintro e u' w'' ⟨rfl,rfl,rfl⟩;simp[Leaves,settle,results,results240,go_sem,E0,F0,E1,F1,E2,F2,hl0,hl1,hz6];refine⟨Below.drew (((HBp.out.setCell (p:=⟨w.heap.size,0,none⟩) (bGB _) _).setCell (p:=⟨w.heap.size+1,0,none⟩) q206 _).setCell (p:=⟨w.heap.size+1+1,0,none⟩) q207 _),?_⟩;rw[HRE.out];exact⟨rfl,hqn⟩
    ·have dl:decide (last=1)=false:=by simp;exact hlast
     rw[bGU hlast] at hR3;have HR3:=Lh hR3;clear hR3;rw[dl];go_wp2_with fail;go_roundw
     case rel=>exact⟨fu,p2,o2,vo2,HV2.out,g2,HB6.out,HR3,oM⟩
     case measure=>rw[hM1,hM2.1];omega
def uH(x:Nat×Nat)(c:UInt8):Nat×Nat:=((x.1+c.toNat) % 65521,(x.2+(x.1+c.toNat) % 65521) % 65521)
def bEN(l:L):Nat×Nat:=l.foldl uH (1,0)
theorem bFM(w:World)(a b:Nat)(c:UInt8)(ha:a<65521)(hb:b<65521) :
 Calls prog 299 #[.agg #[.int .u32 (a:Nat),.int .u32 (b:Nat)],.int .u8 c.toNat] w fun e w'=>e=.returned (.agg #[.int .u32 ((uH (a,b) c).1:Nat),.int .u32 ((uH (a,b) c).2:Nat)])/\Below w.heap.size w w':=by
 have hc:=UInt8.toNat_lt c;have h0:IntKind.u32.wrap (c.toNat:Int)=c.toNat:=q208;have h1:IntKind.u32.wrap ((a:Int)+c.toNat)=((a+c.toNat:Nat):Int):=q208;have h2:((a+c.toNat:Nat):Int).tmod 65521=(((a+c.toNat) % 65521:Nat):Int):=by rw[Int.tmod_eq_emod_of_nonneg oM];omega
 unfold uH;obtain⟨A,hA⟩:=eX ((a+c.toNat) % 65521);rw[hA] at h2;simp only[hA];have h3:IntKind.u32.wrap ((b:Int)+A)=((b+A:Nat):Int):=q208;have h4:((b+A:Nat):Int).tmod 65521=(((b+A) % 65521:Nat):Int):=by rw[Int.tmod_eq_emod_of_nonneg oM];omega
 obtain⟨B,hB⟩:=eX ((b+A) % 65521);rw[hB] at h4;simp only[hB];obtain⟨S1,hS1⟩:=eX (a+c.toNat);obtain⟨S2,hS2⟩:=eX (b+A);rw[hS1] at h1 h2;rw[hS2] at h3 h4;have h5:IntKind.u32.wrap (A:Int)=A:=q208;have h6:IntKind.u32.wrap (B:Int)=B:=q208;obtain⟨C,hC⟩:=eX (c.toNat);rw[hC] at h0 h1 ⊢;clear hA hB hS1 hS2 ha hb hc hC;go_enter func299,ntmps299
 go_wp2_with fail;exact bGN (v:=.agg #[.int .u32 (A:Nat),.int .u32 (B:Nat)]) (by simp[results,results299,go_sem]) rfl ⟨rfl,bel⟩
def bCB(c0 c1:UInt8):Bool:=(bits BinOp.and IntKind.i64 (wrap64 c0.toNat) 15 !=8)||decide (7<wrap64 c0.toNat/16)||((bits BinOp.or IntKind.i64 (wrap64 (wrap64 c0.toNat*256)) (wrap64 c1.toNat)).tmod 31 !=0)||(bits BinOp.and IntKind.i64 (wrap64 c1.toNat) 32 !=0)
def aJP:L->Int
 |c0::c1::_=>if bCB c0 c1 then 3 else 0
 |_=>4
theorem aJQ(T:TypeId)(hT:prog.underlying T=some .string)(s:ByteArray)(k:Nat)(hk:k<s.size)(W:World):(Instr.index T (.string s) (.int .i64 (k:Nat))).run prog W=.ok (.int .u8 s[k].toNat) W:=by
 simp[go_sem,hT,hk]
theorem aRK(c0 c1:UInt8)(l:L):aJP (c0::c1::l)=if bCB c0 c1 then 3 else 0:=rfl
theorem bCC(c0 c1:UInt8)(l:L)(W:World):(Instr.index 9 (.string ⟨(c0::c1::l).toArray⟩) (.int .i64 0)).run prog W=.ok (.int .u8 c0.toNat) W:=by
 have h:=aJQ 9 underlying9 ⟨(c0::c1::l).toArray⟩ 0 q36 W;rw[show(⟨(c0::c1::l).toArray⟩:ByteArray)[0]' q36=c0 from rfl] at h;exact h
theorem bEO(c0 c1:UInt8)(l:L)(W:World):(Instr.index 9 (.string ⟨(c0::c1::l).toArray⟩) (.int .i64 1)).run prog W=.ok (.int .u8 c1.toNat) W:=by
 have h:=aJQ 9 underlying9 ⟨(c0::c1::l).toArray⟩ 1 q36 W;rw[show(⟨(c0::c1::l).toArray⟩:ByteArray)[1]' q36=c1 from rfl] at h;exact h
theorem aJR(w:World)(s:L)(hs:s.length<=1000000000000) :
 Calls prog 239 #[.string ⟨s.toArray⟩] w fun e w'=>e=.returned (.int .i64 (aJP s))/\Below w.heap.size w w':=by
 by_cases h2:s.length<2
 ·have hk:aJP s=4 := by
   match s,h2 with
   |[],_=>rfl
   |[c],_=>rfl
  have hz:decide ((s.length:Int)<2)=true:=sO;rw[hk];clear hk h2 hs;go_enter func239,ntmps239
  exact q597
 ·obtain⟨c0,c1,l,rfl⟩:∃c0 c1 l,s=c0::c1::l := by
   match s,h2 with
   |c0::c1::l,_=>exact⟨c0,c1,l,rfl⟩
   |[],h=>exact absurd h sI
   |[c],h=>exact absurd h sI
  have hz:((⟨(c0::c1::l).toArray⟩:ByteArray).size)=l.length+2:=q36;have hi0:=fun(W:World)=>bCC c0 c1 l W
  have hi1:=fun(W:World)=>bEO c0 c1 l W
  rw[aRK];obtain⟨S,hS⟩:∃S:ByteArray,(⟨(c0::c1::l).toArray⟩:ByteArray)=S:=⟨_,rfl⟩
  rw[hS] at hz ⊢;simp only[hS] at hi0 hi1;clear hS;obtain⟨t1,e1⟩:∃t,(bits BinOp.and IntKind.i64 (wrap64 c0.toNat) 15 !=8)=t:=⟨_,rfl⟩
  obtain⟨t2,e2⟩:∃t,decide (7<wrap64 c0.toNat/16)=t:=⟨_,rfl⟩
  obtain⟨t3,e3⟩:∃t,((bits BinOp.or IntKind.i64 (wrap64 (wrap64 c0.toNat*256)) (wrap64 c1.toNat)).tmod 31 !=0)=t:=⟨_,rfl⟩
  obtain⟨t4,e4⟩:∃t,(bits BinOp.and IntKind.i64 (wrap64 c1.toNat) 32 !=0)=t:=⟨_,rfl⟩
  obtain⟨K,hK⟩:∃K:Int,(if bCB c0 c1 then 3 else 0)=K:=⟨_,rfl⟩
  have HB:=Lh (show K=(if(t1||t2||t3||t4) then 3 else 0) from by rw[<-hK];unfold bCB;rw[e1,e2,e3,e4]);rw[hK];clear hK;have hd:decide ((l.length:Int)+2<2)=false:=sO;clear h2 hs;go_enter func239,ntmps239
  go_wp2_with fail;go_quiet (fail)
  cases t1<;>cases t2<;>cases t3<;>cases t4
  all_goals go_wp2_with fail
  all_goals go_ret
  all_goals exact⟨by rw[HB.out];rfl,bel⟩
theorem rD(w:World)(s:ByteArray):Below w.heap.size w (Lib.bytesWorld w 5 s) :=
 ⟨rfl,rfl,rfl,q209,fun k hk=>Lib.bytesWorld_at_old w _ s k hk⟩
theorem aMT(w:World)(l:L):∃(W:World) (c:Nat),(Go.convert 9 196 (.string ⟨l.toArray⟩)).run prog w=.ok (.slice (some ⟨w.heap.size,0,none⟩) l.length c) W/\bC dV W (.slice (some ⟨w.heap.size,0,none⟩) l.length c) l/\Below w.heap.size w W/\w.heap.size<W.heap.size:=by
 have h:=Lib.run_convert_string_bytes (P:=prog) w 9 196 5 ⟨l.toArray⟩ underlying9 underlying196 underlying5;refine⟨_,_,h,⟨_,_,rfl,fun j hj=>⟨w.heap.size,0,rfl,q209,fun i u hu=>?_⟩⟩,rD w _,q209⟩;have hi:i=0:=by
  exact q540
 subst hi;have h2:=Lib.bytesWorld_cell w 5 ⟨l.toArray⟩ j hj;simp only[dV,Nat.mul_one,Nat.zero_add,Nat.add_zero] at hu ⊢;rw[h2,<-hu];simp[bGE hj]
theorem uW(c:UInt8)(l:L)(W:World):(Instr.index 9 (.string ⟨(c::l).toArray⟩) (.int .i64 0)).run prog W=.ok (.int .u8 c.toNat) W:=by
 have h:=aJQ 9 underlying9 ⟨(c::l).toArray⟩ 0 q36 W;rw[show(⟨(c::l).toArray⟩:ByteArray)[0]' q36=c from rfl] at h;exact h
theorem bCD(d:UInt8)(n:Nat):Lib.repeatL [d] n=List.replicate n d:=by
 induction n with
 |zero=>rfl
 |succ n ih=>show[d]++Lib.repeatL [d] n=_;rw[ih];rfl
theorem aFS(most f:Nat)(out:L)(c:UInt8)(l:L):hU most (f+1) out (c::l) =
 if c==128 then .good out
 else if c<128 then
  if l.length<=c.toNat then .bad 4
  else match gZ most out (l.take (c.toNat+1)) with
   |.bad k=>.bad k
   |.good out1=>hU most f out1 (l.drop (c.toNat+1))
 else match l with
  |[]=>.bad 4
  |d::l1=>match gZ most out (List.replicate (257-c.toNat) d) with
   |.bad k=>.bad k
   |.good out1=>hU most f out1 l1:=by rfl
def aRL:Value->Nat
 |.string s=>s.size
 |_=>0
theorem aFT(s:L)(a:Nat):(⟨s.toArray⟩:ByteArray).extract 0 a=⟨(s.take a).toArray⟩:=by
 have h:=jC s 0 a;simp only[List.drop_zero,Nat.zero_add] at h;exact h.symm
theorem jE(s:L)(a:Nat)(ha:a<=s.length):(⟨s.toArray⟩:ByteArray).extract a s.length=⟨(s.drop a).toArray⟩:=by
 exact q471
theorem aCB(c:UInt8)(l:L):((⟨(c::l).toArray⟩:ByteArray).toList==([]:L))=false:=by
 rw[ByteArray.toList_eq];rfl
theorem aJS:((⟨([]:L).toArray⟩:ByteArray).toList==([]:L))=true:=by
 rw[ByteArray.toList_eq];rfl
theorem bCE(w:World)(s:L)(x most:Nat)(vo:Value)(h:dP w x most [] vo)(hm:most<=1048576)(hs:s.length<=1000000000) :
 Calls prog 202 #[.string ⟨s.toArray⟩,.pointer (some ⟨x,0,none⟩)] w (sN w x most (hU most (s.length+1) [] s)):=by
 obtain⟨R,hR⟩:=eX (hU most (s.length+1) [] s);rw[hR];have HR:=Lh hR;have hxl:=bGJ h.blk;have H:=Lh h;clear h hR;go_enter func202,ntmps202
 go_wp2_with fail;go_loopw [0] (fun v wr=>∃(fu:Nat) (t:L) (out:L) (vo:Value),v=.string ⟨t.toArray⟩/\dP wr x most out vo/\out.length<=most/\Below x w wr/\Hid (hU most fu out t=R)/\t.length<fu/\t.length<=1000000000) (fun v _=>aRL v)
 case atStart=>exact⟨s.length+1,s,[],vo,rfl,H.out,bGF _,bGL _ _,HR,oM,hs⟩
 case round =>
  clear HR H hs;obtain⟨fu,t,out,vo,rfl,hV,hl,hb,HR,hfu,hs⟩:=hrel;obtain⟨fu,rfl⟩:∃g,fu=g+1:=⟨fu-1,oM⟩
  have HV:=Lh hV;have HB:=Lh hb;have hxw:=bGJ hV.blk;clear hV hb;cases t with
  |nil =>
   have HRE:=Lh (show R=.bad 4 from HR.out.symm);have d:=aJS;clear HR;exact q362
  |cons c l =>
   have d:=aCB c l;have hix:=fun(W:World)=>uW c l W
   obtain⟨S,hS⟩:∃S:ByteArray,(⟨(c::l).toArray⟩:ByteArray)=S:=⟨_,rfl⟩
   have hSz:S.size=l.length+1:=by rw[<-hS];simp[ByteArray.size]
   have hex:S.extract 1 S.size=⟨l.toArray⟩:=by
    rw[hSz,<-hS];exact jE (c::l) 1 sI
   rw[hS] at d;simp only[hS] at hix;have hS1:(1:Int)<=S.size:=oM;have hc:=UInt8.toNat_lt c;have hcw:IntKind.i64.wrap (c.toNat:Int)=c.toNat:=q167;have hM:aRL (.string S)=l.length+1:=hSz;simp only[bHA] at hfu hs;rw[hS];have hR:=HR.out;rw[aFS] at hR;clear HR hSz hS;by_cases h128:c=128
   ·have d1:((c.toNat:Int)==128)=true:=by rw[h128];decide
    rw[bGV (by rw[h128];decide)] at hR;have HRE:=Lh hR.symm;clear hR h128;go_wp2_with(go_at_call 196;(with_reducible refine(dS _ _).mono ?_);rintro e w9 ⟨rfl,h9⟩;obtain rfl:=h9.symm)
    exact q524
   ·obtain⟨N,hN⟩:=eX (c.toNat);have hN128:N≠128:=fun e=>h128 (UInt8.toNat_inj.1 (by rw[hN,e];rfl))
    have d1:((N:Int)==128)=false:=sO;rw[bGU (by simpa using h128)] at hR;have hlt:(c<128)↔N<128:=by rw[UInt8.lt_iff_toNat_lt,hN];rfl
    rw[hN] at hR hc hcw;simp only[hN] at hix;clear hN h128;by_cases hN2:N<128
    ·have d2:decide ((N:Int)<128)=true:=sO;rw[bGV (hlt.2 hN2)] at hR;by_cases hlen:l.length<=N
     ·rw[bGV hlen] at hR;have HRE:=Lh hR.symm;have d3:decide (N<l.length)=false:=sO;exact q383
     ·rw[bGU hlen] at hR;have d3:decide (N<l.length)=true:=sO;obtain⟨M,hM1⟩:=eX (N+1);have hw1:IntKind.i64.wrap ((N:Int)+1)=(M:Int):=q167;have hMl:M<=l.length:=oM;have hM0:0<M:=oM;have hM2:M<=200:=oM;rw[hM1] at hR;have hex2:(⟨l.toArray⟩:ByteArray).extract 0 M=⟨(l.take M).toArray⟩:=aFT l M;have hex3:(⟨l.toArray⟩:ByteArray).extract M l.length=⟨(l.drop M).toArray⟩:=jE l M hMl;obtain⟨W1,cc,hcv,hRA,hbW,hzW⟩:=aMT wr (l.take M);have hln:(l.take M).length=M:=q170;have HP:=Lh (aBY W1 x most out (l.take M) _ vo (HV.out.below hbW) hm hl hRA oM oM);rw[hln] at hcv HP;have HBW:=Lh (HB.out.trans (hbW.mono (bGY hxw)));have HR2:=Lh hR;clear hR hRA hbW hM1 hlen hN2 hlt;go_wp2_with(first
       |(go_at_call 196;(with_reducible refine(dS _ _).mono ?_);rintro e w9 ⟨rfl,h9⟩;obtain rfl:=h9.symm))
      refine HP.out.mono ?_;rintro e w2 ⟨hb2,h2⟩;have HB2:=Lh (HBW.out.trans hb2);clear HP hb2 hcv;cases hpf:gZ most out (l.take M) with
      |bad j =>
       exact q373
      |good o2 =>
       rw[hpf] at h2;obtain⟨rfl,v2,hV2⟩:=h2;have hl2:=(lY hpf).2;have HR3:=Lh (show hU most fu o2 (l.drop M)=R from q193);have HV2:=Lh hV2;clear hV2 HR2 hpf;go_wp2_with fail;go_roundw
       case rel=>exact⟨fu,l.drop M,o2,v2,rfl,HV2.out,hl2,HB2.out,HR3,q160,q160⟩
       case measure=>rw[hM];show(l.drop M).length<_;rw[bGS];omega
    ·have d2:decide ((N:Int)<128)=false:=sO;rw[bGU (fun h=>hN2 (hlt.1 h))] at hR;cases l with
     |nil =>
      have HRE:=Lh hR.symm;have d4:=aJS;exact q383
     |cons a l1 =>
      have d4:=aCB a l1;dsimp only at hR;obtain⟨q,hq⟩:=eX (257-N);have hw1:IntKind.i64.wrap (257-(N:Int))=(q:Int):=q167;rw[hq] at hR;obtain⟨T,hT⟩:∃T:ByteArray,(⟨(a::l1).toArray⟩:ByteArray)=T:=⟨_,rfl⟩
      have hTz:T.size=l1.length+1:=by rw[<-hT];simp[ByteArray.size]
      have hex2:T.extract 0 1=⟨[a].toArray⟩:=by rw[<-hT];exact aFT (a::l1) 1
      have hex3:T.extract 1 T.size=⟨l1.toArray⟩:=by rw[hTz,<-hT];exact jE (a::l1) 1 sI
      have hT1:(1:Int)<=T.size:=oM;have HRP:=Lh (fun W=>Tryz.strings_Repeat_main ⟨[a].toArray⟩ q W oM oM (by show 1*q<=_;omega) (by show 0<1;decide));rw[show Lib.repeatL (⟨[a].toArray⟩:ByteArray).data.toList q=List.replicate q a from bCD a q] at HRP;have HR2:=Lh hR;obtain⟨Y,hY⟩:∃Y:ByteArray,(⟨(List.replicate q a).toArray⟩:ByteArray)=Y:=⟨_,rfl⟩
      rw[hY] at HRP;have HY:=Lh hY;clear hY;rw[hT] at d4 hex;have hlx:(a::l1).length=l1.length+1:=rfl;rw[hlx] at hM;have hq2:q<=200/\0<q:=oM;clear hR hT hq hN2 hlt hTz;go_wp2_with(first
       |(go_at_call 196;(with_reducible refine(dS _ _).mono ?_);rintro e w9 ⟨rfl,h9⟩;obtain rfl:=h9.symm))
      refine(HRP.out _).mono ?_;rintro e w2 ⟨rfl,hb2⟩;obtain⟨W1,cc,hcv,hRA,hbW,hzW⟩:=aMT w2 (List.replicate q a);have hxw2:x<w2.heap.size:=bGA hxw hb2.size;have HP:=Lh (aBY W1 x most out (List.replicate q a) _ vo ((HV.out.below hb2).below hbW) hm hl hRA q202 q202);rw[bHK] at hcv HP;rw[HY.out] at hcv;have HBW:=Lh ((HB.out.trans (hb2.mono (bGY hxw))).trans (hbW.mono (bGY hxw2)));clear hRA hbW HRP hb2;go_wp2_with fail;refine HP.out.mono ?_;rintro e w3 ⟨hb3,h3⟩;have HB3:=Lh (HBW.out.trans hb3);clear HP hb3 hcv;cases hpf:gZ most out (List.replicate q a) with
      |bad j =>
       rw[hpf] at h3;have HRE:=Lh (show R=.bad j from by rw[<-HR2.out,hpf]);obtain rfl:=h3;go_wp2_with fail;exact⟨rfl,HB3.out,q161⟩
      |good o2 =>
       rw[hpf] at h3;obtain⟨rfl,v2,hV2⟩:=h3;have hl2:=(lY hpf).2;have HR3:=Lh (show hU most fu o2 l1=R from q193);have HV2:=Lh hV2;clear hV2 HR2 hpf;go_wp2_with fail;go_roundw
       case rel=>exact⟨fu,l1,o2,v2,rfl,HV2.out,hl2,HB3.out,HR3,oM,oM⟩
       case measure=>rw[hM];show l1.length<_;omega
def aYC(F:Nat->Nat)(n:Nat):Array Value:=#[.int .u8 (F 0:Nat),.int .u8 (F 1:Nat),.int .u8 (F 2:Nat),.int .u8 (F 3:Nat),.int .u8 (F 4:Nat),.int .i64 (n:Nat)]
def gK(w:World)(g:Nat)(F:Nat->Nat)(n:Nat):Prop:=w.heap[g]?=some (.cells (aYC F n) 262 (0,0))
theorem gK.digit{w:World}{g n:Nat}{F:Nat->Nat}(h:gK w g F n)(i:Nat)(hi:i<5):w.cell? ⟨g,i,none⟩=some (.int .u8 (F i:Nat)):=by
 unfold gK aYC at h;rw[cell_of_row _ _ _ _ _ _ h];exact q533
theorem gK.many{w:World}{g n:Nat}{F:Nat->Nat}(h:gK w g F n):w.cell? ⟨g,5,none⟩=some (.int .i64 (n:Nat)):=by
 unfold gK aYC at h;simp[World.cell?,h]
theorem gK.fro{w:World}{g n:Nat}{F:Nat->Nat}(h:gK w g F n)(o:Nat):w.frozen? ⟨g,o,none⟩=false:=aMS h o
def aJT(F:Nat->Nat)(i v:Nat):Nat->Nat:=fun j=>if j=i then v else F j
theorem gK.set{w:World}{g n:Nat}{F:Nat->Nat}(h:gK w g F n)(i v:Nat)(hi:i<5):gK (w.setCell ⟨g,i,none⟩ (.int .u8 (v:Nat))) g (aJT F i v) n:=by
 unfold gK at h ⊢;rw[aC h];unfold aYC aJT;exact q533
theorem gK.setN{w:World}{g n:Nat}{F:Nat->Nat}(h:gK w g F n)(m:Nat):gK (w.setCell ⟨g,5,none⟩ (.int .i64 (m:Nat))) g F m:=by
 unfold gK at h ⊢;rw[aC h];rfl
def kS(w:World)(r:Nat):Prop:=0<r/\r<=w.heap.size/\w.cell? ⟨0,0,none⟩=some (.int .u64 52200625)/\w.cell? ⟨0,1,none⟩=some (.int .u64 614125)/\w.cell? ⟨0,2,none⟩=some (.int .u64 7225)/\w.cell? ⟨0,3,none⟩=some (.int .u64 85)/\w.cell? ⟨0,4,none⟩=some (.int .u64 1)
theorem kS.below{w w':World}{r:Nat}(h:kS w r)(hb:Below r w w'):kS w' r:=by
 obtain⟨h0,h1,a,b,c,d,e⟩:=h;have hc:=fun(o:Nat)=>bGO (a:=⟨0,o,none⟩) (hb.block _ h0)
 exact⟨h0,bGC h1 hb.size,(hc 0).trans a,(hc 1).trans b,(hc 2).trans c,(hc 3).trans d,(hc 4).trans e⟩
theorem kS.low{w:World}{r r':Nat}(h:kS w r)(hr:r<=r')(hl:r'<=w.heap.size):kS w r':=⟨bGA h.1 hr,hl,h.2.2⟩
def aCC:Nat->Nat
 |0=>52200625
 |1=>614125
 |2=>7225
 |3=>85
 |_=>1
theorem bCF(W:World):(Instr.index 259 (.agg #[.int .u64 52200625,.int .u64 614125,.int .u64 7225,.int .u64 85,.int .u64 1]) (.int .i64 0)).run prog W=.ok (.int .u64 52200625) W:=kR
theorem bCG(W:World):(Instr.index 259 (.agg #[.int .u64 52200625,.int .u64 614125,.int .u64 7225,.int .u64 85,.int .u64 1]) (.int .i64 1)).run prog W=.ok (.int .u64 614125) W:=kR
theorem bCH(W:World):(Instr.index 259 (.agg #[.int .u64 52200625,.int .u64 614125,.int .u64 7225,.int .u64 85,.int .u64 1]) (.int .i64 2)).run prog W=.ok (.int .u64 7225) W:=kR
theorem bCI(W:World):(Instr.index 259 (.agg #[.int .u64 52200625,.int .u64 614125,.int .u64 7225,.int .u64 85,.int .u64 1]) (.int .i64 3)).run prog W=.ok (.int .u64 85) W:=kR
theorem bCJ(W:World):(Instr.index 259 (.agg #[.int .u64 52200625,.int .u64 614125,.int .u64 7225,.int .u64 85,.int .u64 1]) (.int .i64 4)).run prog W=.ok (.int .u64 1) W:=kR
theorem bEP(k:Nat)(hk:k<5)(W:World):(Instr.index 259 (.agg #[.int .u64 52200625,.int .u64 614125,.int .u64 7225,.int .u64 85,.int .u64 1]) (.int .i64 (k:Nat))).run prog W=.ok (.int .u64 (aCC k:Nat)) W:=by
 have hc:k=0\/k=1\/k=2\/k=3\/k=4:=oM;rcases hc with rfl|rfl|rfl|rfl|rfl
 ·exact bCF W
 ·exact bCG W
 ·exact bCH W
 ·exact bCI W
 ·exact bCJ W
def uI(F:Nat->Nat):Nat->Nat
 |0=>0
 |k+1=>uI F k+F k*aCC k
theorem aMU:∀k,aCC k<=52200625
 |0=>dC
 |1=>dC
 |2=>dC
 |3=>dC
 |_+4=>by show 1<=_;decide
theorem aMV(F:Nat->Nat)(hF:∀i,F i<=255):∀k,uI F k<=k*13311159375
 |0=>bGB _
 |k+1=>by
  have h1:=aMV F hF k;have h2:F k*aCC k<=255*52200625:=Nat.mul_le_mul (hF k) (aMU k);show uI F k+F k*aCC k<=_
  omega
theorem rE{w:World}{B g:Nat}{v:Value}{xs:L}{cs:Array Value}{t:TypeId}(h:aG dV 5 w B v xs)(hg:w.heap[g]?=some (.cells cs t (0,0)))(ht:5≠t):∀k,v.ownBlock=some k->k≠g:=by
 intro k hk e;subst e;rcases h.2 with⟨h1,_⟩|⟨g',cap,cur,h1,h2,h3,_⟩
 ·rw[h1] at hk;cases hk
 ·rw[h1] at hk;cases hk;rw[h3] at hg;cases hg;exact ht rfl
theorem dP.other{w:World}{x most g o:Nat}{out:L}{vo:Value}(h:dP w x most out vo)(hx:x≠g)(ho:∀k,vo.ownBlock=some k->k≠g)(v:Value):dP (w.setCell ⟨g,o,none⟩ v) x most out vo :=
 ⟨(bGK _ _ _ _ hx).trans h.blk,fB h.row fun k hk=>bGK _ _ _ _ (ho k hk)⟩
def nA(F:Nat->Nat)(n k:Nat):Nat->Nat:=fun i=>if i<n then F i else if i<k then 84 else F i
theorem aRM(F:Nat->Nat)(n k:Nat)(h:n<=k):aJT (nA F n k) k 84=nA F n (k+1):=by
 funext i
 unfold aJT nA;by_cases h1:i=k
 ·rw[bGV h1,bGU oM,bGV oM]
 ·rw[bGU h1];by_cases h2:i<n
  ·rw[bGV h2,bGV h2]
  ·rw[bGU h2,bGU h2];by_cases h3:i<k
   ·rw[bGV h3,bGV oM]
   ·rw[bGU h3,bGU oM]
theorem aJU(F:Nat->Nat)(n:Nat):nA F n n=F:=by
 funext i
 unfold nA;by_cases h:i<n<;>simp[h]
def aFU(most:Nat)(out:L)(F:Nat->Nat)(n:Nat):Res L:=if 4294967296<=uI (nA F n 5) 5 then .bad 3 else gZ most out ((aXN (uI (nA F n 5) 5)).take (n-1))
def bCK(w:World)(g x most:Nat)(R:Res L)(e:Ending)(w':World):Prop :=
 Below x w w'/\match R with
 |.good out=>e=.returned (.tuple #[])/\(∃vo,dP w' x most out vo)/\gK w' g (fun _=>0) 0
 |.bad k=>e=.panicked [{ v:=.iface 290 (.agg #[.int .i64 k]),recovered:=false }]
theorem aRN(a:Addr)(C:Nat)(hC:C<=4)(W:World):(Instr.sliceAt 257 (.pointer (some a)) none (some (.int .i64 (C:Nat))) none).run prog W=.ok (.slice (some a) C 4) W:=by
 have ht:prog.underlying 257=some (.array (prog.arrayLen 257) (prog.elem 257)):=kR;have hl:prog.arrayLen 257=4:=kR;have hs:(sizeOf (prog.elem 257)).run prog W=.ok 1 W:=kR;exact q483
theorem aMW(w:World)(g x most:Nat)(F:Nat->Nat)(n:Nat)(out:L)(vo:Value)(hG:gK w g F n)(hF:∀i,F i<=255)(hn2:2<=n)(hn5:n<=5)(hS:dP w x most out vo)(hxg:x<g)(hm:most<=1048576)(hl:out.length<=most)(hpow:kS w x) :
 Calls prog 199 #[.pointer (some ⟨g,0,none⟩),.pointer (some ⟨x,0,none⟩)] w (bCK w g x most (aFU most out F n)):=by
 obtain⟨R,hR⟩:=eX (aFU most out F n);rw[hR];unfold aFU at hR;obtain⟨F5,hF5⟩:=eX (nA F n 5);have hF5l:∀i,F5 i<=255:=by
  intro i;rw[<-hF5];unfold nA;have:=hF i;split
  ·exact this
  ·split
   ·decide
   ·exact this
 rw[hF5] at hR;have HR:=Lh hR;have HG:=Lh hG;have HS:=Lh hS;have g5:=hG.many;have gf:=hG.fro;have HSL:=Lh (aMV F5 hF5l);clear hR hG hS;go_enter func199,ntmps199
 go_wp2_with fail;go_loopw [4] (fun i wr=>∃k:Nat,n<=k/\k<=5/\i=.int .i64 k/\gK wr g (nA F n k) n/\dP wr x most out vo/\Below x w wr) (fun i _=>5-(intOf i).toNat)
 case atStart=>exact⟨n,bGB _,hn5,rfl,by rw[aJU];exact HG.out,HS.out,bGL _ _⟩
 case round =>
  clear HG HS g5 gf;obtain⟨k,hnk,hk5,rfl,hG,hS,hb⟩:=hrel;have HG:=Lh hG;have HS:=Lh hS;have HB:=Lh hb;have hgl:=bGJ hG;have g5:=hG.many;have gf:=hG.fro;clear hS hb;by_cases hk:k<5
  ·have gk:=hG.digit k hk;have ki:(k:Int)<5:=oM;have ho:=rE HS.out.row hG dC;clear hG;go_wp2;go_roundw
   case rel=>exact⟨k+1,oM,oM,q12,by rw[<-aRM F n k hnk];exact HG.out.set k 84 hk,HS.out.other oM ho _,HB.out.setCell (p:=⟨g,k,none⟩) (bGY hxg) _⟩
   case measure=>exact q339
  ·obtain rfl:k=5:=oM;rw[hF5] at hG HG;obtain⟨_,_,p0,p1,p2,p3,p4⟩:=hpow.below HB.out;have hd:∀i,i<5->wr.cell? ⟨g,i,none⟩=some (.int .u8 (F5 i:Nat)):=fun i hi=>hG.digit i hi
   have HD:=Lh hd;clear hd hG;go_wp2_with fail;go_loopw [5,23] (fun v i wx=>wx=wr/\∃k:Nat,k<=5/\i=.int .i64 k/\v=.int .u64 (uI F5 k:Nat)) (fun _ i _=>5-(intOf i).toNat)
   case atStart=>exact⟨rfl,0,bGF _,rfl,rfl⟩
   case round =>
    obtain⟨rfl,k,hk,rfl,rfl⟩:=hrel;by_cases hk5:k<5
    ·have gk:=HD.out k hk5;have ki:(k:Int)<5:=oM;have hpi:=fun(W:World)=>bEP k hk5 W
     have hfk:=hF5l k;have hpk:=aMU k;have hmul:F5 k*aCC k<=255*52200625:=Nat.mul_le_mul hfk hpk;have hsk:=HSL.out k;have HSU:=Lh (show uI F5 (k+1)=uI F5 k+F5 k*aCC k from rfl);obtain⟨D,hD⟩:=eX (F5 k);obtain⟨P,hP⟩:=eX (aCC k);obtain⟨S,hSS⟩:=eX (uI F5 k);rw[hD] at gk hfk hmul HSU;rw[hP] at hmul HSU;simp only[hP] at hpi;rw[hSS] at hsk HSU ⊢;have w1:IntKind.u64.wrap (D:Int)=D:=by rw[IntKind.wrap_u64];omega
     obtain⟨Q,hQ⟩:=eX (D*P);rw[hQ] at hmul HSU;have w2:IntKind.u64.wrap ((D:Int)*P)=Q:=by rw[<-Int.natCast_mul,hQ,IntKind.wrap_u64];omega
     have w3:IntKind.u64.wrap ((S:Int)+Q)=((S+Q:Nat):Int):=by rw[IntKind.wrap_u64];omega
     clear hD hP hSS hQ;go_wp2;go_roundw
     case rel=>exact⟨trivial,k+1,oM,q12,by rw[HSU.out];rfl⟩
     case measure=>exact q339
    ·obtain rfl:k=5:=oM;obtain⟨V,hV⟩:=eX (uI F5 5);have hR:=HR.out;rw[hV] at hR ⊢;have hVl:=HSL.out 5;rw[hV] at hVl;clear HR HSL HD hV p0 p1 p2 p3 p4;by_cases hbig:4294967296<=V
     ·have HRE:=Lh (show R=.bad 3 from by rw[<-hR,bGV hbig]);have d1:decide (V<4294967296)=false:=sO;have d2:decide ((V:Int)<4294967296)=false:=sO;clear hR;exact q362
     ·rw[bGU hbig] at hR;have HR:=Lh hR;have d1:decide (V<4294967296)=true:=sO;have d2:decide ((V:Int)<4294967296)=true:=sO;have e0:IntKind.u8.wrap ((V:Int)/16777216)=((UInt8.ofNat (V/16777216)).toNat:Int):=q210;have e1:IntKind.u8.wrap ((V:Int)/65536)=((UInt8.ofNat (V/65536)).toNat:Int):=q210;have e2:IntKind.u8.wrap ((V:Int)/256)=((UInt8.ofNat (V/256)).toNat:Int):=q210;have e3:IntKind.u8.wrap (V:Int)=((UInt8.ofNat V).toNat:Int):=q210;have hB4:aXN V=[UInt8.ofNat (V/16777216),UInt8.ofNat (V/65536),UInt8.ofNat (V/256),UInt8.ofNat V]:=rfl;obtain⟨c0,h0⟩:∃c,UInt8.ofNat (V/16777216)=c:=⟨_,rfl⟩
      obtain⟨c1,h1⟩:∃c,UInt8.ofNat (V/65536)=c:=⟨_,rfl⟩
      obtain⟨c2,h2⟩:∃c,UInt8.ofNat (V/256)=c:=⟨_,rfl⟩
      obtain⟨c3,h3⟩:∃c,UInt8.ofNat V=c:=⟨_,rfl⟩
      rw[h0] at e0;rw[h1] at e1;rw[h2] at e2;rw[h3] at e3;rw[h0,h1,h2,h3] at hB4;rw[hB4] at HR;obtain⟨C,hC⟩:=eX (n-1);rw[hC] at HR;have hnw:IntKind.i64.wrap ((n:Int)-1)=(C:Int):=q167;have hC4:C<=4:=oM;clear h0 h1 h2 h3 hB4 hR hbig;go_upto_region 12 with(go_at_call 196;(with_reducible refine(dS _ _).mono ?_);rintro e w9 ⟨rfl,h9⟩;obtain rfl:=h9.symm)
      obtain⟨w2,hw2⟩:=eX (wr.alloc (.cells #[.int .u8 c0.toNat,.int .u8 c1.toNat,.int .u8 c2.toNat,.int .u8 c3.toNat] 257));obtain⟨b,hb⟩:=eX (wr.heap.size);have hb2:Below wr.heap.size wr w2:=q171;have hlit:bC dV w2 (.slice (some ⟨b,0,none⟩) 4 4) [c0,c1,c2,c3]:=lX (ys:=[c0,c1,c2,c3]) (t:=257) (fr:=(0,0)) (by rw[<-hw2];exact aA _ _ _ hb.symm);have ho:=rE HS.out.row HG.out dC;have hz2:=hb2.size;have HG2:=Lh (show gK w2 g F5 n from(hb2.block g hgl).trans HG.out);have g5':=HG2.out.many;have gf':=HG2.out.fro;have hah:=fun(W:World)=>aRN ⟨b,0,none⟩ C hC4 W
      have hlC:([c0,c1,c2,c3].take C).length=C:=by rw[bGT];show min C 4=C;omega
      have HP:=Lh (aBX w2 x most out ([c0,c1,c2,c3].take C) _ vo (HS.out.below hb2) hm hl (bC.take hlit C hC4 4) oM oM);have HB2:=Lh (HB.out.trans (hb2.mono oM));rw[hw2];simp only[hb];clear hw2 hb2 hlit hlC g5 gf HG HS HB;go_wp2_with fail;refine HP.out.mono ?_;rintro e w3 ⟨⟨hb3,h3⟩,hk3⟩;have HB3:=Lh (HB2.out.trans hb3);have HG3:=Lh (show gK w3 g F5 n from(hk3 g oM oM (fun e=>ho g e rfl)).trans HG2.out);rw[HR.out] at h3;have hz3:=bGJ HG3.out;clear HP hb3 hk3 g5' gf';cases R with
      |bad k =>
       obtain rfl:=h3;go_wp2_with fail;exact⟨rfl,HB3.out,rfl⟩
      |good o2 =>
       obtain⟨rfl,v2,hV2⟩:=h3;have HV2:=Lh hV2;have ho2:=rE hV2.row HG3.out dC;have k0:=HG3.out.digit 0 dC;have k1:=HG3.out.digit 1 dC;have k2:=HG3.out.digit 2 dC;have k3:=HG3.out.digit 3 dC;have k4:=HG3.out.digit 4 dC;have k5:=HG3.out.many;have kf:=HG3.out.fro;have HF:=Lh ((((((HG3.out.set 0 0 dC).set 1 0 dC).set 2 0 dC).set 3 0 dC).set 4 0 dC).setN 0);have HV:=Lh ((((((hV2.other (o:=0) oM ho2 (.int .u8 ((0:Nat):Int))).other (o:=1) oM ho2 (.int .u8 ((0:Nat):Int))).other (o:=2) oM ho2 (.int .u8 ((0:Nat):Int))).other (o:=3) oM ho2 (.int .u8 ((0:Nat):Int))).other (o:=4) oM ho2 (.int .u8 ((0:Nat):Int))).other (o:=5) oM ho2 (.int .i64 ((0:Nat):Int)));clear hV2;go_wp2;go_end0
       refine⟨(((((HB3.out.setCell (p:=⟨g,0,none⟩) (bGY hxg) _).setCell (p:=⟨g,1,none⟩) (bGY hxg) _).setCell (p:=⟨g,2,none⟩) (bGY hxg) _).setCell (p:=⟨g,3,none⟩) (bGY hxg) _).setCell (p:=⟨g,4,none⟩) (bGY hxg) _).setCell (p:=⟨g,5,none⟩) (bGY hxg) _,rfl,⟨v2,HV.out⟩,?_⟩;have h:=HF.out;unfold gK aYC aJT at h;exact h
end Go.Proofs.YtdjpkgccakgkbaaGreatDoor
