/- Parts. -/
import Derived.Test.YtdjpkgccakgkbaaGreatDoorPeae
import Derived.Test.YtdjpkgccakgkbaaGreatDoorPep
import Derived.Test.YtdjpkgccakgkbaaGreatDoorPew
import Derived.Test.YtdjpkgccakgkbaaGreatDoorRows
import Derived.Lib.LaidU8
import Derived.Maps.Keyed
import Derived.WideKeyElems2
import Derived.Test.YtdjpkgccakgkbaaGreatDoorPeb
import Derived.ProofKit
import Derived.OpenShut
import Derived.Deep.DeepHandedRow
import Derived.Below
import Derived.ChangeSame
import Derived.ShutString
import Derived.ChangeMaps5
import Derived.SizedLaws
import Derived.LaidMore
set_option linter.all false
set_option maxRecDepth 100000
set_option maxHeartbeats 8000000
namespace Go.Proofs.YtdjpkgccakgkbaaGreatDoor
open Go.Proofs.Tryz
open Go.RowKit Fo Go.Maps
def ChR(w:World)(a:Int)(e:Ending)(w':World):Prop:=Below w.heap.size w w' /\
 ((∃k:Int,k≠0/\e=.returned (.tuple #[.slice none 0 0,.int .i64 k])) \/
  (∃(p:Option Addr) (n c:Nat) (vs:List bN) (ks:List Int),e=.returned (.tuple #[.slice p n c,.int .i64 0])/\bC aO w' (.slice p n c) vs/\vs.length=n/\vs.map bN.at'=ks/\ks.Nodup/\ks.length<=64/\ks[0]?=some a))
theorem aLC(s:ByteArray)(a:Int)(hwf:(Lit.int .i64 a).wf=true)(ha:a<=9223372036854775807)(hs:s.size<=100000000)(w:World)(m:Int)(hm:aF w m)(htab:fX w w.heap.size) :
 Calls prog 5 #[.string s,.int .i64 a] w (ChR w a):=by
 have hMl:=hm.lt;have hmk:∀w,(Instr.makeMap 44 none).run prog w=.ok (.map (some w.heap.size)) (w.alloc (.map #[] 0)):=fun _=>kR
 have hbA:Below w.heap.size w ((w.alloc (.map #[] 0)).alloc (.cells #[.string s,.map (some w.heap.size),.slice none 0 0] 46)):=bel;have hW0:eV ((w.alloc (.map #[] 0)).alloc (.cells #[.string s,.map (some w.heap.size),.slice none 0 0] 46)) (w.heap.size+1) s w.heap.size [] (w.heap.size+2) (.slice none 0 0) [] :=
  ⟨aA _ _ _ sI,(kA.made w).below bel,bF _ _,oM,oM,sI,rfl,List.nodup_nil,sI⟩
 have HAL:=Lh (aSZ _ _ s _ _ _ hW0 a hwf ha hs m (hm.below hbA) hMl (htab.below hbA));clear hW0 htab hwf ha;go_enter func5,ntmps5
 go_wp2_with fail;refine HAL.out.mono ?_;rintro e w1 ⟨hb1,⟨k,hk,rfl⟩|⟨rfl,v,vs,ks,hW,hlast⟩⟩
 ·have hbw1:=hbA.trans hb1;have dk:(k !=0)=true:=q93;clear HAL hbA hb1;go_wp2;exact bGN (v:=.tuple #[.slice none 0 0,.int .i64 k]) q266 rfl ⟨hbw1,.inl ⟨k,hk,rfl⟩⟩
 ·have hbw1:=hbA.trans hb1;obtain⟨p,c,rfl,hR⟩:=aG.arg hW.row;have HR:=Lh (bGQ (aG.arg hW.row) (bGQ hW.ats (bGQ hW.once (bGQ hW.few hlast))));obtain⟨b0,b1,b2,bf⟩:=cT hW.blk;clear HAL hbA hb1 hR hW hlast;go_wp2;obtain⟨q1,q2,q3,q4,q5⟩:=HR.out;refine bGN (v:=.tuple #[.slice p vs.length c,.int .i64 0]) q266 rfl ⟨hbw1,.inr ⟨p,vs.length,c,vs,ks.reverse,rfl,q1,rfl,q2,List.pairwise_reverse.2 (q3.imp fun h=>h.symm),by simpa using q4,?_⟩⟩;rw[<-List.head?_eq_getElem?,List.head?_reverse];exact q5
structure bEZ (w:World) (p:Option Addr) (n:Nat) (a:Int):Prop where
 few:n<=64
 some':1<=n
 ats:∃(g off:Nat) (zs:List Int),p=some ⟨g,off,none⟩/\g<w.heap.size/\zs.length=n/\zs[0]?=some a/\zs.Nodup/\∀i,(h:i<zs.length)->w.cell? ⟨g,off+i*11,none⟩=some (.int .i64 zs[i])
theorem aTE{w:World}{p:Option Addr}{n c:Nat}{vs:List bN}{ks:List Int}{a:Int}(hR:bC aO w (.slice p n c) vs)(hl:vs.length=n)(hm:vs.map bN.at'=ks)(hn:ks.Nodup)(hf:ks.length<=64)(h0:ks[0]?=some a):bEZ w p n a:=by
 have hlen:ks.length=n:=by rw[<-hm,List.length_map,hl]
 have h1:0<ks.length:=(List.getElem?_eq_some_iff.1 h0).1;refine⟨oM,oM,?_⟩;obtain⟨x,hx⟩:∃x,vs[0]?=some x:=⟨_,bGE oM⟩
 obtain⟨g,off,rfl,hg,_⟩:=vT hR 0 x hx;refine⟨g,off,ks,rfl,hg,hlen,h0,hn,fun i hi=>?_⟩;have hi2:i<vs.length:=oM;obtain⟨g',off',e,_,a0,_⟩:=vT hR i vs[i] (bGE hi2);cases e;rw[a0];subst hm;simp
theorem aCR(w:World)(s:ByteArray)(a:Int)(hwf:(Lit.int .i64 a).wf=true)(ha:a<=9223372036854775807)(m:Int)(hm:aF w m)(htab:fX w w.heap.size) :
 Calls prog 3 #[.string s,.int .i64 a] w fun e w'=>e=.returned (.bool true)/\Below w.heap.size w w':=by
 have HL:=Lh (fun(W:World) (hW:aF W m)=>aZQ W m hW);by_cases h3:3000<s.size
 ·have d0:decide (3000<s.size)=true:=bGI h3;clear htab;go_enter func3,ntmps3
  go_wp2_with fail;refine(HL.out _ hm).mono ?_;rintro e w2 ⟨rfl,hb2⟩;go_wp2;go_ret
  exact⟨rfl,hb2⟩
 ·have d0:decide (3000<s.size)=false:=bGH h3;have HR:=Lh (aLC s a hwf ha oM w m hm htab);clear htab hwf ha;go_enter func3,ntmps3
  go_wp2_with fail;refine HR.out.mono ?_;rintro e w1 ⟨hb1,⟨k,hk,rfl⟩|⟨p,n,c,vs,ks,rfl,q1,q2,q3,q4,q5,q6⟩⟩
  ·have dk:(k !=0)=true:=q93;have hm1:=hm.below hb1;clear HR;go_wp2_with fail;refine(HL.out _ hm1).mono ?_;rintro e w2 ⟨rfl,hb2⟩;go_wp2;go_ret
   exact⟨rfl,hb1.trans (hb2.mono hb1.size)⟩
  ·have hO:=aTE q1 q2 q3 q4 q5 q6;have hm1:=hm.below hb1;clear HR q1 q2 q3 q4 q5 q6 vs ks;obtain⟨hn1,hn2,g,off,zs,rfl,hg,hzl,hz0,hzn,hcs⟩:=hO;have c0:=hcs 0 oM;have hz0':zs[0]=a:=by
    rw[bGE oM] at hz0;exact Option.some.inj hz0
   rw[hz0'] at c0;simp only[Nat.zero_mul,Nat.add_zero] at c0;have d1:decide (n<1)=false:=bGH oM;have d2:decide (64<n)=false:=bGH oM;have HC:=Lh (bGQ hzl (bGQ hzn hcs));clear hzl hz0 hzn hcs hz0';go_wp2_with fail;go_loopw [7] (fun i wr=>∃(i':Nat),i'<=n/\i=.int .i64 i'/\Below w1.heap.size w1 wr) (fun i _=>n-(intOf i).toNat)
   case atStart=>exact⟨0,bGF _,rfl,bGL _ _⟩
   case round =>
    obtain⟨i,hi,rfl,hbr⟩:=hrel;by_cases hin:i<n
    ·go_wp2_with fail;go_loopw [8] (fun k wr2=>∃(k':Nat),k'<=i/\k=.int .i64 k'/\Below w1.heap.size w1 wr2) (fun k _=>i-(intOf k).toNat)
     case atStart=>exact⟨0,bGF _,rfl,hbr⟩
     case round =>
      obtain⟨k,hk,rfl,hbr2⟩:=hrel;clear hbr;by_cases hki:k<i
      ·obtain⟨hzl,hzn,hcs⟩:=HC.out;have e1:=(hbr2.cell (p:=⟨g,off+k*11,none⟩) hg).trans (hcs k oM);have e2:=(hbr2.cell (p:=⟨g,off+i*11,none⟩) hg).trans (hcs i oM);obtain⟨X,hX⟩:=eX (zs[k]' oM);obtain⟨Y,hY⟩:=eX (zs[i]' oM);have hne:X≠Y:=by
        rw[<-hX,<-hY];exact List.pairwise_iff_getElem.1 hzn k i oM oM hki
       rw[hX] at e1;rw[hY] at e2;have dxy:(X==Y)=false:=by simpa using hne
       have hkn:k<n:=oM;clear hzl hzn hcs hX hY hne c0;go_upto_region 14 with fail
       go_region
       all_goals go_wp2
       all_goals go_roundw
       case rel=>exact⟨k+1,oM,q12,aN hbr2 _⟩
       case measure=>exact q339
      ·obtain rfl:k=i:=oM;go_wp2;go_roundw
       case rel=>exact⟨k+1,oM,q12,hbr2⟩
       case measure=>exact q339
    ·obtain rfl:i=n:=oM;clear c0;have hm2:=hm1.below hbr;go_wp2_with fail;refine(HL.out _ hm2).mono ?_;rintro e w2 ⟨rfl,hb2⟩;go_wp2;go_ret
     exact⟨rfl,hb1.trans ((hbr.trans (hb2.mono hbr.size)).mono hb1.size)⟩
open Go.ChangeShapes Go.WideShapes
theorem aGV{W:World}{n:String}{cs:Array Value}{g:Nat}(hg:prog.globalNamed n=some g)(h:W.var? prog n=some cs):g<W.heap.size/\∀(i:Nat) (v:Value),cs[i]?=some v->W.cell? ⟨g,i,none⟩=some v:=by
 unfold World.var? at h;rw[hg] at h;simp only[Option.bind_some] at h;split at h
 ·rename_i cs' t f hb
  cases h;exact⟨bGJ hb,fun i v hi=>by simp[World.cell?,hb,hi]⟩
 ·cases h
theorem aGW{W:World}{n:String}{g:Nat}{t e:TypeId}{m:Nat}{k:IntKind}{zs:List Int}(hg:prog.globalNamed n=some g)(hty:(prog.globals[g]?).map (·.type)=some t)(ht:prog.underlying t=some (.array m e))(he:prog.underlying e=some (.int k))
 (hce:prog.cellsOf e=1) (hct:prog.cellsOf t=m) (h:Lib.VarReads prog W n (Lib.tabData k zs)):g<W.heap.size/\∀(i:Nat) (z:Int),zs[i]?=some z->W.cell? ⟨g,i,none⟩=some (.int k z):=by
 obtain⟨g',t',cs,fuel,p,h1,h2,h3,h4⟩:=h;obtain rfl:=Option.some.inj (hg.symm.trans h1);obtain rfl:=Option.some.inj (hty.symm.trans h2);have hcs:=Lib.cells_of_tab ht he hce hct h4;obtain⟨q1,q2⟩:=aGV hg h3;refine⟨q1,fun i z hz=>q2 i _ ?_⟩;rw[<-Array.getElem?_toList,hcs,List.getElem?_map,hz];rfl
theorem aZR {W : World} (h : Lib.VarReads prog W "foliant/inflate.order" Rows.laid_foliant_inflate_order) : iQ W W.heap.size := by
 obtain⟨h1,h2⟩:=aGW (g:=4) (t:=363) (e:=3) (m:=19) (k:=.i64) (zs:=[16,17,18,0,8,7,9,6,10,5,11,4,12,3,13,2,14,1,15]) kR kR underlying363 underlying3 kR kR h;refine⟨h1,bGB _,fun i hi=>h2 i _ ?_⟩;have key:∀i,i<19->([16,17,18,0,8,7,9,6,10,5,11,4,12,3,13,2,14,1,15]:List Int)[i]?=some ((gX.getD i 0:Nat):Int):=dC
 exact key i hi
theorem aZS {W : World} (h : Lib.VarReads prog W "foliant/ascii.powers" Rows.laid_foliant_ascii_powers) : kS W W.heap.size := by
 obtain⟨h1,h2⟩:=aGW (g:=0) (t:=259) (e:=186) (m:=5) (k:=.u64) (zs:=[52200625,614125,7225,85,1]) kR kR underlying259 underlying186 kR kR h;exact⟨h1,bGB _,h2 0 _ rfl,h2 1 _ rfl,h2 2 _ rfl,h2 3 _ rfl,h2 4 _ rfl⟩
theorem aLD{v:Value}(h:Value.formed prog 426 v=true):∃cs,v=.agg cs:=by
 unfold Value.formed at h;split at h
 ·exact⟨_,rfl⟩
 ·cases h
 ·split at h
  ·cases h
  ·cases h
  ·rename_i h1 h2
   exact absurd underlying426 (h1 _)
theorem aTF{W:World}{fuel:Nat}{v:Value}{a b:Int}{p:List MemPlace}{sp:Nat->Bool}(h:Go.WideElems.elemAt (fun _=>()) prog W 0 sp false fuel 426 v=some (.agg [.lit (.int .i64 a),.lit (.int .i64 b)],p)):v=.agg #[.int .i64 a,.int .i64 b]:=by
 unfold Go.WideElems.elemAt at h;split at h
 ·rename_i hf
  have hcs:=Lib.ints_of_struct (k:=.i64) (zs:=[a,b]) underlying426 (fun j f hj=>by
   match j,hj with
   |0,hj=>simp at hj;subst hj;exact⟨underlying3,rfl,kR⟩
   |1,hj=>simp at hj;subst hj;exact⟨underlying3,rfl,kR⟩
   |j+2,hj=>simp at hj) kR h
  obtain⟨cs,rfl⟩:=aLD hf;have h3:cs=#[.int .i64 a,.int .i64 b]:=Array.toList_inj.1 hcs;exact congrArg Value.agg h3
 ·cases h
def aLE:List (Lit×DataW Unit):=[(.int .i64 16,.agg [.lit (.int .i64 3),.lit (.int .i64 2)]),(.int .i64 17,.agg [.lit (.int .i64 3),.lit (.int .i64 3)]),(.int .i64 18,.agg [.lit (.int .i64 11),.lit (.int .i64 7)])]
theorem aGX{x:Nat}(hx:x<16)(zd:DataW Unit):(DataW.map aLE).atKey (.int .i64 (x:Nat)) zd=zd:=by
 refine Go.WideAt.atKey_none zd (fun p hp=>?_);simp only[aLE,List.mem_cons,List.not_mem_nil,or_false] at hp;rcases hp with rfl|rfl|rfl
 all_goals (intro e;simp at e;omega)
theorem aZT {W : World} (h : Lib.VarReads prog W "foliant/inflate.repeats" Rows.laid_foliant_inflate_repeats) : iK W W.heap.size := by
 obtain⟨g,t,cs,fuel,p,h1,h2,h3,h4⟩:=h
 obtain rfl := Option.some.inj ((show prog.globalNamed "foliant/inflate.repeats" = some 5 from kR).symm.trans h1)
 obtain rfl:=Option.some.inj ((show(prog.globals[5]?).map (·.type)=some 428 by kernel_rfl).symm.trans h2);obtain⟨q1,q2⟩:=aGV h1 h3;rcases Go.WideElems.open_map underlying428 h4 with⟨_,hx⟩|⟨b,es,clock,n,rfl,hcs,hb,_,F,hx⟩
 ·cases hx
 ·have hE:(es.toList.map (Go.WideElems.rg prog 3 (Go.WideElems.elemAt (fun _=>()) prog W 0 (fun _=>true) false n 426))).foldr DataW.insert []=aLE := by
   have h:=congrArg Prod.fst hx;simp only[Rows.laid_foliant_inflate_repeats,DataW.map.injEq] at h;exact h.symm
  refine⟨q1,b,es,clock,bGJ hb,bGB _,q2 0 _ (by rw[<-Array.getElem?_toList,hcs];rfl),hb,fun W' hW' x hx=>?_⟩;have hwf:(Lit.int .i64 (x:Nat)).wf=true:=q124;have hz:(zeroValue 426).run prog W'=.ok (.agg #[.int .i64 0,.int .i64 0]) W':=kR;have hl:=fit_look true (int_keyed underlying3) underlying428 hz hW' F (keyOf_int_mk underlying3 hwf);rw[hE] at hl;simp only[if_true] at hl;by_cases hx16:x<16
  ·have e1:sS x=0:=by unfold sS;rw[bGU oM,bGU oM,bGU oM]
   have e2:zQ x=0:=by unfold zQ;rw[bGU oM,bGU oM,bGU oM]
   rw[e1,e2,bGH oM];rcases hl with⟨hr,_⟩|⟨e0,y,_,_,_,_,hat,_⟩
   ·exact hr
   ·have k1:=(aGX hx16 .nil).symm.trans (hat .nil);have k2:=(aGX hx16 (.lit (.bool true))).symm.trans (hat (.lit (.bool true)));rw[<-k1] at k2;cases k2
  ·rw[bGI oM];rcases(show x=16\/x=17\/x=18 from oM) with rfl|rfl|rfl
   all_goals rcases hl with⟨_,_,hat⟩|⟨e0,⟨y,yp⟩,_,_,hr,hR,hat,_⟩
   all_goals first
    |(have k1:=hat .nil;cases k1;done)
    | (have k1 := hat .nil
       rw[hr];have k2:y=_:=k1.symm;rw[k2] at hR;rw[aTF hR];rfl)
theorem aZU{W:World}(hL:laidMet prog Rows.chainOnceRow.laid W):fX W W.heap.size :=
 ⟨aZT (Lib.laidMet.reads hL (by simp[Rows.chainOnceRow])),aZR (Lib.laidMet.reads hL (by simp[Rows.chainOnceRow])),aZS (Lib.laidMet.reads hL (by simp[Rows.chainOnceRow]))⟩
open Go.ChangeAt
theorem ownK:ownKnob prog.godebug=none:=kR
theorem bDK{W:World}(h:W.ShapedOpen prog):∃m,aF W m:=Tryz.laysM143.s1_3 W h
theorem aLF{H:Type}{enc:TypeId×Value->H}{P:Program}{f:Func}{s:ChangeSpec}{apart fresh handsOn again:Bool}{W W':World}{args:Array Value}{v:Value}{ds gs:List (DataW H)}{before pa pv:List MemPlace}
 (hW:DataW.Whole enc P f.params.toList s.vars apart W args.toList ds gs before)
 (hres:∀(b:Nat) (sp:Nat->Bool) (hd:Bool),DataW.TrodAll enc P W' b sp hd f.resultTypes.toList (v.resultList f.resultTypes.size) (s.fn H (ds++gs)).results [])
 (hargs:∀sp:Nat->Bool,(∀p∈before,sp p.block=true)->DataW.TrodAll enc P W' 0 sp true f.params.toList args.toList (s.fn H (ds++gs)).args pa)
 (hvars:∀sp:Nat->Bool,(∀p∈before,sp p.block=true)->DataW.TrodVars enc P W' sp s.vars (s.fn H (ds++gs)).vars pv)
 (hps:before=pa++pv) (hb:Below W.heap.size W W')
 (hok:∀(j:Nat) (t:TypeId) (r:Value),f.resultTypes[j]?=some t->(v.resultList f.resultTypes.size)[j]?=some r->Value.okWide P W' .any 0 t r) :
 s.post enc P f apart fresh handsOn again W args v W':=by
 have hlt:∀p∈before,p.block<W.heap.size:=fun p hp=>hW.lt p hp
 have hold:∀p∈before,(fun b=>decide (b<W.heap.size)) p.block=true:=fun p hp=>by simpa using hlt p hp
 refine⟨ds,gs,before,[],pa,pv,hW,hres _ _ _,hargs _ hold,hvars _ hold,World.keptBut_mono (fun p hp=>⟨hp,?_⟩) (hb.frame (·∈before)),fun _=>?_⟩
 ·rw[hps,List.mem_append] at hp;exact Or.inr hp
 ·obtain⟨_,_,_,_,_,hz,hn⟩:=hW;refine⟨hok,_,_,([]++pa)++pv,⟨[]++pa,pv,trodAll_append (hargs _ (fun _ _=>rfl)) (hres _ _ _),hvars _ (fun _ _=>rfl),rfl,?_,?_⟩,?_⟩
  ·intro b off hp;have hin:MemPlace.cell b off∈before:=by rw[hps];simpa using hp
   rw[hb.frozen (hlt _ hin)];exact hz b off hin
  ·intro ha;have:=hn ha;rw[hps] at this;simpa using this
  ·intro p hp _;rw[hps];simpa using hp
def aLG:Array Value:=(Go.Pinned.utf8FirstZ.map fun(n:Nat)=>Value.int .u8 n).toArray
def aLH:Array Value:=(([128,191,160,191,128,159,144,191,128,143]++List.replicate 22 0).map fun(n:Nat)=>Value.int .u8 n).toArray
def aZV(cs:Array Value):Go.Obj->Go.Obj
 |.cells _ t frozen=>.cells cs t frozen
 |o=>o
def aZW:Array Value:=(([16,17,18,0,8,7,9,6,10,5,11,4,12,3,13,2,14,1,15]:List Nat).map fun(n:Nat)=>Value.int .i64 n).toArray
def aZX:Array Value:=(([52200625,614125,7225,85,1]:List Nat).map fun(n:Nat)=>Value.int .u64 n).toArray
def aLI:Array MapEntry:=#[⟨.int .i64 16,.agg #[.int .i64 3,.int .i64 2],0⟩,⟨.int .i64 17,.agg #[.int .i64 3,.int .i64 3],1⟩,⟨.int .i64 18,.agg #[.int .i64 11,.int .i64 7],2⟩]
noncomputable def laidWorld(os:Os):World :=
 let w0:=World.holding prog os ⟨#[],#[],[]⟩
 { w0 with heap:=(((((w0.heap.modify 2 (aZV aLG)).modify 3 (aZV aLH)).modify 4 (aZV aZW)).modify 0 (aZV aZX)).modify 5 (aZV #[.map (some w0.heap.size)])).push (.map aLI 3) }
