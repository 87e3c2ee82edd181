/- Parts of the proof: LexA Unhex Name Esc Str Bld Text Word Whole Face FixA FixB. -/
import Derived.Test.YtdjpkgccakgkbaaGreatDoorPea
import Derived.Deep.QuietTactic
import Derived.BigQuiet
import Derived.Deep.RegionWith
import Derived.Lib.IndexAny
import Derived.Recover
import Derived.Defers
set_option linter.all false
set_option maxRecDepth 100000
set_option maxHeartbeats 8000000
section
variable{p:Prop}
theorem q23(h:p:=by simp[aHB,go_sem]):p:=h
theorem q25(h:p:=by rw[ex2 s k h];decide):p:=h
theorem q26(h:p:=by unfold maxLen;omega):p:=h
theorem q27(h:p:=by simp[results,results90,go_sem,hc2,hf2,hc,hf]):p:=h
theorem q28(h:p:=by rw[HX.out];rfl):p:=h
theorem q29(h:p:=by unfold maxLen;simp[ByteArray.size];omega):p:=h
theorem q30(h:p:=by simpa[ByteArray.size] using h127):p:=h
theorem q31(h:p:=by simp[ByteArray.size];omega):p:=h
theorem q32(h:p:=by unfold maxLen;show _<=_;omega):p:=h
theorem q33(h:p:=by rw[<-hw1];exact bel):p:=h
theorem q34(h:p:=by rw[<-hw1];simp[go_sem]):p:=h
theorem q35(h:p:=by simp[results,results89,go_sem,hc4,hf4,d0,d1,d2,d3,d4,df]):p:=h
theorem q36(h:p:=by simp[ByteArray.size]):p:=h
theorem q37(h:p:=by simpa using h1):p:=h
theorem q38(h:p:=by simpa using hc):p:=h
theorem q319(h:p:=by
 by_cases h127:acc2.length<=32767
 ·go_wp2_with(first|(go_at_call 127;refine(qC s a 3 _ _ 32767 q29 _ q30).mono ?_;rintro e w4 ⟨rfl,hb4⟩;replace hb4:=hb3.trans (hb4.mono hB3);obtain⟨hc4,hf4⟩:=aQ hb4))
  refine bGN (v:=.tuple #[.agg #[.int .i64 3,.int .i64 a,.int .i64 (k+1),.int .i64 0,.string ⟨acc2.toArray⟩],.int .i64 0]) q35 rfl ⟨?_,bel⟩;rw[HX.out];simp only[tB,nC,bGU (show¬32767<acc2.length by omega),mG];congr;omega
 ·go_wp2_with(first|(go_at_call 127;refine(lL s a 3 _ _ 32767 q29 _ q31).mono ?_;rintro e w4 ⟨rfl,hb4⟩;replace hb4:=hb3.trans (hb4.mono hB3);obtain⟨hc4,hf4⟩:=aQ hb4))
  refine bGN (v:=.tuple #[.agg #[.int .i64 0,.int .i64 0,.int .i64 0,.int .i64 0,.string ⟨#[]⟩],.int .i64 5]) q35 rfl ⟨?_,bel⟩;rw[HX.out];simp only[tB,nC,bGV (show 32767<acc2.length from oM),mG]):p:=h
theorem q336(h:p:=by
 have HX:=Lh hX;clear hX;go_wp2_with fail;rw[aCW _ _ q23];go_wp2;go_ret2
 refine⟨?_,bel⟩;rw[HX.out];simp[aHD,hj0,vE,go_sem];exact bDQ v):p:=h
theorem q346(h:p:=by
 refine callsD_of_wpS func179 rfl fun c₀ cs hu=>?_
 simp only[ntmps179,List.size_toArray,bHA,List.length_nil,Nat.reduceAdd,Nat.reduceSub,Array.replicate_succ,Array.replicate_zero,List.push_toArray,List.append_toArray,List.nil_append,List.cons_append];apply wpS_seq
 apply wpS_region
 simp[wpOpsS,go_sem,recoverD,hu,ntmps179,Exit.thenS];refine wpS_of_wp ?_;go_wp2;cases c₀;simp_all [bodyPostS,results,results179]):p:=h
theorem q412(h:p:=by refine bGN (v:=.tuple #[.agg #[.int .i64 0,.int .i64 0,.int .i64 0,.int .i64 0,.string ⟨#[]⟩],.int .i64 4]) (by simp[results,results91,go_sem,hc3,hf3,d0,d1,d2,d3,d4,df]) rfl ⟨q28,bel⟩):p:=h
theorem q415(h:p:=by refine bGN (v:=.tuple #[.agg #[.int .i64 0,.int .i64 0,.int .i64 0,.int .i64 0,.string ⟨#[]⟩],.int .i64 3]) (by simp[results,results90,go_sem,hc3,hf3,hc,hf]) rfl ⟨q28,bel⟩):p:=h
theorem q418(h:p:=by
 go_wp2;go_end0
 exact⟨rfl,rfl⟩):p:=h
theorem q423(h:p:=by
 subst hj0;have HX:=Lh hX;clear hX;go_wp2;go_ret2
 refine⟨?_,bel⟩;rw[HX.out];simp[aHD];exact aNW s p hp):p:=h
theorem q435(h:p:=by
 go_enter func131,ntmps131
 go_wp2_with(go_at_call 174;refine(bAB _ _ oM hs'.out _).mono ?_;rintro e w' ⟨rfl,rfl⟩)
 go_ret2
 exact⟨sI,bel⟩):p:=h
theorem q436(h:p:=by exact⟨rfl,rfl,rfl⟩):p:=h
theorem q489(h:p:=by
 rw[lM s k tt oM ht,hc,lM s (k+1) tt oM ht,lM s (k+2) tt oM ht];simp[bZ,h2]):p:=h
theorem q492(h:p:=by
 induction l with
 |nil=>simp[iS]
 |cons c l ih=>simp only[iS,bHA];split<;>omega):p:=h
theorem q508(h:p:=by
 go_wp2;go_ret2
 exact⟨q28,bel⟩):p:=h
theorem q523(h:p:=by
 have:=rX (fun c=>!aR c||!iF c) q8 c;simp[h] at this;exact this):p:=h
theorem q548(h:p:=by rwa [Int.toNat_of_nonneg h0,Int.toNat_of_nonneg h2] at this):p:=h
theorem q584(h:p:=by
 by_cases hj0:j=0
 ·exact q423
 ·skip
  have hgt:(p:Int)<p+j:=oM;exact q336):p:=h
theorem q596(h:p:=by
 have hj0:¬j=0:=oM;have hgt:(p:Int)<p+j:=oM;exact q336):p:=h
end
namespace Go.Proofs.YtdjpkgccakgkbaaGreatDoor
open Go.Proofs.Tryz
open Go.RowKit Fo
theorem vD(c:UInt8)(b:Bool)(h:fO c=b)(w:World) :
 Calls prog 173 #[.int .u8 c.toNat] w fun e w'=>e=.returned (.bool b)/\w'=w:=h▸aCT c w
theorem aLL(l:L):iS l<=l.length:=by
 exact q492
theorem aTN(s:ByteArray)(c a:Nat)(ha:a<=s.size)(hs:s.size<=maxLen)(w:World) :
 Calls prog 129 #[.agg #[.string s,.int .i64 c],.int .i64 a] w fun e w'=>e=.returned (.int .i64 (a+iS (s.data.toList.drop a):Nat))/\Below w.heap.size w w':=by
 unfold maxLen at hs;obtain⟨T,hT⟩:=eX (a+iS (s.data.toList.drop a));rw[hT];have HT:=Lh hT;clear hT;go_enter func129,ntmps129
 go_wp2;go_loop [1] (fun p=>∃(k:Nat),k<=s.size/\p=.int .i64 k/\Hid (k+iS (s.data.toList.drop k)=T)) (fun p=>s.size-(intOf p).toNat)
 case atStart=>exact⟨a,ha,rfl,HT⟩
 case round =>
  obtain⟨k,hk,rfl,H⟩:=hrel;clear HT;by_cases hlt:k<s.size
  ·have H1:=H.out;rw[aV s k hlt] at H1;have H2:=Lh H1;clear H1 H;cases hr:fO s[k]
   ·have HR:=Lh hr;clear hr;go_wp2_with(go_at_call 173;refine(vD _ _ HR.out _).mono ?_;rintro e w' ⟨rfl,rfl⟩)
    go_ret
    exact⟨eA (by have:=H2.out;simp[iS,HR.out] at this;omega),(bGL _ _).alloc (bGB _) _⟩
   ·have HR:=Lh hr;clear hr;go_wp2_with(go_at_call 173;refine(vD _ _ HR.out _).mono ?_;rintro e w' ⟨rfl,rfl⟩)
    go_round
    case rel=>exact⟨k+1,oM,q12,by have:=H2.out;simp[iS,HR.out] at this;show _=_;omega⟩
    case measure=>exact q339
  ·have hk2:k=s.size:=oM;subst hk2;have H1:=Lh (show s.size=T by have:=H.out;rw[List.drop_eq_nil_of_le sI] at this;simpa[iS] using this);clear H;go_wp2;go_ret
   exact⟨eA (by rw[H1.out]),(bGL _ _).alloc (bGB _) _⟩
theorem aLM(s:ByteArray)(a n:Nat)(ha:a+n<=s.size)(hs:s.size<=maxLen)(w:World) :
 Calls prog 88 #[.agg #[.string s,.int .i64 a],.int .i64 n] w fun e w'=>e=.returned (.tuple #[.agg #[.int .i64 6,.int .i64 a,.int .i64 (a+n:Nat),.int .i64 0,.string (s.extract a (a+n))],.int .i64 0])/\Below w.heap.size w w':=by
 unfold maxLen at hs;go_enter func88,ntmps88
 go_wp2;go_region
 go_wp2;refine bGN (v:=.tuple #[.agg #[.int .i64 6,.int .i64 a,.int .i64 (a+n),.int .i64 0,.string (s.extract a (a+n))],.int .i64 0]) (by simp[results,results88,go_sem]) rfl ⟨sI,bel⟩
theorem qC(s:ByteArray)(a:Nat)(k tt:Int)(t:ByteArray)(most:Nat)(ht:t.size<=maxLen)(w:World)(h:t.size<=most) :
 Calls prog 127 #[.agg #[.string s,.int .i64 a],.int .i64 k,.int .i64 tt,.string t,.int .i64 most] w fun e w'=>e=.returned (.tuple #[.agg #[.int .i64 k,.int .i64 a,.int .i64 tt,.int .i64 0,.string t],.int .i64 0])/\Below w.heap.size w w':=by
 unfold maxLen at ht;go_enter func127,ntmps127
 go_wp2;refine bGN (v:=.tuple #[.agg #[.int .i64 k,.int .i64 a,.int .i64 tt,.int .i64 0,.string t],.int .i64 0]) (by simp[results,results127,go_sem]) rfl ⟨rfl,bel⟩
theorem cV(e:Int)(w:World) :
 Calls prog 86 #[.int .i64 e] w fun x w'=>x=.returned (.tuple #[.agg #[.int .i64 0,.int .i64 0,.int .i64 0,.int .i64 0,.string ⟨#[]⟩],.int .i64 e])/\Below w.heap.size w w':=by
 go_enter func86,ntmps86
 go_wp2;refine bGN (v:=.tuple #[.agg #[.int .i64 0,.int .i64 0,.int .i64 0,.int .i64 0,.string ⟨#[]⟩],.int .i64 e]) (by simp[results,results86,go_sem]) rfl ⟨rfl,bel⟩
theorem lL(s:ByteArray)(a:Nat)(k tt:Int)(t:ByteArray)(most:Nat)(ht:t.size<=maxLen)(w:World)(h:most<t.size) :
 Calls prog 127 #[.agg #[.string s,.int .i64 a],.int .i64 k,.int .i64 tt,.string t,.int .i64 most] w fun e w'=>e=.returned (.tuple #[.agg #[.int .i64 0,.int .i64 0,.int .i64 0,.int .i64 0,.string ⟨#[]⟩],.int .i64 5])/\Below w.heap.size w w':=by
 unfold maxLen at ht;go_enter func127,ntmps127
 go_wp2_with(go_at_call 86;refine(cV _ _).mono ?_;rintro e w1 ⟨rfl,hb⟩;obtain⟨hc,hf⟩:=aZ hb;have hz:=hb.size;simp at hz)
 refine bGN (v:=.tuple #[.agg #[.int .i64 0,.int .i64 0,.int .i64 0,.int .i64 0,.string ⟨#[]⟩],.int .i64 5]) (by simp[results,results127,go_sem,hc,hf]) rfl ⟨rfl,bel⟩
theorem mk1:∀w:World,(Instr.makeSlice 196 (.int .i64 0) (.int .i64 1)).run prog w=.ok (.slice (some ⟨w.heap.size,0,none⟩) 0 1) (w.alloc (.cells #[.int .u8 0] 5)):=fun _=>kR
theorem aNS(s:ByteArray)(hsz:s.size=2)(p0:0<s.size)(p1:1<s.size)(h:bI s[0]<(0:Int)\/bI s[1]<(0:Int))(w:World) :
 Calls prog 130 #[.string s] w fun e w'=>e=.returned (.tuple #[.string ⟨#[]⟩,.int .i64 3])/\Below w.heap.size w w':=by
 have hmk:=mk1;unfold bI at h;go_enter func130,ntmps130
 go_wp2;refine wp_loop_rounds 1 ?_;rw[rounds_succ];go_wp2;go_quiet ((go_at_call 128;exact bHD (rZ _ (UInt8.toNat_lt _) _)))
 go_wp2;all_goals (try (exfalso;omega))
 all_goals go_ret2
 all_goals exact⟨rfl,bel⟩
def vE:Option Value->UInt8
 |some (.int .u8 n)=>UInt8.ofNat n.toNat
 |_=>0
def aHB:Option Value->Bool
 |some (.int .u8 _)=>true
 |_=>false
theorem aCW(w:World)(g:Nat)(h:aHB (w.cell? ⟨g,0,none⟩)=true):(Go.convert 196 9 (.slice (some ⟨g,0,none⟩) 1 1)).run prog w=.ok (.string ⟨#[vE (w.cell? ⟨g,0,none⟩)]⟩) w:=by
 obtain⟨n,hn⟩:∃n,w.cell? ⟨g,0,none⟩=some (.int .u8 n):=by
  revert h;generalize w.cell? ⟨g,0,none⟩=x;intro h
  unfold aHB at h;split at h
  ·exact⟨_,rfl⟩
  ·simp at h
 rw[run_convert_bytes_string w _ _ 5 _ _ _ underlying196 underlying5 underlying9];rw[run_bytesToString w _ _ _ [n],hn]
 ·rfl
 ·have hc := run_loadCells_list (P := prog) (w := w) ⟨g,0,none⟩ [Value.int .u8 n] (by
   intro j u hj;rcases j with _|j
   ·simp at hj;subst hj;exact hn
   ·simp at hj)
  simpa using hc
theorem nib:∀d,d<16->∀e,e<16->bits BinOp.or IntKind.i64 (wrap64 ((d:Nat)*16)) (e:Nat) % 256=16*(d:Int)+e:=q8
theorem bAE{d e:Int}(h0:0<=d)(h1:d<16)(h2:0<=e)(h3:e<16):bits BinOp.or IntKind.i64 (wrap64 (d*16)) e % 256=16*d+e:=by
 have:=nib d.toNat oM e.toNat oM;exact q548
theorem nI(c:Nat):digit c<16:=by unfold digit;repeat' split<;>omega
theorem aHC(s:ByteArray)(hsz:s.size=2)(p0:0<s.size)(p1:1<s.size)(ha:(0:Int)<=bI s[0])(hb:(0:Int)<=bI s[1])(w:World) :
 Calls prog 130 #[.string s] w fun e w'=>e=.returned (.tuple #[.string ⟨#[UInt8.ofNat ((16:Int)*bI s[0]+bI s[1]).toNat]⟩,.int .i64 0])/\Below w.heap.size w w':=by
 have hmk:=mk1;have h0:decide (digit s[0].toNat<0)=false:=by unfold bI at ha;simpa using ha
 have h1:decide (digit s[1].toNat<0)=false:=by unfold bI at hb;simpa using hb
 unfold bI at *
 go_enter func130,ntmps130
 go_wp2;refine wp_loop_rounds 2 ?_;rw[rounds_succ];go_wp2;go_quiet ((go_at_call 128;exact bHD (rZ _ (UInt8.toNat_lt _) _)))
 go_wp2_with fail;rw[rounds_succ];go_wp2;rw[aCW _ _ q23];go_wp2;go_ret2
 refine⟨?_,bel⟩;have hn:=bAE ha (nI s[0].toNat) hb (nI s[1].toNat);simp[vE,hn,go_sem]
theorem ex2(s:ByteArray)(k:Nat)(h:k+3<=s.size):(s.extract (k+1) (k+3)).size=2:=sO
theorem uN(s:ByteArray)(k j:Nat)(h:k+3<=s.size)(hj:j<(s.extract (k+1) (k+3)).size)(hj2:k+1+j<s.size):(s.extract (k+1) (k+3))[j]=s[k+1+j]:=by
 exact ByteArray.getElem_extract ..
theorem aNT(s:ByteArray)(k:Nat)(h:k+3<=s.size)(hx:bI s[k+1]<(0:Int)\/bI s[k+2]<(0:Int))(w:World) :
 Calls prog 130 #[.string (s.extract (k+1) (k+3))] w fun e w'=>e=.returned (.tuple #[.string ⟨#[]⟩,.int .i64 3])/\Below w.heap.size w w':=by
 refine aNS _ (ex2 s k h) q25 q25 ?_ w;rw[uN s k 0 h _ oM,uN s k 1 h _ oM];exact hx
theorem vF(s:ByteArray)(k:Nat)(c:UInt8)(h:k+3<=s.size)(h1:(0:Int)<=bI s[k+1])(h2:(0:Int)<=bI s[k+2])(hc:UInt8.ofNat ((16:Int)*bI s[k+1]+bI s[k+2]).toNat=c)(w:World) :
 Calls prog 130 #[.string (s.extract (k+1) (k+3))] w fun e w'=>e=.returned (.tuple #[.string ⟨#[c]⟩,.int .i64 0])/\Below w.heap.size w w':=by
 have hA:(s.extract (k+1) (k+3))[0]' q25=s[k+1]:=uN s k 0 h _ oM;have hB:(s.extract (k+1) (k+3))[1]' q25=s[k+2]:=uN s k 1 h _ oM;have:=aHC _ (ex2 s k h) q25 q25 (by rw[hA];exact h1) (by rw[hB];exact h2) w;rw[hA,hB,hc] at this;exact this
def mG(a:Nat):Res Tok->Value
 |.bad e=>.tuple #[.agg #[.int .i64 0,.int .i64 0,.int .i64 0,.int .i64 0,.string ⟨#[]⟩],.int .i64 e]
 |.good t=>.tuple #[.agg #[.int .i64 t.kind,.int .i64 a,.int .i64 (a+t.len:Nat),.int .i64 t.n,.string ⟨t.s.toArray⟩],.int .i64 0]
def oY(s:ByteArray)(k tt:Nat):L:=(s.data.toList.drop k).take (tt-k)
theorem lM(s:ByteArray)(k tt:Nat)(h:k<tt)(ht:tt<=s.size):oY s k tt=s[k]::oY s (k+1) tt:=by
 unfold oY;rw[aV s k oM,show tt-k=(tt-(k+1))+1 from oM,List.take_succ_cons]
theorem aTO(s:ByteArray)(k:Nat):oY s k k=[]:=by simp[oY]
theorem aNU{acc:L}:bZ acc 0 []=.good acc:=by simp[bZ]
theorem aCX{acc:L}{c:UInt8}{l:L}(h:¬c=35):bZ acc 0 (c::l)=bZ (acc++[c]) 0 l:=by simp[bZ,h]
theorem aCY{acc:L}{s:ByteArray}{k tt:Nat}(h:k<tt)(ht:tt<=s.size)(hc:s[k]=35)(h2:tt<=k+2):bZ acc 0 (oY s k tt)=.bad 3:=by
 rw[lM s k tt h ht,hc];have hl:(oY s (k+1) tt).length<=1:=by simp[oY];omega
 cases hx:oY s (k+1) tt with
 |nil=>simp[bZ]
 |cons a l =>
  cases l with
  |nil=>simp[bZ]
  |cons b l=>rw[hx] at hl;simp at hl
theorem yE{acc:L}{s:ByteArray}{k tt:Nat}(h:k+2<tt)(ht:tt<=s.size)(hc:s[k]=35)(h2:bI s[k+1]<(0:Int)\/bI s[k+2]<(0:Int)\/(16:Int)*bI s[k+1]+bI s[k+2]=(0:Int)):bZ acc 0 (oY s k tt)=.bad 3:=by
 exact q489
theorem aNV{acc:L}{s:ByteArray}{k tt:Nat}(h:k+2<tt)(ht:tt<=s.size)(hc:s[k]=35)(h2:¬(bI s[k+1]<(0:Int)\/bI s[k+2]<(0:Int)\/(16:Int)*bI s[k+1]+bI s[k+2]=(0:Int))) :
 bZ acc 0 (oY s k tt)=bZ (acc++[UInt8.ofNat ((16:Int)*bI s[k+1]+bI s[k+2]).toNat]) 0 (oY s (k+3) tt):=by
 exact q489
theorem aLN(s:ByteArray)(a:Nat)(ha:a<s.size)(hs:s.size<=140737488355327)(w:World) :
 Calls prog 90 #[.agg #[.string s,.int .i64 a]] w fun e w'=>e=.returned (mG a (yC (s.data.toList.drop (a+1))))/\Below w.heap.size w w':=by
 have hm:s.size<=maxLen:=q26;obtain⟨N,hN⟩:=eX (iS (s.data.toList.drop (a+1)));have hNle:a+1+N<=s.size:=by have:=aLL (s.data.toList.drop (a+1));rw[hN] at this;simp at this;omega
 have hT:yC (s.data.toList.drop (a+1))=uY N (bZ [] 0 (oY s (a+1) (a+1+N))):=by
  unfold yC oY;rw[hN,show a+1+N-(a+1)=N from oM]
 rw[hT];clear hT;obtain⟨T,hT⟩:=eX (bZ [] 0 (oY s (a+1) (a+1+N)));rw[hT];have HT:=Lh hT;clear hT;have hrun:=aTN s a (a+1) oM hm;rw[hN] at hrun;have HR:=Lh hrun;clear hrun;have HN:=Lh hN;clear hN;go_enter func90,ntmps90
 go_wp2_with(go_at_call 129;refine(HR.out _).mono ?_;rintro e w1 ⟨rfl,hb⟩;obtain⟨hc,hf⟩:=aZ hb;have hz:=hb.size;simp at hz)
 have hB1:w.heap.size+2<=w1.heap.size:=oM;go_loopw [5,6] (fun v i wr=>∃(k:Nat) (acc:L),a+1<=k/\k<=a+1+N/\i=.int .i64 k/\pI wr (w.heap.size+2) v acc/\acc.length<=k/\Below (w.heap.size+2) w1 wr/\Hid (bZ acc 0 (oY s k (a+1+N))=T)) (fun _ i _=>s.size-(intOf i).toNat)
 case atStart=>exact⟨a+1,[],oM,oM,q12,aCV _ _,sI,bGL _ _,HT⟩
 case round =>
  obtain⟨k,acc,hk1,hk2,rfl,hown,hacc,hbr,H⟩:=hrel;have hBr:w.heap.size+2<=wr.heap.size:=bGC hB1 hbr.size;obtain⟨hcr,hfr⟩:=aQ hbr;clear HT;by_cases hlt:k<a+1+N
  ·by_cases h35:s[k]=35
   ·have t35:((s[k].toNat:Int)==35)=true:=cP (n:=35) dC h35;by_cases h2:a+1+N<=k+2
    ·have HX:=Lh (H.out.symm.trans (aCY hlt oM h35 h2));clear h35 H;go_wp2_with(go_at_call 86;refine(cV _ _).mono ?_;rintro e w2 ⟨rfl,hb2⟩;replace hb2:=hbr.trans (hb2.mono hBr);obtain⟨hc2,hf2⟩:=aQ hb2)
     refine bGN (v:=.tuple #[.agg #[.int .i64 0,.int .i64 0,.int .i64 0,.int .i64 0,.string ⟨#[]⟩],.int .i64 3]) q27 rfl ⟨q28,bel⟩
    ·have h3:k+3<=s.size:=oM;by_cases hbad:bI s[k+1]<(0:Int)\/bI s[k+2]<(0:Int)
     ·have HX:=Lh (H.out.symm.trans (yE oM oM h35 (by rcases hbad with h|h<;>simp[h])));have HB:=Lh hbad;clear h35 H hbad;go_wp2_with(first|(go_at_call 130;refine(aNT s k h3 HB.out _).mono ?_;rintro e w2 ⟨rfl,hb2⟩;replace hb2:=hbr.trans (hb2.mono hBr);have hB2:=bGC hB1 hb2.size;obtain⟨hc2,hf2⟩:=aQ hb2)|(go_at_call 86;refine(cV _ _).mono ?_;rintro e w3 ⟨rfl,hb3⟩;replace hb3:=hb2.trans (hb3.mono hB2);obtain⟨hc3,hf3⟩:=aQ hb3))
      exact q415
     ·have hg1:(0:Int)<=bI s[k+1]:=oM;have hg2:(0:Int)<=bI s[k+2]:=oM;by_cases hzero:(16:Int)*bI s[k+1]+bI s[k+2]=(0:Int)
      ·have HX:=Lh (H.out.symm.trans (yE oM oM h35 (.inr (.inr hzero))));have HB:=Lh (show UInt8.ofNat ((16:Int)*bI s[k+1]+bI s[k+2]).toNat=0 by rw[hzero];rfl);have HG:=Lh (bGQ hg1 hg2);clear h35 H hbad hzero hg1 hg2;go_wp2_with(first|(go_at_call 130;refine(vF s k 0 h3 HG.out.1 HG.out.2 HB.out _).mono ?_;rintro e w2 ⟨rfl,hb2⟩;replace hb2:=hbr.trans (hb2.mono hBr);have hB2:=bGC hB1 hb2.size;obtain⟨hc2,hf2⟩:=aQ hb2)|(go_at_call 86;refine(cV _ _).mono ?_;rintro e w3 ⟨rfl,hb3⟩;replace hb3:=hb2.trans (hb3.mono hB2);obtain⟨hc3,hf3⟩:=aQ hb3))
       exact q415
      ·have hv0:=nI s[k+1].toNat;have hv1:=nI s[k+2].toNat;obtain⟨c,hcc⟩:=eX (UInt8.ofNat ((16:Int)*bI s[k+1]+bI s[k+2]).toNat);have hcn:¬c=0:=by
        intro h;rw[<-hcc] at h;have h2:=congrArg UInt8.toNat h;unfold bI at *
        simp at h2;omega
       have HX:=Lh (H.out.symm.trans ((aNV oM oM h35 oM).trans (by rw[hcc])));have HB:=Lh hcc;have HG:=Lh (bGQ hg1 hg2);clear h35 H hbad hzero hg1 hg2 hv0 hv1 hcc;have hcn2:(c==0)=false:=by simpa using hcn
       clear hcn;have hx0:∀h,(ByteArray.mk #[c])[0]'h=c:=fun _=>rfl
       go_wp2_with(first|(go_at_call 130;refine(vF s k c h3 HG.out.1 HG.out.2 HB.out _).mono ?_;rintro e w2 ⟨rfl,hb2⟩;have hown2:=aGY hown hb2;replace hb2:=hbr.trans (hb2.mono hBr);have hB2:=bGC hB1 hb2.size;obtain⟨hc2,hf2⟩:=aQ hb2)|(at_builtin;go_must (refine uL rfl _ _ rfl (w.heap.size+2) _ acc _ hown2 rfl rfl oM hB2 oM (by have:=UInt8.toNat_lt c;omega) ?_);intro v3 w3 hown3 hb3 hz3;replace hb3:=hb2.trans hb3))
       go_roundw
       case rel=>exact⟨k+3,acc++[c],oM,oM,q12,by simpa using hown3,sO,hb3,HX.out.symm⟩
       case measure=>exact q339
   ·have t35:((s[k].toNat:Int)==35)=false:=eD (n:=35) dC h35;have HX:=Lh (H.out.symm.trans ((congrArg _ (lM s k _ hlt oM)).trans (aCX h35)));clear h35 H;go_wp2_with(at_builtin;go_must (refine uL rfl _ _ rfl (w.heap.size+2) _ acc _ hown rfl rfl oM hBr oM (by have:=UInt8.toNat_lt s[k];omega) ?_);intro v3 w3 hown3 hb3 hz3;replace hb3:=hbr.trans hb3)
    go_roundw
    case rel=>exact⟨k+1,acc++[s[k]],oM,oM,q12,by simpa using hown3,sO,hb3,HX.out.symm⟩
    case measure=>exact q339
  ·have hk:k=a+1+N:=oM;have hres:T=.good acc:=by have:=H.out;rw[hk,aTO,aNU] at this;exact this.symm
   have HX:=Lh hres;have hcv:=qA hown;clear H hk hres;by_cases h127:acc.length<=127
   ·go_wp2_with(go_at_call 127;refine(qC s a 4 _ _ 127 q29 _ q30).mono ?_;rintro e w2 ⟨rfl,hb2⟩;replace hb2:=hbr.trans (hb2.mono hBr);obtain⟨hc2,hf2⟩:=aQ hb2)
    refine bGN (v:=.tuple #[.agg #[.int .i64 4,.int .i64 a,.int .i64 (a+1+N),.int .i64 0,.string ⟨acc.toArray⟩],.int .i64 0]) q27 rfl ⟨?_,bel⟩;rw[HX.out];simp only[uY,nC,bGU (show¬127<acc.length by omega),mG];congr;omega
   ·go_wp2_with(go_at_call 127;refine(lL s a 4 _ _ 127 q29 _ q31).mono ?_;rintro e w2 ⟨rfl,hb2⟩;replace hb2:=hbr.trans (hb2.mono hBr);obtain⟨hc2,hf2⟩:=aQ hb2)
    refine bGN (v:=.tuple #[.agg #[.int .i64 0,.int .i64 0,.int .i64 0,.int .i64 0,.string ⟨#[]⟩],.int .i64 5]) q27 rfl ⟨?_,bel⟩;rw[HX.out];simp only[uY,nC,bGV (show 127<acc.length from oM),mG]
theorem sB(c:UInt8)(l:L):1<=dZ (c::l):=by
 rw[vA];(repeat' split)<;>omega
theorem aLO(s:ByteArray)(a p:Nat)(hp:p<s.size)(hs:s.size<=maxLen)(h:eol s[p]=true)(w:World) :
 Calls prog 131 #[.agg #[.string s,.int .i64 a],.int .i64 p] w fun e w'=>e=.returned (.tuple #[.int .i64 (p+dZ (s.data.toList.drop p):Nat),.bool true])/\Below w.heap.size w w':=by
 have hs':=Lh hs;unfold maxLen at hs;by_cases h13:s[p]=13
 ·have t1:((s[p].toNat:Int)==13)=true:=cP (n:=13) dC h13;clear h13 h;exact q435
 ·have t1:((s[p].toNat:Int)==13)=false:=eD (n:=13) dC h13;have t2:((s[p].toNat:Int)==10)=true:=cP (n:=10) dC (by simp[eol] at h;simpa[h13] using h);clear h13 h;exact q435
theorem pK(s:ByteArray)(a p:Nat)(hp:p<s.size)(hs:s.size<=maxLen)(h:eol s[p]=false)(w:World) :
 Calls prog 131 #[.agg #[.string s,.int .i64 a],.int .i64 p] w fun e w'=>e=.returned (.tuple #[.int .i64 p,.bool false])/\Below w.heap.size w w':=by
 unfold maxLen at hs;have t1:((s[p].toNat:Int)==13)=false:=eD (n:=13) dC (by intro h2;rw[h2] at h;simp[eol] at h);have t2:((s[p].toNat:Int)==10)=false:=eD (n:=10) dC (by intro h2;rw[h2] at h;simp[eol] at h);clear h;go_enter func131,ntmps131
 go_wp2;go_ret2
 exact⟨rfl,bel⟩
abbrev dG:L:=[110,114,116,98,102]
theorem aTP(c:UInt8)(k:Int)(h:Lib.indexByte dG c=k)(w:World) :
 Calls prog 162 #[.string ⟨#[110,114,116,98,102]⟩,.int .u8 c.toNat] w fun e w'=>e=.returned (.int .i64 k)/\w'=w:=by
 have:=Tryz.strings_IndexByte ⟨#[110,114,116,98,102]⟩ c.toNat w;rw[show((c.toNat:Int)).toNat.toUInt8=c by simp,show(ByteArray.mk #[110,114,116,98,102]).data.toList=dG from rfl,h] at this;exact this
def aHD(c:UInt8)(x:Nat×Nat):L×Nat:=if x.2=0 then([c],1) else([UInt8.ofNat x.1],x.2)
theorem yF(c:UInt8)(l:L) :
 (c=110/\Lib.indexByte dG c=0/\esc (c::l)=([10],1))\/(c=114/\Lib.indexByte dG c=1/\esc (c::l)=([13],1))\/(c=116/\Lib.indexByte dG c=2/\esc (c::l)=([9],1)) \/
 (c=98/\Lib.indexByte dG c=3/\esc (c::l)=([8],1))\/(c=102/\Lib.indexByte dG c=4/\esc (c::l)=([12],1)) \/
 (Lib.indexByte dG c=-1/\eol c=true/\esc (c::l)=([],dZ (c::l))) \/
 (Lib.indexByte dG c=-1/\eol c=false/\esc (c::l)=aHD c (jX 3 0 0 (c::l))):=by
 have hix:∀c:UInt8,(c==110||c==114||c==116||c==98||c==102)=true\/Lib.indexByte dG c=-1:=by
  intro c;have:=rX (fun c=>(c==110||c==114||c==116||c==98||c==102)||(Lib.indexByte dG c==-1)) q8 c;simpa using this
 by_cases h1:c=110
 ·subst h1;left;exact⟨rfl,q8,by simp[esc]⟩
 by_cases h2:c=114
 ·subst h2;right;left;exact⟨rfl,q8,by simp[esc]⟩
 by_cases h3:c=116
 ·subst h3;right;right;left;exact⟨rfl,q8,by simp[esc]⟩
 by_cases h4:c=98
 ·subst h4;right;right;right;left;exact⟨rfl,q8,by simp[esc]⟩
 by_cases h5:c=102
 ·subst h5;right;right;right;right;left;exact⟨rfl,q8,by simp[esc]⟩
 have h6:Lib.indexByte dG c=-1:=by
  rcases hix c with h|h
  ·simp[h1,h2,h3,h4,h5] at h
  ·exact h
 right;right;right;right;right
 cases he:eol c
 ·right;exact⟨h6,rfl,by unfold aHD;simp[esc,h1,h2,h3,h4,h5,he]⟩
 ·left;exact⟨h6,rfl,by simp[esc,h1,h2,h3,h4,h5,he]⟩
theorem jG(s:ByteArray)(a p:Nat)(hp:p<s.size)(hs:s.size<=140737488355327)(k:Int)(x:L×Nat)(hk:k=0\/k=1\/k=2\/k=3\/k=4)(hx:Lib.indexByte dG s[p]=k)(w:World) :
 Calls prog 133 #[.agg #[.string s,.int .i64 a],.int .i64 p] w fun e w'=>e=.returned (.tuple #[.string ⟨((if k=0 then[10] else if k=1 then[13] else if k=2 then[9] else if k=3 then[8] else[12]):L).toArray⟩,.int .i64 (p+1)])/\Below w.heap.size w w':=by
 have hix:=Lh hx;clear hx;rcases hk with rfl|rfl|rfl|rfl|rfl
 all_goals
  go_enter func133,ntmps133
  go_wp2_with(go_at_call 162;refine(aTP _ _ hix.out _).mono ?_;rintro e w' ⟨rfl,rfl⟩)
  go_ret2
  refine⟨?_,bel⟩;simp
 all_goals rfl
theorem bAF(s:ByteArray)(a p:Nat)(hp:p<s.size)(hs:s.size<=140737488355327)(hx:Lib.indexByte dG s[p]=-1)(he:eol s[p]=true)(w:World) :
 Calls prog 133 #[.agg #[.string s,.int .i64 a],.int .i64 p] w fun e w'=>e=.returned (.tuple #[.string ⟨#[]⟩,.int .i64 (p+dZ (s.data.toList.drop p):Nat)])/\Below w.heap.size w w':=by
 have hm:Hid (s.size<=maxLen):=q32;have hix:=Lh hx;have hie:=Lh he;clear hx he;go_enter func133,ntmps133
 go_wp2_with(first|(go_at_call 162;refine(aTP _ _ hix.out _).mono ?_;rintro e w' ⟨rfl,rfl⟩)|(go_at_call 131;refine(aLO _ _ _ hp hm.out hie.out _).mono ?_;rintro e w1 ⟨rfl,hb⟩))
 go_ret2
 exact⟨rfl,bel⟩
theorem oH{k v n:Nat}{l:L}(h:k=0\/l=[]\/∃c l',l=c::l'/\oct c=false):jX k v n l=(v,n):=by
 rcases h with rfl|rfl|⟨c,l',rfl,hc⟩
 ·simp[jX]
 ·cases k<;>simp[jX]
 ·cases k<;>simp[jX,hc]
theorem bAG{k v n:Nat}{c:UInt8}{l:L}(h:oct c=true):jX (k+1) v n (c::l)=jX k (8*v+(c.toNat-48)) (n+1) l:=by simp[jX,h]
theorem aAF(c:UInt8):oct c=true↔(48<=(c.toNat:Int)/\(c.toNat:Int)<=55):=by
 unfold oct;simp[UInt8.le_iff_toNat_le];omega
theorem aNW(s:ByteArray)(p:Nat)(hp:p<s.size):s.extract p (p+1)=⟨#[s[p]]⟩:=by
 apply ByteArray.ext_iff.2
 apply Array.toList_inj.1
 rw[Lib.extract_data,aV s p hp];simp
theorem bDQ(v:Nat):UInt8.ofNat (v % 256)=UInt8.ofNat v:=by
 apply UInt8.toNat_inj.1;simp
theorem bAH(s:ByteArray)(a p:Nat)(hp:p<s.size)(hs:s.size<=140737488355327)(hx:Lib.indexByte dG s[p]=-1)(he:eol s[p]=false)(w:World) :
 Calls prog 133 #[.agg #[.string s,.int .i64 a],.int .i64 p] w fun e w'=>e=.returned (.tuple #[.string ⟨(aHD s[p] (jX 3 0 0 (s.data.toList.drop p))).1.toArray⟩,.int .i64 (p+(aHD s[p] (jX 3 0 0 (s.data.toList.drop p))).2:Nat)])/\Below w.heap.size w w':=by
 have hm:Hid (s.size<=maxLen):=q32;have hix:=Lh hx;have hie:=Lh he;clear hx he;obtain⟨X,hX⟩:=eX (jX 3 0 0 (s.data.toList.drop p));rw[hX];have HX0:=Lh hX;clear hX;go_enter func133,ntmps133
 go_wp2_with(first|(go_at_call 162;refine(aTP _ _ hix.out _).mono ?_;rintro e w' ⟨rfl,rfl⟩)|(go_at_call 131;refine(pK _ _ _ hp hm.out hie.out _).mono ?_;rintro e w1 ⟨rfl,hb⟩;obtain⟨hc,hf⟩:=aZ hb;have hz:=hb.size;simp at hz))
 go_loop [9,10] (fun n t=>∃(v j:Nat),j<=3/\p+j<=s.size/\v<8 ^ j/\n=.int .i64 v/\t=.int .i64 (p+j)/\Hid (jX (3-j) v j (s.data.toList.drop (p+j))=X)) (fun _ t=>s.size-(intOf t).toNat)
 case atStart=>exact⟨0,0,oM,oM,dC,rfl,q12,HX0⟩
 case round =>
  obtain⟨v,j,hj,hpj,hv,rfl,rfl,H⟩:=hrel;have hv2:v<512:=bGA hv (bGC (Nat.pow_le_pow_right dC hj) dC);have HV:=Lh hv;clear HX0 hv;by_cases h1:p+j<s.size
  ·by_cases h2:j<3
   ·by_cases h3:48<=(s[p+j].toNat:Int)
    ·by_cases h4:(s[p+j].toNat:Int)<=55
     ·have HX := Lib.hid (show jX (3-(j+1)) (8*v+(s[p+j].toNat-48)) (j+1) (s.data.toList.drop (p+j+1))=X by
       have:=H.out;rw[aV s _ h1,show 3-j=(3-(j+1))+1 from oM,bAG ((aAF _).2 ⟨h3,h4⟩)] at this;exact this)
      clear H;go_wp2;go_round
      case rel=>exact⟨8*v+(s[p+j].toNat-48),j+1,oM,oM,by have:=HV.out;rw[Nat.pow_succ];omega,by congr 1;omega,q12,HX⟩
      case measure=>exact q339
     ·have hX:X=(v,j):=H.out.symm.trans (oH (.inr (.inr ⟨_,_,aV s _ h1,by rw[Bool.eq_false_iff];intro h;exact h4 ((aAF _).1 h).2⟩)));clear H HV;exact q584
    ·have hX:X=(v,j):=H.out.symm.trans (oH (.inr (.inr ⟨_,_,aV s _ h1,by rw[Bool.eq_false_iff];intro h;exact h3 ((aAF _).1 h).1⟩)));clear H HV;exact q584
   ·have hX:X=(v,j):=H.out.symm.trans (oH (.inl oM));clear H HV;exact q596
  ·have hX:X=(v,j):=H.out.symm.trans (oH (.inr (.inl (by rw[List.drop_eq_nil_of_le sO]))));clear H HV;exact q596
theorem aTQ{acc:L}{n:Nat}{h:Int}:gP acc n h []=.bad 4:=by simp[gP]
theorem aNX{acc:L}{n:Nat}{h:Int}{c:UInt8}{l:L}(hc:c=62):gP acc n h (c::l)=.good (if 0<=h then acc++[UInt8.ofNat (16*h).toNat] else acc,n+1):=by simp[gP,hc]
theorem aHE{acc:L}{n:Nat}{h:Int}{c:UInt8}{l:L}(hc:¬c=62)(hw:dX c=true):gP acc n h (c::l)=gP acc (n+1) h l:=by simp[gP,hc,hw]
theorem aTR{acc:L}{n:Nat}{h:Int}{c:UInt8}{l:L}(hc:¬c=62)(hw:dX c=false)(hx:bI c<(0:Int)):gP acc n h (c::l)=.bad 3:=by simp[gP,hc,hw,hx]
theorem aNY{acc:L}{n:Nat}{h:Int}{c:UInt8}{l:L}(hc:¬c=62)(hw:dX c=false)(hx:¬bI c<(0:Int))(hh:h<0):gP acc n h (c::l)=gP acc (n+1) (bI c) l:=by simp[gP,hc,hw,hx,hh]
theorem aNZ{acc:L}{n:Nat}{h:Int}{c:UInt8}{l:L}(hc:¬c=62)(hw:dX c=false)(hx:¬bI c<(0:Int))(hh:¬h<0):gP acc n h (c::l)=gP (acc++[UInt8.ofNat (16*h+bI c).toNat]) (n+1) (-1) l:=by simp[gP,hc,hw,hx,hh]
theorem nib2:∀d,d<16->∀e,e<16->bits BinOp.or IntKind.i64 ((d:Nat)*16) (e:Nat) % 256=16*(d:Int)+e:=q8
theorem aTS{d e:Int}(h0:0<=d)(h1:d<16)(h2:0<=e)(h3:e<16):bits BinOp.or IntKind.i64 (d*16) e % 256=16*d+e:=by
 have:=nib2 d.toNat oM e.toNat oM;exact q548
theorem fC(c:UInt8)(w:World) :
 Calls prog 128 #[.int .u8 c.toNat] w fun e w'=>e=.returned (.int .i64 (bI c))/\w'=w:=rZ c.toNat (UInt8.toNat_lt c) w
theorem qD(c:UInt8):bI c<(16:Int):=nI c.toNat
theorem aTT(s:ByteArray)(a:Nat)(ha:a<s.size)(hs:s.size<=140737488355327)(w:World) :
 Calls prog 89 #[.agg #[.string s,.int .i64 a]] w fun e w'=>e=.returned (mG a (aZY (s.data.toList.drop (a+1))))/\Below w.heap.size w w':=by
 unfold aZY;obtain⟨T,hT⟩:=eX (gP [] 0 (-1) (s.data.toList.drop (a+1)));rw[hT];have HT:=Lh hT;clear hT;go_enter func89,ntmps89
 go_wp2;obtain⟨w1,hw1⟩:=eX (((w.alloc (.cells #[.string s,.int .i64 a] 155)).alloc (.cells #[.int .i64 0,.int .i64 0,.int .i64 0,.int .i64 0,.string ⟨#[]⟩] 81)));have hB1:w.heap.size+2<=w1.heap.size:=by rw[<-hw1];simp
 have hb:Below w.heap.size w w1:=q33;have c0:w1.cell? ⟨w.heap.size,0,none⟩=some (.string s):=q34;have c1:w1.cell? ⟨w.heap.size,1,none⟩=some (.int .i64 a):=q34;have d0:w1.cell? ⟨w.heap.size+1,0,none⟩=some (.int .i64 0):=q34;have d1:w1.cell? ⟨w.heap.size+1,1,none⟩=some (.int .i64 0):=q34;have d2:w1.cell? ⟨w.heap.size+1,2,none⟩=some (.int .i64 0):=q34;have d3:w1.cell? ⟨w.heap.size+1,3,none⟩=some (.int .i64 0):=q34;have d4:w1.cell? ⟨w.heap.size+1,4,none⟩=some (.string ⟨#[]⟩):=q34;have df:∀o,w1.frozen? ⟨w.heap.size+1,o,none⟩=false:=fun o=>q34
 rw[hw1];clear hw1;go_loopw [4,5,6] (fun v h i wr=>∃(k:Nat) (acc:L) (hf:Int),a+1<=k/\k<=s.size∧-1<=hf/\hf<16/\i=.int .i64 k/\h=.int .i64 hf/\pI wr (w.heap.size+2) v acc/\acc.length<=k/\Below (w.heap.size+2) w1 wr/\Hid (gP acc (k-(a+1)) hf (s.data.toList.drop k)=T)) (fun _ _ i _=>s.size-(intOf i).toNat)
 case atStart=>exact⟨a+1,[],-1,oM,oM,oM,oM,q12,q12,aCV _ _,sI,bGL _ _,by rw[Nat.sub_self];exact HT⟩
 case round =>
  obtain⟨k,acc,hf,hk1,hk2,hh1,hh2,rfl,rfl,hown,hacc,hbr,H⟩:=hrel;have hBr:w.heap.size+2<=wr.heap.size:=bGC hB1 hbr.size;obtain⟨hcr,hfr⟩:=aQ hbr;clear HT;by_cases hlt:k<s.size
  ·have H1:=H.out;rw[aV s k hlt] at H1;have hn1:k-(a+1)+1=k+1-(a+1):=oM;by_cases h62:s[k]=62
   ·have t62:((s[k].toNat:Int)==62)=true:=cP (n:=62) dC h62;rw[aNX h62] at H1;clear h62 H hn1;by_cases hhf:0<=hf
    ·rw[bGV hhf] at H1;obtain⟨acc2,hacc2⟩:=eX (acc++[UInt8.ofNat (16*hf).toNat]);have hl2:acc2.length<=k+1:=by rw[<-hacc2];simp;omega
     rw[hacc2] at H1;have Hn:=Lh (show acc++[UInt8.ofNat (hf*16).toNat]=acc2 by rw[Int.mul_comm];exact hacc2);have HX:=Lh H1.symm;clear H1 hacc2;go_wp2_with(first|(at_builtin;refine uL rfl _ _ rfl (w.heap.size+2) _ acc _ hown rfl rfl oM hBr oM oM ?_;intro v3 w3 hown3 hb3 hz3;replace hb3:=hbr.trans hb3;have hB3:=bGC hB1 hb3.size;obtain⟨hc3,hf3⟩:=aQ hb3;rw[Hn.out] at hown3;have hcv:=qA hown3))
     exact q319
    ·rw[bGU hhf] at H1;obtain⟨acc2,hacc2⟩:=eX (acc);have hl2:acc2.length<=k+1:=by rw[<-hacc2];omega
     rw[hacc2] at H1;have hown3:pI wr (w.heap.size+2) u4 acc2:=by rw[<-hacc2];exact hown
     have HX:=Lh H1.symm;have hb3:=hbr;have hB3:=hBr;have hc3:=hcr;have hf3:=hfr;have hcv:=qA hown3;clear H1 hacc2;exact q319
   ·have t62:((s[k].toNat:Int)==62)=false:=eD (n:=62) dC h62;cases hw:dX s[k]
    ·by_cases hx:bI s[k]<(0:Int)
     ·have HX:=Lh (H1.symm.trans (aTR h62 hw hx));have hw2:=Lh hw;clear h62 H H1 hw;go_wp2_with(first|(go_at_call 128;refine(fC _ _).mono ?_;rintro e w' ⟨rfl,rfl⟩)|(go_at_call 126;refine(eZ _ hw2.out _).mono ?_;rintro e w' ⟨rfl,rfl⟩)|(go_at_call 86;refine(cV _ _).mono ?_;rintro e w3 ⟨rfl,hb3⟩;replace hb3:=hbr.trans (hb3.mono hBr);obtain⟨hc3,hf3⟩:=aQ hb3))
      refine bGN (v:=.tuple #[.agg #[.int .i64 0,.int .i64 0,.int .i64 0,.int .i64 0,.string ⟨#[]⟩],.int .i64 3]) (by simp[results,results89,go_sem,hc3,hf3,d0,d1,d2,d3,d4,df]) rfl ⟨q28,bel⟩
     ·have hd1:=qD s[k];by_cases hhf:hf<0
      ·have HX:=Lh (H1.symm.trans ((aNY h62 hw hx hhf).trans (by rw[hn1])));have hw2:=Lh hw;clear h62 H H1 hw hn1;go_wp2_with(first|(go_at_call 128;refine(fC _ _).mono ?_;rintro e w' ⟨rfl,rfl⟩)|(go_at_call 126;refine(eZ _ hw2.out _).mono ?_;rintro e w' ⟨rfl,rfl⟩))
       go_roundw
       case rel=>exact⟨k+1,acc,bI s[k],oM,oM,oM,oM,q12,rfl,hown,oM,hbr,HX.out.symm⟩
       case measure=>exact q339
      ·have HX:=Lh (H1.symm.trans ((aNZ h62 hw hx hhf).trans (by rw[hn1])));have hw2:=Lh hw;clear h62 H H1 hw hn1;go_wp2_with(first|(go_at_call 128;refine(fC _ _).mono ?_;rintro e w' ⟨rfl,rfl⟩)|(go_at_call 126;refine(eZ _ hw2.out _).mono ?_;rintro e w' ⟨rfl,rfl⟩)|(at_builtin;go_must (refine uL rfl _ _ rfl (w.heap.size+2) _ acc _ hown rfl rfl oM hBr oM oM ?_);intro v3 w3 hown3 hb3 hz3;replace hb3:=hbr.trans hb3))
       go_roundw
       case rel=>exact⟨k+1,acc++[UInt8.ofNat (16*hf+bI s[k]).toNat],-1,oM,oM,oM,oM,q12,q12,by rw[aTS oM hh2 oM hd1] at hown3;exact hown3,sO,hb3,HX.out.symm⟩
       case measure=>exact q339
    ·have HX:=Lh (H1.symm.trans ((aHE h62 hw).trans (by rw[hn1])));have hw2:=Lh hw;clear h62 H H1 hw hn1;go_wp2_with(first|(go_at_call 128;refine(fC _ _).mono ?_;rintro e w' ⟨rfl,rfl⟩)|(go_at_call 126;refine(oF _ hw2.out _).mono ?_;rintro e w' ⟨rfl,rfl⟩))
     go_roundw
     case rel=>exact⟨k+1,acc,hf,oM,oM,oM,oM,q12,rfl,hown,oM,hbr,HX.out.symm⟩
     case measure=>exact q339
  ·have HX:=Lh (show T=.bad 4 by have:=H.out;rw[List.drop_eq_nil_of_le sO,aTQ] at this;exact this.symm);clear H;go_wp2_with(go_at_call 86;refine(cV _ _).mono ?_;rintro e w3 ⟨rfl,hb3⟩;replace hb3:=hbr.trans (hb3.mono hBr);obtain⟨hc3,hf3⟩:=aQ hb3)
   refine bGN (v:=.tuple #[.agg #[.int .i64 0,.int .i64 0,.int .i64 0,.int .i64 0,.string ⟨#[]⟩],.int .i64 4]) (by simp[results,results89,go_sem,hc3,hf3,d0,d1,d2,d3,d4,df]) rfl ⟨q28,bel⟩
def vG(w:World)(B:Nat)(l:L):Prop:=Lib.IsBuilder 201 5 B B (Lib.byteCells l) w
theorem eG{w w':World}{B:Nat}{l:L}(h:vG w B l)(hb:Below w.heap.size w w'):vG w' B l:=by
 have key:∀p,Lib.BuilderAt 201 5 B B p (Lib.byteCells l) w->Lib.BuilderAt 201 5 B B p (Lib.byteCells l) w':=by
  rintro p h;have hlt:=h.lt;obtain⟨h1,v,h2,h3,h4⟩:=h;exact⟨h1,v,by rw[hb.block B hlt];exact h2,World.ownsRow.kept h3 (row:=none) ⟨hb.os,hb.tape,hb.output,hb.size,fun k hk _=>hb.block k hk⟩ (Classical.em _),h4⟩
 rcases h with h|h
 ·exact .inl (key _ h)
 ·exact .inr (key _ h)
theorem aHF(w:World):vG (w.alloc (.cells #[.pointer none,.slice none 0 0] 201)) w.heap.size []:=Lib.fresh_isBuilder _ _ w
theorem qE(B:Nat)(l:L)(n:Int)(h0:0<=n)(h1:n<256)(w:World)(h:vG w B l)(hl:l.length+1<=140737488355328)(hB:B<=w.heap.size) :
 Calls prog 132 #[.pointer (some ⟨B,0,none⟩),.int .u8 n] w fun e w'=>e=.returned .nilIface/\vG w' B (l++[UInt8.ofNat n.toNat])/\Below B w w':=by
 refine(Tryz.Builder_WriteByte B B _ _ w h (by rw[Lib.byteCells_length];exact hl) hB).mono fun e w' ⟨g1,g2,g3⟩=>⟨g1,.inr ?_,g3⟩
 rw[show Lib.byteCells (l++[UInt8.ofNat n.toNat])=Lib.byteCells l++[.int .u8 n] by simp only[Lib.byteCells,List.map_append,List.map_cons,List.map_nil,aLK n h0 h1]];exact g2
theorem bAI(B:Nat)(l:L)(s:ByteArray)(w:World)(h:vG w B l)(hl:l.length+s.size<=140737488355328)(hB:B<=w.heap.size) :
 Calls prog 134 #[.pointer (some ⟨B,0,none⟩),.string s] w fun e w'=>e=.returned (.tuple #[.int .i64 s.size,.nilIface])/\vG w' B (l++s.data.toList)/\Below B w w':=by
 refine(Tryz.Builder_WriteString B B _ _ w h (by rw[Lib.byteCells_length];exact hl) hB).mono fun e w' ⟨h1,h2,h3⟩=>⟨h1,.inr ?_,h3⟩
 simpa[Lib.byteCells,Lib.strCells] using h2
theorem aLP(B:Nat)(l:L)(w:World)(h:vG w B l)(hB:B<=w.heap.size) :
 Calls prog 135 #[.pointer (some ⟨B,0,none⟩)] w fun e w'=>e=.returned (.string ⟨l.toArray⟩)/\Below B w w' :=
 Tryz.Builder_String_any B B l w h hB
theorem bAJ(k v n:Nat)(l:L):n<=(jX k v n l).2/\(jX k v n l).2<=n+l.length:=by
 induction k generalizing v n l with
 |zero=>simp[jX]
 |succ k ih =>
  cases l with
  |nil=>simp[jX]
  |cons c l =>
   simp only[jX];split
   ·have:=ih (8*v+(c.toNat-48)) (n+1) l;simp;omega
   ·simp
theorem aTU(l:L)(h:l≠[]):1<=(esc l).2/\(esc l).2<=l.length/\(esc l).1.length<=1:=by
 cases l with
 |nil=>exact absurd rfl h
 |cons c l =>
  have h1:=sB c l;have h2:=uZ (c::l);have h3:=bAJ 3 0 0 (c::l);rcases yF c l with⟨_,_,e⟩|⟨_,_,e⟩|⟨_,_,e⟩|⟨_,_,e⟩|⟨_,_,e⟩|⟨_,_,e⟩|⟨_,_,e⟩<;>rw[e]
  all_goals first|(simp;done)|(simp only[List.length_nil];omega)|skip
  unfold aHD;split
  ·simp
  ·simp only[bHA,List.length_nil] at *;omega
theorem bDR(s:ByteArray)(a p:Nat)(hp:p<s.size)(hs:s.size<=140737488355327)(w:World) :
 Calls prog 133 #[.agg #[.string s,.int .i64 a],.int .i64 p] w fun e w'=>e=.returned (.tuple #[.string ⟨(esc (s.data.toList.drop p)).1.toArray⟩,.int .i64 (p+(esc (s.data.toList.drop p)).2:Nat)])/\Below w.heap.size w w':=by
 have hd:=aV s p hp;have hc:=yF s[p] (s.data.toList.drop (p+1));rw[<-hd] at hc;rcases hc with⟨_,h,e⟩|⟨_,h,e⟩|⟨_,h,e⟩|⟨_,h,e⟩|⟨_,h,e⟩|⟨h,h2,e⟩|⟨h,h2,e⟩<;>rw[e]
 ·exact jG s a p hp hs 0 ([],0) sI h w
 ·exact jG s a p hp hs 1 ([],0) sI h w
 ·exact jG s a p hp hs 2 ([],0) sI h w
 ·exact jG s a p hp hs 3 ([],0) sI h w
 ·exact jG s a p hp hs 4 ([],0) sI h w
 ·exact bAF s a p hp hs h h2 w
 ·exact bAH s a p hp hs h h2 w
theorem vH(acc:L)(n op:Nat):∀(k:Nat) (l:L),k<=l.length->bS acc n op k l=bS acc (n+k) op 0 (l.drop k):=by
 intro k;induction k generalizing n with
 |zero=>intro l _;simp
 |succ k ih =>
  intro l hl;cases l with
  |nil=>simp at hl
  |cons c l=>rw[bS,ih (n+1) l (by simpa using hl),List.drop_succ_cons];congr 1;omega
theorem aOA{acc:L}{n op:Nat}:bS acc n op 0 []=.bad 4:=by simp[bS]
theorem aOB{acc:L}{n op:Nat}{s:ByteArray}{k:Nat}(h:k<s.size)(he:eol s[k]=true) :
 bS acc n op 0 (s.data.toList.drop k)=bS (acc++[10]) (n+dZ (s.data.toList.drop k)) op 0 (s.data.toList.drop (k+dZ (s.data.toList.drop k))):=by
 have h1:=uZ (s.data.toList.drop k);rw[aV s k h] at *
 have h2:=sB s[k] (s.data.toList.drop (k+1));obtain⟨x,hx⟩:=eX (dZ (s[k]::s.data.toList.drop (k+1)));rw[hx] at h1 h2;rw[bS,bGV he,vH _ _ _ _ _ (by rw[hx];simp at h1 ⊢;omega),List.drop_drop,hx,show k+1+(x-1)=k+x from oM,show n+1+(x-1)=n+x from oM]
theorem aHG{acc:L}{n op:Nat}{s:ByteArray}{k:Nat}(h:k+1=s.size)(hc:s[k]=92):bS acc n op 0 (s.data.toList.drop k)=.bad 4:=by
 rw[aV s k oM,hc,List.drop_eq_nil_of_le sO];simp[bS,eol]
theorem aOC{acc:L}{n op:Nat}{s:ByteArray}{k:Nat}(h:k+1<s.size)(hc:s[k]=92) :
 bS acc n op 0 (s.data.toList.drop k)=bS (acc++(esc (s.data.toList.drop (k+1))).1) (n+1+(esc (s.data.toList.drop (k+1))).2) op 0 (s.data.toList.drop (k+1+(esc (s.data.toList.drop (k+1))).2)):=by
 have hne:s.data.toList.drop (k+1)≠[]:=by rw[aV s _ h];simp
 rw[aV s k oM,hc];have he:(eol 92)=false:=dC;rw[bS];simp only[he,hne];simp only[Bool.false_eq_true,if_false,beq_self_eq_true,if_true];rw[vH _ _ _ _ _ (aTU _ hne).2.1,List.drop_drop]
theorem aHH{acc:L}{n op:Nat}{s:ByteArray}{k:Nat}(h:k<s.size)(hc:s[k]=40):bS acc n op 0 (s.data.toList.drop k)=bS (acc++[s[k]]) (n+1) (op+1) 0 (s.data.toList.drop (k+1)):=by
 rw[aV s k h,hc];simp[bS,eol]
theorem aHI{acc:L}{n:Nat}{s:ByteArray}{k:Nat}(h:k<s.size)(hc:s[k]=41):bS acc n 1 0 (s.data.toList.drop k)=.good (acc,n+1):=by
 rw[aV s k h,hc];simp[bS,eol]
theorem aCZ{acc:L}{n op:Nat}{s:ByteArray}{k:Nat}(h:k<s.size)(hc:s[k]=41)(ho:¬op=1):bS acc n op 0 (s.data.toList.drop k)=bS (acc++[s[k]]) (n+1) (op-1) 0 (s.data.toList.drop (k+1)):=by
 rw[aV s k h,hc];simp[bS,eol,ho]
theorem aDA{acc:L}{n op:Nat}{s:ByteArray}{k:Nat}(h:k<s.size)(he:eol s[k]=false)(h1:¬s[k]=92)(h2:¬s[k]=40)(h3:¬s[k]=41):bS acc n op 0 (s.data.toList.drop k)=bS (acc++[s[k]]) (n+1) op 0 (s.data.toList.drop (k+1)):=by
 rw[aV s k h];simp[bS,he,h1,h2,h3]
theorem aLQ(s:ByteArray)(a:Nat)(ha:a<s.size)(hs:s.size<=140737488355327)(w:World) :
 Calls prog 91 #[.agg #[.string s,.int .i64 a]] w fun e w'=>e=.returned (mG a (aLJ (s.data.toList.drop (a+1))))/\Below w.heap.size w w':=by
 have hm:Hid (s.size<=maxLen):=q32;unfold aLJ;obtain⟨T,hT⟩:=eX (bS [] 0 1 0 (s.data.toList.drop (a+1)));rw[hT];have HT:=Lh hT;clear hT;go_enter func91,ntmps91
 go_wp2;have hbl0:vG (((w.alloc (.cells #[.string s,.int .i64 a] 155)).alloc (.cells #[.int .i64 0,.int .i64 0,.int .i64 0,.int .i64 0,.string ⟨#[]⟩] 81)).alloc (.cells #[.pointer none,.slice none 0 0] 201)) (w.heap.size+2) []:=by
  have:=aHF ((w.alloc (.cells #[.string s,.int .i64 a] 155)).alloc (.cells #[.int .i64 0,.int .i64 0,.int .i64 0,.int .i64 0,.string ⟨#[]⟩] 81));simpa using this
 obtain⟨w1,hw1⟩:=eX ((((w.alloc (.cells #[.string s,.int .i64 a] 155)).alloc (.cells #[.int .i64 0,.int .i64 0,.int .i64 0,.int .i64 0,.string ⟨#[]⟩] 81)).alloc (.cells #[.pointer none,.slice none 0 0] 201)));have hB1:w.heap.size+2<=w1.heap.size:=by rw[<-hw1];simp
 have hb:Below w.heap.size w w1:=q33;have c0:w1.cell? ⟨w.heap.size,0,none⟩=some (.string s):=q34;have c1:w1.cell? ⟨w.heap.size,1,none⟩=some (.int .i64 a):=q34;have d0:w1.cell? ⟨w.heap.size+1,0,none⟩=some (.int .i64 0):=q34;have d1:w1.cell? ⟨w.heap.size+1,1,none⟩=some (.int .i64 0):=q34;have d2:w1.cell? ⟨w.heap.size+1,2,none⟩=some (.int .i64 0):=q34;have d3:w1.cell? ⟨w.heap.size+1,3,none⟩=some (.int .i64 0):=q34;have d4:w1.cell? ⟨w.heap.size+1,4,none⟩=some (.string ⟨#[]⟩):=q34;have df:∀o,w1.frozen? ⟨w.heap.size+1,o,none⟩=false:=fun o=>q34
 rw[hw1] at hbl0;rw[hw1];clear hw1;go_loopw [5,6] (fun op i wr=>∃(k:Nat) (acc:L) (o:Nat),a+1<=k/\k<=s.size/\1<=o/\o<=k/\i=.int .i64 k/\op=.int .i64 o/\vG wr (w.heap.size+2) acc/\acc.length<=k/\Below (w.heap.size+2) w1 wr/\Hid (bS acc (k-(a+1)) o 0 (s.data.toList.drop k)=T)) (fun _ i _=>s.size-(intOf i).toNat)
 case atStart=>exact⟨a+1,[],1,oM,oM,oM,oM,q12,q12,hbl0,sI,bGL _ _,by rw[Nat.sub_self];exact HT⟩
 case round =>
  obtain⟨k,acc,o,hk1,hk2,ho1,ho2,rfl,rfl,hbld,hacc,hbr,H⟩:=hrel;have hBr:w.heap.size+2<=wr.heap.size:=bGC hB1 hbr.size;obtain⟨hcr,hfr⟩:=aQ hbr;clear HT;by_cases hlt:k<s.size
  ·cases he:eol s[k]
   ·have HE:=Lh he;have hn1:k-(a+1)+1=k+1-(a+1):=oM;have hu:=UInt8.toNat_lt s[k];by_cases h92:s[k]=92
    ·have t1:((s[k].toNat:Int)==92)=true:=cP (n:=92) dC h92;by_cases hend:k+1=s.size
     ·have HX:=Lh (H.out.symm.trans (aHG hend h92));have t2:((k:Int)+1==(s.size:Int))=true:=sO;clear H he h92 hend hn1;go_wp2_with(first|(go_at_call 131;refine(pK _ _ _ hlt hm.out HE.out _).mono ?_;rintro e w2 ⟨rfl,hb2⟩;replace hbld:=eG hbld hb2;have hb3:=hb2.mono hBr;replace hbr:=hbr.trans hb3;clear hcr hfr hBr;have hBr:=bGC hB1 hbr.size;obtain⟨hcr,hfr⟩:=aQ hbr;clear hb2 hb3)|(go_at_call 86;refine(cV _ _).mono ?_;rintro e w3 ⟨rfl,hb3⟩;replace hb3:=hbr.trans (hb3.mono hBr);obtain⟨hc3,hf3⟩:=aQ hb3))
      exact q412
     ·have hlt1:k+1<s.size:=oM;have t2:((k:Int)+1==(s.size:Int))=false:=sO;have hX:=H.out.symm.trans (aOC hlt1 h92);have hel:=aTU (s.data.toList.drop (k+1)) (by rw[aV s _ hlt1];simp);obtain⟨⟨x,m⟩,hxm⟩:∃x,esc (s.data.toList.drop (k+1))=x:=⟨_,rfl⟩
      have hesc:=fun w=>bDR s a (k+1) hlt1 hs w
      rw[hxm] at hX hel hesc;simp only[bGS,Array.length_toList] at hX hel hesc;have hel2:m<=s.size-(k+1):=hel.2.1;have hel1:=hel.1;have hel3:=hel.2.2;rw[show k-(a+1)+1+m=k+1+m-(a+1) from oM] at hX;have HX:=Lh hX;have HS:=Lh hesc;clear H he h92 hend hX hxm hesc hel;go_wp2_with(first|(go_at_call 131;refine(pK _ _ _ hlt hm.out HE.out _).mono ?_;rintro e w2 ⟨rfl,hb2⟩;replace hbld:=eG hbld hb2;have hb3:=hb2.mono hBr;replace hbr:=hbr.trans hb3;clear hcr hfr hBr;have hBr:=bGC hB1 hbr.size;obtain⟨hcr,hfr⟩:=aQ hbr;clear hb2 hb3)|(go_at_call 133;refine(HS.out _).mono ?_;rintro e w4 ⟨rfl,hb2⟩;replace hbld:=eG hbld hb2;have hb3:=hb2.mono hBr;replace hbr:=hbr.trans hb3;clear hcr hfr hBr;have hBr:=bGC hB1 hbr.size;obtain⟨hcr,hfr⟩:=aQ hbr;clear hb2 hb3)|(go_at_call 134;refine(bAI _ _ _ _ hbld q31 hBr).mono ?_;rintro e w3 ⟨rfl,hbld3,hb3⟩;replace hbld:=hbld3;replace hbr:=hbr.trans hb3;clear hcr hfr hBr;have hBr:=bGC hB1 hbr.size;obtain⟨hcr,hfr⟩:=aQ hbr;clear hbld3 hb3))
      go_roundw
      case rel=>exact⟨k+1+m,acc++x,o,oM,oM,oM,oM,q12,rfl,by simpa using hbld,sO,hbr,HX.out.symm⟩
      case measure=>exact q339
    ·have t1:((s[k].toNat:Int)==92)=false:=eD (n:=92) dC h92;by_cases h40:s[k]=40
     ·have t2:((s[k].toNat:Int)==40)=true:=cP (n:=40) dC h40;have t4:((o:Int)+1==0)=false:=sO;have HX:=Lh (H.out.symm.trans ((aHH hlt h40).trans (by rw[hn1])));clear H he h92 h40 hn1;go_wp2_with(first|(go_at_call 131;refine(pK _ _ _ hlt hm.out HE.out _).mono ?_;rintro e w2 ⟨rfl,hb2⟩;replace hbld:=eG hbld hb2;have hb3:=hb2.mono hBr;replace hbr:=hbr.trans hb3;clear hcr hfr hBr;have hBr:=bGC hB1 hbr.size;obtain⟨hcr,hfr⟩:=aQ hbr;clear hb2 hb3)|(go_at_call 132;refine(qE _ _ _ oM oM _ hbld oM hBr).mono ?_;rintro e w3 ⟨rfl,hbld3,hb3⟩;replace hbld:=hbld3;replace hbr:=hbr.trans hb3;clear hcr hfr hBr;have hBr:=bGC hB1 hbr.size;obtain⟨hcr,hfr⟩:=aQ hbr;clear hbld3 hb3))
      go_roundw
      case rel=>exact⟨k+1,acc++[s[k]],o+1,oM,oM,oM,oM,q12,q12,by simpa using hbld,sO,hbr,HX.out.symm⟩
      case measure=>exact q339
     ·have t2:((s[k].toNat:Int)==40)=false:=eD (n:=40) dC h40;by_cases h41:s[k]=41
      ·have t3:((s[k].toNat:Int)==41)=true:=cP (n:=41) dC h41;by_cases h1:o=1
       ·subst h1;have HX:=Lh (H.out.symm.trans (aHI hlt h41));clear H he h92 h40 h41 hn1;go_wp2_with(go_at_call 131;refine(pK _ _ _ hlt hm.out HE.out _).mono ?_;rintro e w2 ⟨rfl,hb2⟩;replace hbld:=eG hbld hb2;have hb3:=hb2.mono hBr;replace hbr:=hbr.trans hb3;clear hcr hfr hBr;have hBr:=bGC hB1 hbr.size;obtain⟨hcr,hfr⟩:=aQ hbr;clear hb2 hb3)
        have hbld2:vG w2.drew (w.heap.size+2) acc:=hbld;have hbr2:Below (w.heap.size+2) w1 w2.drew:=hbr.drew;have hBr2:w.heap.size+2<=w2.drew.heap.size:=hBr;by_cases h127:acc.length<=32767
        ·go_region_with (first|(go_at_call 135;refine(aLP _ _ _ hbld2 hBr2).mono ?_;rintro e w3 ⟨rfl,hb3⟩;replace hb3:=hbr2.trans hb3;have hB3:=bGC hB1 hb3.size;obtain⟨hc3,hf3⟩:=aQ hb3)|(go_at_call 127;refine(qC s a 3 _ _ 32767 q29 _ q30).mono ?_;rintro e w4 ⟨rfl,hb4⟩;replace hb4:=hb3.trans (hb4.mono hB3);obtain⟨hc4,hf4⟩:=aQ hb4))
         all_goals go_wp2
         all_goals refine bGN (v:=.tuple #[.agg #[.int .i64 3,.int .i64 a,.int .i64 (k+1),.int .i64 0,.string ⟨acc.toArray⟩],.int .i64 0]) (by simp[results,results91,go_sem,hc4,hf4,d0,d1,d2,d3,d4,df,show IntKind.i64.wrap ((k:Int)+1)=(k:Int)+1 from IntWalk.i64_in _ ⟨oM,oM⟩]) rfl ⟨?_,bel⟩
         all_goals
          rw[HX.out];simp only[tB,nC,bGU (show¬32767<acc.length by omega),mG];congr;omega
        ·go_region_with (first|(go_at_call 135;refine(aLP _ _ _ hbld2 hBr2).mono ?_;rintro e w3 ⟨rfl,hb3⟩;replace hb3:=hbr2.trans hb3;have hB3:=bGC hB1 hb3.size;obtain⟨hc3,hf3⟩:=aQ hb3)|(go_at_call 127;refine(lL s a 3 _ _ 32767 q29 _ q31).mono ?_;rintro e w4 ⟨rfl,hb4⟩;replace hb4:=hb3.trans (hb4.mono hB3);obtain⟨hc4,hf4⟩:=aQ hb4))
         all_goals go_wp2
         all_goals refine bGN (v:=.tuple #[.agg #[.int .i64 0,.int .i64 0,.int .i64 0,.int .i64 0,.string ⟨#[]⟩],.int .i64 5]) (by simp[results,results91,go_sem,hc4,hf4,d0,d1,d2,d3,d4,df]) rfl ⟨?_,bel⟩
         all_goals
          rw[HX.out];simp only[tB,nC,bGV (show 32767<acc.length from oM),mG]
       ·have t4:((o:Int)-1==0)=false:=sO;have HX:=Lh (H.out.symm.trans ((aCZ hlt h41 h1).trans (by rw[hn1])));clear H he h92 h40 h41 hn1;go_wp2_with(first|(go_at_call 131;refine(pK _ _ _ hlt hm.out HE.out _).mono ?_;rintro e w2 ⟨rfl,hb2⟩;replace hbld:=eG hbld hb2;have hb3:=hb2.mono hBr;replace hbr:=hbr.trans hb3;clear hcr hfr hBr;have hBr:=bGC hB1 hbr.size;obtain⟨hcr,hfr⟩:=aQ hbr;clear hb2 hb3)|(go_at_call 132;refine(qE _ _ _ oM oM _ hbld oM hBr).mono ?_;rintro e w3 ⟨rfl,hbld3,hb3⟩;replace hbld:=hbld3;replace hbr:=hbr.trans hb3;clear hcr hfr hBr;have hBr:=bGC hB1 hbr.size;obtain⟨hcr,hfr⟩:=aQ hbr;clear hbld3 hb3))
        go_roundw
        case rel=>exact⟨k+1,acc++[s[k]],o-1,oM,oM,oM,oM,q12,by congr 1;omega,by simpa using hbld,sO,hbr,HX.out.symm⟩
        case measure=>exact q339
      ·have t3:((s[k].toNat:Int)==41)=false:=eD (n:=41) dC h41;have t4:((o:Int)==0)=false:=sO;have HX:=Lh (H.out.symm.trans ((aDA hlt he h92 h40 h41).trans (by rw[hn1])));clear H he h92 h40 h41 hn1;go_wp2_with(first|(go_at_call 131;refine(pK _ _ _ hlt hm.out HE.out _).mono ?_;rintro e w2 ⟨rfl,hb2⟩;replace hbld:=eG hbld hb2;have hb3:=hb2.mono hBr;replace hbr:=hbr.trans hb3;clear hcr hfr hBr;have hBr:=bGC hB1 hbr.size;obtain⟨hcr,hfr⟩:=aQ hbr;clear hb2 hb3)|(go_at_call 132;refine(qE _ _ _ oM oM _ hbld oM hBr).mono ?_;rintro e w3 ⟨rfl,hbld3,hb3⟩;replace hbld:=hbld3;replace hbr:=hbr.trans hb3;clear hcr hfr hBr;have hBr:=bGC hB1 hbr.size;obtain⟨hcr,hfr⟩:=aQ hbr;clear hbld3 hb3))
       go_roundw
       case rel=>exact⟨k+1,acc++[s[k]],o,oM,oM,oM,oM,q12,rfl,by simpa using hbld,sO,hbr,HX.out.symm⟩
       case measure=>exact q339
   ·have HE:=Lh he;have hX:=H.out.symm.trans (aOB hlt he);have hl1:=uZ (s.data.toList.drop k);have hl2:=sB s[k] (s.data.toList.drop (k+1));rw[<-aV s k hlt] at hl2;simp only[bGS,Array.length_toList] at hl1;have hl3:k+dZ (s.data.toList.drop k)<=s.size:=by have:s.data.size=s.size:=rfl;omega
    obtain⟨m,hmm⟩:=eX (dZ (s.data.toList.drop k));have hend:=fun w=>aLO s a k hlt hm.out he w
    rw[hmm] at hX hl2 hl3 hend;rw[show k-(a+1)+m=k+m-(a+1) from oM] at hX;have HX:=Lh hX;have HS:=Lh hend;clear H he hX hl1 hmm hend;go_wp2_with(first|(go_at_call 131;refine(HS.out _).mono ?_;rintro e w2 ⟨rfl,hb2⟩;replace hbld:=eG hbld hb2;have hb3:=hb2.mono hBr;replace hbr:=hbr.trans hb3;clear hcr hfr hBr;have hBr:=bGC hB1 hbr.size;obtain⟨hcr,hfr⟩:=aQ hbr;clear hb2 hb3)|(go_at_call 132;refine(qE _ _ _ oM oM _ hbld oM hBr).mono ?_;rintro e w3 ⟨rfl,hbld3,hb3⟩;replace hbld:=hbld3;replace hbr:=hbr.trans hb3;clear hcr hfr hBr;have hBr:=bGC hB1 hbr.size;obtain⟨hcr,hfr⟩:=aQ hbr;clear hbld3 hb3))
    go_roundw
    case rel=>exact⟨k+m,acc++[10],o,oM,oM,oM,oM,q12,rfl,by simpa using hbld,sO,hbr,HX.out.symm⟩
    case measure=>exact q339
  ·have HX:=Lh (show T=.bad 4 by have:=H.out;rw[List.drop_eq_nil_of_le sO,aOA] at this;exact this.symm);clear H;go_wp2_with(go_at_call 86;refine(cV _ _).mono ?_;rintro e w3 ⟨rfl,hb3⟩;replace hb3:=hbr.trans (hb3.mono hBr);obtain⟨hc3,hf3⟩:=aQ hb3)
   exact q412
abbrev aOD:L:=[48,49,50,51,52,53,54,55,56,57]
theorem vI(c:UInt8):aOD.contains c=iF c:=by
 simpa using rX (fun c=>aOD.contains c==iF c) q8 c
theorem aTV(c:UInt8):([43,45]:L).contains c=aR c:=by
 simpa using rX (fun c=>([43,45]:L).contains c==aR c) q8 c
theorem cH(p:UInt8->Bool)(l:L):l.dropWhile p=[]↔l.all p=true:=by
 induction l with
 |nil=>simp
 |cons c l ih=>by_cases h:p c<;>simp[List.dropWhile_cons,h,ih]
theorem oZ(l cs:L):Lib.trimS l cs=[]↔l.all (cs.contains ·)=true:=by
 unfold Lib.trimS Lib.trimRightS Lib.trimLeftS;rw[cH,List.all_reverse];constructor
 ·intro h;rw[<-List.all_reverse];have h2:=List.takeWhile_append_dropWhile (p:=fun x=>cs.contains x) (l:=l.reverse);rw[<-h2,List.all_append,h,Bool.and_true];exact List.all_takeWhile
 ·intro h;rw[<-List.all_reverse] at h;rw[(cH _ _).2 h];rfl
theorem aTW(l:L):jF l=(decide ((l.length:Int)-(l.dropWhile aR).length<=1)&&!(l.dropWhile aR).isEmpty&&(l.dropWhile aR).all iF):=by
 have hsd:∀c,aR c=true->iF c=false:=fun c h=>by
  exact q523
 cases l with
 |nil=>simp[jF,aL]
 |cons c l =>
  by_cases h:aR c
  ·simp only[jF,aL,h,if_true,List.dropWhile_cons,eW];have hle:=(List.dropWhile_sublist aR (l:=l)).length_le;by_cases h2:(l.dropWhile aR).length=l.length
   ·have:l.dropWhile aR=l := by
     have:=List.dropWhile_suffix aR (l:=l);exact this.eq_of_length h2
    rw[this];simp[show(l.length:Int)+1-l.length<=1 by omega]
   ·cases l with
    |nil=>simp at h2
    |cons d l =>
     by_cases hd:aR d
     ·have h3:=hsd d hd;have hle2:=(List.dropWhile_sublist aR (l:=l)).length_le;simp[h3,hd,List.dropWhile_cons];omega
     ·simp[List.dropWhile_cons,hd] at h2
  ·simp[jF,aL,h,List.dropWhile_cons,eW]
def nJ(l:L):Int:=if jF l then 1 else if l.contains 46 then 2 else 0
theorem aDB(s:ByteArray)(d:L)(h:s.data.toList.dropWhile aR=d)(w:World) :
 Calls prog 176 #[.string s,.string ⟨#[43,45]⟩] w fun e w'=>e=.returned (.string ⟨d.toArray⟩)/\Below w.heap.size w w':=by
 have:=Tryz.strings_TrimLeft_cut s ⟨#[43,45]⟩ w dC (ascii_of_all dC);rw[show Lib.trimLeftS s.data.toList (ByteArray.mk #[43,45]).data.toList=d by
  rw[<-h];unfold Lib.trimLeftS;congr 1;funext c;exact aTV c] at this
 exact this
theorem aLR(d:L)(hd:d.length<=140737488355327)(t:L)(h:Lib.trimS d aOD=t)(w:World) :
 Calls prog 177 #[.string ⟨d.toArray⟩,.string ⟨#[48,49,50,51,52,53,54,55,56,57]⟩] w fun e w'=>e=.returned (.string ⟨t.toArray⟩)/\Below w.heap.size w w':=by
 have:=Tryz.strings_Trim_cut ⟨d.toArray⟩ ⟨#[48,49,50,51,52,53,54,55,56,57]⟩ w q31 dC (ascii_of_all dC);rw[show Lib.trimS (ByteArray.mk d.toArray).data.toList (ByteArray.mk #[48,49,50,51,52,53,54,55,56,57]).data.toList=t from h] at this;exact this
theorem bDS(l:L)(c:UInt8):0<=Lib.indexByte l c↔l.contains c=true:=by
 rw[Lib.contains_iff_indexByte];simp
theorem aDC(s:ByteArray)(b:Bool)(h:s.data.toList.contains 46=b)(w:World) :
 Calls prog 178 #[.string s,.string ⟨#[46]⟩] w fun e w'=>e=.returned (.bool b)/\w'=w:=by
 have:=Tryz.strings_Contains_one s 46 w;rw[show decide (0<=Lib.indexByte s.data.toList 46)=b from ?_] at this
 ·exact this
 ·rw[<-h,Bool.eq_iff_iff];simp only[decide_eq_true_eq];exact bDS _ _
theorem aTX(s:ByteArray)(hs:s.size<=140737488355327)(w:World) :
 Calls prog 136 #[.string s] w fun e w'=>e=.returned (.int .i64 (nJ s.data.toList))/\Below w.heap.size w w':=by
 obtain⟨d,hd⟩:=eX (s.data.toList.dropWhile aR);obtain⟨t,ht⟩:=eX (Lib.trimS d aOD);obtain⟨b,hb⟩:=eX (s.data.toList.contains 46);have hdl:d.length<=s.size:=by
  rw[<-hd];exact(List.dropWhile_sublist aR (l:=s.data.toList)).length_le
 have hc:nJ s.data.toList=if(decide ((s.size:Int)-d.length<=1)&&!d.isEmpty&&t.isEmpty) then 1 else if b then 2 else 0:=by
  unfold nJ;rw[aTW,hd,hb,<-ht];have:(Lib.trimS d aOD).isEmpty=d.all iF:=by
   rw[Bool.eq_iff_iff,List.isEmpty_iff,oZ];simp only[vI]
  rw[this];rfl
 obtain⟨R,hR⟩:=eX (nJ s.data.toList);rw[hR];rw[hR] at hc;have HR:=Lh hc;clear hR;have HD:=Lh hd;have HT:=Lh ht;have HB:=Lh hb;clear hd ht hb hc;go_enter func136,ntmps136
 go_wp2_with(first|(go_at_call 176;refine(aDB _ d HD.out _).mono ?_;rintro e w1 ⟨rfl,hb1⟩;have hz1:=hb1.size)|(go_at_call 177;refine(aLR d oM t HT.out _).mono ?_;rintro e w2 ⟨rfl,hb2⟩)|(go_at_call 178;refine(aDC _ b HB.out _).mono ?_;rintro e w3 ⟨rfl,rfl⟩))
 all_goals go_ret
 all_goals exact⟨eA (by rw[HR.out];cases hd0:d.isEmpty<;>cases ht0:t.isEmpty<;>simp_all),bel⟩
theorem qF(l:L)(c:UInt8):val (l++[c])=10*val l+(c.toNat-48):=by simp[val,List.foldl_append]
theorem aDD{l:L}(h:jF l=true):l.dropWhile aR=aL l/\(aL l).all iF=true/\aL l≠[]/\l≠[]:=by
 have hsd:∀c,iF c=true->aR c=false:=fun c h=>by
  exact q523
 unfold jF eW at h;simp only[Bool.and_eq_true,Bool.not_eq_true',List.isEmpty_eq_false_iff] at h;refine⟨?_,h.2,h.1,?_⟩
 ·cases l with
  |nil=>rfl
  |cons c l =>
   by_cases hc:aR c
   ·simp only[aL,hc,if_true,List.dropWhile_cons] at *
    cases l with
    |nil=>rfl
    |cons d l =>
     have:=h.2;simp only[List.all_cons,Bool.and_eq_true] at this;simp[List.dropWhile_cons,hsd d this.1]
   ·simp[aL,hc,List.dropWhile_cons]
 ·rintro rfl;simp[aL] at h
def bAK:Res Int->Value
 |.bad e=>.tuple #[.int .i64 0,.int .i64 e]
 |.good n=>.tuple #[.int .i64 n,.int .i64 0]
theorem pL(l:L)(k:Nat)(h:k<l.length):l.take (k+1)=l.take k++[l[k]]:=by
 rw[List.take_succ_eq_append_getElem h]
theorem pM{c:UInt8}(h:iF c=true):48<=c.toNat/\c.toNat<=57:=by
 unfold iF at h;simpa[UInt8.le_iff_toNat_le] using h
theorem aDE(s:ByteArray)(hs:s.size<=140737488355327)(h:jF s.data.toList=true)(w:World) :
 Calls prog 137 #[.string s] w fun e w'=>e=.returned (bAK (iM s.data.toList))/\Below w.heap.size w w':=by
 obtain⟨h1,h2,h3,h4⟩:=aDD h;obtain⟨d,hd⟩:=eX (aL s.data.toList);rw[hd] at h1 h2 h3;have hdl:d.length<=s.size:=by
  rw[<-h1];exact(List.dropWhile_sublist aR (l:=s.data.toList)).length_le
 have hs0:0<s.size:=List.length_pos_iff.2 h4;have hsz:(ByteArray.mk d.toArray).size=d.length:=q36;obtain⟨R,hR⟩:=eX (iM s.data.toList);rw[hR];unfold iM at hR;rw[hd] at hR;have HR:=Lh hR;have HD:=Lh h1;have HS:=Lh hsz;have hdig:∀k (hk:k<d.length),48<=d[k].toNat/\d[k].toNat<=57:=fun k hk=>pM (List.all_eq_true.1 h2 _ (bGG hk))
 have HG:=Lh hdig;have hmin:Hid (iG s.data.toList=(s[0]==45)):=by
  unfold iG;have:=aV s 0 hs0;rw[List.drop_zero] at this;show _=_
  rw[this];simp
 clear hR hd h1 h2 h3 h4 h hsz hdig;go_enter func137,ntmps137
 go_wp2_with(go_at_call 176;refine(aDB _ d HD.out _).mono ?_;rintro e w1 ⟨rfl,hb⟩;have hz1:=hb.size)
 go_loopw [4] (fun n wr=>∃(k v:Nat),k<=d.length/\v<=2147483648/\n=.int .i64 v/\Hid (v=min (val (d.take k)) 2147483648)/\wr=w1.iter ⟨d.toArray⟩ k) (fun _ wr=>d.length-wr.iterPos w1.heap.size)
 case atStart=>exact⟨0,0,oM,oM,rfl,by show _=_;simp[val],rfl⟩
 case round =>
  obtain⟨k,v,hk,hv,rfl,HV,rfl⟩:=hrel;by_cases hp:k<d.length
  ·have hp2:k<(ByteArray.mk d.toArray).size:=by rw[HS.out];exact hp
   have hg:=HG.out k hp;have hbk:(ByteArray.mk d.toArray)[k]=d[k]:=rfl;have hnx:∀ty,(Instr.next (.pointer (some ⟨w1.heap.size,0,none⟩)) true ty).run prog (w1.iter ⟨d.toArray⟩ k)=.ok (.tuple #[.bool true,.int .i64 k,.int .i32 d[k].toNat]) (w1.iter ⟨d.toArray⟩ (k+1)):=fun ty=>run_next_ascii w1 _ k ty hp2 (by rw[hbk];omega)
   have HV2:=Lh (show min (10*v+(d[k].toNat-48)) 2147483648=min (val (d.take (k+1))) 2147483648 by
    rw[pL d k hp,qF,HV.out];omega)
   clear hbk;go_wp2;go_roundw
   case rel=>exact⟨k+1,min (10*v+(d[k].toNat-48)) 2147483648,oM,oM,by congr 1;omega,HV2.out,rfl⟩
   case measure=>simp;omega
  ·have hk2:k=d.length:=oM;subst hk2;have hnx:∀ty,(Instr.next (.pointer (some ⟨w1.heap.size,0,none⟩)) true ty).run prog (w1.iter ⟨d.toArray⟩ d.length)=.ok (.tuple #[.bool false]) (w1.iter ⟨d.toArray⟩ d.length):=fun ty=>run_next_end w1 _ _ ty (by rw[HS.out];omega)
   have hV:=HV.out;rw[List.take_length] at hV;clear HV;by_cases hbig:2147483647<v
   ·have HX:=Lh (show R=.bad 2 by rw[<-HR.out,bGV oM]);clear hV;exact q508
   ·have hX:=HR.out;rw[bGU oM,hmin.out] at hX;have HV:=Lh (show val d=v from oM);clear hV;by_cases h45:s[0]=45
    ·have t1:((s[0].toNat:Int)==45)=true:=cP (n:=45) dC h45;have HX:=Lh (show R=.good (-(v:Int)) by rw[<-hX,h45,HV.out];rfl);clear hX h45;exact q508
    ·have t1:((s[0].toNat:Int)==45)=false:=eD (n:=45) dC h45;have HX:=Lh (show R=.good (v:Int) by rw[<-hX,HV.out];simp[h45]);clear hX h45;exact q508
theorem dH(p q:Addr)(w:World) :
 CallsD prog 179 #[.pointer (some p),.pointer (some q)] .returning w fun e u' w'=>e=.returned (.tuple #[])/\u'=.returning/\w'=w:=by
 exact q346
theorem kB(p q:Addr)(x:Int)(older:List PanicEntry)(w:World)(v0 v1:Int)(c0:w.cell? p=some (.int .i64 v0))(f0:w.frozen? p=false)(c1:w.cell? q=some (.int .i64 v1))(f1:w.frozen? q=false)(hne:p≠q) :
 CallsD prog 179 #[.pointer (some p),.pointer (some q)] (.panicking ({ v:=.iface 286 (.int .i64 x),recovered:=false }::older)) w fun e u' w' =>
  e=.returned (.tuple #[])/\u'=.panicking ({ v:=.iface 286 (.int .i64 x),recovered:=true }::older)/\w'=(w.setCell p (.int .i64 0)).setCell q (.int .i64 x):=by
 have hta:∀(x:Int) (w:World),(Instr.typeAssert (.iface 286 (.int .i64 x)) 20 286 true).run prog w=.ok (.tuple #[.int .i64 x,.bool true]) w:=fun _ _=>kR
 exact q346
def aF(w:World)(m:Int):Prop:=w.cell? ⟨1,0,none⟩=some (.int .i64 m)
theorem aF.lt{w:World}{m:Int}(h:aF w m):1<w.heap.size:=by
 unfold aF World.cell? at h;rcases Nat.lt_or_ge 1 w.heap.size with h0|h0
 ·exact h0
 ·rw[Array.getElem?_eq_none h0] at h;simp at h
theorem aF.below{w w':World}{m:Int}(h:aF w m)(hb:Below w.heap.size w w'):aF w' m:=by
 unfold aF at *;rw[hb.cell (p:=⟨1,0,none⟩) (aF.lt h)];exact h
theorem aF.belowB{B:Nat}{w w':World}{m:Int}(h:aF w m)(hb:Below B w w')(hB:1<B):aF w' m:=by
 unfold aF at *;rw[hb.cell (p:=⟨1,0,none⟩) hB];exact h
theorem gR(d:L)(hd:d.length<=140737488355327)(b:Bool)(hb:eW d=b)(w:World) :
 Calls prog 181 #[.string ⟨d.toArray⟩] w fun e w'=>e=.returned (.bool b)/\Below w.heap.size w w':=by
 obtain⟨t,ht⟩:=eX (Lib.trimS d aOD);have htb:Hid (t.isEmpty=b):=by
  show _=_
  rw[<-hb,Bool.eq_iff_iff,List.isEmpty_iff,<-ht,oZ];simp only[vI,eW]
 have HT:=Lh ht;clear ht hb;go_enter func181,ntmps181
 go_wp2_with(go_at_call 177;refine(aLR d hd t HT.out _).mono ?_;rintro e w2 ⟨rfl,hb2⟩)
 go_ret
 exact⟨bG (by rw[<-htb.out]),bel⟩
theorem vJ(n:Int)(h0:-9223372036854775808<=n)(h1:n<=9223372036854775807)(b:Bool)(hb:(decide (-1073741824<=n)&&decide (n<=1073741824))=b)(w:World) :
 Calls prog 225 #[.int .i64 n] w fun e w'=>e=.returned (.bool b)/\w'=w:=by
 have HB:=Lh hb;clear hb;go_enter func225,ntmps225
 go_wp2;all_goals go_ret
 all_goals exact⟨bG (by rw[<-HB.out];first|(simp_all;done)|(simp;omega)),rfl⟩
theorem iT(b:Nat)(n:Int)(w:World)(hc:w.cell? ⟨b,0,none⟩=some (.int .i64 n))(h0:-1073741824<=n)(h1:n<=1073741824) :
 Calls prog 183 #[.slice (some ⟨b,0,none⟩) 1 1] w fun e w'=>e=.returned (.tuple #[])/\w'=w:=by
 go_enter func183,ntmps183
 go_wp2;refine wp_loop_rounds 2 ?_;rw[rounds_succ];go_wp2_with(go_at_call 225;refine(vJ n oM oM true sO _).mono ?_;rintro e w2 ⟨rfl,rfl⟩)
 rw[rounds_succ];exact q418
theorem kC(b:Nat)(n:Int)(w:World)(hc:w.cell? ⟨b,0,none⟩=some (.int .i64 n))(h0:-9223372036854775808<=n)(h1:n<=9223372036854775807)(h:n < -1073741824\/1073741824<n) :
 Calls prog 183 #[.slice (some ⟨b,0,none⟩) 1 1] w fun e w'=>e=.panicked [{ v:=.iface 286 (.int .i64 2),recovered:=false }]/\w'=w:=by
 have hb:Hid ((decide (-1073741824<=n)&&decide (n<=1073741824))=false):=by show _=_;simp;omega
 clear h;go_enter func183,ntmps183
 go_wp2;refine wp_loop_rounds 1 ?_;rw[rounds_succ];go_wp2_with(go_at_call 225;refine(vJ n oM oM false hb.out _).mono ?_;rintro e w2 ⟨rfl,rfl⟩)
 exact q436
theorem aOE(l:L):(0<=Lib.index l [46]->(l.take (Lib.index l [46]).toNat=eC l/\l.drop ((Lib.index l [46]).toNat+1)=bU l))/\(¬0<=Lib.index l [46]->eC l=l/\bU l=[]):=by
 rw[Lib.index_one];induction l with
 |nil=>simp[Lib.indexByte,eC,bU]
 |cons c l ih =>
  by_cases h:c=46
  ·subst h;simp[Lib.indexByte,eC,bU]
  ·have hb:(c==46)=false:=q10;have hn:(c !=46)=true:=q10;have hge:=Lib.indexByte_ge l 46;simp only[Lib.indexByte,hb,Bool.false_eq_true,if_false];by_cases h1:Lib.indexByte l 46=-1
   ·simp only[h1,beq_self_eq_true,if_true];have:=ih.2 oM;simp only[eC,bU] at *
    rw[List.takeWhile_cons,List.dropWhile_cons,bGV hn,bGV hn,this.1,this.2];simp
   ·have h2:(Lib.indexByte l 46==-1)=false:=q37;simp only[h2,Bool.false_eq_true,if_false];have:=ih.1 oM;refine⟨fun _=>?_,fun hx=>absurd oM hx⟩;rw[show(Lib.indexByte l 46+1).toNat=(Lib.indexByte l 46).toNat+1 by omega];simp only[eC,bU] at *
    rw[List.takeWhile_cons,List.dropWhile_cons,bGV hn,bGV hn,List.take_succ_cons,List.drop_succ_cons,this.1,this.2];simp
theorem aLS(l:L):(Lib.cut l [46]).1=eC l/\(Lib.cut l [46]).2.1=bU l:=by
 unfold Lib.cut;have:=aOE l;by_cases h:0<=Lib.index l [46]
 ·rw[bGV h];exact this.1 h
 ·rw[bGU h];exact⟨(this.2 h).1.symm,(this.2 h).2.symm⟩
theorem lN(s:ByteArray)(a b:L)(ha:eC s.data.toList=a)(hb:bU s.data.toList=b)(hs:s.size<=40)(m:Int)(w:World)(hm:aF w m) :
 Calls prog 180 #[.string s,.string ⟨#[46]⟩] w fun e w'=>∃f,e=.returned (.tuple #[.string ⟨a.toArray⟩,.string ⟨b.toArray⟩,.bool f])/\∃n,w'=w.drewN n:=by
 have:=Tryz.strings_Cut s ⟨#[46]⟩ m w oM hm;rw[show(ByteArray.mk #[46]).data.toList=[46] from rfl,(aLS _).1,(aLS _).2,ha,hb] at this;exact this.mono fun e w' ⟨h1,h2⟩=>⟨_,h1,h2⟩
theorem aHJ(a b:L):val (a++b)=val a*10 ^ b.length+val b:=by
 have key:∀(b:L) (v:Nat),b.foldl (fun v c=>10*v+(c.toNat-48)) v=v*10 ^ b.length+b.foldl (fun v c=>10*v+(c.toNat-48)) 0:=by
  intro b;induction b with
  |nil=>simp
  |cons c b ih =>
   intro v;simp only[List.foldl_cons,bHA];rw[ih,ih (10*0+(c.toNat-48)),Nat.pow_succ];generalize c.toNat-48=d
   generalize 10 ^ b.length=x
   generalize b.foldl (fun v c=>10*v+(c.toNat-48)) 0=r
   have:(10*v+d)*x=v*(x*10)+(10*0+d)*x:=by
    rw[Nat.mul_zero,Nat.zero_add,Nat.add_mul,bHL x 10,<-Nat.mul_assoc,bHL v 10]
   omega
 unfold val;rw[List.foldl_append,key]
theorem xL(a b:L):val a<=val (a++b):=by
 rw[aHJ];exact bGC (Nat.le_mul_of_pos_right _ (Nat.pow_pos dC)) (Nat.le_add_right _ _)
def aP(b:L):L:=Lib.trimRightS ((b++[48,48,48,48,48]).drop 4) [48]
theorem aOF(l:L)(h:∀c∈l,c=48):Lib.trimRightS l [48]=[]:=by
 unfold Lib.trimRightS;rw[(cH _ _).2 (by rw[List.all_reverse];simpa using h)];rfl
theorem aAG(l z:L)(h:∀c∈z,c=48):Lib.trimRightS (l++z) [48]=Lib.trimRightS l [48]:=by
 unfold Lib.trimRightS;rw[List.reverse_append,List.dropWhile_append_of_pos (by intro c hc;simpa using h c q38)]
theorem aLT(b:L):aP b=Lib.trimRightS (b.drop 4) [48]:=by
 unfold aP;rw[List.drop_append];exact aAG _ _ (fun c hc=>by
  have:=List.mem_of_mem_drop hc;simp at this;exact this)
theorem aTY(b:L):(b++[48,48,48,48,48]).take 4=dE b:=by
 unfold dE;rw[show([48,48,48,48,48]:L)=[48,48,48,48]++[48] from rfl,<-List.append_assoc];rw[List.take_append_of_le_length sI]
theorem vK(c:UInt8)(r:L):Lib.trimRightS (c::r) [48]=if(c::r).all (·==48) then[] else c::Lib.trimRightS r [48]:=by
 by_cases h:(c::r).all (·==48)
 ·rw[bGV h];exact aOF _ (fun d hd=>by have:=List.all_eq_true.1 h d hd;simpa using this)
 ·rw[bGU h];unfold Lib.trimRightS;rw[List.reverse_cons];by_cases hr:r.all (·==48)
  ·have hc:¬c=48:=by intro hc;apply h;simp[hc];simpa using hr
   have h0:r.reverse.dropWhile (([48]:L).contains ·)=[]:=by
    rw[cH,List.all_reverse];rw[bHB] at *
    intro d hd;have:=hr d hd;simp at this;simp[this]
   rw[List.dropWhile_append_of_pos (by
    intro d hd;have:=List.all_eq_true.1 hr d (by simpa using hd);simp at this;simp[this]),h0]
   simp[List.dropWhile_cons,hc]
  ·have h0:r.reverse.dropWhile (([48]:L).contains ·)≠[] := by
    intro h0;rw[cH,List.all_reverse] at h0;apply hr
    rw[bHB] at *
    intro d hd;have:=h0 d hd;simpa using this
   rw[List.dropWhile_append];simp only[List.isEmpty_iff,h0,if_false];simp
theorem nK(c:UInt8)(r:L):Op.bytesLess (c::r) [53]=decide (c<53):=by
 simp only[Op.bytesLess];by_cases h:c<53
 ·simp[h]
 ·by_cases h2:c=53
  ·subst h2;cases r<;>simp[Op.bytesLess]
  ·simp[h,h2]
theorem aTZ(b:L)(h:b.all iF=true):(!Op.bytesLess (aP b) [53])=mF (b.drop 4):=by
 rw[aLT];have hd:(b.drop 4).all iF=true:=by
  rw[bHB] at *;intro c hc;exact h c (List.mem_of_mem_drop hc)
 cases hb:b.drop 4 with
 |nil=>simp[Lib.trimRightS,Op.bytesLess,mF]
 |cons c r =>
  rw[vK];split
  ·rename_i h2
   simp at h2;simp[Op.bytesLess,mF,h2.1]
  ·rw[nK,Bool.eq_iff_iff];simp[mF,UInt8.lt_iff_toNat_lt,UInt8.le_iff_toNat_le]
theorem aUA(b:L)(h:b.all iF=true):(!(Op.bytesLess (aP b) [53]||aP b==[53]))=gA (b.drop 4):=by
 rw[aLT];cases hb:b.drop 4 with
 |nil=>simp[Lib.trimRightS,Op.bytesLess,gA]
 |cons c r =>
  rw[vK];split
  ·rename_i h2
   simp at h2;have:r.any (· !=48)=false:=by rw[List.any_eq_false];intro d hd;simp[h2.2 d hd]
   simp[Op.bytesLess,gA,h2.1]
  ·rw[nK];have key:(Lib.trimRightS r [48]==[])=!(r.any (· !=48)):=by
    rw[Bool.eq_iff_iff];unfold Lib.trimRightS;simp only[beq_iff_eq,List.reverse_eq_nil_iff,cH,List.all_reverse];simp
   have e:(c::Lib.trimRightS r [48]==[53])=(c==53&&(Lib.trimRightS r [48]==[])):=rfl;rw[e,key];simp only[gA];by_cases h1:c<53
   ·have:¬(53:UInt8)<c:=by simp[UInt8.lt_iff_toNat_lt] at *;omega
    have h3:(c==53)=false:=by simp;rintro rfl;simp at h1
    simp[h1,this,h3]
   ·by_cases h2:c=53
    ·subst h2;simp
    ·have:(53:UInt8)<c := by
      simp[UInt8.lt_iff_toNat_lt] at *
      have:c.toNat≠53:=fun h=>h2 (UInt8.toNat_inj.1 h)
      omega
     simp[h1,this,h2]
end Go.Proofs.YtdjpkgccakgkbaaGreatDoor
