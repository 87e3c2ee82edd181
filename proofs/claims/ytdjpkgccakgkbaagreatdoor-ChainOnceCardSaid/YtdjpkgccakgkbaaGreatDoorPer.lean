/- Parts of the proof: CoE CoF InA RwA RwB InB RwC Flt AsA AsB InC InD. -/
import Derived.Test.YtdjpkgccakgkbaaGreatDoorPeq
import Derived.Test.YtdjpkgccakgkbaaGreatDoorPei
import Derived.Test.YtdjpkgccakgkbaaGreatDoorPea
import Derived.Laws.AppendOwnNone
import Derived.Lib.AppendStr
import Derived.Deep.RegionLaw
import Derived.Deep.RegionHeld3
import Derived.StillTailTactics
import Derived.Test.YtdjpkgccakgkbaaGreatDoorPeb
import Derived.BigQuiet
import Derived.Deep.QuietTactic
set_option linter.all false
set_option maxRecDepth 100000
set_option maxHeartbeats 8000000
section
variable{p:Prop}
theorem q187(h:p:=by have:=h.lt;have:=bGJ h.blk;omega):p:=h
theorem q188(h:p:=by rw[<-HR2.out,hbt]):p:=h
theorem q189(h:p:=by first|exact H4.out|exact H4.out.drew|exact H4.out.drew.drew):p:=h
theorem q190(h:p:=by first|exact HW4.out|exact HW4.out.drew|exact HW4.out.drew.drew):p:=h
theorem q191(h:p:=by first|exact H5.out.row|exact H5.out.drew.row|exact H5.out.drew.drew.row):p:=h
theorem q192(h:p:=by intro c h;cases h):p:=h
theorem q193(h:p:=by have h:=HR2.out;rw[hpf] at h;exact h):p:=h
theorem q194(h:p:=by rw[<-HR.out,List.drop_eq_nil_of_le (by show s.data.toList.length<=s.size;simp)];rfl):p:=h
theorem q331(h:p:=by
 intro j u hj;have hjl:j<ys.length*E.k:=by
  have:=(List.getElem?_eq_some_iff.1 hj).1;rwa [E.row_length] at this
 have hq:j/E.k<ys.length:=Nat.div_lt_of_lt_mul (by rw[bHL];exact hjl);obtain⟨g,off,e,_,hcc⟩:=hc (j/E.k) hq;cases e;have hm:=Nat.mod_lt j hk0;have hj2:j=j/E.k*E.k+j % E.k:=by rw[bHL];exact(Nat.div_add_mod j E.k).symm
 have hr:=E.row_at ys (j/E.k) hq (j % E.k) hm;rw[<-hj2,hj] at hr;have:=hcc (j % E.k) u hr.symm;rw[show off+j/E.k*E.k+j % E.k=off+j from oM] at this;by_cases hj0:j=0<;>simpa[Addr.add,hj0] using this):p:=h
theorem q362(h:p:=by
 go_wp2_with(go_at_call 196;(with_reducible refine(iJ _ _).mono ?_);rintro e w9 ⟨rfl,rfl⟩)
 exact⟨rfl,HB.out,q161⟩):p:=h
theorem q373(h:p:=by
 rw[hpf] at h2;have HRE:=Lh (show R=.bad j from by rw[<-HR2.out,hpf]);obtain rfl:=h2;go_wp2_with fail;exact⟨rfl,HB2.out,q161⟩):p:=h
theorem q400(h:p:=by
 go_wp2_with(go_at_call 261;(with_reducible refine(dO _ _).mono ?_);rintro e w9 ⟨rfl,rfl⟩)
 exact⟨rfl,rfl,rfl⟩):p:=h
theorem q406(h:p:=by
 go_wp2_with fail;refine(HS.out _).mono ?_;rintro e w1 ⟨rfl,hb1⟩;clear HS;go_wp2_with fail;refine(HT.out _).mono ?_;rintro e w2 ⟨rfl,hb2⟩;clear HT;go_wp2;go_ret2
 exact⟨rfl,hb1.trans (hb2.mono hb1.size)⟩):p:=h
theorem q444(h:p:=by
 unfold mO at h;match q,hq with
 |0,_|1,_|2,_|3,_|4,_|5,_|6,_|7,_|8,_|9,_|10,_|11,_|12,_|13,_|14,_|15,_=>simp[World.cell?,h]
 |q+16,h=>exact absurd h oM):p:=h
theorem q482(h:p:=by
 intro u hu;unfold Enc.row at hu;obtain⟨y,_,hu⟩:=List.mem_flatMap.1 hu;exact E.one y u hu):p:=h
theorem q524(h:p:=by
 go_end0
 exact⟨HB.out,by rw[HRE.out];exact⟨rfl,vo,HV.out⟩⟩):p:=h
theorem q539(h:p:=by
 unfold aG;rw[E.row_append,bGR];exact hown'):p:=h
theorem q544(h:p:=by exact(hbw.setCell (bGB _) _).setCell (bGB _) _):p:=h
theorem q577(h:p:=by
 go_wp2_with(go_at_call 261;(with_reducible refine(cI _ _).mono ?_);rintro e w9 ⟨rfl,rfl⟩)
 exact q393):p:=h
theorem q587(h:p:=by
 obtain rfl:k=s.size:=oM;have HRE:=Lh (show R=.bad 4 from q194);clear HR;exact q362):p:=h
end
namespace Go.Proofs.YtdjpkgccakgkbaaGreatDoor
open Go.Proofs.Tryz
open Go.RowKit Fo
def mO(vl vc vo:Value)(n f:Nat->Nat):Array Value:=#[vl,vc,.int .i64 (n 0:Nat),.int .i64 (n 1:Nat),.int .i64 (n 2:Nat),.int .i64 (n 3:Nat),.int .i64 (n 4:Nat),.int .i64 (n 5:Nat),.int .i64 (n 6:Nat),.int .i64 (n 7:Nat),.int .i64 (n 8:Nat),.int .i64 (n 9:Nat),.int .i64 (n 10:Nat),.int .i64 (n 11:Nat),.int .i64 (n 12:Nat),.int .i64 (n 13:Nat),.int .i64 (n 14:Nat),.int .i64 (n 15:Nat),.int .i64 (f 0:Nat),.int .i64 (f 1:Nat),.int .i64 (f 2:Nat),.int .i64 (f 3:Nat),.int .i64 (f 4:Nat),.int .i64 (f 5:Nat),.int .i64 (f 6:Nat),.int .i64 (f 7:Nat),.int .i64 (f 8:Nat),.int .i64 (f 9:Nat),.int .i64 (f 10:Nat),.int .i64 (f 11:Nat),.int .i64 (f 12:Nat),.int .i64 (f 13:Nat),.int .i64 (f 14:Nat),.int .i64 (f 15:Nat),vo]
theorem TblB.n{w:World}{t:Nat}{vl vc vo:Value}{n f:Nat->Nat}(h:w.heap[t]?=some (.cells (mO vl vc vo n f) 396 (0,0))) :
 w.cell? ⟨t,2,none⟩=some (.int .i64 (n 0:Nat))/\w.cell? ⟨t,3,none⟩=some (.int .i64 (n 1:Nat))/\w.cell? ⟨t,4,none⟩=some (.int .i64 (n 2:Nat))/\w.cell? ⟨t,5,none⟩=some (.int .i64 (n 3:Nat))/\w.cell? ⟨t,6,none⟩=some (.int .i64 (n 4:Nat))/\w.cell? ⟨t,7,none⟩=some (.int .i64 (n 5:Nat))/\w.cell? ⟨t,8,none⟩=some (.int .i64 (n 6:Nat))/\w.cell? ⟨t,9,none⟩=some (.int .i64 (n 7:Nat))/\w.cell? ⟨t,10,none⟩=some (.int .i64 (n 8:Nat))/\w.cell? ⟨t,11,none⟩=some (.int .i64 (n 9:Nat))/\w.cell? ⟨t,12,none⟩=some (.int .i64 (n 10:Nat))/\w.cell? ⟨t,13,none⟩=some (.int .i64 (n 11:Nat))/\w.cell? ⟨t,14,none⟩=some (.int .i64 (n 12:Nat))/\w.cell? ⟨t,15,none⟩=some (.int .i64 (n 13:Nat))/\w.cell? ⟨t,16,none⟩=some (.int .i64 (n 14:Nat))/\w.cell? ⟨t,17,none⟩=some (.int .i64 (n 15:Nat))/\∀o,w.frozen? ⟨t,o,none⟩=false:=by
 unfold mO at h;exact q374
theorem TblB.f{w:World}{t:Nat}{vl vc vo:Value}{n f:Nat->Nat}(h:w.heap[t]?=some (.cells (mO vl vc vo n f) 396 (0,0))) :
 w.cell? ⟨t,18,none⟩=some (.int .i64 (f 0:Nat))/\w.cell? ⟨t,19,none⟩=some (.int .i64 (f 1:Nat))/\w.cell? ⟨t,20,none⟩=some (.int .i64 (f 2:Nat))/\w.cell? ⟨t,21,none⟩=some (.int .i64 (f 3:Nat))/\w.cell? ⟨t,22,none⟩=some (.int .i64 (f 4:Nat))/\w.cell? ⟨t,23,none⟩=some (.int .i64 (f 5:Nat))/\w.cell? ⟨t,24,none⟩=some (.int .i64 (f 6:Nat))/\w.cell? ⟨t,25,none⟩=some (.int .i64 (f 7:Nat))/\w.cell? ⟨t,26,none⟩=some (.int .i64 (f 8:Nat))/\w.cell? ⟨t,27,none⟩=some (.int .i64 (f 9:Nat))/\w.cell? ⟨t,28,none⟩=some (.int .i64 (f 10:Nat))/\w.cell? ⟨t,29,none⟩=some (.int .i64 (f 11:Nat))/\w.cell? ⟨t,30,none⟩=some (.int .i64 (f 12:Nat))/\w.cell? ⟨t,31,none⟩=some (.int .i64 (f 13:Nat))/\w.cell? ⟨t,32,none⟩=some (.int .i64 (f 14:Nat))/\w.cell? ⟨t,33,none⟩=some (.int .i64 (f 15:Nat))/\w.cell? ⟨t,34,none⟩=some vo:=by
 unfold mO at h;simp[World.cell?,h]
theorem TblB.setf{w:World}{t:Nat}{vl vc vo:Value}{n f:Nat->Nat}(h:w.heap[t]?=some (.cells (mO vl vc vo n f) 396 (0,0)))(f':Nat->Nat) :
 (((((((((((((((((w.setCell ⟨t,18,none⟩ (.int .i64 (f' 0:Nat))).setCell ⟨t,19,none⟩ (.int .i64 (f' 1:Nat))).setCell ⟨t,20,none⟩ (.int .i64 (f' 2:Nat))).setCell ⟨t,21,none⟩ (.int .i64 (f' 3:Nat))).setCell ⟨t,22,none⟩ (.int .i64 (f' 4:Nat))).setCell ⟨t,23,none⟩ (.int .i64 (f' 5:Nat))).setCell ⟨t,24,none⟩ (.int .i64 (f' 6:Nat))).setCell ⟨t,25,none⟩ (.int .i64 (f' 7:Nat))).setCell ⟨t,26,none⟩ (.int .i64 (f' 8:Nat))).setCell ⟨t,27,none⟩ (.int .i64 (f' 9:Nat))).setCell ⟨t,28,none⟩ (.int .i64 (f' 10:Nat))).setCell ⟨t,29,none⟩ (.int .i64 (f' 11:Nat))).setCell ⟨t,30,none⟩ (.int .i64 (f' 12:Nat))).setCell ⟨t,31,none⟩ (.int .i64 (f' 13:Nat))).setCell ⟨t,32,none⟩ (.int .i64 (f' 14:Nat))).setCell ⟨t,33,none⟩ (.int .i64 (f' 15:Nat)))).heap[t]?=some (.cells (mO vl vc vo n f') 396 (0,0)):=by
 rw[aC (aC (aC (aC (aC (aC (aC (aC (aC (aC (aC (aC (aC (aC (aC (aC h)))))))))))))))];unfold mO;exact q390
theorem TblB.setf_below{w0 w:World}{B t:Nat}(h:Below B w0 w)(hB:B<=t)(f':Nat->Nat):Below B w0 (((((((((((((((((w.setCell ⟨t,18,none⟩ (.int .i64 (f' 0:Nat))).setCell ⟨t,19,none⟩ (.int .i64 (f' 1:Nat))).setCell ⟨t,20,none⟩ (.int .i64 (f' 2:Nat))).setCell ⟨t,21,none⟩ (.int .i64 (f' 3:Nat))).setCell ⟨t,22,none⟩ (.int .i64 (f' 4:Nat))).setCell ⟨t,23,none⟩ (.int .i64 (f' 5:Nat))).setCell ⟨t,24,none⟩ (.int .i64 (f' 6:Nat))).setCell ⟨t,25,none⟩ (.int .i64 (f' 7:Nat))).setCell ⟨t,26,none⟩ (.int .i64 (f' 8:Nat))).setCell ⟨t,27,none⟩ (.int .i64 (f' 9:Nat))).setCell ⟨t,28,none⟩ (.int .i64 (f' 10:Nat))).setCell ⟨t,29,none⟩ (.int .i64 (f' 11:Nat))).setCell ⟨t,30,none⟩ (.int .i64 (f' 12:Nat))).setCell ⟨t,31,none⟩ (.int .i64 (f' 13:Nat))).setCell ⟨t,32,none⟩ (.int .i64 (f' 14:Nat))).setCell ⟨t,33,none⟩ (.int .i64 (f' 15:Nat)))) :=
 ((((((((((((((((h.setCell hB _).setCell hB _).setCell hB _).setCell hB _).setCell hB _).setCell hB _).setCell hB _).setCell hB _).setCell hB _).setCell hB _).setCell hB _).setCell hB _).setCell hB _).setCell hB _).setCell hB _).setCell hB _)
theorem TblB.seto{w:World}{t:Nat}{vl vc vo:Value}{n f:Nat->Nat}(h:w.heap[t]?=some (.cells (mO vl vc vo n f) 396 (0,0)))(v:Value) :
 (w.setCell ⟨t,34,none⟩ v).heap[t]?=some (.cells (mO vl vc v n f) 396 (0,0)):=by
 rw[aC h];unfold mO;exact q390
def fL(w:World)(t:Nat)(l:List Nat):Prop:=∃vl vc vo,w.heap[t]?=some (.cells (mO vl vc vo (aY l) (bP (aY l))) 396 (0,0))/\aG cD 3 w (t+1) vo (lW l 15)
theorem fL.below{w w':World}{t:Nat}{l:List Nat}(h:fL w t l)(hb:Below w.heap.size w w'):fL w' t l:=by
 obtain⟨vl,vc,vo,h1,h2⟩:=h;exact⟨vl,vc,vo,(hb.block t (bGJ h1)).trans h1,h2.below hb⟩
theorem fL.bes{r:Nat}{w w':World}{t:Nat}{l:List Nat}(h:fL w t l)(hb:Bes r w w')(hr:r<t):fL w' t l:=by
 obtain⟨vl,vc,vo,h1,h2⟩:=h;refine⟨vl,vc,vo,(hb.block t (bGJ h1) oM).trans h1,fB h2 fun k hk=>?_⟩;have h3:=aK h2 k hk;exact hb.block k (cM h2 k hk) oM
theorem aQW(w:World)(p:Option Addr)(n c:Nat)(l:List Nat)(h:bC cD w (.slice p n c) l)(h0:0<n)(hn:n<=1000000) :
 Calls prog 315 #[.slice p n c] w fun e w'=>∃q m d,e=.returned (.slice q m d)/\Below w.heap.size w w':=by
 have hl:=fG h;obtain⟨g,off,rfl,_,_⟩:=jQ h 0 oM;refine(Tryz.slices_Clone_int g off n c (l.map Int.ofNat) w (by simp[hl]) oM (fun j hj=>?_)).mono ?_
 ·rw[List.length_map] at hj;obtain⟨g',off',e,_,hc⟩:=jQ h j hj;cases e;rw[hc,bGX,List.getElem?_map,bGE hj];rfl
 ·rintro e w' ⟨v',he,hr,_,hb⟩;obtain⟨q,d,rfl⟩:=aH hr;exact⟨q,n,d,he,hb⟩
theorem aBS(w:World)(v:Value)(l:List Nat)(h:bC cD w v l)(hl:∀x∈l,x<=15)(hn:l.length<=1000000)(hb:bY l≠0) :
 Calls prog 290 #[v] w fun e w'=>e=.returned (.tuple #[.pointer none,.int .i64 (bY l)])/\Below w.heap.size w w':=by
 have HC:=Lh (aQV w v l h hl hn hb);obtain⟨K,hK⟩:=eX (bY l);rw[hK] at HC hb ⊢;have hk:(K !=0)=true:=by simpa using hb
 clear h hl hn hb hK;go_enter func290,ntmps290
 go_wp2_with fail;refine HC.out.mono ?_;exact q529
theorem wO(w:World)(v:Value)(l:List Nat)(h:bC cD w v l)(hl:∀x∈l,x<=15)(h0:0<l.length)(hn:l.length<=1000)(hb:bY l=0) :
 Calls prog 290 #[v] w fun e w'=>∃t,w.heap.size<=t/\e=.returned (.tuple #[.pointer (some ⟨t,0,none⟩),.int .i64 0])/\fL w' t l/\Below w.heap.size w w':=by
 have HC:=Lh (aXL w v l h hl oM hb);obtain⟨p,c,rfl,_⟩:=id h;have HR:=Lh h;have HK:=Lh (fun(W:World) (hW:Below w.heap.size w W)=>aQW W p l.length c l (h.below hW) h0 oM);have HN0:=Lh (fun(W:World) (hW:Below w.heap.size w W)=>pT W _ l (h.below hW) hl oM);have HF:=Lh (fun(W:World)=>zJ W (aY l) (fun i=>by have:=aBQ l i;omega));obtain⟨N,hN⟩:=eX (l.length);rw[hN] at HR HC HK HN0 hn ⊢;have HN:=Lh hN;clear h hN hl hb h0;go_enter func290,ntmps290
 go_wp2_with fail;refine HC.out.mono ?_;rintro e w1 ⟨qc,mc,dc,rfl,hb1⟩;clear HC;go_wp2_with fail;refine(HK.out _ hb1).mono ?_;rintro e w2 ⟨ql,ml,dl,rfl,hb2⟩;have hbw2:=hb1.trans (hb2.mono hb1.size);clear HK hb1 hb2;go_wp2_with fail;refine(HN0.out _ hbw2).mono ?_;rintro e w3 ⟨rfl,hb3⟩;have hbw3:=hbw2.trans (hb3.mono hbw2.size);clear HN0 hb3 hbw2;unfold uF;obtain⟨F,hF⟩:=eX (aY l);rw[hF] at HF;simp only[hF];go_upto_region 5 with fail
 obtain⟨w4,hw4⟩:=eX (w3.alloc (.cells (mO (.slice ql ml dl) (.slice qc mc dc) (.slice none 0 0) F (fun _=>0)) 396));obtain⟨t,ht⟩:=eX (w3.heap.size);have hT4:w4.heap[t]?=some (.cells (mO (.slice ql ml dl) (.slice qc mc dc) (.slice none 0 0) F (fun _=>0)) 396 (0,0)):=by rw[<-hw4];exact aA _ _ _ ht.symm
 have hb4:Below w.heap.size w w4:=by rw[<-hw4];exact hbw3.alloc hbw3.size _
 have hwt:w.heap.size<=t:=by rw[<-ht];exact hbw3.size
 have hz4:t+1=w4.heap.size:=by rw[<-hw4,<-ht];simp
 unfold mO at hw4;rw[show(((0:Nat):Int))=0 from rfl] at hw4;rw[hw4];simp only[ht];clear hw4 hbw3 ht;have HTF:=Lh hF;clear hF;obtain⟨a0,a1,a2,a3,a4,a5,a6,a7,a8,a9,a10,a11,a12,a13,a14,a15,af⟩:=TblB.n hT4;unfold uF at HF;go_wp2_with fail;refine(HF.out _).mono ?_;rintro e w5 ⟨rfl,hb5⟩;have hT5:=(hb5.block t oM).trans hT4;have hbw5:=hb4.trans (hb5.mono hb4.size);have hz5:=hb5.size;clear a0 a1 a2 a3 a4 a5 a6 a7 a8 a9 a10 a11 a12 a13 a14 a15 af HF hT4 hb4 hb5;obtain⟨a0,a1,a2,a3,a4,a5,a6,a7,a8,a9,a10,a11,a12,a13,a14,a15,a34⟩:=TblB.f hT5;have af:=(TblB.n hT5).2.2.2.2.2.2.2.2.2.2.2.2.2.2.2.2;obtain⟨G,hG⟩:=eX (bP F);rw[hG];have HG:=Lh hG;clear hG;go_upto_region 6 with fail
 obtain⟨w6,hw6⟩:=eX (((((((((((((((((w5.setCell ⟨t,18,none⟩ (.int .i64 (G 0:Nat))).setCell ⟨t,19,none⟩ (.int .i64 (G 1:Nat))).setCell ⟨t,20,none⟩ (.int .i64 (G 2:Nat))).setCell ⟨t,21,none⟩ (.int .i64 (G 3:Nat))).setCell ⟨t,22,none⟩ (.int .i64 (G 4:Nat))).setCell ⟨t,23,none⟩ (.int .i64 (G 5:Nat))).setCell ⟨t,24,none⟩ (.int .i64 (G 6:Nat))).setCell ⟨t,25,none⟩ (.int .i64 (G 7:Nat))).setCell ⟨t,26,none⟩ (.int .i64 (G 8:Nat))).setCell ⟨t,27,none⟩ (.int .i64 (G 9:Nat))).setCell ⟨t,28,none⟩ (.int .i64 (G 10:Nat))).setCell ⟨t,29,none⟩ (.int .i64 (G 11:Nat))).setCell ⟨t,30,none⟩ (.int .i64 (G 12:Nat))).setCell ⟨t,31,none⟩ (.int .i64 (G 13:Nat))).setCell ⟨t,32,none⟩ (.int .i64 (G 14:Nat))).setCell ⟨t,33,none⟩ (.int .i64 (G 15:Nat))));have hT6:=TblB.setf hT5 G;have hb6:=TblB.setf_below hbw5 hwt G;rw[hw6] at hT6 hb6 ⊢;have hz6:w5.heap.size=w6.heap.size:=q164;clear hw6 a0 a1 a2 a3 a4 a5 a6 a7 a8 a9 a10 a11 a12 a13 a14 a15 a34 af hT5 hbw5;go_wp2_with fail;go_loopw [7] (fun i wr=>∃(k:Nat) (vo:Value),k<=15/\i=.int .i64 ((k+1:Nat):Int)/\aG cD 3 wr (t+1) vo (lW l k)/\wr.heap[t]?=some (.cells (mO (.slice ql ml dl) (.slice qc mc dc) vo F G) 396 (0,0))/\Below w.heap.size w wr) (fun i _=>16-(intOf i).toNat)
 case atStart=>exact⟨0,_,oM,rfl,bF _ _,hT6,hb6⟩
 case round =>
  clear hT6 hb6;obtain⟨k,vo,hk,rfl,hrow,hT,hbr⟩:=hrel;by_cases hk15:k<15
  ·obtain⟨q,hq⟩:=eX (k+1);rw[hq];have q15:decide ((q:Int)<=15)=true:=sO;have HQ:=Lh hq;clear hq;obtain⟨W1,rfl⟩:∃W1,W1=wr:=⟨_,rfl⟩
   go_wp2_with fail;go_loopw [39] (fun i wr=>∃(j:Nat) (vo:Value),j<=N/\i=.int .i64 j/\aG cD 3 wr (t+1) vo (lW l k++sM l q j)/\wr.heap[t]?=some (.cells (mO (.slice ql ml dl) (.slice qc mc dc) vo F G) 396 (0,0))/\Below w.heap.size w wr) (fun i _=>N-(intOf i).toNat)
   case atStart=>exact⟨0,vo,bGF _,rfl,by simpa[sM] using hrow,hT,hbr⟩
   case round =>
    clear hrow hT hbr;obtain⟨j,vo,hj,rfl,hrow,hT,hbr⟩:=hrel;by_cases hjN:j<N
    ·have hjl:j<l.length:=by rw[HN.out];exact hjN
     obtain⟨b,off,rfl,hb,e0⟩:=jQ (HR.out.below hbr) j hjl;obtain⟨x,hx⟩:=eX (l[j]);rw[hx] at e0;have hgx:l.getD j 0=x:=by rw[bGX,bGE hjl,Option.getD_some,hx]
     have HSJ:=Lh (aQS l q j);rw[hgx] at HSJ;clear hx hgx;cases hxq:((x:Int)==(q:Int))
     ·have HS2 := Lib.hid (show sM l q (j+1)=sM l q j from by
       rw[HSJ.out,bGU (by simp at hxq;omega),List.append_nil])
      go_wp2_with fail;go_roundw
      case rel=>exact⟨j+1,vo,oM,q12,by rw[HS2.out];exact hrow,hT,hbr⟩
      case measure=>exact q339
     ·have HS2 := Lib.hid (show sM l q (j+1)=sM l q j++[j] from by
       rw[HSJ.out,bGV (by simp at hxq;omega)])
      have hlen:(lW l k++sM l q j).length<=1000000000:=by
       rw[bGR];have h1:=aBR l k;have h2:=aMK l q j;rw[HN.out] at h1;have:k*N<=15*1000:=Nat.mul_le_mul hk hn;omega
      obtain⟨A,hA⟩:=eX (lW l k++sM l q j);rw[hA] at hrow hlen;have HA:=Lh hA;have a34:=(TblB.f hT).2.2.2.2.2.2.2.2.2.2.2.2.2.2.2.2;have htl:=bGJ hT;have hzr:t+1<=wr.heap.size:=htl;obtain⟨po,co,hvo⟩:=aH hrow;have hHT:=Lh hT;clear hA hT;subst hvo;go_wp2_with(at_builtin;go_must (refine bAD (E:=cD) rfl _ _ rfl underlying346 Tryz.infoIn rfl dC dC (t+1) _ A j hrow rfl rfl hlen hzr ?_);intro p2 q2 w7 hown2 hb7 hz7 _;(have hT7:=(hb7.block t (Nat.lt_succ_self t)).trans hHT.out);(have a34':=(TblB.f hT7).2.2.2.2.2.2.2.2.2.2.2.2.2.2.2.2);(have af':=(TblB.n hT7).2.2.2.2.2.2.2.2.2.2.2.2.2.2.2.2 34))
      have hT8:=TblB.seto hT7 (.slice p2 (A.length+1) q2);have hr8:=cG (o:=34) (u:=.slice p2 (A.length+1) q2) hown2 (Nat.lt_succ_self t);go_roundw
      case rel=>exact⟨j+1,_,oM,q12,by rw[HS2.out,<-List.append_assoc,HA.out];exact hr8,hT8,(hbr.trans (hb7.mono oM)).setCell (by show _<=t;exact hwt) _⟩
      case measure=>exact q339
    ·have hjn:j=N:=oM;subst hjn;have hrow2:aG cD 3 wr (t+1) vo (lW l q):=by
      rw[<-HN.out,aFI,<-HQ.out,<-oT,HQ.out] at hrow;exact hrow
     have hq15:q<=15:=by have:=HQ.out;omega
     clear hrow;go_wp2_with fail;go_roundw
     case rel=>exact⟨q,vo,hq15,q12,hrow2,hT,hbr⟩
     case measure=>simp[intOf];have:=HQ.out;omega
  ·have hk2:k=15:=oM;subst hk2;go_wp2_with fail;go_ret2
   exact⟨t,hwt,rfl,⟨_,_,vo,by rw[HTF.out,HG.out];exact hT,hrow⟩,hbr⟩
theorem TblB.fAt{w:World}{t:Nat}{vl vc vo:Value}{n f:Nat->Nat}(h:w.heap[t]?=some (.cells (mO vl vc vo n f) 396 (0,0)))(q:Nat)(hq:q<16):w.cell? ⟨t,18+q,none⟩=some (.int .i64 (f q:Nat)):=by
 exact q444
theorem TblB.nAt{w:World}{t:Nat}{vl vc vo:Value}{n f:Nat->Nat}(h:w.heap[t]?=some (.cells (mO vl vc vo n f) 396 (0,0)))(q:Nat)(hq:q<16):w.cell? ⟨t,2+q,none⟩=some (.int .i64 (n q:Nat)):=by
 exact q444
theorem aFK{α:Type}{E:Enc α}{ty:TypeId}{w:World}{B n c:Nat}{p:Option Addr}{xs:List α}(h:aG E ty w B (.slice p n c) xs):n<=c:=by
 rcases h.2 with⟨h1,h2⟩|⟨g,cap,cur,h1,h2,h3,h4,_⟩
 ·cases h1;exact bGB _
 ·cases h1;exact h4
theorem bEG(C b:Nat)(hC:C<65536)(hb:b<=1):bits BinOp.or IntKind.i64 ((C:Int)*2) (b:Int)=((2*C+b:Nat):Int):=by
 have e:(C:Int)*2=((C*2:Nat):Int):=oM;rw[e,wM _ _ oM oM];have h:=aMH (n:=1) (v:=b) (b:=C) oM;rw[Nat.or_comm] at h;rw[show C*2=C*2 ^ 1 from rfl,h];congr 1;omega
def bBT(w:World)(r:Nat)(s:L)(R:Res (Nat×Nat))(e:Ending)(w':World):Prop :=
 Bes r w w'/\match R with
 |.good (sg,p)=>e=.returned (.tuple #[.int .i64 (sg:Nat),.int .i64 0])/\RdW w' r s p
 |.bad k=>e=.returned (.tuple #[.int .i64 0,.int .i64 k])
theorem aJI{w:World}{p:Option Addr}{m c n:Nat}{xs:List Nat}(h:bC cD w (.slice p m c) xs)(hn:n<=m)(hc:m<=c) :
 bC cD w (.slice (if c=n then p else p.map fun a=>a.add n) (m-n) (c-n)) (xs.drop n):=by
 have hm:=fG h;obtain⟨p',c',e,hh⟩:=h;cases e;refine⟨_,_,by rw[bGS],fun j hj=>?_⟩;rw[bGS] at hj;obtain⟨g,off,rfl,h2,h3⟩:=hh (n+j) oM;rw[bGU oM];refine⟨g,off+n,by by_cases h0:n=0<;>simp[Addr.add,h0],h2,fun i u hu=>?_⟩;rw[List.getElem_drop] at hu;have:=h3 i u hu;simp only[cD,Nat.mul_one] at this ⊢;rw[<-this];congr 2;omega
theorem aBT(w:World)(t r:Nat)(l:List Nat)(s:L)(p:Nat)(hT:fL w t l)(hr:RdW w r s p)(hrt:r<t)(hl:∀x∈l,x<=15)(hn:l.length<=1000) :
 Calls prog 341 #[.pointer (some ⟨t,0,none⟩),.pointer (some ⟨r,0,none⟩)] w (bBT w r s (eJ s l p)):=by
 obtain⟨vl,vc,vo,hT,hO⟩:=hT;obtain⟨po,co,rfl⟩:=aH hO;have hcap:=aFK hO;have hlim:=aBR l 15;obtain⟨F,hF⟩:=eX (aY l);rw[hF] at hT;have hFn:∀i,F i<=1000:=fun i=>by rw[<-hF];exact bGC (aBQ l i) hn
 obtain⟨G,hG⟩:=eX (bP F);rw[hG] at hT;have HR:=Lh (aG.arg hO);have HOT:=Lh (bGQ hT hO);have HL:=Lh (bGQ hl hn);have HFG:=Lh (bGQ hF (bGQ hG hFn));have hS:fW s l (16-0) p (0+1) 0 0=eJ s l p:=rfl;obtain⟨R,hR⟩:=eX (eJ s l p);rw[hR] at hS ⊢;have a34:=(TblB.f hT).2.2.2.2.2.2.2.2.2.2.2.2.2.2.2.2;have htl:=bGJ hT;obtain⟨M,hM⟩:=eX ((lW l 15).length);rw[hM] at a34 hcap HR hlim;have hHM:=Lh hM;clear hT hO hF hG hR hM hFn;go_enter func341,ntmps341
 have HR0:bC cD w (.slice po M co) (gH l 0):=by rw[aJG];exact HR.out
 have hPB0:∀a:Addr,po=some a->r<a.block:=fun a e=>by
  have h:=aK HOT.out.2 a.block (by rw[e];rfl);omega
 go_wp2_with fail;go_loopw [6,7,8] (fun lv cv i wr=>∃(k C p' m c first:Nat) (pl:Option Addr),k<=15/\i=.int .i64 ((k+1:Nat):Int)/\cv=.int .i64 (C:Nat)/\lv=.slice pl m c/\bC cD w (.slice pl m c) (gH l k)/\m<=c/\(∀a:Addr,pl=some a->r<a.block)/\2*first=G (k+1)/\first<=C/\C<2 ^ k/\RdW wr r s p'/\Bes r w wr/\Hid (fW s l (16-k) p' (k+1) C first=R)) (fun _ _ i _=>16-(intOf i).toNat)
 case atStart=>exact⟨0,0,p,M,co,0,po,oM,rfl,rfl,rfl,HR0,hcap,hPB0,by rw[<-HFG.out.2.1];rfl,bGB _,dC,hr,Bes.refl _ _,Lh hS⟩
 case round =>
  clear HR0 hcap hPB0 hr hS a34 HR hlim;obtain⟨k,C,p',m,c,first,pl,hk,rfl,rfl,rfl,hRA,hmc,hPB,hfg,hfC,hC,hrd,hbs,HS⟩:=hrel;have hml:=fG hRA;have hrest:=aQT l HL.out.1 hk;by_cases hm:0<m
  ·have hall:l.all (·<k+1)=false := by
    cases h:l.all (·<k+1) with
    |false=>rfl
    |true=>rw[hrest.2 h] at hml;simp at hml;omega
   have hk15:k<15:=by
    apply Classical.byContradiction
    intro h;have:k=15:=oM;subst this;rw[zH] at hml;simp at hml;omega
   obtain⟨f,hf⟩:∃f,16-k=f+1:=⟨15-k,oM⟩
   have hf2:16-(k+1)=f:=oM;rw[hf] at HS;have hp2:2 ^ k<=2 ^ 14:=Nat.pow_le_pow_right dC oM;have hC16:C<32768:=bGA hC (bGC hp2 dC);have hbit:=aBP s p';by_cases hend:p'<8*s.length
   ·have HLO:=Lh (aXE wr r s p' 1 hrd dC oM);rw[show fJ s p' 1=gM s p' by simp[fJ]] at HLO;obtain⟨b,hb⟩:=eX (gM s p');rw[hb] at HLO hbit;have hor:=bEG C b oM hbit;obtain⟨C2,hC2⟩:=eX (2*C+b);rw[hC2] at hor;obtain⟨q,hq⟩:=eX (k+1);have hT2:=(hbs.block t htl oM).trans HOT.out.1;have hfq:2*first=G q:=by rw[<-hq];exact hfg
    obtain⟨g,hg⟩:=eX (G q);obtain⟨n,hn⟩:=eX (F q);have hn1000:=HFG.out.2.2 q;rw[hn] at hn1000;have hnI:iH l q=n:=by rw[<-hn,<-HFG.out.1];unfold aY;rw[bGU oM]
    have hgC:g<=C2:=oM;obtain⟨D,hD⟩:=eX (C2-g);have hsub:IntKind.i64.wrap ((C2:Int)-g)=(D:Int):=q167;have q16:(q:Int)<16:=oM;have HQ:=Lh (bGQ hq (bGQ hb (bGQ hC2 (bGQ hD (bGQ hnI (bGQ hf2 (bGQ (hfq.trans hg) hn)))))));rw[hq];have hq15:q<=15:=oM;have HALL:=Lh hall;have HPW:=Lh hC;clear hq hb hf2 hrest hml hall hfg hfq hnI hf hp2 hC;go_wp2_with fail;refine HLO.out.mono ?_;rintro e w3 ⟨rfl,hr3,hb3⟩;have hT3:=(hb3.block t (bGJ hT2) oM).trans hT2;have f0:=TblB.fAt hT3 q oM;have n0:=TblB.nAt hT3 q oM;rw[hg] at f0;rw[hn] at n0;have hb03:=hbs.trans hb3;clear HLO hT2 hb3 hbs hrd;cases hDnN:decide (D<n)
    ·have hDn':n<=D:=by simp at hDnN;omega
     have hDn:decide ((D:Int)<n)=false:=sO;have hnm:n<=m:=by
      have h1:=fG hRA;have h2:=jR l hk15;rw[h1,h2,bGR,qW,HQ.out.1,HQ.out.2.2.2.2.1];omega
     have hRA2:=aJI hRA hnm hmc;have hdrop:(gH l k).drop n=gH l q:=by
      rw[jR l hk15,HQ.out.1];have h1:(nF l q).length=n:=by rw[qW];exact HQ.out.2.2.2.2.1
      rw[<-h1,List.drop_left]
     rw[hdrop] at hRA2;have HRA2:=Lh hRA2;have HS2:=Lh (show fW s l f (p'+1) (q+1) C2 (g+n)=R from by
      have h:=bBS s l f p' (k+1) C first HALL.out hend (by rw[HQ.out.1,HQ.out.2.1,HQ.out.2.2.2.2.1];have:=HQ.out;omega)
      rw[HS.out,HQ.out.1,HQ.out.2.1,HQ.out.2.2.2.2.1,HQ.out.2.2.1,HQ.out.2.2.2.2.2.2.1] at h;exact h.symm)
     have HGN:=Lh (show 2*(g+n)=G (q+1) from by
      rw[<-HFG.out.2.1,<-HQ.out.1];show _=2*(bP F (k+1)+F (k+1))
      rw[HQ.out.1,HFG.out.2.1,hg,hn])
     have hPB2:∀a:Addr,(if c=n then pl else pl.map fun a=>a.add n)=some a->r<a.block:=fun a e=>by
      by_cases hcn:c=n
      ·rw[bGV hcn] at e;exact hPB a e
      ·rw[bGU hcn] at e;obtain⟨a',h1,h2⟩:=Option.map_eq_some_iff.1 e;have hb':a'.block=a.block:=by
        rw[<-h2];unfold Addr.add;split<;>rfl
       rw[<-hb'];exact hPB a' h1
     have HPB:=Lh hPB2;have hC3:C2<2 ^ q:=by rw[<-HQ.out.1,Nat.pow_succ];have:=HPW.out;have:=HQ.out.2.2.1;omega
     have HC3:=Lh (bGQ hC3 (show g+n<=C2 from oM));clear hRA2 hdrop hDn' hPB2 hPB hC3;go_wp2_with fail;go_roundw
     case rel=>exact⟨q,C2,p'+1,m-n,c-n,g+n,_,hq15,q12,rfl,rfl,HRA2.out,oM,HPB.out,HGN.out,HC3.out.2,HC3.out.1,hr3,hb03,by rw[show 16-q=f by have:=HQ.out;omega];exact HS2⟩
     case measure=>exact q339
    ·have hDn':D<n:=by simp at hDnN;omega
     have hDn:decide ((D:Int)<n)=true:=sO;have hsl:(nF l q).length=n:=by rw[qW];exact HQ.out.2.2.2.2.1
     have hDm:D<m:=by
      have h1:=fG hRA;have h2:=jR l hk15;rw[h1,h2,bGR,HQ.out.1,hsl];omega
     have hDl:D<(gH l k).length:=by rw[<-fG hRA];exact hDm
     obtain⟨gb,off,rfl,hgb,e0⟩:=jQ hRA D hDl;have hel:(gH l k)[D]=(nF l q).getD D 0:=by
      have h2:=jR l hk15;rw[HQ.out.1] at h2;have h3:(gH l k)[D]?=(nF l q)[D]?:=by rw[h2,List.getElem?_append_left oM]
      rw[bGE hDl] at h3;rw[bGX,<-h3];rfl
     rw[hel] at e0;obtain⟨sg,hsg⟩:=eX ((nF l q).getD D 0);rw[hsg] at e0;have HS2:=Lh (show R=.good (sg,p'+1) from by
      have h:=aXH s l f p' (k+1) C first HALL.out hend (by rw[HQ.out.1,HQ.out.2.1,HQ.out.2.2.2.2.1];have:=HQ.out;omega)
      rw[HS.out,HQ.out.1,HQ.out.2.1,HQ.out.2.2.1,HQ.out.2.2.2.2.2.2.1,HQ.out.2.2.2.1,hsg] at h;exact h)
     have e0':=(bGO (a:=⟨gb,off+D,none⟩) (hb03.block gb hgb (by have h:r<gb:=hPB _ rfl;omega))).trans e0;have hgl:gb<w3.heap.size:=bGA hgb hb03.size;clear e0 hel hsg hRA hPB hsl hDl hDn';go_wp2_with fail;go_ret2
     exact⟨hb03,by rw[HS2.out];exact⟨rfl,hr3⟩⟩
   ·have HS2:=Lh (show R=.bad 4 from by rw[<-HS.out];exact aJH s l f p' (k+1) C first hall hend);have hrd2:=hrd;obtain⟨way,hw,hB⟩:=hrd2;have HLO:=Lh (aFD wr r s p' 1 hrd dC oM);clear hrest hml hall hB hrd hRA hPB;go_wp2_with fail;refine HLO.out.mono ?_;rintro e w3 ⟨rfl,hb3⟩;clear HLO;go_wp2_with fail;go_ret2
    exact⟨hbs.trans hb3,by rw[HS2.out];rfl⟩
  ·have hm0:m=0:=oM;subst hm0;have hall:l.all (·<k+1)=true:=hrest.1 (bHI hml.symm);obtain⟨f,hf⟩:∃f,16-k=f+1:=⟨15-k,oM⟩
   have HS2:=Lh (show R=.bad 13 from by rw[<-HS.out,hf];exact aXG s l f p' (k+1) C first hall);clear hrest hml hall hRA hPB;go_wp2_with fail;go_ret2
   exact⟨hbs,by rw[HS2.out];rfl⟩
theorem cI(k:Int)(w:World):Calls prog 261 #[.bool true,.int .i64 k] w fun e w'=>e=.returned (.tuple #[])/\w'=w:=by
 go_enter func261,ntmps261
 exact q418
theorem dO(k:Int)(w:World):Calls prog 261 #[.bool false,.int .i64 k] w fun e w'=>e=.panicked [{ v:=.iface 323 (.agg #[.int .i64 k]),recovered:=false }]/\w'=w:=by
 go_enter func261,ntmps261
 exact q598
theorem dR(x:Int)(w:World):Calls prog 324 #[.int .i64 x,.int .i64 0] w fun e w'=>e=.returned (.int .i64 x)/\w'=w:=by
 go_enter func324,ntmps324
 exact q577
theorem qX(x k:Int)(hk:k≠0)(w:World):Calls prog 324 #[.int .i64 x,.int .i64 k] w fun e w'=>e=.panicked [{ v:=.iface 323 (.agg #[.int .i64 k]),recovered:=false }]/\w'=w:=by
 have d:(k==0)=false:=q93;go_enter func324,ntmps324
 exact q400
def FlB(w:World)(f r:Nat)(vo:Value)(most:Nat):Prop:=w.heap[f]?=some (.cells #[.pointer (some ⟨r,0,none⟩),vo,.int .i64 (most:Nat)] 328 (0,0))
theorem aE{w:World}{b:Nat}{t:TypeId}{v0 v1 v2:Value}(h:w.heap[b]?=some (.cells #[v0,v1,v2] t (0,0))) :
 w.cell? ⟨b,0,none⟩=some v0/\w.cell? ⟨b,1,none⟩=some v1/\w.cell? ⟨b,2,none⟩=some v2/\∀o,w.frozen? ⟨b,o,none⟩=false:=by
 exact q374
def bEH(w:World)(r:Nat)(s:L)(R:Res (Nat×Nat))(e:Ending)(w':World):Prop :=
 Bes r w w'/\match R with
 |.good (v,p)=>e=.returned (.int .i64 (v:Nat))/\RdW w' r s p
 |.bad k=>e=.panicked [{ v:=.iface 323 (.agg #[.int .i64 k]),recovered:=false }]
theorem cS(w:World)(f r:Nat)(vo:Value)(most:Nat)(s:L)(p n:Nat)(hf:FlB w f r vo most)(hr:RdW w r s p)(hn:n<=24) :
 Calls prog 300 #[.pointer (some ⟨f,0,none⟩),.int .i64 n] w (bEH w r s (aS s p n)):=by
 obtain⟨a0,a1,a2,af⟩:=aE hf;by_cases hp:p+n<=8*s.length
 ·have hR:aS s p n=.good (fJ s p n,p+n):=by unfold aS;rw[bGV hp]
  rw[hR];have HL:=Lh (aXE w r s p n hr hn hp);obtain⟨v,hv⟩:=eX (fJ s p n);rw[hv] at HL ⊢;clear hf hr hR hv;go_enter func300,ntmps300
  go_wp2_with fail;refine HL.out.mono ?_;rintro e w1 ⟨rfl,hr1,hb1⟩;clear HL a0 a1 a2 af;go_wp2_with(go_at_call 324;(with_reducible refine(dR _ _).mono ?_);rintro e w9 ⟨rfl,rfl⟩)
  go_ret
  exact⟨hb1,rfl,hr1⟩
 ·have hR:aS s p n=.bad 4:=by unfold aS;rw[bGU hp]
  rw[hR];have HL:=Lh (aFD w r s p n hr hn oM);clear hf hr hR;go_enter func300,ntmps300
  go_wp2_with fail;refine HL.out.mono ?_;rintro e w1 ⟨rfl,hb1⟩;clear HL a0 a1 a2 af;go_wp2_with(go_at_call 324;(with_reducible refine(qX _ _ dC _).mono ?_);rintro e w9 ⟨rfl,rfl⟩)
  exact⟨rfl,hb1,rfl⟩
theorem iI{α:Type}{E:Enc α}{t:TypeId}{ops:Array Oper}{aP:List Oper}{o:Oper}{a:Act}{Q:Exit->Act->World->Prop}{w:World}(hgd:o.guard=none)(s x:Operand){ts:TypeId}
 (ho:o.op=.call { callee:=.builtin .append,args:=#[s,x],argTypes:=#[ts,ts] }) (ht:prog.underlying ts=some (.slice t))
 {z:Value} {by':Nat} (hin:(prog.info? t).map (fun i=>(i.zero,i.size,i.bytes))=some (some z,E.k,by')) (hzk:z.cells.size=E.k) (hk0:0<E.k) (hby:by'<=1000)
 (B:Nat) (v y:Value) (xs ys:List α) (hown:aG E t w B v xs) (hs:a.eval s=v) (hx:a.eval x=y) (hR:bC E w y ys) (hnc:∀c,y=.slice none ys.length c->c=0) (hlen:xs.length+ys.length<=1000000000) (hB:B<=w.heap.size)
 (h:∀p q w',aG E t w' B (.slice p (xs.length+ys.length) q) (xs++ys)->Below B w w'->w.grownBy w' v.ownBlock->wpList prog ops Q aP (a.put o.dst (.slice p (xs.length+ys.length) q)) w') :
 wpList prog ops Q (o::aP) a w:=by
 obtain⟨i0,hi,hz0,hz1,hz2⟩:=info_parts hin;obtain⟨p,c,rfl,hc⟩:=hR;have hfin:∀v' w',w'.ownsRow B t E.k v' (xs.length+ys.length) (E.row xs++E.row ys)->w.grownBy w' v.ownBlock->wpList prog ops Q aP (a.put o.dst v') w':=by
  intro v' w' hown' hg;obtain⟨p,q,rfl⟩:=aH hown';refine h p q w' ?_ ((bGL B w).grown hg hB (aK hown)) hg;exact q539
 cases p with
 |none =>
  have hy:ys=[]:=by
   cases ys with
   |nil=>rfl
   |cons y ys =>
    obtain⟨g,off,e,_⟩:=hc 0 sI;cases e
  subst hy;obtain rfl:=hnc c rfl;refine wpList_append_own_none hgd s x ts ho B t i0 E.k ht hi v xs.length _ hs hown hx ?_;refine hfin v w (by have h1:w.ownsRow B t E.k v xs.length (E.row xs):=hown;simpa[Enc.row] using h1) ⟨rfl,rfl,rfl,bGB _,fun k hk _=>rfl⟩
 |some ad =>
  refine wpList_append_own _ hgd s x ts ho B t i0 z E.k by' ht hi hz0 hz1 hz2 hzk hk0 v xs.length _ hs hown ad ys.length c (E.row ys) hx (E.row_length ys) ?_ ?_ ?_ ?_ hB ?_
  ·exact q331
  ·exact q482
  ·exact q542
  ·exact q463
  ·intro v' w' hown' hg _;exact hfin v' w' hown' hg
theorem lX{α:Type}{E:Enc α}{w:World}{g c:Nat}{t:TypeId}{fr:Nat×Nat}{ys:List α}(h:w.heap[g]?=some (.cells (E.row ys).toArray t fr)):bC E w (.slice (some ⟨g,0,none⟩) ys.length c) ys:=by
 refine⟨_,_,rfl,fun k hk=>⟨g,0,rfl,(Array.getElem?_eq_some_iff.1 h).1,fun i u hu=>?_⟩⟩;have hi:i<E.k:=q17;have:=E.row_at ys k hk i hi;rw[hu] at this;rw[Nat.zero_add];simp[World.cell?,h,this]
def dV:Enc UInt8 where
 k:=1
 cells x:=[.int .u8 x.toNat]
 len _:=rfl
 one x u hu:=by simp at hu;subst hu;rfl
theorem fM{w:World}{B:Nat}{v:Value}{l:L}:pI w B v l↔aG dV 5 w B v l:=by
 have e:dV.row l=l.map fun c=>.int .u8 c.toNat:=by induction l with
  |nil=>rfl
  |cons c l ih=>show _::dV.row l=_;rw[ih];rfl
 unfold aG pI;rw[e];exact Iff.rfl
theorem zM{ops:Array Oper}{o:Oper}{a:Act}{K:Act->World->Prop}{Q:Exit->Act->World->Prop}{F:Prop}{w:World}(hgd:o.guard=none)(s x:Operand)
 (ho:o.op=.call { callee:=.builtin .append,args:=#[s,x],argTypes:=#[196,9] })
 (B:Nat) (v:Value) (l:L) (r:ByteArray) (hown:pI w B v l) (hs:a.eval s=v)
 (hx:a.eval x=.string r) (hlen:l.length+r.size<=140737488355327) (hB:B<=w.heap.size)
 (h:∀v' w',pI w' B v' (l++r.data.toList)->Below B w w'->K (a.put o.dst v') w') :
 if Region.wanted o (yielded ops a.tmps)=true then Oper.wp prog o a w K Q else F:=by
 have hw:Region.wanted o (yielded ops a.tmps)=true:=by simp[Region.wanted,hgd]
 rw[bGV hw];obtain⟨i0,hi,hz0,hz1,hz2⟩:=info_parts Tryz.infoU8;obtain⟨v',w',hr,h2,h3,h4⟩:=Go.Lib.run_append_own_string (P:=prog) w B 196 9 o.type 5 i0 underlying196 underlying9 hi hz0 hz1 hz2 v l.length _ hown r q26 oM hB;unfold Oper.wp;simp[execOp,ho,resolve,invoke,builtin,hs,hx,hr,Result.andThen];refine h v' w' ?_ ((bGL B _).grown h3 hB (aK hown));unfold pI;have e1:(l++r.data.toList).length=l.length+r.size:=by rw[bGR];rfl
 rw[e1,List.map_append];exact h2
structure FlV (w:World) (f r:Nat) (s:L) (most p:Nat) (out:L) (vo:Value):Prop where
 blk:FlB w f r vo most
 row:aG dV 5 w (f+1) vo out
 rd:RdW w r s p
 lt:r<f
theorem FlV.bits{w w':World}{f r:Nat}{s:L}{most p p':Nat}{out:L}{vo:Value}(h:FlV w f r s most p out vo)(hb:Bes r w w')(hr:RdW w' r s p'):FlV w' f r s most p' out vo :=
 ⟨(hb.block f (bGJ h.blk) (by have:=h.lt;omega)).trans h.blk,fB h.row fun k hk=>by
  have h1:=aK h.row k hk;have:=h.lt;exact hb.block k (cM h.row k hk) oM,hr,h.lt⟩
theorem FlV.below{w w':World}{f r:Nat}{s:L}{most p:Nat}{out:L}{vo:Value}(h:FlV w f r s most p out vo)(hb:Below w.heap.size w w'):FlV w' f r s most p out vo:=by
 obtain⟨way,hw,hB,h1,h2⟩:=h.rd;exact⟨(hb.block f (bGJ h.blk)).trans h.blk,h.row.below hb,⟨way,hw,(hb.block r (bGJ hB)).trans hB,h1,h2⟩,h.lt⟩
theorem FlV.drew{w:World}{f r:Nat}{s:L}{most p:Nat}{out:L}{vo:Value}(h:FlV w f r s most p out vo):FlV w.drew f r s most p out vo:=h.below (Below.drew (bGL _ _))
theorem FlV.drewN{w:World}{f r:Nat}{s:L}{most p:Nat}{out:L}{vo:Value}(h:FlV w f r s most p out vo)(m:Nat):FlV (w.drewN m) f r s most p out vo:=h.below (aN (bGL _ _) m)
theorem FlV.put{w w':World}{f r:Nat}{s:L}{most p:Nat}{out out':L}{vo v':Value}(h:FlV w f r s most p out vo)(hr:aG dV 5 w' (f+1) v' out')(hb:Below (f+1) w w'):FlV (w'.setCell ⟨f,1,none⟩ v') f r s most p out' v':=by
 have hlt:=h.lt;have hB:=(hb.block f (Nat.lt_succ_self f)).trans h.blk;obtain⟨way,hw,hRB,h1,h2⟩:=h.rd;refine⟨?_,cG hr (Nat.lt_succ_self f),⟨way,hw,?_,h1,h2⟩,hlt⟩
 ·show(w'.setCell ⟨f,1,none⟩ v').heap[f]?=_
  rw[aC hB];rfl
 ·rw[bGK _ _ _ _ (by show r≠f;omega)];exact(hb.block r oM).trans hRB
theorem bM{r:Nat}{w w':World}(h:Bes r w w')(hr:r<w.heap.size):Below r w w':=⟨h.os,h.tape,h.output,h.size,fun k hk=>h.block k oM oM⟩
theorem aX{s:L}{p n v q:Nat}(h:aS s p n=.good (v,q)):v<2 ^ n/\q=p+n/\q<=8*s.length:=by
 unfold aS at h;split at h
 ·cases h;exact⟨wL s n p,rfl,by assumption⟩
 ·cases h
def wP(w:World)(f r:Nat)(s:L)(most:Nat)(R:Res (L×Nat))(e:Ending)(w':World):Prop :=
 Below r w w'/\match R with
 |.good (out,p)=>e=.returned (.tuple #[])/\∃vo,FlV w' f r s most p out vo
 |.bad k=>e=.panicked [{ v:=.iface 323 (.agg #[.int .i64 k]),recovered:=false }]
theorem wQ(w:World)(f r:Nat)(s:L)(most p:Nat)(out:L)(vo:Value)(n:Nat)(h:FlV w f r s most p out vo)(hm:most<=1048576)(hn:n<=1000000)(hr:out.length+n<=most) :
 Calls prog 327 #[.pointer (some ⟨f,0,none⟩),.int .i64 n] w fun e w'=>e=.returned (.tuple #[])/\∃m,w'=w.drewN m:=by
 obtain⟨a0,a1,a2,af⟩:=aE h.blk;obtain⟨p0,c0,rfl⟩:=aH h.row;obtain⟨N,hN⟩:=eX (out.length);rw[hN] at a1 hr;have h1:IntKind.i64.wrap ((N:Int)+n)=((N+n:Nat):Int):=q167;obtain⟨M,hM⟩:=eX (N+n);rw[hM] at h1 hr;have d1:decide (M<=most)=true:=sO;clear h hN hM hr;go_enter func327,ntmps327
 go_quiet ((go_at_call 261;with_reducible exact bHD (cI _ _)))
 go_wp2;go_end0
 exact⟨rfl,nq,rfl⟩
theorem aBU(w:World)(f r:Nat)(s:L)(most p:Nat)(out:L)(vo:Value)(n:Nat)(h:FlV w f r s most p out vo)(hm:most<=1048576)(hl:out.length<=1048576)(hn:n<=1000000)(hr:most<out.length+n) :
 Calls prog 327 #[.pointer (some ⟨f,0,none⟩),.int .i64 n] w fun e w'=>e=.panicked [{ v:=.iface 323 (.agg #[.int .i64 5]),recovered:=false }]/\Below w.heap.size w w':=by
 obtain⟨a0,a1,a2,af⟩:=aE h.blk;obtain⟨p0,c0,rfl⟩:=aH h.row;obtain⟨N,hN⟩:=eX (out.length);rw[hN] at a1 hr hl;have h1:IntKind.i64.wrap ((N:Int)+n)=((N+n:Nat):Int):=q167;obtain⟨M,hM⟩:=eX (N+n);rw[hM] at h1 hr;have d1:decide (M<=most)=false:=sO;clear h hN hM hr;go_enter func327,ntmps327
 go_still_tail 12,kR
 change wpList _ _ _ _ _ w.drew
 go_wp2_with(go_at_call 261;(with_reducible refine(dO _ _).mono ?_);rintro e w9 ⟨rfl,rfl⟩)
 exact q469
theorem kN{p:Prop}(_h1:Hid False->p)(h2:p):p:=h2
theorem aQX(x:ByteArray)(w:World):Calls prog 328 #[.string x,.int .i64 0] w fun e w'=>e=.returned (.string x)/\w'=w:=by
 go_enter func328,ntmps328
 exact q577
theorem aXM(x:ByteArray)(k:Int)(hk:k≠0)(w:World):Calls prog 328 #[.string x,.int .i64 k] w fun e w'=>e=.panicked [{ v:=.iface 323 (.agg #[.int .i64 k]),recovered:=false }]/\w'=w:=by
 have d:(k==0)=false:=q93;go_enter func328,ntmps328
 exact q400
theorem bBU(w:World)(r:Nat)(s:L)(a n:Nat)(h:RdW w r s (8*a))(hn:s.length<a+n) :
 Calls prog 329 #[.pointer (some ⟨r,0,none⟩),.int .i64 n] w fun e w'=>e=.returned (.tuple #[.string ⟨#[]⟩,.int .i64 4])/\Bes r w w'/\RdW w' r s (8*a):=by
 have HRD:=Lh h;obtain⟨way,hw,hB,hle,hs⟩:=h;rw[show 8*a % 8=0 from oM,show 8*a/8=a from oM] at hB;obtain⟨c0,c1,c2,c3,cf⟩:=eL hB;obtain⟨N,hN⟩:=eX (s.length);have hsz:(⟨s.toArray⟩:ByteArray).size=N:=hN;have h1:IntKind.i64.wrap ((N:Int)-a)=(N:Int)-a:=q167;have h4:decide ((N:Int)-a<n)=true:=sO;have d1:decide ((n:Int)<0)=false:=sI;clear hN hs hn hle hB;go_enter func329,ntmps329
 go_wp2_with fail;go_quiet (fail)
 all_goals go_wp2_with fail
 go_ret2
 exact⟨rfl,Bes.drewN' _,⟨HRD.out.choose,HRD.out.choose_spec⟩⟩
theorem aQY(w:World)(f r:Nat)(s:L)(most p:Nat)(out:L)(vo:Value)(h:FlV w f r s most p out vo)(hm:most<=1048576)(hl:out.length<=most) :
 Calls prog 301 #[.pointer (some ⟨f,0,none⟩)] w (wP w f r s most (eQ s most p out)):=by
 have hrl:r<w.heap.size:=q187;obtain⟨a0,a1,a2,af⟩:=aE h.blk;have HA:=Lh (aXF w r s p h.rd);have H:=Lh h;obtain⟨R,hR⟩:=eX (eQ s most p out);rw[hR];unfold eQ at hR;obtain⟨q,hq⟩:=eX ((p+7)/8*8);have hq8:q % 8=0:=oM;rw[hq] at hR HA;have HR:=Lh hR;clear h hR hq;go_enter func301,ntmps301
 go_wp2_with fail;refine HA.out.mono ?_;rintro e w1 ⟨rfl,hr1,hb1⟩;have H1:=Lh (H.out.bits hb1 hr1);have HB1:=Lh (bM hb1 hrl);have HB2:=Lh (cS w1 f r vo most s q 16 H1.out.blk hr1 dC);clear HA hb1 hr1 a0 a1 a2 af;go_wp2_with fail;refine HB2.out.mono ?_;rintro e w2 ⟨hb2,h2⟩;clear HB2;have hrl1:r<w1.heap.size:=bGA hrl HB1.out.size;cases hbt:aS s q 16 with
 |bad k =>
  rw[hbt] at h2;have HRE:=Lh (show R=.bad k from by rw[<-HR.out,hbt]);obtain rfl:=h2;clear HR;go_wp2_with fail;exact⟨rfl,HB1.out.trans (bM hb2 hrl1),q161⟩
 |good x =>
  obtain⟨n,p1⟩:=x;rw[hbt] at h2;obtain⟨rfl,hr2⟩:=h2;have H2:=Lh (H1.out.bits hb2 hr2);have HW2:=Lh (HB1.out.trans (bM hb2 hrl1));have hrl2:r<w2.heap.size:=bGA hrl1 hb2.size;obtain⟨hn16,hp1,_⟩:=aX hbt;have hR2:=HR.out;rw[hbt] at hR2;dsimp only at hR2;have HR2:=Lh hR2;have HB3:=Lh (cS w2 f r vo most s p1 16 H2.out.blk hr2 dC);clear HR hR2 hbt hb2 hr2 H1 HB1;go_wp2_with fail;refine HB3.out.mono ?_;rintro e w3 ⟨hb3,h3⟩;clear HB3;cases hbt:aS s p1 16 with
  |bad k =>
   rw[hbt] at h3;have HRE:=Lh (show R=.bad k from q188);obtain rfl:=h3;clear HR2;go_wp2_with fail;exact⟨rfl,HW2.out.trans (bM hb3 hrl2),q161⟩
  |good x =>
   obtain⟨m,p2⟩:=x;rw[hbt] at h3;obtain⟨rfl,hr3⟩:=h3;have H3:=Lh (H2.out.bits hb3 hr3);have HW3:=Lh (HW2.out.trans (bM hb3 hrl2));have hrl3:r<w3.heap.size:=bGA hrl2 hb3.size;obtain⟨hm16,hp2,hp2l⟩:=aX hbt;have hR3:=HR2.out;rw[hbt] at hR3;dsimp only at hR3;have HR3:=Lh hR3;have hn5:n<=65535:=oM;have hm5:m<=65535:=oM;have hw1:IntKind.i64.wrap (65535-(n:Int))=65535-(n:Int):=q167;clear HR2 hR3 hbt hb3 H2 HW2 hn16 hm16;by_cases hmn:m+n=65535
   ·have d1:((m:Int)==65535-(n:Int))=true:=sO;have hR4:=HR3.out;rw[bGU oM] at hR4;have HR4:=Lh hR4;clear HR3 hR4;go_wp2_with fail;go_wp2_with(go_at_call 261;(with_reducible refine(cI _ _).mono ?_);rintro e w9 ⟨rfl,h9⟩;obtain rfl:=h9.symm)
    clear hmn d1 hw1 hm5 h9;by_cases hroom:out.length+n<=most
    ·have hR5:=HR4.out;rw[bGU oM] at hR5;have HR5:=Lh hR5;refine(wQ w3 f r s most p2 out vo n H3.out hm oM hroom).mono ?_;rintro e w4 ⟨rfl,mm,h4⟩;have H4:=Lh (show FlV w4 f r s most p2 out vo from by rw[h4];exact H3.out.drewN mm);have HW4:=Lh (show Below r w w4 from by rw[h4];exact aN HW3.out mm);have hrl4:r<w4.heap.size:=by rw[h4];exact hrl3
     obtain⟨a,ha⟩:=eX (p2/8);have hpa:p2=8*a:=oM;clear HR4 hR5 h4 H3 HW3 hr3;rw[ha] at HR5;subst hpa;by_cases hraw:a+n<=s.length
     ·have HRE:=Lh (show R=.good (out++(s.drop a).take n,8*a+8*n) from by rw[<-HR5.out,bGU oM]);have HRAW:=Lh (fun(W:World) (hW:FlV W f r s most (8*a) out vo)=>bEF W r s a n hW.rd hraw);obtain⟨X,hX⟩:=eX ((s.drop a).take n);have hXl:X.length<=65535:=by rw[<-hX,bGT];omega
      rw[hX] at HRAW HRE;clear HR5 hX;obtain⟨p0,c0,rfl⟩:=aH H4.out.row;obtain⟨b0,b1,b2,bf⟩:=aE H4.out.blk;have hfl:=bGJ H4.out.blk;go_upto_region 4 with fail
      go_region_law (first
       |(go_simp;go_at_call 329;refine(HRAW.out _ q189).mono ?_;rintro e w5 ⟨rfl,hr5,hb5⟩;(have H5:=Lh (FlV.bits (w':=w5) q189 hb5 hr5));(have HW5:=Lh (show Below r w w5 from bHE q190 (bM hb5 hrl4)));(obtain⟨c0',c1',c2',cf'⟩:=aE H5.out.blk);clear hr5 hb5)
       |(go_simp;go_at_call 328;(with_reducible refine(aQX _ _).mono ?_);rintro e w9 ⟨rfl,h9⟩;obtain rfl:=h9.symm)
       |(refine zM (by rfl) _ _ (by rfl) (f+1) _ out ⟨X.toArray⟩ (fM.2 q191) (by rfl) (by rfl) q31 (by have h:=bGJ H5.out.blk;first|exact h|(simp;exact h)) ?_;intro v6 w6 hown6 hb6;obtain⟨p6,c6,hv6⟩:=aH (fM.1 hown6);subst hv6;obtain⟨d0',d1',d2',df'⟩:=aE ((hb6.block f (Nat.lt_succ_self f)).trans H5.out.blk)))
      all_goals
       go_end0
       have hrow6:=fM.1 hown6;have hput:FlV (w6.setCell ⟨f,1,none⟩ (.slice p6 (out.length+X.length) c6)) f r s most (8*a+8*n) (out++X) (.slice p6 (out.length+X.length) c6):=by
        have h:=H5.out.put hrow6 hb6;rw[bGR,show 8*(a+n)=8*a+8*n from oM] at h;exact h
       refine⟨(HW5.out.trans (hb6.mono (by have:=H4.out.lt;omega))).setCell (by show r<=f;have:=H4.out.lt;omega) _,?_⟩;rw[HRE.out];exact⟨rfl,_,hput⟩
     ·have HRE:=Lh (show R=.bad 4 from by rw[<-HR5.out,bGV oM]);have HRAW:=Lh (fun(W:World) (hW:FlV W f r s most (8*a) out vo)=>bBU W r s a n hW.rd oM);clear HR5;obtain⟨p0,c0,rfl⟩:=aH H4.out.row;obtain⟨b0,b1,b2,bf⟩:=aE H4.out.blk;go_upto_region 4 with fail
      go_region_law (first
       |(go_simp;go_at_call 329;refine(HRAW.out _ q189).mono ?_;rintro e w5 ⟨rfl,hb5⟩;(have H5:=Lh (FlV.bits (w':=w5) (p':=8*a) q189 hb5.1 hb5.2));(have HW5:=Lh (show Below r w w5 from bHE q190 (bM hb5.1 hrl4)));(obtain⟨c0',c1',c2',cf'⟩:=aE H5.out.blk);clear hb5)
       |(go_simp;go_at_call 328;refine kN (fun HF=>?_) ((aXM _ _ dC _).mono (by rintro e w9 ⟨rfl,h9⟩;obtain rfl:=h9.symm;exact⟨rfl,HW5.out,q161⟩));refine(HF.out.elim:Calls prog 328 _ _ (fun e w'=>e=.returned (.string ⟨#[]⟩)/\w'=w5)).mono ?_;rintro e w9 ⟨rfl,h9⟩;obtain rfl:=h9.symm)
       |(refine zM (by rfl) _ _ (by rfl) (f+1) _ out ⟨#[]⟩ (fM.2 q191) (by rfl) (by rfl) q31 (by have h:=bGJ H5.out.blk;first|exact h|(simp;exact h)) ?_;intro v6 w6 hown6 hb6;obtain⟨p6,c6,hv6⟩:=aH (fM.1 hown6);subst hv6;obtain⟨d0',d1',d2',df'⟩:=aE ((hb6.block f (Nat.lt_succ_self f)).trans H5.out.blk)))
      all_goals exact q392
    ·have HRE:=Lh (show R=.bad 5 from by rw[<-HR4.out,bGV oM]);refine(aBU w3 f r s most p2 out vo n H3.out hm oM oM oM).mono ?_;rintro e w4 ⟨rfl,hb4⟩;clear HR4;go_wp2_with fail;exact⟨rfl,HW3.out.trans (hb4.mono oM),q161⟩
   ·have d1:((m:Int)==65535-(n:Int))=false:=sO;have HRE:=Lh (show R=.bad 3 from by rw[<-HR3.out,bGV hmn]);clear HR3;go_wp2_with(go_at_call 261;(with_reducible refine(dO _ _).mono ?_);rintro e w9 ⟨rfl,h9⟩;obtain rfl:=h9.symm)
    exact⟨rfl,HW3.out,q161⟩
theorem aQZ{α:Type}{E:Enc α}{t:TypeId}{ops:Array Oper}{o:Oper}{a:Act}{K:Act->World->Prop}{Q:Exit->Act->World->Prop}{F:Prop}{w:World}(hgd:o.guard=none)(s x:Operand){ts:TypeId}
 (ho:o.op=.call { callee:=.builtin .append,args:=#[s,x],argTypes:=#[ts,ts] }) (ht:prog.underlying ts=some (.slice t))
 {z:Value} {by':Nat} (hin:(prog.info? t).map (fun i=>(i.zero,i.size,i.bytes))=some (some z,E.k,by')) (hzk:z.cells.size=E.k) (hk0:0<E.k) (hby:by'<=1000)
 (B:Nat) (v y:Value) (xs ys:List α) (hown:aG E t w B v xs) (hs:a.eval s=v) (hx:a.eval x=y) (hR:bC E w y ys) (hne:0<ys.length) (hlen:xs.length+ys.length<=1000000000) (hB:B<=w.heap.size)
 (h:∀g q w',aG E t w' B (.slice (some ⟨g,0,none⟩) (xs.length+ys.length) q) (xs++ys)->Below B w w'->w.grownBy w' v.ownBlock->(v.ownBlock=some g\/g=w.heap.size)->g<w'.heap.size->K (a.put o.dst (.slice (some ⟨g,0,none⟩) (xs.length+ys.length) q)) w') :
 if Region.wanted o (yielded ops a.tmps)=true then Oper.wp prog o a w K Q else F:=by
 obtain⟨i0,hi,hz0,hz1,hz2⟩:=info_parts hin;obtain⟨p,c,rfl,hc⟩:=hR;obtain⟨g,off,e,_⟩:=hc 0 hne;subst e;refine step_append_lies _ hgd s x ts ho B t i0 z E.k by' ht hi hz0 hz1 hz2 hzk hk0 v xs.length _ hs hown ⟨g,off,none⟩ ys.length c (E.row ys) hx (E.row_length ys) ?_ ?_ hne ?_ ?_ hB _ rfl ?_
 ·exact q331
 ·exact q482
 ·exact q542
 ·exact q463
 ·intro g2 cap w' hown' hg hor hlt;refine h _ cap w' ?_ ((bGL B w).grown hg hB (aK hown)) hg hor hlt;exact q539
theorem aBV{w:World}{p:Option Addr}{n c:Nat}{l:L}(h:bC dV w (.slice p n c) l)(k:Nat)(hk:k<l.length) :
 ∃g off,p=some ⟨g,off,none⟩/\g<w.heap.size/\w.cell? ⟨g,off+k,none⟩=some (.int .u8 (l[k].toNat:Nat)):=by
 obtain⟨p',c',e,h⟩:=h;cases e;obtain⟨g,off,h1,h2,h3⟩:=h k hk;have:=h3 0 _ rfl;simp only[dV,Nat.mul_one,Nat.add_zero] at this;exact⟨g,off,h1,h2,this⟩
theorem qY(w:World)(x:UInt8):bC dV (w.alloc (.cells #[.int .u8 x.toNat] 5)) (.slice (some ⟨w.heap.size,0,none⟩) 1 1) [x]:=by
 refine lX (ys:=[x]) (t:=5) (fr:=(0,0)) ?_;rw[bGP];rfl
end Go.Proofs.YtdjpkgccakgkbaaGreatDoor
namespace Fo
def gZ(most:Nat)(out b:L):Res L:=if out.length+b.length<=most then .good (out++b) else .bad 5
def gI(most:Nat):Option Nat->L->L->Res L
 |_,_,[]=>.bad 4
 |half,out,c::l =>
  if dX c then gI most half out l
  else if c==62 then(match half with|some h=>gZ most out [UInt8.ofNat (16*h)]|none=>.good out)
  else if bI c<0 then .bad 3
  else match half with
   |none=>gI most (some (bI c).toNat) out l
   |some h=>match gZ most out [UInt8.ofNat (16*h+(bI c).toNat)] with
    |.bad k=>.bad k
    |.good out1=>gI most none out1 l
def aML(g:List Nat):Nat:=(g++List.replicate (5-g.length) 84).foldl (fun v d=>85*v+d) 0
def aXN(v:Nat):L:=[UInt8.ofNat (v/16777216),UInt8.ofNat (v/65536),UInt8.ofNat (v/256),UInt8.ofNat v]
def uG(most:Nat)(out:L)(g:List Nat):Res L:=if 4294967296<=aML g then .bad 3 else gZ most out ((aXN (aML g)).take (g.length-1))
def cJ(most:Nat):List Nat->L->L->Res L
 |_,_,[]=>.bad 4
 |g,out,c::l =>
  if dX c then cJ most g out l
  else if c==122&&g.isEmpty then(match gZ most out [0,0,0,0] with|.bad k=>.bad k|.good out1=>cJ most [] out1 l)
  else if 33<=c&&c<=117 then
   let g1:=g++[c.toNat-33]
   if g1.length=5 then(match uG most out g1 with|.bad k=>.bad k|.good out1=>cJ most [] out1 l)
   else cJ most g1 out l
  else if c==126 then
   match l with
   |[]=>.bad 4
   |d::_=>if d≠62\/g.length=1 then .bad 3 else if g=[] then .good out else uG most out g
  else .bad 3
def hU(most:Nat):Nat->L->L->Res L
 |0,_,_=>.bad 4
 |_+1,_,[]=>.bad 4
 |f+1,out,c::l =>
  if c==128 then .good out
  else if c<128 then
   if l.length<=c.toNat then .bad 4
   else match gZ most out (l.take (c.toNat+1)) with
    |.bad k=>.bad k
    |.good out1=>hU most f out1 (l.drop (c.toNat+1))
  else match l with
   |[]=>.bad 4
   |d::l1=>match gZ most out (List.replicate (257-c.toNat) d) with
    |.bad k=>.bad k
    |.good out1=>hU most f out1 l1
def aRA(most:Int):Nat:=min most.toNat 1048576
def lF(s:L)(most:Int):Res L:=if most<0 then .bad 1 else gI (aRA most) none [] s
def iD(s:L)(most:Int):Res L:=if most<0 then .bad 1 else cJ (aRA most) [] [] s
def lG(s:L)(most:Int):Res L:=if most<0 then .bad 1 else hU (aRA most) (s.length+1) [] s
structure Pm where
 pred:Int
 colors:Int
 columns:Int
end Fo
namespace Go.Proofs.YtdjpkgccakgkbaaGreatDoor
open Go.Proofs.Tryz
open Go.RowKit Fo
theorem dS(k:Int)(w:World):Calls prog 196 #[.bool true,.int .i64 k] w fun e w'=>e=.returned (.tuple #[])/\w'=w:=by
 go_enter func196,ntmps196
 exact q418
theorem iJ(k:Int)(w:World):Calls prog 196 #[.bool false,.int .i64 k] w fun e w'=>e=.panicked [{ v:=.iface 290 (.agg #[.int .i64 k]),recovered:=false }]/\w'=w:=by
 go_enter func196,ntmps196
 exact q598
structure dP (w:World) (x most:Nat) (out:L) (vo:Value):Prop where
 blk:w.heap[x]?=some (.cells #[vo,.int .i64 (most:Nat)] 292 (0,0))
 row:aG dV 5 w (x+1) vo out
theorem dP.below{w w':World}{x most:Nat}{out:L}{vo:Value}(h:dP w x most out vo)(hb:Below w.heap.size w w'):dP w' x most out vo :=
 ⟨(hb.block x (bGJ h.blk)).trans h.blk,h.row.below hb⟩
theorem dP.put{w w':World}{x most:Nat}{out out':L}{vo v':Value}(h:dP w x most out vo)(hr:aG dV 5 w' (x+1) v' out')(hb:Below (x+1) w w'):dP (w'.setCell ⟨x,0,none⟩ v') x most out' v':=by
 have hB:=(hb.block x (Nat.lt_succ_self x)).trans h.blk;refine⟨?_,cG hr (Nat.lt_succ_self x)⟩;rw[aC hB];rfl
theorem aBW{w:World}{b:Nat}{t:TypeId}{v0 v1:Value}(h:w.heap[b]?=some (.cells #[v0,v1] t (0,0))) :
 w.cell? ⟨b,0,none⟩=some v0/\w.cell? ⟨b,1,none⟩=some v1/\∀o,w.frozen? ⟨b,o,none⟩=false:=by
 exact q374
def sN(w:World)(x most:Nat)(R:Res L)(e:Ending)(w':World):Prop :=
 Below x w w'/\match R with
 |.good out=>e=.returned (.tuple #[])/\∃vo,dP w' x most out vo
 |.bad k=>e=.panicked [{ v:=.iface 290 (.agg #[.int .i64 k]),recovered:=false }]
theorem lY{most:Nat}{out b out':L}(h:gZ most out b=.good out'):out'=out++b/\out'.length<=most:=by
 unfold gZ at h;split at h
 ·cases h;exact⟨rfl,by rw[bGR];assumption⟩
 ·cases h
theorem aBX(w:World)(x most:Nat)(out b:L)(v vo:Value)(h:dP w x most out vo)(hm:most<=1048576)(hl:out.length<=most)(hb:bC dV w v b)(h0:0<b.length)(hbl:b.length<=1000000) :
 Calls prog 195 #[.pointer (some ⟨x,0,none⟩),v] w fun e w'=>sN w x most (gZ most out b) e w'/\∀k,k<w.heap.size->k≠x->vo.ownBlock≠some k->w'.heap[k]?=w.heap[k]?:=by
 obtain⟨p,c,rfl,_⟩:=id hb;obtain⟨gb,ob,rfl,_,_⟩:=aBV hb 0 h0;obtain⟨a0,a1,af⟩:=aBW h.blk;obtain⟨p0,c0,rfl⟩:=aH h.row;have hxl:=bGJ h.blk;have H:=Lh h;have HB:=Lh hb;have h1:IntKind.i64.wrap ((out.length:Int)+b.length)=((out.length+b.length:Nat):Int):=q167;obtain⟨M,hM⟩:=eX (out.length+b.length);rw[hM] at h1;unfold gZ;by_cases hle:out.length+b.length<=most
 ·rw[bGV hle];rw[hM] at hle;have d1:decide (M<=most)=true:=sO;have hML:M<=2000000:=oM;obtain⟨N,hN⟩:=eX (out.length);obtain⟨K,hK⟩:=eX (b.length);have HN:=Lh (bGQ hN (bGQ hK hM));rw[hN,hK] at h1;rw[hN] at a0;rw[hN] at H;rw[hK] at HB;rw[hK];clear h hb hN hK hM hle hl;go_enter func195,ntmps195
  go_wp2_with fail;go_quiet ((go_at_call 196;with_reducible exact bHD (dS _ _)))
  go_wp2_with(at_builtin;go_must (refine iI (E:=dV) rfl _ _ rfl underlying196 Tryz.infoU8 rfl dC dC (x+1) _ _ out b (H.out.row.below (aN (bGL _ _) _)) (by rfl) (by rfl) (HB.out.below (aN (bGL _ _) _)) q192 (by have:=HN.out;omega) (by show x+1<=w.heap.size;omega) ?_);intro p3 q3 w3 hr3 hb3 hg3;(have hB3:=(hb3.block x (Nat.lt_succ_self x)).trans (show(w.drewN nq).heap[x]?=_ from H.out.blk));obtain⟨b0,b1,bf⟩:=aBW hB3)
  all_goals
   go_end0
   have hput:=H.out.put hr3 ((aN (bGL _ _) nq).trans hb3);exact⟨⟨(bHE (aN (bGL _ _) nq) (hb3.mono (Nat.le_succ x))).setCell (p:=⟨x,0,none⟩) (bGB x) _,rfl,_,hput⟩,fun k h1 h2 h3=>(bGK _ _ _ _ h2).trans (hg3.block k h1 (fun e=>h3 (by rw[HN.out.1];exact e.symm)))⟩
 ·rw[bGU hle];rw[hM] at hle;have d1:decide (M<=most)=false:=sO;have hml:most<M:=oM;clear h hb hM hle hl HB;go_enter func195,ntmps195
  go_wp2_with fail;go_still_tail 13,kR
  change wpList _ _ _ _ _ w.drew
  go_wp2_with(go_at_call 196;(with_reducible refine(iJ _ _).mono ?_);rintro e w9 ⟨rfl,rfl⟩)
  exact⟨rfl,⟨(bGL _ _).drew,rfl⟩,fun k _ _ _=>rfl⟩
theorem aBY(w:World)(x most:Nat)(out b:L)(v vo:Value)(h:dP w x most out vo)(hm:most<=1048576)(hl:out.length<=most)(hb:bC dV w v b)(h0:0<b.length)(hbl:b.length<=1000000) :
 Calls prog 195 #[.pointer (some ⟨x,0,none⟩),v] w (sN w x most (gZ most out b)) :=
 (aBX w x most out b v vo h hm hl hb h0 hbl).mono fun _ _ h=>h.1
def aFL:Option Nat->Int
 |none=>-1
 |some h=>h
theorem aFM(most:Nat)(half:Option Nat)(out:L)(c:UInt8)(l:L):gI most half out (c::l) =
 if dX c then gI most half out l
 else if c==62 then(match half with|some h=>gZ most out [UInt8.ofNat (16*h)]|none=>.good out)
 else if bI c<0 then .bad 3
 else match half with
  |none=>gI most (some (bI c).toNat) out l
  |some h=>match gZ most out [UInt8.ofNat (16*h+(bI c).toNat)] with
   |.bad k=>.bad k
   |.good out1=>gI most none out1 l:=by rfl
theorem bBV(w:World)(s:ByteArray)(x most:Nat)(vo:Value)(h:dP w x most [] vo)(hm:most<=1048576)(hs:s.size<=1000000000) :
 Calls prog 194 #[.string s,.pointer (some ⟨x,0,none⟩)] w (sN w x most (gI most none [] s.data.toList)):=by
 obtain⟨R,hR⟩:=eX (gI most none [] s.data.toList);rw[hR];have HR:=Lh hR;have hxl:=bGJ h.blk;have hs3:s.size<=maxLen:=q26;have H:=Lh h;clear h hR;go_enter func194,ntmps194
 go_wp2_with fail;go_loopw [4,10] (fun hv i wr=>∃(k:Nat) (half:Option Nat) (out:L) (vo:Value),k<=s.size/\hv=.int .i64 (aFL half)/\i=.int .i64 k/\dP wr x most out vo/\out.length<=most/\Below x w wr/\(∀h,half=some h->h<16)/\Hid (gI most half out (s.data.toList.drop k)=R)) (fun _ i _=>s.size-(intOf i).toNat)
 case atStart=>exact⟨0,none,[],vo,bGF _,rfl,rfl,H.out,bGF _,bGL _ _,(fun h e=>by cases e),HR⟩
 case round =>
  clear HR H;obtain⟨k,half,out,vo,hk,rfl,rfl,hV,hl,hb,hh,HR⟩:=hrel;have HV:=Lh hV;have HB:=Lh hb;have hxw:=bGJ hV.blk;clear hV hb;by_cases hkS:k<s.size
  ·have hR:=HR.out;rw[aV s k hkS,aFM] at hR;by_cases hw:dX s[k]=true
   ·rw[bGV hw] at hR;have HR2:=Lh hR;have HW:=Lh hw;clear HR hR hw;go_wp2_with(first|(go_at_call 128;refine(fC _ _).mono ?_;rintro e w' ⟨rfl,rfl⟩)|(go_at_call 126;refine(oF _ HW.out _).mono ?_;rintro e w' ⟨rfl,rfl⟩))
    go_roundw
    case rel=>exact⟨k+1,half,out,vo,oM,rfl,q12,HV.out,hl,HB.out,hh,HR2⟩
    case measure=>exact q339
   ·have hw:dX s[k]=false:=by simpa using hw
    rw[bGU (by rw[hw];decide)] at hR;have HW:=Lh hw;clear HR hw;by_cases h62:s[k]=62
    ·have t62:((s[k].toNat:Int)==62)=true:=cP (n:=62) dC h62;rw[bGV (by rw[h62];decide)] at hR;cases half with
     |none =>
      have HRE:=Lh (show R=.good out from hR.symm);clear hR h62;unfold aFL;go_wp2_with(first|(go_at_call 128;refine(fC _ _).mono ?_;rintro e w' ⟨rfl,rfl⟩)|(go_at_call 126;refine(eZ _ HW.out _).mono ?_;rintro e w' ⟨rfl,rfl⟩))
      exact q524
     |some h =>
      have h16:=hh h rfl;obtain⟨bx,hbx⟩:=eX (UInt8.ofNat (16*h));dsimp only at hR;rw[hbx] at hR;have hw1:IntKind.i64.wrap (16*(h:Int))=((16*h:Nat):Int):=q167;have hw2:IntKind.u8.wrap ((16*h:Nat):Int)=bx.toNat:=by rw[<-hbx,bHJ,IntKind.wrap_u8];omega
      obtain⟨q,hq⟩:=eX (16*h);rw[hq] at hw1 hw2;have HR2:=Lh hR;have HP:=Lh (aBY (wr.alloc (.cells #[.int .u8 bx.toNat] 5)) x most out [bx] _ vo (HV.out.below bel) hm hl (qY wr bx) sI sI);clear hR h62 hbx hq hh;unfold aFL;go_wp2_with(first|(go_at_call 128;refine(fC _ _).mono ?_;rintro e w' ⟨rfl,rfl⟩)|(go_at_call 126;refine(eZ _ HW.out _).mono ?_;rintro e w' ⟨rfl,rfl⟩))
      refine HP.out.mono ?_;rintro e w2 ⟨hb2,h2⟩;have HB2:=Lh (HB.out.trans (bHE ((bGL x _).alloc (bGY hxw) _) hb2));rw[HR2.out] at h2;clear HP hb2;cases R with
      |bad k =>
       obtain rfl:=h2;go_wp2_with fail;exact⟨rfl,HB2.out,rfl⟩
      |good o2 =>
       obtain⟨rfl,v2,hV2⟩:=h2;go_wp2_with fail;go_end0
       exact⟨HB2.out,rfl,v2,hV2⟩
    ·have t62:((s[k].toNat:Int)==62)=false:=eD (n:=62) dC h62;rw[bGU (by simpa using h62)] at hR;by_cases hx:bI s[k]<0
     ·rw[bGV hx] at hR;have HRE:=Lh hR.symm;clear hR h62;go_wp2_with(first|(go_at_call 128;refine(fC _ _).mono ?_;rintro e w' ⟨rfl,rfl⟩)|(go_at_call 126;refine(eZ _ HW.out _).mono ?_;rintro e w' ⟨rfl,rfl⟩)|(go_at_call 196;(with_reducible refine(iJ _ _).mono ?_);rintro e w9 ⟨rfl,rfl⟩))
      exact⟨rfl,HB.out,q161⟩
     ·rw[bGU hx] at hR;have hd:=qD s[k];cases half with
      |none =>
       dsimp only at hR;have HR2:=Lh hR;clear hR h62;unfold aFL;go_wp2_with(first|(go_at_call 128;refine(fC _ _).mono ?_;rintro e w' ⟨rfl,rfl⟩)|(go_at_call 126;refine(eZ _ HW.out _).mono ?_;rintro e w' ⟨rfl,rfl⟩))
       go_roundw
       case rel=>exact⟨k+1,some (bI s[k]).toNat,out,vo,oM,(by show Value.int IntKind.i64 (bI s[k])=.int .i64 ((bI s[k]).toNat:Int);congr 1;omega),q12,HV.out,hl,HB.out,(fun h e=>q123),HR2⟩
       case measure=>exact q339
      |some h =>
       have h16:=hh h rfl;obtain⟨d,hd'⟩:∃d:Nat,bI s[k]=d:=⟨(bI s[k]).toNat,oM⟩
       obtain⟨bx,hbx⟩:=eX (UInt8.ofNat (16*h+d));dsimp only at hR;rw[hd',Int.toNat_natCast,hbx] at hR;rw[hd'] at hx hd;have hw1:IntKind.i64.wrap (16*(h:Int))=((16*h:Nat):Int):=q167;have hw3:IntKind.i64.wrap (((16*h:Nat):Int)+d)=((16*h+d:Nat):Int):=q167;have hw2:IntKind.u8.wrap ((16*h+d:Nat):Int)=bx.toNat:=by rw[<-hbx,bHJ,IntKind.wrap_u8];omega
       obtain⟨q2,hq2⟩:∃q,16*h+d=q:=⟨_,rfl⟩
       rw[hq2] at hw2 hw3;obtain⟨q,hq⟩:=eX (16*h);rw[hq] at hw1 hw3;have HR2:=Lh hR;have HP:=Lh (aBY (wr.alloc (.cells #[.int .u8 bx.toNat] 5)) x most out [bx] _ vo (HV.out.below bel) hm hl (qY wr bx) sI sI);clear hR h62 hbx hq hq2 hh;unfold aFL;go_wp2_with(first|(go_at_call 128;refine(fC _ _).mono ?_;rintro e w' ⟨rfl,rfl⟩)|(go_at_call 126;refine(eZ _ HW.out _).mono ?_;rintro e w' ⟨rfl,rfl⟩))
       refine HP.out.mono ?_;rintro e w2 ⟨hb2,h2⟩;have HB2:=Lh (HB.out.trans (bHE ((bGL x _).alloc (bGY hxw) _) hb2));clear HP hb2;cases hpf:gZ most out [bx] with
       |bad j =>
        exact q373
       |good o2 =>
        rw[hpf] at h2;obtain⟨rfl,v2,hV2⟩:=h2;have hl2:=(lY hpf).2;have HR3:=Lh (show gI most none o2 (s.data.toList.drop (k+1))=R from q193);have HV2:=Lh hV2;clear hV2 HR2 hpf;go_wp2_with fail;go_roundw
        case rel=>exact⟨k+1,none,o2,v2,oM,rfl,q12,HV2.out,hl2,HB2.out,(fun h e=>by cases e),HR3⟩
        case measure=>exact q339
  ·exact q587
def sP(first each:Nat):Nat->Nat
 |0=>first
 |k+1=>sP first each k+2 ^ (k/each-1)
theorem zN(q:Nat)(h:q<=14):wrap64 (q:Int)=(q:Int):=q181
theorem aMM(q:Nat)(h:q<=14):wrap64 ((q:Int)-1)=(q:Int)-1:=q181
theorem aMN(q t:Nat)(h:q-1=t):max 0 ((q:Int)-1)=(t:Int):=oM
theorem bBW(A t:Nat)(hA:A<=1000000)(ht:t<=14):wrap64 ((A:Int)+wrap64 (2 ^ t))=((A+2 ^ t:Nat):Int):=by
 have h1:(2:Nat) ^ t<=2 ^ 14:=Nat.pow_le_pow_right dC ht;obtain⟨P,hP⟩:=eX ((2:Nat) ^ t);have e:((2:Int) ^ t)=(P:Int):=by rw[<-hP];push_cast;rfl
 have h2:P<=16384:=by rw[<-hP];exact bGC h1 dC
 rw[e,hP];clear e hP h1;unfold wrap64;omega
theorem bFK(j each q:Nat)(he:2<=each)(hj:j<=29)(hq:j/each=q):q<=14:=by
 rw[<-hq];have h1:j/each<=j/2:=Nat.div_le_div_left he dC;have h2:j/2<=29/2:=Nat.div_le_div_right hj;exact bGC h1 h2
theorem A_le(A j:Nat)(h:A<=3+j*16384)(hj:j<=29):A<=1000000:=oM
theorem iE{w:World}{b:Nat}{t:TypeId}{v0 v1:Value}(h:w.heap[b]?=some (.cells #[v0,v1] t (0,0))) :
 w.cell? ⟨b,0,none⟩=some v0/\w.cell? ⟨b,1,none⟩=some v1/\∀o,w.frozen? ⟨b,o,none⟩=false:=by
 exact q374
theorem uV{w:World}{b:Nat}{t:TypeId}{u0 u1:Value}(h:w.heap[b]?=some (.cells #[u0,u1] t (0,0)))(v0 v1:Value):((w.setCell ⟨b,0,none⟩ v0).setCell ⟨b,1,none⟩ v1).heap[b]?=some (.cells #[v0,v1] t (0,0)):=by
 rw[aC (aC h)];rfl
theorem aXO(first each:Nat)(he:2<=each)(hf:first<=3):∀k,k<=29->sP first each k<=3+k*16384
 |0,_=>by simp[sP];omega
 |k+1,hk=>by
  have ih:=aXO first each he hf k oM
  have h1:k/each<=k/2:=Nat.div_le_div_left he dC;have h2:2 ^ (k/each-1)<=2 ^ 14:=Nat.pow_le_pow_right dC oM;have h3:(2:Nat) ^ 14=16384:=dC;rw[h3] at h2;show sP first each k+_<=_
  omega
theorem zO(w:World)(i first each:Nat)(hi:i<=29)(hf:first<=3)(he:each=2\/each=4) :
 Calls prog 358 #[.int .i64 i,.int .i64 first,.int .i64 each] w fun e w'=>e=.returned (.agg #[.int .i64 (sP first each i:Nat),.int .i64 (i/each-1:Nat)])/\Below w.heap.size w w':=by
 have HL:=Lh (aXO first each oM hf);have he2:2<=each:=oM;have he0:¬(each:Int)=0:=oM;go_enter func358,ntmps358
 go_wp2_with fail;go_loopw [1,9] (fun a k wr=>∃j:Nat,j<=i/\k=.int .i64 j/\a=.int .i64 (sP first each j:Nat)/\wr.heap[w.heap.size]?=some (.cells #[.int .i64 0,.int .i64 0] 434 (0,0))/\Below w.heap.size w wr) (fun _ k _=>i-(intOf k).toNat)
 case atStart=>exact⟨0,bGF _,rfl,rfl,aA _ _ _ rfl,bel⟩
 case round =>
  obtain⟨j,hj,rfl,rfl,hX,hbr⟩:=hrel;obtain⟨x0,x1,xf⟩:=iE hX;have hlt:=bGJ hX;by_cases hji:j<i
  ·obtain⟨q,hq⟩:=eX (j/each);have hl1:=HL.out j (bGC hj hi);obtain⟨A,hA⟩:=eX (sP first each j);rw[hA] at hl1 ⊢;have hA9:A<=1000000:=A_le A j hl1 (bGC hj hi);have hq15:q<=14:=bFK j each q he2 (bGC hj hi) hq;obtain⟨t,ht⟩:=eX (q-1);have ht14:t<=14:=by rw[<-ht];exact bGC (Nat.sub_le _ _) hq15
   have hw1:wrap64 (q:Int)=(q:Int):=zN q hq15;have hw2:max 0 ((q:Int)-1)=(t:Int):=aMN q t ht;have hw3:wrap64 ((q:Int)-1)=(q:Int)-1:=aMM q hq15;have HW:=Lh (bBW A t hA9 ht14);have HS:=Lh (show sP first each (j+1)=A+2 ^ t from by rw[<-ht,<-hq,<-hA];rfl);have hqi:((j:Int).tdiv (each:Int))=(q:Int):=by rw[<-hq];rfl
   clear hq hl1 hA ht;go_wp2_with fail;go_roundw
   case rel=>exact⟨j+1,hji,q12,by rw[HS.out];exact congrArg _ HW.out,hX,hbr⟩
   case measure=>exact q339
  ·have hji2:j=i:=oM;subst hji2;obtain⟨q,hq⟩:=eX (j/each);obtain⟨A,hA⟩:=eX (sP first each j);have hq15:q<=14:=bFK j each q he2 hi hq;obtain⟨t,ht⟩:=eX (q-1);have hw1:wrap64 (q:Int)=(q:Int):=zN q hq15;have hw2:max 0 ((q:Int)-1)=(t:Int):=aMN q t ht;have hw3:wrap64 ((q:Int)-1)=(q:Int)-1:=aMM q hq15;have HE:=Lh (bGQ hq (bGQ hA ht));have hqi:((j:Int).tdiv (each:Int))=(q:Int):=by rw[<-hq];rfl
   clear hq hA ht;go_wp2_with fail;obtain⟨s0,s1,sf⟩:=iE (uV hX (.int .i64 (sP first each j:Nat)) (.int .i64 (t:Nat)));refine bGN (v:=.agg #[.int .i64 (sP first each j:Nat),.int .i64 (t:Nat)]) (by simp[results,results358,go_sem,s0,s1]) rfl ⟨?_,?_⟩
   ·rw[HE.out.1,HE.out.2.2]
   ·exact(hbr.setCell (bGB _) _).setCell (bGB _) _
theorem aXP:∀i:Fin 28,sP 3 4 i.1=kL (257+i.1)/\i.1/4-1=jO (257+i.1):=q8
theorem bBX:∀i:Fin 30,sP 1 2 i.1=qV i.1/\i.1/2-1=kK i.1:=q8
theorem aMO(w:World)(i:Nat)(hi:i<=28) :
 Calls prog 351 #[.int .i64 i] w fun e w'=>e=.returned (.agg #[.int .i64 (kL (257+i):Nat),.int .i64 (jO (257+i):Nat)])/\Below w.heap.size w w':=by
 by_cases h28:i=28
 ·subst h28;have e1:kL (257+28)=258:=q8;have e2:jO (257+28)=0:=q8;rw[e1,e2];go_enter func351,ntmps351
  go_wp2;have hX:=aA w (.cells #[.int .i64 0,.int .i64 0] 434) _ rfl;obtain⟨s0,s1,sf⟩:=iE (uV hX (.int .i64 258) (.int .i64 0));refine bGN (v:=.agg #[.int .i64 258,.int .i64 0]) (by simp[results,results351,go_sem,s0,s1]) rfl ⟨rfl,?_⟩;exact bel
 ·obtain⟨h1,h2⟩:=aXP ⟨i,oM⟩;dsimp only at h1 h2;have HS:=Lh (fun(W:World)=>zO W i 3 4 oM dC (.inr rfl));rw[h1,h2] at HS;obtain⟨A,hA⟩:=eX (kL (257+i));obtain⟨M,hM⟩:=eX (jO (257+i));rw[hA,hM] at HS ⊢;have d1:((i:Int)==28)=false:=sO;clear h1 h2 hA hM;go_enter func351,ntmps351
  go_wp2_with fail;refine(HS.out _).mono ?_;rintro e w1 ⟨rfl,hb1⟩;have hz1:=hb1.size;simp at hz1;have hX:=(hb1.block w.heap.size sI).trans (aA w (.cells #[.int .i64 0,.int .i64 0] 434) _ rfl);obtain⟨x0,x1,xf⟩:=iE hX;have hbw:Below w.heap.size w w1:=bel;go_wp2_with fail;obtain⟨s0,s1,sf⟩:=iE (uV hX (.int .i64 (A:Nat)) (.int .i64 (M:Nat)));refine bGN (v:=.agg #[.int .i64 (A:Nat),.int .i64 (M:Nat)]) (by simp[results,results351,go_sem,s0,s1]) rfl ⟨rfl,?_⟩;exact q544
theorem aXQ(w:World)(i:Nat)(hi:i<=29) :
 Calls prog 353 #[.int .i64 i] w fun e w'=>e=.returned (.agg #[.int .i64 (qV i:Nat),.int .i64 (kK i:Nat)])/\Below w.heap.size w w':=by
 obtain⟨h1,h2⟩:=bBX ⟨i,oM⟩;dsimp only at h1 h2;have HS:=Lh (fun(W:World)=>zO W i 1 2 hi dC (.inl rfl));rw[h1,h2] at HS;obtain⟨A,hA⟩:=eX (qV i);obtain⟨M,hM⟩:=eX (kK i);rw[hA,hM] at HS ⊢;clear h1 h2 hA hM;go_enter func353,ntmps353
 go_wp2_with fail;refine(HS.out _).mono ?_;rintro e w1 ⟨rfl,hb1⟩;have hz1:=hb1.size;simp at hz1;have hX:=(hb1.block w.heap.size sI).trans (aA w (.cells #[.int .i64 0,.int .i64 0] 434) _ rfl);obtain⟨x0,x1,xf⟩:=iE hX;have hbw:Below w.heap.size w w1:=bel;go_wp2_with fail;obtain⟨s0,s1,sf⟩:=iE (uV hX (.int .i64 (A:Nat)) (.int .i64 (M:Nat)));refine bGN (v:=.agg #[.int .i64 (A:Nat),.int .i64 (M:Nat)]) (by simp[results,results353,go_sem,s0,s1]) rfl ⟨rfl,?_⟩;exact q544
theorem bEI(v m:Nat)(hm:m<=16)(h:v<2 ^ m):decide ((wrap64 (2 ^ m):Int)<=(v:Int))=false:=by
 obtain⟨P,hP⟩:=eX ((2:Nat) ^ m);have h1:P<=65536:=by rw[<-hP];exact bGC (Nat.pow_le_pow_right dC hm) dC
 have e:((2:Int) ^ m)=(P:Int):=by rw[<-hP];push_cast;rfl
 rw[hP] at h;rw[e];clear e hP;unfold wrap64;simp;omega
theorem aMP(w:World)(a m v:Nat)(ha:a<=1000000)(hm:m<=16)(hv:v<2 ^ m) :
 Calls prog 357 #[.agg #[.int .i64 a,.int .i64 m],.int .i64 v] w fun e w'=>e=.returned (.tuple #[.int .i64 (a+v:Nat),.int .i64 0])/\Below w.heap.size w w':=by
 have d1:=bEI v m hm hv;have hv2:v<=65536:=bGC (bGY hv) (bGC (Nat.pow_le_pow_right dC hm) dC);have d0:decide ((v:Int)<0)=false:=sI;have hs:IntKind.i64.wrap ((a:Int)+v)=((a+v:Nat):Int):=by rw[IntKind.wrap_i64];clear d1 hv;omega
 clear hv hv2;go_enter func357,ntmps357
 go_wp2;go_ret2
 exact⟨rfl,bel⟩
theorem aFN:∀i:Fin 29,kL (257+i.1)<=258/\jO (257+i.1)<=5:=q8
theorem aMQ:∀i:Fin 30,qV i.1<=24577/\kK i.1<=13:=q8
theorem aJJ(w:World)(i v:Nat)(hi:i<=28)(hv:v<2 ^ jO (257+i)) :
 Calls prog 350 #[.int .i64 (257+i:Nat),.int .i64 v] w fun e w'=>e=.returned (.tuple #[.int .i64 (kL (257+i)+v:Nat),.int .i64 0])/\Below w.heap.size w w':=by
 obtain⟨l1,l2⟩:=aFN ⟨i,oM⟩;dsimp only at l1 l2;have HS:=Lh (fun(W:World)=>aMO W i hi);have HT:=Lh (fun(W:World)=>aMP W (kL (257+i)) (jO (257+i)) v oM oM hv);obtain⟨A,hA⟩:=eX (kL (257+i));obtain⟨M,hM⟩:=eX (jO (257+i));rw[hA,hM] at HT HS;rw[hA];clear l1 l2 hv hA hM;obtain⟨q,hq⟩:=eX (257+i);rw[hq];have d1:decide ((q:Int)<257)=false:=sO;have d2:decide (285<(q:Int))=false:=sO;have hs:IntKind.i64.wrap ((q:Int)-257)=(i:Int):=q167;clear hq;go_enter func350,ntmps350
 exact q406
theorem aRB(w:World)(i v:Nat)(hi:i<=29)(hv:v<2 ^ kK i) :
 Calls prog 352 #[.int .i64 i,.int .i64 v] w fun e w'=>e=.returned (.tuple #[.int .i64 (qV i+v:Nat),.int .i64 0])/\Below w.heap.size w w':=by
 obtain⟨l1,l2⟩:=aMQ ⟨i,oM⟩;dsimp only at l1 l2;have HS:=Lh (fun(W:World)=>aXQ W i hi);have HT:=Lh (fun(W:World)=>aMP W (qV i) (kK i) v oM oM hv);obtain⟨A,hA⟩:=eX (qV i);obtain⟨M,hM⟩:=eX (kK i);rw[hA,hM] at HT HS;rw[hA];clear l1 l2 hv hA hM;have d1:decide ((i:Int)<0)=false:=sI;have d2:decide (29<(i:Int))=false:=sO;go_enter func352,ntmps352
 exact q406
end Go.Proofs.YtdjpkgccakgkbaaGreatDoor
