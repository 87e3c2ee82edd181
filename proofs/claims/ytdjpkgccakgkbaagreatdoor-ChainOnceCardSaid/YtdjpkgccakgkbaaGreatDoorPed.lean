/- Parts of the proof: TokLaws Read1 ParLaws SortL Valid BackA BackB. -/
import Derived.Test.YtdjpkgccakgkbaaGreatDoorPea
import Derived.Test.YtdjpkgccakgkbaaGreatDoorPeLexNext
import Derived.Deep.RegionHeld3
import Derived.Deep.DeepCutAuto
set_option linter.all false
set_option maxRecDepth 100000
set_option maxHeartbeats 8000000
section
variable{p:Prop}
theorem q93(h:p:=by simpa using hk):p:=h
theorem q94(h:p:=by simp[go_sem,hc,hf]):p:=h
theorem q96(h:p:=by cases h):p:=h
theorem q97(h:p:=by simpa using h2):p:=h
theorem q310(h:p:=by
 have ne1:¬r=w.heap.size+1:=oM;have ne2:¬w.heap.size+1=r:=oM;go_region_held3 (fun w'=>w'.cell? ⟨r,0,none⟩=some (.string s)/\w'.cell? ⟨r,1,none⟩=some (.int .i64 a)) (go_keep) ((go_at_call 57;refine(HN.out _ (HA.out _ bel)).mono ?_;rintro e w1 ⟨rfl,hb⟩;obtain⟨hc,hf⟩:=aZ hb;have hz:=hb.size;simp at hz;have hbw:Below w.heap.size w w1:=bel;have k0:=(hbw.cell (p:=⟨r,0,none⟩) hlt).trans hc0;have k1:=(hbw.cell (p:=⟨r,1,none⟩) hlt).trans hc1))
 all_goals go_wp2_with fail
 all_goals go_meet
 all_goals first
  |exact⟨w1.heap.size,rfl,rfl,q39,q39,q39,q39,q39,oM,bAC⟩
  |exact⟨w.heap.size+1,rfl,rfl,q94,q94,q94,q94,q94,oM,bAC⟩):p:=h
theorem q329(h:p:=by
 have ne1:¬r=w.heap.size+1:=oM;have ne2:¬w.heap.size+1=r:=oM;go_region_held3 (fun w'=>w'.cell? ⟨r,0,none⟩=some (.string s)/\w'.cell? ⟨r,1,none⟩=some (.int .i64 a)) (go_keep) ((go_at_call 57;refine(HN.out _ (HA.out _ bel)).mono ?_;rintro e w1 ⟨rfl,hb⟩;obtain⟨hc,hf⟩:=aZ hb;have hz:=hb.size;simp at hz;have hbw:Below w.heap.size w w1:=bel;have k0:=(hbw.cell (p:=⟨r,0,none⟩) hlt).trans hc0;have k1:=(hbw.cell (p:=⟨r,1,none⟩) hlt).trans hc1))
 all_goals go_wp2_with fail
 all_goals go_meet
 all_goals first
  |exact⟨w1.heap.size,rfl,rfl,bAC⟩
  |exact⟨w.heap.size+1,rfl,rfl,bAC⟩):p:=h
theorem q437(h:p:=by
 cases d with
 |zero=>rw[dM] at h;split at h<;>cases h
 | succ d => rw [dM  ] at h; split at h
             ·exact⟨by assumption,oM⟩
             ·cases h):p:=h
theorem q458(h:p:=by
 rw[hq];have hW:=hrw.set (b:=q);exact hW.belowB (B:=r+1) xK oM):p:=h
theorem q480(h:p:=by
 obtain⟨x,m,h1,rfl,h2⟩:=fT h;exact⟨fun h=>q21,fun h=>q21,fun _=>h2,fun h=>q21⟩):p:=h
theorem q486(h:p:=by
 rename_i h2
 cases h;cases l with
 |nil=>simp at h2
 |cons=>simp):p:=h
theorem q503(h:p:=by cases h;exact bGB _):p:=h
theorem q532(h:p:=by cases h;exact tD sI):p:=h
theorem q549(h:p:=by
 obtain⟨rfl,_⟩:=iY h;exact tD sI):p:=h
theorem q557(h:p:=by
 split at h
 ·cases h;simp
 ·cases h):p:=h
end
namespace Fo
theorem aOL(b:Bool)(l:L):dY b l<=l.length:=by
 exact q403
theorem aUD(l:L):iS l<=l.length:=by
 exact q492
theorem aOM{acc:L}{n op k:Nat}{l:L}{x:L}{m:Nat}(h:bS acc n op k l=.good (x,m)):n+1<=m/\m<=n+l.length:=by
 induction l generalizing acc n op k with
 |nil=>simp[bS] at h
 |cons c l ih =>
  cases k with
  |succ k=>rw[bS] at h;have:=ih h;simp;omega
  |zero =>
   rw[bS] at h;simp only[bHA];split at h
   ·have:=ih h;omega
   ·split at h
    ·split at h
     ·cases h
     ·have:=ih h;omega
    ·split at h
     ·have:=ih h;omega
     ·split at h
      ·split at h
       ·cases h;omega
       ·have:=ih h;omega
      ·have:=ih h;omega
theorem aUE{acc:L}{n:Nat}{hf:Int}{l:L}{x:L}{m:Nat}(h:gP acc n hf l=.good (x,m)):n+1<=m/\m<=n+l.length:=by
 induction l generalizing acc n hf with
 |nil=>simp[gP] at h
 |cons c l ih =>
  rw[gP] at h;simp only[bHA];split at h
  ·simp only[Res.good.injEq,Prod.mk.injEq] at h;omega
  ·split at h
   ·have:=ih h;omega
   ·split at h
    ·cases h
    ·split at h
     ·have:=ih h;omega
     ·have:=ih h;omega
theorem iY{k:Int}{n:Nat}{x:L}{b:Nat}{t:Tok}(h:nC k n x b=.good t):t=⟨k,n,0,x⟩/\x.length<=b:=by
 unfold nC at h;split at h
 ·cases h
 ·cases h;exact⟨rfl,oM⟩
theorem fT{r:Res (L×Nat)}{t:Tok}(h:tB r=.good t):∃x m,r=.good (x,m)/\t=⟨3,m+1,0,x⟩/\x.length<=32767:=by
 cases r with
 |bad e=>cases h
 |good x=>obtain⟨h1,h2⟩:=iY h;exact⟨x.1,x.2,rfl,h1,h2⟩
theorem kD{n:Nat}{r:Res L}{t:Tok}(h:uY n r=.good t):∃x,r=.good x/\t=⟨4,n+1,0,x⟩/\x.length<=127:=by
 cases r with
 |bad e=>cases h
 |good x=>obtain⟨h1,h2⟩:=iY h;exact⟨x,rfl,h1,h2⟩
theorem vL{r:L}{t:Tok}(h:eR r=.good t):t.len=r.length/\(t.kind=1\/t.kind=2\/t.kind=5):=by
 unfold eR at h;split at h
 ·split at h
  ·cases h
  ·cases h;simp
 ·split at h
  ·split at h
   ·cases h;simp
   ·cases h
   ·obtain⟨rfl,_⟩:=iY h;simp
  ·obtain⟨rfl,_⟩:=iY h;simp
theorem aON{l:L}{t:Tok}(h:rW l=.good t):t.len<=l.length/\1<=t.kind/\t.kind<=6:=by
 cases l with
 |nil=>cases h
 |cons c l =>
  unfold rW at h;dsimp only at h;simp only[bHA];split at h
  ·cases h;simp
  ·split at h
   ·split at h
    ·exact q486
    ·obtain⟨x,m,h1,rfl,_⟩:=fT h;have:=aUE h1;simp;omega
   ·split at h
    ·split at h
     ·exact q486
     ·cases h
    ·split at h
     ·obtain⟨x,h1,rfl,_⟩:=kD h;have:=aUD l;simp;omega
     ·split at h
      ·obtain⟨x,m,h1,rfl,_⟩:=fT h;have:=aOM h1;simp;omega
      ·split at h
       ·cases h
       ·obtain⟨h1,h2⟩:=vL h;have:((c::l).take (iS (c::l))).length<=(c::l).length:=(List.take_sublist _ _).length_le;simp only[bHA] at this;rw[h1];omega
theorem cW{l:L}{t:Tok}(h:(aM l).2=.good t):(aM l).1+t.len<=l.length/\0<=t.kind/\t.kind<=6/\(t.kind=0->t=⟨0,0,0,[]⟩):=by
 unfold aM at *
 simp only at *
 have hs:=aOL false l;split at h
 ·cases h;simp;exact hs
 ·obtain⟨h1,h2,h3⟩:=aON h;simp only[bGS] at h1;exact⟨oM,oM,h3,oM⟩
theorem gS{l:L}{t:Tok}{r:L}(h:bE l=.good (t,r)):(aM l).2=.good t/\t.kind≠0/\r=l.drop ((aM l).1+t.len):=by
 unfold bE at h;split at h
 ·cases h
 ·rename_i t' ht
  split at h
  ·cases h
  ·cases h;exact⟨ht,by assumption,rfl⟩
theorem aOO{acc:L}{n op k:Nat}{l:L}{e:Int}(h:bS acc n op k l=.bad e):e=4:=by
 induction l generalizing acc n op k with
 |nil=>cases k<;>simp[bS] at h<;>exact h.symm
 |cons c l ih =>
  cases k with
  |succ k=>rw[bS] at h;exact ih h
  |zero =>
   rw[bS] at h;split at h
   ·exact ih h
   ·split at h
    ·split at h
     ·cases h;rfl
     ·exact ih h
    ·split at h
     ·exact ih h
     ·split at h
      ·split at h
       ·cases h
       ·exact ih h
      ·exact ih h
theorem aOP{acc:L}{n:Nat}{hf:Int}{l:L}{e:Int}(h:gP acc n hf l=.bad e):e=3\/e=4:=by
 induction l generalizing acc n hf with
 |nil=>simp[gP] at h;omega
 |cons c l ih =>
  rw[gP] at h;split at h
  ·cases h
  ·split at h
   ·exact ih h
   ·split at h
    ·cases h;simp
    ·split at h
     ·exact ih h
     ·exact ih h
theorem aHO{acc:L}{k:Nat}{l:L}{e:Int}(h:bZ acc k l=.bad e):e=3:=by
 induction l generalizing acc k with
 |nil=>cases k<;>simp[bZ] at h
 |cons c l ih =>
  cases k with
  |succ k=>rw[bZ] at h;exact ih h
  |zero =>
   by_cases hc:c=35
   ·subst hc;cases l with
    |nil=>simp[bZ] at h;exact h.symm
    |cons a l =>
     cases l with
     |nil=>simp[bZ] at h;exact h.symm
     |cons b l =>
      simp only[bZ,beq_self_eq_true,if_true] at h;split at h
      ·cases h;rfl
      ·exact ih (k:=2) (by rw[bZ,bZ];exact h)
   ·have hc2:(c==35)=false:=q38;simp only[bZ,hc2,Bool.false_eq_true,if_false] at h;exact ih h
theorem qK{k:Int}{n:Nat}{x:L}{b:Nat}{e:Int}(h:nC k n x b=.bad e):e=5:=by
 unfold nC at h;split at h
 ·cases h;rfl
 ·cases h
theorem aOQ{r:L}{e:Int}(h:eR r=.bad e):2<=e/\e<=5:=by
 unfold eR at h;split at h
 ·split at h
  ·rename_i e' he
   cases h;unfold iM at he;split at he
   ·cases he;omega
   ·cases he
  ·cases h
 ·split at h
  ·split at h
   ·cases h
   ·cases h;omega
   ·have:=qK h;omega
  ·have:=qK h;omega
theorem yG{r:Res (L×Nat)}{e:Int}(h:tB r=.bad e)(hr:∀e,r=.bad e->2<=e/\e<=5):2<=e/\e<=5:=by
 cases r with
 |bad e'=>cases h;exact hr _ rfl
 |good x=>have:=qK h;omega
theorem aUF{l:L}{e:Int}(hl:l≠[])(h:rW l=.bad e):2<=e/\e<=5:=by
 cases l with
 |nil=>exact absurd rfl hl
 |cons c l =>
  unfold rW at h;dsimp only at h;split at h
  ·cases h
  ·split at h
   ·split at h
    ·cases h
    ·exact yG h (fun e he=>by have:=aOP he;omega)
   ·split at h
    ·split at h
     ·cases h
     ·cases h;omega
    ·split at h
     ·unfold yC at h;cases hn:bZ [] 0 (l.take (iS l)) with
      |bad e'=>rw[hn] at h;cases h;have:=aHO hn;omega
      |good x=>rw[hn] at h;have:=qK h;omega
     ·split at h
      ·exact yG h (fun e he=>by have:=aOO he;omega)
      ·split at h
       ·cases h;omega
       ·exact aOQ h
theorem lP{l:L}{e:Int}(h:(aM l).2=.bad e):2<=e/\e<=5:=by
 unfold aM at h;simp only at h;split at h
 ·cases h
 ·exact aUF (by assumption) h
theorem yH{l:L}{e:Int}(h:bE l=.bad e):(aM l).2=.bad e\/(e=4/\(aM l).2=.good ⟨0,0,0,[]⟩):=by
 unfold bE at h;split at h
 ·rename_i e' he;cases h;exact .inl he
 ·rename_i t ht
  split at h
  ·rename_i hk
   cases h;have:=(cW ht).2.2.2 hk;subst this;exact .inr ⟨rfl,ht⟩
  ·cases h
end Fo
namespace Go.Proofs.YtdjpkgccakgkbaaGreatDoor
open Go.Proofs.Tryz
open Go.RowKit Fo
def tkV(t:Tok)(p:Nat):Value:=.agg #[.int .i64 t.kind,.int .i64 p,.int .i64 (p+t.len:Nat),.int .i64 t.n,.string ⟨t.s.toArray⟩]
theorem kE(s:ByteArray)(a:Nat)(k:Int)(h:(aM (s.data.toList.drop a)).2=.bad k)(ha:a<=s.size)(hs:s.size<=140737488355327)(m:Int)(w:World)(hm:aF w m) :
 Calls prog 57 #[.string s,.int .i64 a] w fun e w'=>e=.returned (.tuple #[.agg #[.int .i64 0,.int .i64 0,.int .i64 0,.int .i64 0,.string ⟨#[]⟩],.int .i64 k])/\Below w.heap.size w w' :=
 qJ h (aLW s a ha hs m w hm)
theorem gB(s:ByteArray)(a p:Nat)(t:Tok)(h:(aM (s.data.toList.drop a)).2=.good t)(hp:a+(aM (s.data.toList.drop a)).1=p)(ha:a<=s.size)(hs:s.size<=140737488355327)(m:Int)(w:World)(hm:aF w m) :
 Calls prog 57 #[.string s,.int .i64 a] w fun e w'=>e=.returned (.tuple #[.agg #[.int .i64 t.kind,.int .i64 p,.int .i64 ((p+t.len:Nat):Int),.int .i64 t.n,.string ⟨t.s.toArray⟩],.int .i64 0])/\Below w.heap.size w w':=by
 have:=nM h (aLW s a ha hs m w hm);rw[hp] at this;exact this
theorem mH(r:Nat)(s:ByteArray)(a p:Nat)(t:Tok)(ha:a<=s.size)(hs:s.size<=140737488355327)(m:Int)(w:World)(hm:aF w m)(hr:aU w r s a)
 (h:(aM (s.data.toList.drop a)).2=.good t) (hk:t.kind≠0) (hp:a+(aM (s.data.toList.drop a)).1=p) :
 Calls prog 124 #[.pointer (some ⟨r,0,none⟩)] w fun e w'=>e=.returned (tkV t p)/\aU w' r s (p+t.len)/\Bes r w w':=by
 obtain⟨q,hq⟩:=eX (p+t.len);have HN:=Lh (fun W hW=>gB s a p t h hp ha hs m W hW);simp only[hq] at HN;have hk1:(t.kind==0)=false:=q93;have hc0:=hr.cell0;have hc1:=hr.cell1;have hf0:=hr.frozen 1;have hlt:=hr.lt;have hA:∀W,Below w.heap.size w W->aF W m:=fun W hb=>hm.below hb
 have HA:=Lh hA;clear h hp hA hk;go_enter func124,ntmps124
 go_upto_region 1 with fail
 go_cut [3,4] (fun s3 s4 wx=>∃g:Nat,s3=.pointer (some ⟨g,0,none⟩)/\s4=.int .i64 0/\wx.cell? ⟨g,0,none⟩=some (.int .i64 t.kind)/\wx.cell? ⟨g,1,none⟩=some (.int .i64 p)/\wx.cell? ⟨g,2,none⟩=some (.int .i64 q)/\wx.cell? ⟨g,3,none⟩=some (.int .i64 t.n)/\wx.cell? ⟨g,4,none⟩=some (.string ⟨t.s.toArray⟩)/\w.heap.size<g/\Below (w.heap.size+1) (w.alloc (.cells #[.int .i64 0,.int .i64 0,.int .i64 0,.int .i64 0,.string ⟨#[]⟩] 81)) wx)
 case first =>
  exact q310
 case rest =>
  obtain⟨g,rfl,rfl,g0,g1,g2,g3,g4,hg,hb⟩:=hcut;obtain⟨hc,hf⟩:=aQ hb;have hrw:aU wc r s a:=(hr.below (w':=w.alloc (.cells #[.int .i64 0,.int .i64 0,.int .i64 0,.int .i64 0,.string ⟨#[]⟩] 81)) bel).belowB hb oM;have k1:=hrw.cell1;have kf:=hrw.frozen;have hgr:¬g=r:=oM;have hrg:¬r=g:=oM;have hrz:¬r=w.heap.size:=oM;have hzr:¬w.heap.size=r:=oM;go_wp2;refine bGN (v:=tkV t p) (by simp[results,results124,go_sem,hc,hf,tkV,hq]) rfl ⟨rfl,?_,?_⟩
  ·exact q458
  ·exact q95
theorem aAJ(r:Nat)(s:ByteArray)(a:Nat)(k:Int)(ha:a<=s.size)(hs:s.size<=140737488355327)(m:Int)(w:World)(hm:aF w m)(hr:aU w r s a)
 (h:(aM (s.data.toList.drop a)).2=.bad k) :
 Calls prog 124 #[.pointer (some ⟨r,0,none⟩)] w fun e w'=>e=.panicked [{ v:=.iface 233 (.int .i64 k),recovered:=false }]/\Bes r w w':=by
 have HN:=Lh (fun W hW=>kE s a k h ha hs m W hW);have hk1:(k !=0)=true:=by have:=lP h;simp;omega
 have hc0:=hr.cell0;have hc1:=hr.cell1;have hf0:=hr.frozen 1;have hlt:=hr.lt;have hA:∀W,Below w.heap.size w W->aF W m:=fun W hb=>hm.below hb
 have HA:=Lh hA;clear h hA;go_enter func124,ntmps124
 go_upto_region 1 with fail
 go_cut [3,4] (fun s3 s4 wx=>∃g:Nat,s3=.pointer (some ⟨g,0,none⟩)/\s4=.int .i64 k/\Below (w.heap.size+1) (w.alloc (.cells #[.int .i64 0,.int .i64 0,.int .i64 0,.int .i64 0,.string ⟨#[]⟩] 81)) wx)
 case first =>
  exact q329
 case rest =>
  obtain⟨g,rfl,rfl,hb⟩:=hcut;go_wp2;exact⟨rfl,rfl,q95⟩
theorem aOR(r:Nat)(s:ByteArray)(a p:Nat)(t:Tok)(ha:a<=s.size)(hs:s.size<=140737488355327)(m:Int)(w:World)(hm:aF w m)(hr:aU w r s a)
 (h:(aM (s.data.toList.drop a)).2=.good t) (hk:t.kind=0) (hp:a+(aM (s.data.toList.drop a)).1=p) :
 Calls prog 124 #[.pointer (some ⟨r,0,none⟩)] w fun e w'=>e=.panicked [{ v:=.iface 233 (.int .i64 4),recovered:=false }]/\Bes r w w':=by
 obtain⟨q,hq⟩:=eX (p+t.len);have HN:=Lh (fun W hW=>gB s a p t h hp ha hs m W hW);simp only[hq] at HN;have hk1:(t.kind==0)=true:=q93;have hc0:=hr.cell0;have hc1:=hr.cell1;have hf0:=hr.frozen 1;have hlt:=hr.lt;have hA:∀W,Below w.heap.size w W->aF W m:=fun W hb=>hm.below hb
 have HA:=Lh hA;clear h hp hA hk;go_enter func124,ntmps124
 go_upto_region 1 with fail
 go_cut [3,4] (fun s3 s4 wx=>∃g:Nat,s3=.pointer (some ⟨g,0,none⟩)/\s4=.int .i64 0/\wx.cell? ⟨g,0,none⟩=some (.int .i64 t.kind)/\wx.cell? ⟨g,1,none⟩=some (.int .i64 p)/\wx.cell? ⟨g,2,none⟩=some (.int .i64 q)/\wx.cell? ⟨g,3,none⟩=some (.int .i64 t.n)/\wx.cell? ⟨g,4,none⟩=some (.string ⟨t.s.toArray⟩)/\w.heap.size<g/\Below (w.heap.size+1) (w.alloc (.cells #[.int .i64 0,.int .i64 0,.int .i64 0,.int .i64 0,.string ⟨#[]⟩] 81)) wx)
 case first =>
  exact q310
 case rest =>
  obtain⟨g,rfl,rfl,g0,g1,g2,g3,g4,hg,hb⟩:=hcut;go_wp2;exact⟨rfl,rfl,q95⟩
theorem oI(r:Nat)(s:ByteArray)(a:Nat)(k:Int)(ha:a<=s.size)(hs:s.size<=140737488355327)(m:Int)(w:World)(hm:aF w m)(hr:aU w r s a)
 (h:bE (s.data.toList.drop a)=.bad k) :
 Calls prog 124 #[.pointer (some ⟨r,0,none⟩)] w fun e w'=>e=.panicked [{ v:=.iface 233 (.int .i64 k),recovered:=false }]/\Bes r w w':=by
 rcases yH h with h2|⟨h1,h2⟩
 ·exact aAJ r s a k ha hs m w hm hr h2
 ·subst h1;exact aOR r s a _ _ ha hs m w hm hr h2 rfl rfl
end Go.Proofs.YtdjpkgccakgkbaaGreatDoor
namespace Fo
theorem aOS{r:L}{t:Tok}(hr:r≠[])(h:eR r=.good t):1<=t.len:=by
 have:=(vL h).1;have:=List.length_pos_iff.2 hr;omega
theorem aUG{c:UInt8}{l:L}(h:fO c=true):1<=iS (c::l):=by simp[iS,h]
theorem aUH{l:L}{t:Tok}(hl:∀c r,l=c::r->dX c=false/\c≠37)(h:rW l=.good t):1<=t.len:=by
 cases l with
 |nil=>cases h
 |cons c l =>
  obtain⟨hw,h37⟩:=hl c l rfl;unfold rW at h;dsimp only at h;split at h
  ·cases h;simp
  ·rename_i n1
   split at h
   ·split at h
    ·cases h;simp
    ·obtain⟨x,m,h1,rfl,_⟩:=fT h;simp
   ·rename_i n2
    split at h
    ·exact q557
    ·rename_i n3
     split at h
     ·obtain⟨x,h1,rfl,_⟩:=kD h;simp
     ·rename_i n4
      split at h
      ·obtain⟨x,m,h1,rfl,_⟩:=fT h;simp
      ·rename_i n5
       split at h
       ·cases h
       ·rename_i n6
        have hreg:fO c=true:=by
         unfold fO;rw[hw];simp only[Bool.not_false,Bool.true_and,Bool.not_eq_true',aCS];simp at n1 n2 n3 n4 n5 n6;simp[n1,n2,n3,n4,n5,n6,h37]
        have hp:=aUG (l:=l) hreg;refine aOS ?_ h;intro h0;have:=congrArg List.length h0;simp at this;omega
theorem aHP(b:Bool)(l:L):∀c r,l.drop (dY b l)=c::r->dX c=false/\c≠37:=by
 induction l generalizing b with
 |nil=>cases b<;>simp[dY]
 |cons c l ih =>
  cases b
  ·simp only[dY];split
   ·rw[List.drop_succ_cons];exact ih true
   ·rename_i h37
    split
    ·rw[List.drop_succ_cons];exact ih false
    ·rename_i hw
     intro c' r h;simp only[List.drop_zero,List.cons.injEq] at h;rw[<-h.1];exact⟨by simpa using hw,by simpa using h37⟩
  ·simp only[dY];rw[List.drop_succ_cons];exact ih _
theorem bQ{l:L}{t:Tok}{r:L}(h:bE l=.good (t,r)):r.length<l.length/\1<=t.len:=by
 obtain⟨h1,h2,rfl⟩:=gS h;have h3:=(cW h1).1;have h4:1<=t.len:=by
  unfold aM at h1;simp only at h1;split at h1
  ·cases h1;exact absurd rfl h2
  ·exact aUH (aHP false l) h1
 rw[bGS];omega
theorem aAK{t:Tok}{l:L}{g:Int}{r:L}(h:uB t l=some (g,r)):r.length<=l.length:=by
 unfold uB at h;split at h
 ·cases h
 ·split at h
  ·cases h
  ·split at h
   ·cases h
   ·split at h
    ·cases h
    ·split at h
     ·simp only[Option.some.injEq,Prod.mk.injEq] at h;rw[<-h.2,bGS,bGS];omega
     ·cases h
theorem qL{f:Tok->L->Res (Ob×L)}(hf:∀t l o r,f t l=.good (o,r)->r.length<=l.length){d:Nat} :
 ∀{m:Nat} {l:L} {acc ks:List Ob} {r:L},iN f d m l acc=.good (ks,r)->r.length<=l.length
 |0,_,_,_,_,h=>q96
 |m+1,l,acc,ks,r,h=>by
  rw[iN] at h;split at h
  ·cases h
  ·rename_i t r1 h1
   have:=(bQ h1).1;split at h
   ·cases h;omega
   ·split at h
    ·cases h
    ·split at h
     ·cases h
     ·rename_i o r2 h2
      have h3:=hf _ _ _ _ h2;have:=qL hf h;omega
theorem pA{f:Tok->L->Res (Ob×L)}(hf:∀t l o r,f t l=.good (o,r)->r.length<=l.length) :
 ∀{m:Nat} {l:L} {acc ks:List (L×Ob)} {r:L},cQ f m l acc=.good (ks,r)->r.length<=l.length
 |0,_,_,_,_,h=>q96
 |m+1,l,acc,ks,r,h=>by
  rw[cQ] at h;split at h
  ·cases h
  ·rename_i t r1 h1
   have:=(bQ h1).1;split at h
   ·cases h;omega
   ·split at h
    ·cases h
    ·split at h
     ·cases h
     ·split at h
      ·cases h
      ·split at h
       ·cases h
       ·rename_i t2 r2 h2
        have:=(bQ h2).1;split at h
        ·cases h
        ·rename_i o r3 h3
         have:=hf _ _ _ _ h3;have:=pA hf h;omega
theorem dI:∀(d:Nat) (t:Tok) (l:L) (o:Ob) (r:L),dM d t l=.good (o,r)->r.length<=l.length
 |0,t,l,o,r,h=>by
  rw[dM] at h;split at h<;>cases h
 |d+1,t,l,o,r,h=>by
  rw[dM] at h;split at h
  ·split at h
   ·split at h
    ·rename_i g r' h2
     cases h;exact aAK h2
    ·exact q503
   ·split at h
    ·exact q503
    ·split at h
     ·exact q503
     ·split at h
      ·exact q503
      ·split at h
       ·simp only[Res.good.injEq,Prod.mk.injEq] at h;rw[h.2];exact bGB _
       ·split at h
        ·split at h
         ·cases h
         ·rename_i h2;cases h;exact qL (dI d) h2
        ·split at h
         ·cases h
         ·rename_i h2;cases h;exact pA (dI d) h2
  ·cases h
theorem aLX(x y:L):leL x y=true↔x<=y:=by
 induction x generalizing y with
 |nil=>simp[leL]
 |cons a x ih =>
  cases y with
  |nil=>simp[leL]
  |cons b y =>
   rw[List.cons_le_cons_iff];simp[leL,ih]
theorem yI(k:L)(l:List L):(aHA k l).Perm (k::l):=by
 induction l with
 |nil=>exact List.Perm.refl _
 |cons x l ih =>
  unfold aHA;split
  ·exact List.Perm.refl _
  ·exact(List.Perm.cons x ih).trans (List.Perm.swap k x l)
theorem gT(l:List L):(mX l).Perm l:=by
 induction l with
 |nil=>exact List.Perm.refl _
 |cons x l ih=>exact(yI x _).trans (List.Perm.cons x ih)
theorem aDI(k:L)(l:List L)(h:l.Pairwise (·<=·)):(aHA k l).Pairwise (·<=·):=by
 induction l with
 |nil=>simp[aHA]
 |cons x l ih =>
  unfold aHA;obtain⟨h1,h2⟩:=List.pairwise_cons.1 h;split
  ·rename_i hle
   rw[aLX] at hle;refine List.pairwise_cons.2 ⟨fun y hy=>?_,h⟩;rcases List.mem_cons.1 hy with rfl|hy
   ·exact hle
   ·exact List.le_trans hle (h1 y hy)
  ·rename_i hle
   rw[aLX] at hle;refine List.pairwise_cons.2 ⟨fun y hy=>?_,ih h2⟩;rcases List.mem_cons.1 ((yI k l).mem_iff.1 hy) with rfl|hy
   ·rcases List.le_total x y with h|h
    ·exact h
    ·exact absurd h hle
   ·exact h1 y hy
theorem mI(l:List L):(mX l).Pairwise (·<=·):=by
 induction l with
 |nil=>exact List.Pairwise.nil
 |cons x l ih=>exact aDI x _ ih
theorem pB{l l':List L}(h:l.Perm l')(hs:l'.Pairwise (·<=·)):l'=mX l:=by
 refine List.Perm.eq_of_pairwise (le:=fun a b=>a<=b) (fun a b _ _ h1 h2=>List.le_antisymm h1 h2) hs (mI l) (h.symm.trans (gT l).symm)
theorem aDJ(l l':List L)(h:l.Perm l'):l.mergeSort (fun x y=>decide (x<=y))=mX l':=by
 have tr:∀a b c:L,decide (a<=b)=true->decide (b<=c)=true->decide (a<=c)=true:=fun a b c h1 h2=>by simp only[decide_eq_true_eq] at *;exact List.le_trans h1 h2
 have tot:∀a b:L,(decide (a<=b)||decide (b<=a))=true:=fun a b=>by simp only[Bool.or_eq_true,decide_eq_true_eq];exact List.le_total a b
 refine pB (h.symm.trans (List.mergeSort_perm l _).symm) ?_;have:=List.pairwise_mergeSort tr tot l;exact this.imp (fun h=>q10)
def eB(o:Ob)(n g s list:Bool):Bool:=(n||o.n==0)&&(g||o.g==0)&&(s||o.s.isEmpty)&&(list||(o.keys.isEmpty&&o.kids.isEmpty))
def gC(s:L):Bool:=s.all (· !=0)&&decide (s.length<=127)
def eT(o:Ob):Bool :=
 if o.kind=0 then eB o false false false false
 else if o.kind=1\/o.kind=2\/o.kind=3 then eB o true false false false
 else if o.kind=4\/o.kind=5 then eB o false false true false
 else if o.kind=6 then eB o false false false true&&o.keys.isEmpty
 else if o.kind=7 then eB o false false false true
 else if o.kind=8 then eB o true true false false
 else if o.kind=9 then eB o false false true true
 else false
def gN(o:Ob):Bool :=
 if o.kind=1 then o.n==0||o.n==1
 else if o.kind=2 then decide (-2147483647<=o.n)&&decide (o.n<=2147483647)
 else if o.kind=3 then decide (-1073741824<=o.n)&&decide (o.n<=1073741824)
 else if o.kind=8 then decide (1<=o.n)&&decide (o.n<=8191)&&decide (0<=o.g)&&decide (o.g<=65535)
 else true
def gO(k:Int):Nat:=if k=5 then 127 else if k=9 then 1048576 else 32767
def bB:L:=[76,101,110,103,116,104]
def jH(o:Ob)(i:Nat):Bool :=
 gC (o.keys.getD i [])&&(i==0||decide (o.keys.getD (i-1) []<o.keys.getD i []))&&!(o.keys.getD i []==bB&&o.kind==9)&&(o.kids.getD i .zero).kind !=0
def bV(o:Ob):Bool :=
 if o.kind=5 then gC o.s
 else if o.kind≠7/\o.kind≠9 then true
 else o.keys.length==o.kids.length&&(List.range o.keys.length).all (jH o)
def fD(l:List Int):Int:=(l.find? (· !=0)).getD 0
def aT:Nat->Ob->Int
 |0,_=>7
 |n+1,o =>
  if !eT o||(o.kind==9&&n !=23) then 10
  else if !gN o then 2
  else if gO o.kind<o.s.length then 5
  else if 8191<o.kids.length then 6
  else if !bV o then 3
  else fD (o.kids.map (aT n))
def okO:Nat->Ob->Prop
 |0,_=>False
 |d+1,o=>eT o=true/\o.kind≠9/\gN o=true/\o.s.length<=gO o.kind/\o.kids.length<=8191/\bV o=true/\∀k∈o.kids,okO d k
theorem lB{l:List Int}(h:∀x∈l,x=0):fD l=0:=by
 unfold fD;rw[List.find?_eq_none.2 (fun x hx=>by simp[h x hx])];rfl
theorem sC:∀(d:Nat) (o:Ob),okO d o->aT d o=0
 |0,_,h=>h.elim
 |d+1,o,h=>by
  obtain⟨h1,h2,h3,h4,h5,h6,h7⟩:=h;have h2':(o.kind==9)=false:=q97;unfold aT;rw[h1,h2',h3,h6];simp only[Bool.not_true,Bool.false_and,Bool.or_self,Bool.false_eq_true,if_false];rw[bGU oM,bGU oM];refine lB fun x hx=>?_
  obtain⟨k,hk,rfl⟩:=List.mem_map.1 hx;exact sC d k (h7 k hk)
def tC(t:Tok):Prop :=
 (t.kind=1→-2147483647<=t.n/\t.n<=2147483647)/\(t.kind=2→-1073741824<=t.n/\t.n<=1073741824)/\(t.kind=3->t.s.length<=32767)/\(t.kind=4->gC t.s=true)
theorem aDK{l:L}{n:Int}(h:iM l=.good n):-2147483647<=n/\n<=2147483647:=by
 unfold iM at h;split at h
 ·cases h
 ·cases h;split<;>omega
theorem aOT{l:L}{n:Int}(h:pH l=.good n):-1073741824<=n/\n<=1073741824:=by
 unfold pH at h;split at h
 ·cases h
 ·split at h
  ·cases h
  ·split at h
   ·cases h
   ·dsimp only at h;generalize (if(if iG l then gA ((bU (aL l)).drop 4) else mF ((bU (aL l)).drop 4)) then val (eC (aL l)++dE (bU (aL l)))+1 else val (eC (aL l)++dE (bU (aL l))))=m at h
    by_cases hb:1073741824<m
    ·rw[bGV hb] at h;cases h
    ·rw[bGU hb] at h;cases h;split<;>omega
theorem tD{t:Tok}(h:t.kind≠1/\t.kind≠2/\t.kind≠3/\t.kind≠4):tC t :=
 ⟨fun x=>absurd x h.1,fun x=>absurd x h.2.1,fun x=>absurd x h.2.2.1,fun x=>absurd x h.2.2.2⟩
theorem aUI{r:L}{t:Tok}(h:eR r=.good t):tC t:=by
 unfold eR at h;split at h
 ·split at h
  ·cases h
  ·rename_i n hn
   cases h;exact⟨fun _=>aDK hn,fun h=>q21,fun h=>q21,fun h=>q21⟩
 ·split at h
  ·split at h
   ·rename_i n hn
    cases h;exact⟨fun h=>q21,fun _=>aOT hn,fun h=>q21,fun h=>q21⟩
   ·cases h
   ·exact q549
  ·exact q549
theorem qD(c:UInt8):bI c<16:=by
 unfold bI digit;split
 ·omega
 ·split
  ·omega
  ·split<;>omega
theorem aUJ{acc:L}{k:Nat}{l x:L}(h:bZ acc k l=.good x)(ha:∀c∈acc,c≠0)(hl:∀c∈l,c≠0):∀c∈x,c≠0:=by
 induction l generalizing acc k with
 |nil=>cases k<;>simp only[bZ,Res.good.injEq] at h<;>subst h<;>exact ha
 |cons c l ih =>
  have hl':∀c∈l,c≠0:=fun c hc=>hl c (by simp[hc])
  cases k with
  |succ k=>rw[bZ] at h;exact ih h ha hl'
  |zero =>
   by_cases hc:c=35
   ·subst hc;cases l with
    |nil=>simp[bZ] at h
    |cons a l =>
     cases l with
     |nil=>simp[bZ] at h
     |cons b l =>
      simp only[bZ,beq_self_eq_true,if_true] at h;split at h
      ·cases h
      ·rename_i hab
       refine ih (k:=2) (by rw[bZ,bZ];exact h) ?_ hl';intro c hc;rw[List.mem_append] at hc;rcases hc with hc|hc
       ·exact ha c hc
       ·simp only[List.mem_singleton] at hc;subst hc;intro h0;have h1:=congrArg UInt8.toNat h0;have e1:=qD a;have e2:=qD b;simp at h1;omega
   ·have hc2:(c==35)=false:=q38;simp only[bZ,hc2,Bool.false_eq_true,if_false] at h;refine ih h ?_ hl';intro x hx;rw[List.mem_append] at hx;rcases hx with hx|hx
    ·exact ha x hx
    ·simp only[List.mem_singleton] at hx;subst hx;exact hl x sI
theorem aUK(l:L):∀c∈l.take (iS l),fO c=true:=by
 induction l with
 |nil=>simp
 |cons c l ih =>
  unfold iS;split
  ·rename_i h
   intro x hx;rw[List.take_succ_cons] at hx;rcases List.mem_cons.1 hx with rfl|hx
   ·exact h
   ·exact ih x hx
  ·simp
theorem aHQ{c:UInt8}(h:fO c=true):c≠0:=by
 rintro rfl;revert h;decide
theorem bAM{l:L}{t:Tok}(h:rW l=.good t):tC t:=by
 cases l with
 |nil=>cases h
 |cons c l =>
  unfold rW at h;dsimp only at h;split at h
  ·exact q532
  ·split at h
   ·split at h
    ·exact q532
    ·exact q480
   ·split at h
    ·split at h
     ·exact q532
     ·cases h
    ·split at h
     ·obtain⟨x,h1,rfl,h2⟩:=kD h;refine⟨fun h=>q21,fun h=>q21,fun h=>q21,fun _=>?_⟩;have:=aUJ h1 sI (fun c hc=>aHQ (aUK l c hc));simp only[gC,Bool.and_eq_true,decide_eq_true_eq,bHB,bne_iff_ne];exact⟨this,h2⟩
     ·split at h
      ·exact q480
      ·split at h
       ·cases h
       ·exact aUI h
theorem aUL{l:L}{t:Tok}(h:(aM l).2=.good t):tC t:=by
 unfold aM at h;simp only at h;split at h
 ·exact q532
 ·exact bAM h
theorem nN{l:L}{t:Tok}{r:L}(h:bE l=.good (t,r)):tC t:=aUL (gS h).1
theorem bAN{t:Tok}{l r:L}{g:Int}(h:uB t l=some (g,r)):1<=t.n/\t.n<=8191/\0<=g/\g<=65535:=by
 unfold uB at h;split at h
 ·cases h
 ·split at h
  ·cases h
  ·split at h
   ·cases h
   ·split at h
    ·cases h
    ·split at h
     ·simp only[Option.some.injEq,Prod.mk.injEq] at h;omega
     ·cases h
theorem aLY{f:Tok->L->Res (Ob×L)}{d:Nat}{p:Ob->Prop}(hf:∀t l o r,tC t->f t l=.good (o,r)->p o/\bL t=true/\0<d) :
 ∀{m:Nat} {l:L} {acc ks:List Ob} {r:L},iN f d m l acc=.good (ks,r)->(∀o∈acc,p o)->acc.length<=8191->(∀o∈ks,p o)/\ks.length<=8191
 |0,_,_,_,_,h,_,_=>q96
 |m+1,l,acc,ks,r,h,ha,hn=>by
  rw[iN] at h;split at h
  ·cases h
  ·rename_i t r1 h1
   split at h
   ·cases h;exact⟨ha,hn⟩
   ·split at h
    ·cases h
    ·rename_i hb
     split at h
     ·cases h
     ·rename_i o r2 h2
      obtain⟨g1,g2,g3⟩:=hf _ _ _ _ (nN h1) h2;refine aLY hf h ?_ ?_
      ·intro x hx;rw[List.mem_append] at hx;rcases hx with hx|hx
       ·exact ha x hx
       ·simp only[List.mem_singleton] at hx;subst hx;exact g1
      ·have:¬8191<=acc.length:=fun h=>hb ⟨g2,g3,h⟩
       simp;omega
def aAL(p:Ob->Prop)(ps:List (L×Ob)):Prop:=(ps.map (·.1)).Nodup/\ps.length<=8191/\∀x∈ps,gC x.1=true/\p x.2
theorem aDL{f:Tok->L->Res (Ob×L)}{p:Ob->Prop}(hf:∀t l o r,tC t->f t l=.good (o,r)->p o) :
 ∀{m:Nat} {l:L} {acc ks:List (L×Ob)} {r:L},cQ f m l acc=.good (ks,r)->aAL p acc->aAL p ks
 |0,_,_,_,_,h,_=>q96
 |m+1,l,acc,ks,r,h,ha=>by
  rw[cQ] at h;split at h
  ·cases h
  ·rename_i t r1 h1
   split at h
   ·cases h;exact ha
   ·split at h
    ·cases h
    ·rename_i hk
     split at h
     ·cases h
     ·rename_i hany
      split at h
      ·cases h
      ·rename_i hlen
       split at h
       ·cases h
       ·rename_i t2 r2 h2
        split at h
        ·cases h
        ·rename_i o r3 h3
         refine aDL hf h ⟨?_,sO,?_⟩
         ·rw[List.map_append,List.nodup_append];refine⟨ha.1,sI,?_⟩;intro a hx b hy;simp only[List.map_cons,List.map_nil,List.mem_singleton] at hy;subst hy;rintro rfl;apply hany
          obtain⟨q,hq,hqe⟩:=List.mem_map.1 hx;exact List.any_eq_true.2 ⟨q,hq,by simpa using hqe⟩
         ·intro x hx;rw[List.mem_append] at hx;rcases hx with hx|hx
          ·exact ha.2.2 x hx
          ·simp only[List.mem_singleton] at hx;subst hx;exact⟨(nN h1).2.2.2 oM,hf _ _ _ _ (nN h2) h3⟩
theorem yJ{ps:List (L×Ob)}(hn:(ps.map (·.1)).Nodup){x:L×Ob}(hx:x∈ps):ps.find? (fun p=>p.1==x.1)=some x:=by
 induction ps with
 |nil=>cases hx
 |cons y ps ih =>
  rw[List.map_cons,List.nodup_cons] at hn;rcases List.mem_cons.1 hx with rfl|hx'
  ·simp
  ·have:y.1≠x.1 := by
    intro he;apply hn.1;rw[he];exact List.mem_map.2 ⟨x,hx',rfl⟩
   rw[List.find?_cons_of_neg (by simpa using this)];exact ih hn.2 hx'
theorem aOU{d:Nat}{ps:List (L×Ob)}(h:aAL (okO d) ps):okO (d+1) (pJ ps):=by
 obtain⟨hn,hl,hp⟩:=h;obtain⟨ks,hks⟩:∃ks,mX ((ps.filter fun p=>p.2.kind !=0).map (·.1))=ks:=⟨_,rfl⟩
 have hperm:ks.Perm ((ps.filter fun p=>p.2.kind !=0).map (·.1)):=hks▸gT _;have hsort:ks.Pairwise (·<=·):=hks▸mI _;have hnd:ks.Nodup:=hperm.nodup_iff.2 ((List.filter_sublist.map _).nodup hn);have hmem:∀k∈ks,∃x∈ps,x.1=k/\x.2.kind≠0:=by
  intro k hk;obtain⟨x,hx,rfl⟩:=List.mem_map.1 (hperm.mem_iff.1 hk);obtain⟨h1,h2⟩:=List.mem_filter.1 hx;exact⟨x,h1,rfl,q97⟩
 have hval:∀k∈ks,∃x∈ps,x.1=k/\x.2.kind≠0/\((ps.find? fun p=>p.1==k).map (·.2)).getD .zero=x.2:=by
  intro k hk;obtain⟨x,hx,rfl,h2⟩:=hmem k hk;exact⟨x,hx,rfl,h2,by rw[yJ hn hx];rfl⟩
 have hlen:ks.length<=8191:=by
  rw[hperm.length_eq,List.length_map];exact bGC (List.length_filter_le _ _) hl
 have hlt:∀i (h:i<ks.length),0<i->ks[i-1]<ks[i]:=by
  intro i h h0;have h1:=List.pairwise_iff_getElem.1 hsort (i-1) i oM h oM;have h2:ks[i-1]≠ks[i]:=by
   intro he;exact absurd he (List.pairwise_iff_getElem.1 hnd (i-1) i oM h oM)
  exact Classical.byContradiction fun h3=>h2 (List.le_antisymm h1 h3)
 unfold pJ;rw[hks];refine⟨by simp[eT,Ob.kind,eB,Ob.n,Ob.g,Ob.s],by simp[Ob.kind],by simp[gN,Ob.kind],by simp[Ob.s],by simp[Ob.kids];exact hlen,?_,?_⟩
 ·unfold bV;rw[bGU (by simp[Ob.kind]),bGU (by simp[Ob.kind])];simp only[Ob.keys,Ob.kids,List.length_map,beq_self_eq_true,Bool.true_and];rw[bHB];intro i hi;have hi':i<ks.length:=q22;obtain⟨x,hx,hxk,hx0,hxv⟩:=hval ks[i] (bGG hi');unfold jH;simp only[Ob.keys,Ob.kids,Ob.kind,bGX,bGE hi',Option.getD_some,List.getElem?_map,Option.map_some,hxv];rw[<-hxk,(hp x hx).1];have hk0:(x.2.kind !=0)=true:=by simpa using hx0
  have hk9:((7:Int)==9)=false:=dC;simp only[Ob.kind] at hk0;rw[hk9];by_cases h0:i=0
  ·subst h0;simp[hk0]
  ·have:=hlt i hi' oM;rw[hxk,bGE (by omega:i-1<ks.length)];simp[this,hk0]
 ·intro o ho;simp only[Ob.kids] at ho;obtain⟨k,hk,rfl⟩:=List.mem_map.1 ho;obtain⟨x,hx,_,_,hxv⟩:=hval k hk;rw[hxv];exact(hp x hx).2
theorem aHR{d:Nat}{t:Tok}{l:L}{o:Ob}{r:L}(h:dM d t l=.good (o,r)):bL t=true/\0<d:=by
 exact q437
theorem uP:∀(d:Nat) (t:Tok) (l:L) (o:Ob) (r:L),tC t->dM d t l=.good (o,r)->okO d o
 |0,t,l,o,r,_,h=>by rw[dM] at h;split at h<;>cases h
 |d+1,t,l,o,r,ht,h=>by
  rw[dM] at h;split at h
  ·rename_i hbg
   split at h
   ·rename_i hk
    split at h
    ·rename_i g r' h2
     cases h;have:=bAN h2;refine⟨by simp[eT,Ob.ref,Ob.kind,eB,Ob.n,Ob.g,Ob.s,Ob.keys,Ob.kids],by simp[Ob.ref,Ob.kind],?_,by simp[Ob.ref,Ob.s],by simp[Ob.ref,Ob.kids],by simp[bV,Ob.ref,Ob.kind],by simp[Ob.ref,Ob.kids]⟩;simp[gN,Ob.ref,Ob.kind,Ob.n,Ob.g,and_assoc];exact⟨bGI this.1,bGI this.2.1,bGI this.2.2.1,bGI this.2.2.2⟩
    ·cases h;have:=ht.1 hk;refine⟨by simp[eT,Ob.int,Ob.kind,eB,Ob.n,Ob.g,Ob.s,Ob.keys,Ob.kids],by simp[Ob.int,Ob.kind],?_,by simp[Ob.int,Ob.s],by simp[Ob.int,Ob.kids],by simp[bV,Ob.int,Ob.kind],by simp[Ob.int,Ob.kids]⟩;simp[gN,Ob.int,Ob.kind,Ob.n];exact⟨bGI this.1,bGI this.2⟩
   ·split at h
    ·rename_i hk
     cases h;have:=ht.2.1 hk;refine⟨by simp[eT,Ob.real,Ob.kind,eB,Ob.n,Ob.g,Ob.s,Ob.keys,Ob.kids],by simp[Ob.real,Ob.kind],?_,by simp[Ob.real,Ob.s],by simp[Ob.real,Ob.kids],by simp[bV,Ob.real,Ob.kind],by simp[Ob.real,Ob.kids]⟩;simp[gN,Ob.real,Ob.kind,Ob.n];exact⟨bGI this.1,bGI this.2⟩
    ·split at h
     ·rename_i hk
      cases h;have:=ht.2.2.1 hk;exact⟨by simp[eT,Ob.str,Ob.kind,eB,Ob.n,Ob.g,Ob.s,Ob.keys,Ob.kids],by simp[Ob.str,Ob.kind],by simp[gN,Ob.str,Ob.kind],by simpa[Ob.str,Ob.s,Ob.kind,gO] using this,by simp[Ob.str,Ob.kids],by simp[bV,Ob.str,Ob.kind],by simp[Ob.str,Ob.kids]⟩
     ·split at h
      ·rename_i hk
       cases h;have:=ht.2.2.2 hk;have h2:t.s.length<=127:=by simp[gC] at this;exact this.2
       exact⟨by simp[eT,Ob.name,Ob.kind,eB,Ob.n,Ob.g,Ob.s,Ob.keys,Ob.kids],by simp[Ob.name,Ob.kind],by simp[gN,Ob.name,Ob.kind],by simpa[Ob.name,Ob.s,Ob.kind,gO] using h2,by simp[Ob.name,Ob.kids],by simpa[bV,Ob.name,Ob.kind,Ob.s] using this,by simp[Ob.name,Ob.kids]⟩
      ·split at h
       ·simp only[Res.good.injEq,Prod.mk.injEq] at h;rw[<-h.1];split
        ·exact⟨by simp[eT,Ob.zero,Ob.kind,eB,Ob.n,Ob.g,Ob.s,Ob.keys,Ob.kids],by simp[Ob.zero,Ob.kind],by simp[gN,Ob.zero,Ob.kind],by simp[Ob.zero,Ob.s],by simp[Ob.zero,Ob.kids],by simp[bV,Ob.zero,Ob.kind],by simp[Ob.zero,Ob.kids]⟩
        ·refine⟨by simp[eT,Ob.bool,Ob.kind,eB,Ob.n,Ob.g,Ob.s,Ob.keys,Ob.kids],by simp[Ob.bool,Ob.kind],?_,by simp[Ob.bool,Ob.s],by simp[Ob.bool,Ob.kids],by simp[bV,Ob.bool,Ob.kind],by simp[Ob.bool,Ob.kids]⟩;simp[gN,Ob.bool,Ob.kind,Ob.n];cases h:t.s==yD<;>simp_all
       ·split at h
        ·split at h
         ·cases h
         ·rename_i ks r2 h2
          cases h;have:=aLY (p:=okO d) (fun t l o r h1 h2=>⟨uP d t l o r h1 h2,aHR h2⟩) h2 sI sI;exact⟨by simp[eT,Ob.kind,eB,Ob.n,Ob.g,Ob.s,Ob.keys,Ob.kids],by simp[Ob.kind],by simp[gN,Ob.kind],by simp[Ob.s],this.2,by simp[bV,Ob.kind],this.1⟩
        ·split at h
         ·cases h
         ·rename_i h2
          cases h;exact aOU (aDL (p:=okO d) (fun t l o r h1 h2=>uP d t l o r h1 h2) h2 ⟨sI,sI,sI⟩)
  ·cases h
theorem aUM{l:L}{o:Ob}{r:L}(h:fA l=.good (o,r)):aT 24 o=0/\o.kind≠9/\r.length<l.length:=by
 unfold fA at h;split at h
 ·cases h
 ·rename_i t r1 h1
  have h2:=uP _ _ _ _ _ (nN h1) h;have h3:=(bQ h1).1;have h4:=dI _ _ _ _ _ h;exact⟨sC _ _ h2,h2.2.1,oM⟩
def sep(c:UInt8):Prop:=c=32\/c=10
theorem qF(l:L)(c:UInt8):val (l++[c])=10*val l+(c.toNat-48):=by unfold val;rw[List.foldl_append];rfl
end Fo
