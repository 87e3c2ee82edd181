/- Parts of the proof: Wh WhA WhD WhF SlM. -/
import Derived.Test.YtdjpkgccakgkbaaGreatDoorPed
import Derived.Test.YtdjpkgccakgkbaaGreatDoorPea
set_option linter.all false
set_option maxRecDepth 100000
set_option maxHeartbeats 8000000
section
variable{p:Prop}
theorem q459(h:p:=by
 obtain⟨p',c',e,h⟩:=h;cases e;obtain⟨g,off,h1,h2,h3⟩:=h k hk;exact⟨g,off,h1,h2,h3 0 _ rfl,h3 1 _ rfl,h3 2 _ rfl,h3 3 _ rfl⟩):p:=h
end
namespace Fo
structure It where
 num:Int
 gen:Int
 ob:Ob
structure Sl where
 num:Int
 kind:Int
 a:Int
 b:Int
deriving DecidableEq
def aUN:L:=[82,111,111,116]
def aUO:L:=[73,110,102,111]
def wID:L:=[73,68]
def nD:List L->L->Option Nat
 |[],_=>none
 |x::l,k=>if x=k then some 0 else(nD l k).map (·+1)
def jI(o:Ob):Bool:=o.kind==7||o.kind==9
def fE(o:Ob)(k:L):Option Ob:=if jI o then(match nD o.keys k with|none=>none|some i=>o.kids[i]?) else none
def cR:List L->L->Nat
 |[],_=>0
 |x::l,k=>if x<k then cR l k+1 else 0
def Ob.withK(o:Ob)(ks:List L)(cs:List Ob):Ob:=.mk o.kind o.n o.g o.s ks cs
def bAO(c:UInt8):L :=
 if c==40||c==41||c==92 then[92,c]
 else if decide (c<32)||decide (126<c) then[92,48+c/64,48+c/8 % 8,48+c % 8]
 else[c]
def aUP:UInt8->List L->L
 |_,[]=>[]
 |c,[]::l=>aUP c l
 |c,(x::p)::l=>(if(fO c||c==47)&&fO x then[32] else[])++(x::p)++aUP ((x::p).getLast sI) l
theorem oJ{α:Type}{l:List α}(d:α){i:Nat}(h:i<l.length):l.getD i d=l[i]:=by rw[bGX,bGE h];rfl
theorem aLZ:∀(l:List L) (k:L),cR l k<=l.length
 |[],_=>bGB _
 |x::l,k=>by unfold cR;have:=aLZ l k;split<;>simp<;>omega
theorem bAP:∀(l:List L) (k:L) (i:Nat),i<=l.length->(∀j (h:j<l.length),j<i->l[j]<k)->(∀h:i<l.length,¬l[i]<k)->cR l k=i
 |[],_,i,h,_,_=>by simp at h;subst h;rfl
 |x::l,k,0,_,_,h2=>by
  unfold cR;rw[bGU (show¬x<k from h2 sI)]
 |x::l,k,i+1,h,h1,h2=>by
  unfold cR;have hx:x<k:=h1 0 sI oM;rw[bGV hx,bAP l k i q10 (fun j hj hi=>h1 (j+1) q14 oM) (fun hi=>h2 q22)]
theorem yK:∀{l:List L} {k:L} {i:Nat} (h:i<l.length),l[i]=k->(∀j (hj:j<l.length),j<i->l[j]≠k)->nD l k=some i
 |x::l,k,0,_,h1,_=>by unfold nD;rw[bGV q37]
 |x::l,k,i+1,h,h1,h2=>by
  unfold nD;rw[bGU (show¬x=k from h2 0 sI oM),yK (l:=l) (i:=i) q10 q37 (fun j hj hi=>h2 (j+1) q14 oM)];rfl
theorem sD:∀{l:List L} {k:L} {i:Nat},nD l k=some i->∃h:i<l.length,l[i]=k
 |[],_,_,h=>q96
 |x::l,k,i,h=>by
  unfold nD at h;by_cases hx:x=k
  ·rw[bGV hx] at h;cases h;exact⟨sI,hx⟩
  ·rw[bGU hx] at h;cases hl:nD l k with
   |none=>rw[hl] at h;cases h
   |some j =>
    rw[hl] at h;simp at h;subst h;obtain⟨h1,h2⟩:=sD hl;exact⟨q37,q97⟩
theorem aUQ{ks:List L}(h:∀i,i+1<ks.length->ks.getD i []<ks.getD (i+1) []):ks.Pairwise (·<·):=by
 induction ks with
 |nil=>exact .nil
 |cons x ks ih =>
  have ht:ks.Pairwise (·<·):=ih (fun i hi=>by have:=h (i+1) sO;simpa using this);refine List.pairwise_cons.2 ⟨?_,ht⟩;cases ks with
  |nil=>simp
  |cons y ks =>
   have hxy:x<y:=by have:=h 0 sI;simpa using this
   intro z hz;rcases List.mem_cons.1 hz with rfl|hz
   ·exact hxy
   ·exact List.lt_trans hxy ((List.pairwise_cons.1 ht).1 z hz)
structure aUR (o:Ob):Prop where
 len:o.keys.length=o.kids.length
 name:∀k∈o.keys,gC k=true
 up:o.keys.Pairwise (·<·)
 own:o.kind=9->∀k∈o.keys,k≠bB
 kids:∀x∈o.kids,x.kind≠0
theorem lQ(o:Ob)(h:o.kind=7\/o.kind=9):bV o=true↔aUR o:=by
 have e:bV o=(o.keys.length==o.kids.length&&(List.range o.keys.length).all (jH o)):=by
  unfold bV;rw[bGU oM,bGU oM]
 rw[e];simp only[Bool.and_eq_true,beq_iff_eq,bHB,List.mem_range];constructor
 ·rintro⟨hl,hk⟩;have hk':∀i (hi:i<o.keys.length),gC o.keys[i]=true/\(i=0\/o.keys.getD (i-1) []<o.keys[i])/\¬(o.keys[i]=bB/\o.kind=9)/\(o.kids[i]' oM).kind≠0:=by
   intro i hi;have:=hk i hi;unfold jH at this;simp only[Bool.and_eq_true,Bool.or_eq_true,beq_iff_eq,decide_eq_true_eq,bne_iff_ne,ne_eq,Bool.not_eq_true',Bool.and_eq_false_iff,beq_eq_false_iff_ne] at this;rw[oJ _ hi,oJ _ (show i<o.kids.length from oM)] at this;obtain⟨⟨⟨h1,h2⟩,h3⟩,h4⟩:=this;exact⟨h1,h2,fun hh=>by rcases h3 with h3|h3<;>simp_all,h4⟩
  refine⟨hl,fun k hkm=>?_,aUQ fun i hi=>?_,fun h9 k hkm=>?_,fun x hx=>?_⟩
  ·obtain⟨i,hi,rfl⟩:=List.mem_iff_getElem.1 hkm;exact(hk' i hi).1
  ·rcases(hk' (i+1) hi).2.1 with h0|h0
   ·cases h0
   ·rw[oJ _ hi];simpa using h0
  ·obtain⟨i,hi,rfl⟩:=List.mem_iff_getElem.1 hkm;exact fun he=>(hk' i hi).2.2.1 ⟨he,h9⟩
  ·obtain⟨i,hi,rfl⟩:=List.mem_iff_getElem.1 hx;exact(hk' i oM).2.2.2
 ·rintro⟨hl,hn,hu,ho,hk⟩;refine⟨hl,fun i hi=>?_⟩;unfold jH;rw[oJ _ hi,oJ _ (show i<o.kids.length from oM)];simp only[Bool.and_eq_true,Bool.or_eq_true,beq_iff_eq,decide_eq_true_eq,bne_iff_ne,ne_eq,Bool.not_eq_true',Bool.and_eq_false_iff,beq_eq_false_iff_ne];refine⟨⟨⟨hn _ (bGG _),?_⟩,?_⟩,hk _ (bGG _)⟩
  ·cases i with
   |zero=>exact .inl rfl
   |succ i =>
    right
    rw[oJ _ (show i+1-1<o.keys.length from oM)];exact(List.pairwise_iff_getElem.1 hu) i (i+1) oM hi oM
  ·by_cases h9:o.kind=9
   ·exact .inl (ho h9 _ (bGG _))
   ·exact .inr h9
theorem qM:∀(l:List L) (k:L),∀x∈l.take (cR l k),x<k
 |[],_,x,h=>q21
 |y::l,k,x,h=>by
  unfold cR at h;by_cases hy:y<k
  ·rw[bGV hy,List.take_succ_cons] at h;rcases List.mem_cons.1 h with rfl|h
   ·exact hy
   ·exact qM l k x h
  ·rw[bGU hy] at h;simp at h
theorem qN:∀(l:List L) (k:L),l.Pairwise (·<·)->∀x∈l.drop (cR l k),¬x<k
 |[],_,_,x,h=>q21
 |y::l,k,hp,x,h=>by
  unfold cR at h;by_cases hy:y<k
  ·rw[bGV hy,List.drop_succ_cons] at h;exact qN l k (List.pairwise_cons.1 hp).2 x h
  ·rw[bGU hy,List.drop_zero] at h;rcases List.mem_cons.1 h with rfl|h
   ·exact hy
   ·exact fun hx=>hy (List.lt_trans ((List.pairwise_cons.1 hp).1 x h) hx)
structure bFC (n:Nat) (o:Ob):Prop where
 uses:eT o=true
 top:o.kind=9->n=23
 fits:gN o=true
 short:o.s.length<=gO o.kind
 many:o.kids.length<=8191
 keys:bV o=true
 kids:∀x∈o.kids,aT n x=0
theorem kF{l:List Int}:fD l=0↔∀x∈l,x=0:=by
 constructor
 ·intro h x hx;unfold fD at h;cases hf:l.find? (· !=0) with
  |none=>exact Classical.byContradiction fun hn=>by have:=List.find?_eq_none.1 hf x hx;simp[hn] at this
  |some y =>
   rw[hf] at h;have:=List.find?_some hf;simp at h this;exact absurd h this
 ·exact lB
theorem dJ(n:Nat)(o:Ob):aT (n+1) o=0↔bFC n o:=by
 constructor
 ·intro h;unfold aT at h;by_cases h1:(!eT o||(o.kind==9&&n !=23))=true
  ·rw[bGV h1] at h;cases h
  rw[bGU h1] at h;by_cases h2:(!gN o)=true
  ·rw[bGV h2] at h;cases h
  rw[bGU h2] at h;by_cases h3:gO o.kind<o.s.length
  ·rw[bGV h3] at h;cases h
  rw[bGU h3] at h;by_cases h4:8191<o.kids.length
  ·rw[bGV h4] at h;cases h
  rw[bGU h4] at h;by_cases h5:(!bV o)=true
  ·rw[bGV h5] at h;cases h
  rw[bGU h5] at h;have h6:=kF.1 h;simp only[Bool.or_eq_true,Bool.not_eq_true',Bool.and_eq_true,beq_iff_eq,bne_iff_ne,ne_eq,not_or,not_and,Decidable.not_not,Bool.not_eq_false] at h1 h2 h5;exact⟨h1.1,h1.2,h2,oM,oM,h5,fun x hx=>h6 _ (List.mem_map_of_mem hx)⟩
 ·rintro⟨h1,h2,h3,h4,h5,h6,h7⟩;unfold aT;rw[bGU (by simp only[Bool.or_eq_true,Bool.not_eq_true',Bool.and_eq_true,beq_iff_eq,bne_iff_ne,ne_eq,not_or,not_and,Decidable.not_not,Bool.not_eq_false];exact⟨h1,h2⟩),bGU (by simp[h3]),bGU oM,bGU oM,bGU (by simp[h6])];exact kF.2 fun x hx=>by obtain⟨y,hy,rfl⟩:=List.mem_map.1 hx;exact h7 y hy
def J(c:UInt8)(ts:List L)(r:L):L:=aUP c ts++10::r
def uC(l:L)(lo hi:Int):Option (Int×L) :=
 match (aM l).2 with
 |.bad _=>none
 |.good t=>if t.kind=1/\lo<=t.n/\t.n<=hi then some (t.n,l.drop ((aM l).1+t.len)) else none
def mY(l w:L):Option L :=
 match (aM l).2 with
 |.bad _=>none
 |.good t=>if t.kind=5/\t.s=w then some (l.drop ((aM l).1+t.len)) else none
def nO(num:Int)(l:L):Option (Sl×L) :=
 match uC l 0 2147483647 with
 |none=>none
 |some (a,l1) =>
  match uC l1 0 65535 with
  |none=>none
  |some (b,l2) =>
   match mY l2 [110] with
   |some l3=>some (⟨num,1,a,b⟩,l3)
   |none =>
    match mY l2 [102] with
    |some l3=>some (⟨num,0,a,b⟩,l3)
    |none=>none
def xN:List Sl->Sl->Option (List Sl)
 |[],x=>some [x]
 |y::l,x=>if y.num<x.num then(xN l x).map (y::·) else if y.num=x.num then none else some (x::y::l)
def fF:Nat->Int->L->List Sl->Option (List Sl×L)
 |0,_,l,acc=>some (acc,l)
 |n+1,num,l,acc =>
  match nO num l with
  |none=>none
  |some (x,l1) =>
   match xN acc x with
   |none=>none
   |some acc1=>fF n (num+1) l1 acc1
def vM:L:=[120,114,101,102]
def mJ:L:=[116,114,97,105,108,101,114]
def lR:Nat->L->List Sl->Option (List Sl×L)
 |0,_,_=>none
 |f+1,l,acc =>
  match mY l mJ with
  |some l1=>some (acc,l1)
  |none =>
   match uC l 0 8191 with
   |none=>none
   |some (first,l1) =>
    match uC l1 0 (8192-first) with
    |none=>none
    |some (count,l2) =>
     match fF count.toNat first l2 acc with
     |none=>none
     |some (acc1,l3)=>lR f l3 acc1
def vN(l:L):Option (List Sl×Ob×L) :=
 if l.take 4=vM then
  match mY l vM with
  |none=>none
  |some l1 =>
   match lR (l1.length+1) l1 [] with
   |none=>none
   |some (ps,l2) =>
    match fA l2 with
    |.bad _=>none
    |.good (o,l3)=>if o.kind=7 then some (ps,o,l3) else none
 else none
end Fo
namespace Go.Proofs.YtdjpkgccakgkbaaGreatDoor
open Go.Proofs.Tryz
open Go.RowKit Fo
def slE:Enc Sl:=⟨4,fun x=>[.int .i64 x.num,.int .i64 x.kind,.int .i64 x.a,.int .i64 x.b],fun _=>rfl,fun x u hu=>by
 simp only[List.mem_cons,List.not_mem_nil,or_false] at hu
 rcases hu with rfl|rfl|rfl|rfl<;>rfl⟩
theorem uQ{w:World}{p:Option Addr}{n c:Nat}{l:List Sl}(h:bC slE w (.slice p n c) l)(k:Nat)(hk:k<l.length) :
 ∃g off,p=some ⟨g,off,none⟩/\g<w.heap.size/\w.cell? ⟨g,off+k*4,none⟩=some (.int .i64 l[k].num)/\w.cell? ⟨g,off+k*4+1,none⟩=some (.int .i64 l[k].kind) /\
  w.cell? ⟨g,off+k*4+2,none⟩=some (.int .i64 l[k].a)/\w.cell? ⟨g,off+k*4+3,none⟩=some (.int .i64 l[k].b):=by
 exact q459
end Go.Proofs.YtdjpkgccakgkbaaGreatDoor
