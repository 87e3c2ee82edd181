/- Parts of the proof: PgR PgS PgT PgU. -/
import Derived.Test.YtfgdhcemidlnfaaGreatDoorPpo
import Derived.Test.YtfgdhcemidlnfaaGreatDoorPpa
import Derived.Sort.EncStr
import Derived.Sort.Walk0
set_option linter.all false
set_option maxRecDepth 100000
set_option maxHeartbeats 8000000
namespace Go.Proofs.YtfgdhcemidlnfaaGreatDoor
open Go.RowKit Fo
theorem Tryz.infoSq : (Tryz.prog.info? 9).map (fun i => (i.zero,i.size,i.bytes)) = some (some (.string ⟨#[]⟩),1,16):=by kernel_rfl
def ownS (w : World) (B : Nat) (v : Value) (ss : List L) : Prop:=w.ownsRow B 9 1 v ss.length (ss.map encStr)
structure Fr (S : Nat → Prop) (w w' : World) : Prop where
 os : w'.os = w.os
 tape : w'.tape = w.tape
 output : w'.output = w.output
 size : w.heap.size ≤ w'.heap.size
 block : ∀ k,k < w.heap.size → ¬ S k → w'.heap[k]? = w.heap[k]?
theorem Fr.refl (S : Nat → Prop) (w : World) : Fr S w w:=⟨rfl,rfl,rfl,Nat.le_refl _,fun _ _ _ => rfl⟩
theorem Fr.alloc {S : Nat → Prop} {a w : World} (h : Fr S a w) (o : Go.Obj) : Fr S a (w.alloc o) :=
 ⟨h.os,h.tape,h.output,by simp;have:=h.size;omega,fun k hk hr => (Below.heap_alloc _ _ _ (Nat.lt_of_lt_of_le hk h.size)).trans (h.block k hk hr)⟩
theorem Fr.drew {S : Nat → Prop} {a w : World} (h : Fr S a w) : Fr S a w.drew:=⟨h.os,h.tape,h.output,h.size,h.block⟩
theorem Fr.setCell {S : Nat → Prop} {a w : World} (h : Fr S a w) {p : Addr} (hp : S p.block ∨ a.heap.size ≤ p.block) (v : Value) : Fr S a (w.setCell p v) :=
 ⟨h.os,h.tape,h.output,by simp [World.setCell];exact h.size,fun k hk hr => (Below.heap_setCell _ _ _ _ (by intro he;subst he;rcases hp with hp | hp;exact hr hp;omega)).trans (h.block k hk hr)⟩
theorem Fr.grown {S : Nat → Prop} {a w w' : World} {row : Option Nat} (h : Fr S a w) (hg : w.grownBy w' row) (hr : ∀ k,row = some k → S k ∨ a.heap.size ≤ k) : Fr S a w' :=
 ⟨hg.os.trans h.os,hg.tape.trans h.tape,hg.output.trans h.output,Nat.le_trans h.size hg.size,fun k hk hs => (hg.block k (Nat.lt_of_lt_of_le hk h.size) (by intro he;rcases hr k he.symm with h1 | h1;exact hs h1;omega)).trans (h.block k hk hs)⟩
theorem own_ne {w : World} {B1 B2 s1 s2 n1 n2 : Nat} {e1 e2 : TypeId} {v1 v2 : Value} {xs1 xs2 : List Value} (h1 : w.ownsRow B1 e1 s1 v1 n1 xs1) (h2 : w.ownsRow B2 e2 s2 v2 n2 xs2) (he : e1 ≠ e2) :
   v1.ownBlock = none ∨ v1.ownBlock ≠ v2.ownBlock:=by
 rcases h1.2 with ⟨rfl,_⟩ | ⟨g,cap,cur,rfl,_,hg,_⟩
 · exact .inl rfl
 · rcases h2.2 with ⟨rfl,_⟩ | ⟨g2,cap2,cur2,rfl,_,hg2,_⟩
   · exact .inr (by simp [Value.ownBlock])
   · refine .inr fun h => ?_
     simp [Value.ownBlock] at h
     subst h
     rw [hg] at hg2
     simp at hg2
     exact he hg2.2
def RowI {α : Type} (orig : List α) (i : Nat) (row : List α) : Prop:=row.length = orig.length + 1 ∧ row.take i = orig.take i ∧ row.drop (i + 1) = orig.drop i
theorem RowI.start {α : Type} (orig : List α) (x : α) : RowI orig orig.length (orig ++ [x]):=by
 refine ⟨by simp,by simp,?_⟩
 rw [List.drop_eq_nil_of_le (by simp),List.drop_eq_nil_of_le (by simp)]
theorem RowI.get {α : Type} {orig row : List α} {i : Nat} (h : RowI orig (i + 1) row) : row[i]? = orig[i]?:=by
 have:=congrArg (fun l => l[i]?) h.2.1
 simpa [List.getElem?_take] using this
theorem RowI.step {α : Type} {orig row : List α} {i : Nat} {x : α} (h : RowI orig (i + 1) row) (hx : orig[i]? = some x) : RowI orig i (row.set (i + 1) x):=by
 obtain ⟨h1,h2,h3⟩:=h
 have hi : i < orig.length:=(List.getElem?_eq_some_iff.1 hx).1
 refine ⟨by simpa using h1,?_,?_⟩
 · have:=congrArg (fun l => l.take i) h2
   simp only [List.take_take] at this
   rw [show min i (i + 1) = i by omega] at this
   rw [List.take_set_of_le (by omega)];exact this
 · rw [List.drop_set,if_neg (by omega),Nat.sub_self]
   rw [show row.drop (i + 1) = row[i + 1]'(by omega) :: row.drop (i + 1 + 1) from List.drop_eq_getElem_cons (by omega)]
   rw [List.set_cons_zero,h3]
   rw [List.drop_eq_getElem_cons hi]
   rw [List.getElem?_eq_getElem hi] at hx
   simp at hx
   rw [hx]
theorem RowI.fin {α : Type} {orig row : List α} {i : Nat} {x : α} (h : RowI orig i row) (hi : i ≤ orig.length) : row.set i x = orig.take i ++ x :: orig.drop i:=by
 obtain ⟨h1,h2,h3⟩:=h
 have hi2 : i < row.length:=by omega
 have e : row.set i x = row.take i ++ x :: row.drop (i + 1):=by
   rw [List.set_eq_take_append_cons_drop,if_pos hi2]
 rw [e,h2,h3]
theorem rless_no {x y : L} (h1 : Op.bytesLess x y = false) (h2 : (x == y) = false) : decide (y < x) = true:=by
 rw [bytesLess_eq] at h1
 have h1' : ¬ x < y:=by simpa using h1
 have h2' : ¬ x = y:=by simpa using h2
 rw [decide_eq_true_eq]
 rcases List.le_total x y with h | h
 · exact absurd (Classical.byContradiction fun h3 => h2' (List.le_antisymm h h3)) h1'
 · exact Classical.byContradiction fun h3 => h2' (List.le_antisymm h3 h)
def Shp (cs : List Value) : Prop:=∃ (k n g : Int) (s : ByteArray) (p1 : Option Addr) (n1 c1 : Nat) (p2 : Option Addr) (n2 c2 : Nat),cs = [.int .i64 k,.int .i64 n,.int .i64 g,.string s,.slice p1 n1 c1,.slice p2 n2 c2]
theorem Shp.six {cs : List Value} (h : Shp cs) : cs.length = 6:=by
 obtain ⟨k,n,g,s,p1,n1,c1,p2,n2,c2,rfl⟩:=h;rfl
def PutOut (B : Nat) (w : World) (ks : List L) (css : List (List Value)) (key : L) (xc : List Value) (n : Nat) (kv dv : Value) (e : Ending) (w' : World) : Prop :=
 ∃ (P g1 c1 g2 c2 : Nat),P ≤ n ∧ (∀ j y,P ≤ j → ks[j]? = some y → key < y) ∧ (∀ y,0 < P → ks[P - 1]? = some y → y ≤ key) ∧
   e = .returned (.agg #[.int .i64 7,.int .i64 0,.int .i64 0,.string ⟨#[]⟩,.slice (some ⟨g1,0,none⟩) (n + 1) c1,.slice (some ⟨g2,0,none⟩) (n + 1) c2]) ∧
   w'.ownsRow B 9 1 (.slice (some ⟨g1,0,none⟩) (n + 1) c1) (n + 1) ((ks.take P ++ key :: ks.drop P).map encStr) ∧
   w'.ownsRow B 26 6 (.slice (some ⟨g2,0,none⟩) (n + 1) c2) (n + 1) (css.take P ++ xc :: css.drop P).flatten ∧
   (kv.ownBlock = some g1 ∨ w.heap.size ≤ g1) ∧ (dv.ownBlock = some g2 ∨ w.heap.size ≤ g2) ∧ Fr (fun b => kv.ownBlock = some b ∨ dv.ownBlock = some b) w w'
theorem rput (w : World) (B n : Nat) (ks : List L) (css : List (List Value)) (key : L) (uk un ug : Int) (us : ByteArray) (qa : Option Addr) (ea da : Nat) (qb : Option Addr) (eb db : Nat) (kv dv : Value)
   (hn : ks.length = n) (hc : css.length = n) (h6 : ∀ cs ∈ css,Shp cs) (hne : ∀ y ∈ ks,y ≠ key) (hn3 : n ≤ 1048576) (hB : B ≤ w.heap.size)
   (ho1 : ownS w B kv ks) (ho2 : w.ownsRow B 26 6 dv n css.flatten) :
   Calls Tryz.prog 164 #[.agg #[.int .i64 7,.int .i64 0,.int .i64 0,.string ⟨#[]⟩,kv,dv],.string ⟨key.toArray⟩,.agg #[.int .i64 uk,.int .i64 un,.int .i64 ug,.string us,.slice qa ea da,.slice qb eb db]] w (PutOut B w ks css key [.int .i64 uk,.int .i64 un,.int .i64 ug,.string us,.slice qa ea da,.slice qb eb db] n kv dv):=by
 have h1 : ∀ u ∈ ([.int .i64 uk,.int .i64 un,.int .i64 ug,.string us,.slice qa ea da,.slice qb eb db] : List Value),u.oneCell' = true:=by intro u hu;simp at hu;rcases hu with rfl | rfl | rfl | rfl | rfl | rfl <;> rfl
 unfold ownS at ho1
 rw [hn] at ho1
 obtain ⟨kp,kc,rfl⟩:=own_slice ho1
 obtain ⟨dp,dc,rfl⟩:=own_slice ho2
 have n1:=own_ne ho1 ho2 (by decide)
 have n2:=own_ne ho2 ho1 (by decide)
 obtain ⟨i0,hi0,y0,y1,y2⟩:=info_parts Tryz.infoOb
 obtain ⟨j0,hj0,z0,z1,z2⟩:=info_parts Tryz.infoSq
 go_enter Tryz.func164,Tryz.ntmps164
 go_upto_region 2 with fail
 obtain ⟨w0,hw0⟩ : ∃ w0,(((w.alloc (.cells #[.int .i64 7,.int .i64 0,.int .i64 0,.string ⟨#[]⟩,.slice kp n kc,.slice dp n dc] 26)).alloc (.cells #[.int .i64 uk,.int .i64 un,.int .i64 ug,.string us,.slice qa ea da,.slice qb eb db] 26)).alloc (.cells #[.int .i64 0,.int .i64 0,.int .i64 0,.string ⟨#[]⟩,.slice none 0 0,.slice none 0 0] 26)) = w0:=⟨_,rfl⟩
 rw [hw0]
 have A0 : w0.heap[w.heap.size]? = some (.cells #[.int .i64 7,.int .i64 0,.int .i64 0,.string ⟨#[]⟩,.slice kp n kc,.slice dp n dc] 26 (0,0)):=by
   rw [← hw0,Below.heap_alloc _ _ _ (by simp;omega),Below.heap_alloc _ _ _ (by simp)];exact heap_new_at _ _ _ rfl
 have A1 : w0.heap[w.heap.size + 1]? = some (.cells #[.int .i64 uk,.int .i64 un,.int .i64 ug,.string us,.slice qa ea da,.slice qb eb db] 26 (0,0)):=by
   rw [← hw0,Below.heap_alloc _ _ _ (by simp)];exact heap_new_at _ _ _ (by simp)
 have A2 : w0.heap[w.heap.size + 2]? = some (.cells #[.int .i64 0,.int .i64 0,.int .i64 0,.string ⟨#[]⟩,.slice none 0 0,.slice none 0 0] 26 (0,0)):=by
   rw [← hw0];exact heap_new_at _ _ _ (by simp)
 have p1 : w0.ownsRow B 9 1 (.slice kp n kc) n (ks.map encStr):=by rw [← hw0];exact ((ho1.alloc _).alloc _).alloc _
 have p2 : w0.ownsRow B 26 6 (.slice dp n dc) n css.flatten:=by rw [← hw0];exact ((ho2.alloc _).alloc _).alloc _
 have F0 : Fr (fun b => (Value.slice kp n kc).ownBlock = some b ∨ (Value.slice dp n dc).ownBlock = some b) w w0:=by rw [← hw0];exact (((Fr.refl _ w).alloc _).alloc _).alloc _
 have hz0 : w.heap.size + 3 ≤ w0.heap.size:=by rw [← hw0];simp
 clear hw0
 obtain ⟨b0,b1,b2,b3,b4,b5,bf⟩:=six_of A0
 have hlo1 : ∀ k,(Value.slice kp n kc).ownBlock = some k → k < w.heap.size:=fun k h => (World.ownsRow.lt ho1 k h).2
 have hlo2 : ∀ k,(Value.slice dp n dc).ownBlock = some k → k < w.heap.size:=fun k h => (World.ownsRow.lt ho2 k h).2
 have nn0 : ∀ k,w.heap.size ≤ k → some k ≠ (Value.slice kp n kc).ownBlock:=fun k hk h => by have:=hlo1 k h.symm;omega
 have nd0 : ∀ k,w.heap.size ≤ k → some k ≠ (Value.slice dp n dc).ownBlock:=fun k hk h => by have:=hlo2 k h.symm;omega
 clear ho1 ho2
 go_upto_region 3 with (at_builtin;go_must (refine wpList_append_lies _ rfl _ _ _ rfl B 9 j0 _ 1 16 Tryz.underlying23 hj0 z0 z1 z2 rfl (by omega) (.slice kp n kc) n (ks.map encStr) rfl (p1.alloc _) ⟨w0.heap.size,0,none⟩ 1 1 [encStr key] rfl rfl (World.news_of_block (cs:=#[encStr key]) (t:=9) (fr:=(0,0)) (heap_alloc_new w0 _)) (by intro u hu;simp at hu;subst hu;rfl) (by omega) (by unfold maxLen;omega) (by omega) (by simp;omega) (w0.heap.size + 1) (by simp) ?_);intro g1 c1 w1 q1 hg1 hat1 hlt1;have e4 : w1.cell? ⟨w.heap.size,4,none⟩ = some (.slice kp n kc):=(hg1.cell_far ⟨w.heap.size,4,none⟩ (by simp;omega) (nn0 _ (Nat.le_refl _))).trans ((World.cell?_of_block (Below.heap_alloc _ _ _ (by show w.heap.size < _;omega))).trans b4);have ef : w1.frozen? ⟨w.heap.size,4,none⟩ = false:=(hg1.frozen_far ⟨w.heap.size,4,none⟩ (by simp;omega) (nn0 _ (Nat.le_refl _))).trans ((World.frozen?_of_block (Below.heap_alloc _ _ _ (by show w.heap.size < _;omega))).trans (bf 4)))
 have F1 : Fr (fun b => (Value.slice kp n kc).ownBlock = some b ∨ (Value.slice dp n dc).ownBlock = some b) w w1:=(F0.alloc _).grown hg1 (fun k h => .inl (.inl h))
 have hsz1 : w0.heap.size + 1 ≤ w1.heap.size:=by have:=hg1.size;simp at this;exact this
 have A01 : w1.heap[w.heap.size]? = _:=(hg1.block _ (by simp;omega) (nn0 _ (by omega))).trans ((Below.heap_alloc _ _ _ (by omega)).trans A0)
 have A11 : w1.heap[w.heap.size + 1]? = _:=(hg1.block _ (by simp;omega) (nn0 _ (by omega))).trans ((Below.heap_alloc _ _ _ (by omega)).trans A1)
 have A21 : w1.heap[w.heap.size + 2]? = _:=(hg1.block _ (by simp;omega) (nn0 _ (by omega))).trans ((Below.heap_alloc _ _ _ (by omega)).trans A2)
 have p21:=World.ownsRow.kept (p2.alloc (.cells #[.string ⟨key.toArray⟩] 9)) hg1 n2
 have hg10 : g1 ≠ w.heap.size ∧ g1 ≠ w.heap.size + 1 ∧ g1 ≠ w.heap.size + 2:=by
   rcases hat1 with h | h
   · have:=hlo1 _ h;omega
   · omega
 have hat1' : (Value.slice kp n kc).ownBlock = some g1 ∨ w.heap.size ≤ g1:=by
   rcases hat1 with h | h
   · exact .inl h
   · right;omega
 have m1:=own_ne p21 q1 (by decide)
 obtain ⟨w2,hw2⟩ : ∃ w2,w1.setCell ⟨w.heap.size,4,none⟩ (.slice (some ⟨g1,0,none⟩) (n + 1) c1) = w2:=⟨_,rfl⟩
 have hgb2 : w1.grownBy w2 (some w.heap.size):=by
   rw [← hw2]
   exact ⟨rfl,rfl,rfl,by simp [World.setCell],fun k h1 h2 => Below.heap_setCell _ _ _ _ (by intro h;exact h2 (by rw [h]))⟩
 have A02:=set_fourth (v:=.slice (some ⟨g1,0,none⟩) (n + 1) c1) A01
 rw [hw2] at A02
 have A12:=(hgb2.block _ (by omega) (by simp)).trans A11
 have A22:=(hgb2.block _ (by omega) (by simp)).trans A21
 have q12:=World.ownsRow.kept q1 hgb2 (.inr (by simp [Value.ownBlock];exact hg10.1))
 have p22:=World.ownsRow.kept p21 hgb2 (.inr (fun h => nd0 _ (Nat.le_refl _) h.symm))
 have F2 : Fr (fun b => (Value.slice kp n kc).ownBlock = some b ∨ (Value.slice dp n dc).ownBlock = some b) w w2:=by rw [← hw2];exact F1.setCell (.inr (Nat.le_refl _)) _
 have hsz2 : w0.heap.size + 1 ≤ w2.heap.size:=Nat.le_trans hsz1 hgb2.size
 rw [hw2]
 clear hw2 hgb2 A01 A11 A21 q1 p21 hg1 e4 ef b0 b1 b2 b3 b4 b5 bf A0 A1 A2 p1 p2 F0 F1 hat1 hlt1
 obtain ⟨b0,b1,b2,b3,b4,b5,bf⟩:=six_of A02
 obtain ⟨x0,x1,x2,x3,x4,x5,xf⟩:=six_of A12
 have hlt1 : g1 < w2.heap.size:=(World.ownsRow.lt q12 g1 rfl).2
 go_wp2_with (at_builtin;go_must (refine wpList_append_lies _ rfl _ _ _ rfl B 26 i0 _ 6 88 Tryz.underlying24 hi0 y0 y1 y2 rfl (by omega) (.slice dp n dc) n css.flatten rfl (p22.alloc _) ⟨w2.heap.size,0,none⟩ 1 1 [.int .i64 uk,.int .i64 un,.int .i64 ug,.string us,.slice qa ea da,.slice qb eb db] rfl rfl (World.news_of_block (cs:=#[.int .i64 uk,.int .i64 un,.int .i64 ug,.string us,.slice qa ea da,.slice qb eb db]) (t:=26) (fr:=(0,0)) (heap_alloc_new w2 _)) h1 (by omega) (by unfold maxLen;omega) (by omega) (by simp;omega) (w2.heap.size + 1) (by simp) ?_);intro g2 c2 w3 q2 hg2 hat2 hlt2;have e5 : w3.cell? ⟨w.heap.size,5,none⟩ = some (.slice dp n dc):=(hg2.cell_far ⟨w.heap.size,5,none⟩ (by simp;omega) (nd0 _ (Nat.le_refl _))).trans ((World.cell?_of_block (Below.heap_alloc _ _ _ (by show w.heap.size < _;omega))).trans b5);have ef : w3.frozen? ⟨w.heap.size,5,none⟩ = false:=(hg2.frozen_far ⟨w.heap.size,5,none⟩ (by simp;omega) (nd0 _ (Nat.le_refl _))).trans ((World.frozen?_of_block (Below.heap_alloc _ _ _ (by show w.heap.size < _;omega))).trans (bf 5)))
 have F3 : Fr (fun b => (Value.slice kp n kc).ownBlock = some b ∨ (Value.slice dp n dc).ownBlock = some b) w w3:=(F2.alloc _).grown hg2 (fun k h => .inl (.inr h))
 have hsz3 : w2.heap.size + 1 ≤ w3.heap.size:=by have:=hg2.size;simp at this;exact this
 have A03 : w3.heap[w.heap.size]? = _:=(hg2.block _ (by simp;omega) (nd0 _ (by omega))).trans ((Below.heap_alloc _ _ _ (by omega)).trans A02)
 have A13 : w3.heap[w.heap.size + 1]? = _:=(hg2.block _ (by simp;omega) (nd0 _ (by omega))).trans ((Below.heap_alloc _ _ _ (by omega)).trans A12)
 have A23 : w3.heap[w.heap.size + 2]? = _:=(hg2.block _ (by simp;omega) (nd0 _ (by omega))).trans ((Below.heap_alloc _ _ _ (by omega)).trans A22)
 have m2 : (Value.slice (some ⟨g1,0,none⟩) (n + 1) c1).ownBlock = none ∨ (Value.slice (some ⟨g1,0,none⟩) (n + 1) c1).ownBlock ≠ (Value.slice dp n dc).ownBlock:=own_ne q12 p22 (by decide)
 have q13:=World.ownsRow.kept (q12.alloc (.cells #[.int .i64 uk,.int .i64 un,.int .i64 ug,.string us,.slice qa ea da,.slice qb eb db] 26)) hg2 m2
 have hg20 : g2 ≠ w.heap.size ∧ g2 ≠ w.heap.size + 1 ∧ g2 ≠ w.heap.size + 2:=by
   rcases hat2 with h | h
   · have:=hlo2 _ h;omega
   · omega
 have hat2' : (Value.slice dp n dc).ownBlock = some g2 ∨ w.heap.size ≤ g2:=by
   rcases hat2 with h | h
   · exact .inl h
   · right;omega
 obtain ⟨w4,hw4⟩ : ∃ w4,w3.setCell ⟨w.heap.size,5,none⟩ (.slice (some ⟨g2,0,none⟩) (n + 1) c2) = w4:=⟨_,rfl⟩
 have hgb4 : w3.grownBy w4 (some w.heap.size):=by
   rw [← hw4]
   exact ⟨rfl,rfl,rfl,by simp [World.setCell],fun k h1 h2 => Below.heap_setCell _ _ _ _ (by intro h;exact h2 (by rw [h]))⟩
 have A04:=set_fifth (v:=.slice (some ⟨g2,0,none⟩) (n + 1) c2) A03
 rw [hw4] at A04
 have A14:=(hgb4.block _ (by omega) (by simp)).trans A13
 have A24:=(hgb4.block _ (by omega) (by simp)).trans A23
 have q14:=World.ownsRow.kept q13 hgb4 (.inr (by simp [Value.ownBlock];exact hg10.1))
 have q24:=World.ownsRow.kept q2 hgb4 (.inr (by simp [Value.ownBlock];exact hg20.1))
 have F4 : Fr (fun b => (Value.slice kp n kc).ownBlock = some b ∨ (Value.slice dp n dc).ownBlock = some b) w w4:=by rw [← hw4];exact F3.setCell (.inr (Nat.le_refl _)) _
 have hsz4 : w0.heap.size + 1 ≤ w4.heap.size:=by have:=hgb4.size;omega
 have hg12 : g1 ≠ g2:=by
   have:=own_ne q14 q24 (by decide)
   simpa [Value.ownBlock] using this
 rw [hw4]
 clear hw4 hgb4 A03 A13 A23 q13 q2 hg2 e5 ef b0 b1 b2 b3 b4 b5 bf A02 A12 A22 q12 p22 F2 F3 hat2 hlt2 x0 x1 x2 x3 x4 x5 xf m1 m2
 go_loopw [7] (fun i wr => ∃ (k : Nat) (row1 : List L) (row2 : List (List Value)),k ≤ n ∧ i = .int .i64 k ∧ wr.heap[w.heap.size]? = some (.cells #[.int .i64 7,.int .i64 0,.int .i64 0,.string ⟨#[]⟩,.slice (some ⟨g1,0,none⟩) (n + 1) c1,.slice (some ⟨g2,0,none⟩) (n + 1) c2] 26 (0,0)) ∧ wr.heap[w.heap.size + 1]? = some (.cells #[.int .i64 uk,.int .i64 un,.int .i64 ug,.string us,.slice qa ea da,.slice qb eb db] 26 (0,0)) ∧ wr.heap[w.heap.size + 2]? = some (.cells #[.int .i64 0,.int .i64 0,.int .i64 0,.string ⟨#[]⟩,.slice none 0 0,.slice none 0 0] 26 (0,0)) ∧ wr.ownsRow B 9 1 (.slice (some ⟨g1,0,none⟩) (n + 1) c1) (n + 1) (row1.map encStr) ∧ wr.ownsRow B 26 6 (.slice (some ⟨g2,0,none⟩) (n + 1) c2) (n + 1) row2.flatten ∧ RowI ks k row1 ∧ RowI css k row2 ∧ (∀ cs ∈ row2,Shp cs) ∧ Hid (∀ j y,k ≤ j → ks[j]? = some y → key < y) ∧ Fr (fun b => (Value.slice kp n kc).ownBlock = some b ∨ (Value.slice dp n dc).ownBlock = some b) w wr) (fun i _ => (intOf i).toNat)
 case atStart =>
   refine ⟨n,ks ++ [key],css ++ [[.int .i64 uk,.int .i64 un,.int .i64 ug,.string us,.slice qa ea da,.slice qb eb db]],Nat.le_refl _,rfl,A04,A14,A24,?_,?_,?_,?_,?_,?_,F4⟩
   · simpa using q14
   · simpa using q24
   · have:=RowI.start ks key;rw [hn] at this;exact this
   · have:=RowI.start css [.int .i64 uk,.int .i64 un,.int .i64 ug,.string us,.slice qa ea da,.slice qb eb db];rw [hc] at this;exact this
   · intro cs h
     rcases List.mem_append.1 h with h | h
     · exact h6 cs h
     · simp only [List.mem_singleton] at h;subst h;exact ⟨_,_,_,_,_,_,_,_,_,_,rfl⟩
   · refine Lh (fun j y hj h => ?_)
     have:=(List.getElem?_eq_some_iff.1 h).1
     omega
 case round =>
   clear A04 A14 A24 q14 q24 F4
   obtain ⟨k,row1,row2,hk,rfl,B0,B1,B2,r1,r2,I1,I2,J6,HM,F⟩:=hrel
   obtain ⟨b0,b1,b2,b3,b4,b5,bf⟩:=six_of B0
   obtain ⟨x0,x1,x2,x3,x4,x5,xf⟩:=six_of B1
   have hl1:=I1.1
   have hl2:=I2.1
   have f1:=r1.frozenAt
   have f2:=r2.frozenAt
   rcases k with _ | k
   · skip
     obtain ⟨yK,hyK⟩ : ∃ y,row1[0]? = some y:=⟨_,List.getElem?_eq_getElem (by omega)⟩
     have lK : wr.cell? ⟨g1,0,none⟩ = some (.string ⟨yK.toArray⟩):=by rw [r1.cellAt 0 (by omega)];simp [hyK,encStr]
     go_upto_region 9 with fail
     obtain ⟨w5,hw5⟩ : ∃ w5,wr.setCell ⟨g1,0,none⟩ (.string ⟨key.toArray⟩) = w5:=⟨_,rfl⟩
     have ST:=r1.stored 0 (encStr key)
     have hST : wr.setCell ⟨g1,0,none⟩ (encStr key) = w5:=hw5
     rw [hST] at ST
     obtain ⟨s1,sg⟩:=ST
     rw [hw5]
     have s2:=World.ownsRow.kept r2 sg (.inr (by simp [Value.ownBlock];omega))
     have F5 : Fr (fun b => (Value.slice kp n kc).ownBlock = some b ∨ (Value.slice dp n dc).ownBlock = some b) w w5:=F.grown sg (fun k h => by cases h;exact hat1'.imp (fun h => .inl h) id)
     have D0:=(sg.block w.heap.size (lt_of_block B0) (by simp;omega)).trans B0
     have D1:=(sg.block (w.heap.size + 1) (lt_of_block B1) (by simp;omega)).trans B1
     have D2:=(sg.block (w.heap.size + 2) (lt_of_block B2) (by simp;omega)).trans B2
     rw [← List.map_set,I1.fin (by omega)] at s1
     clear hw5 hST sg b0 b1 b2 b3 b4 b5 bf x0 x1 x2 x3 x4 x5 xf f1 f2 lK B0 B1 B2 F r1 r2
     obtain ⟨b0,b1,b2,b3,b4,b5,bf⟩:=six_of D0
     obtain ⟨x0,x1,x2,x3,x4,x5,xf⟩:=six_of D1
     have f2:=s2.frozenAt
     obtain ⟨vv,hvv⟩ : ∃ y,row2[0]? = some y:=⟨_,List.getElem?_eq_getElem (by omega)⟩
     obtain ⟨a1,a2,a3,a4,l1',l2',l3',r1',r2',r3',rfl⟩:=J6 vv (List.mem_of_getElem? hvv)
     have mm : ∀ j,j < 6 → w5.cell? ⟨g2,6 * 0 + j,none⟩ = _:=fun j hj => (s2.cellAt _ (by omega)).trans (flat6_get (fun cs h => (J6 cs h).six) hvv hj)
     have m0 : w5.cell? ⟨g2,0 * 6,none⟩ = some (.int .i64 a1):=by rw [Nat.mul_comm];exact mm 0 (by omega)
     have m1 : w5.cell? ⟨g2,0 * 6 + 1,none⟩ = some (.int .i64 a2):=by rw [Nat.mul_comm];exact mm 1 (by omega)
     have m2 : w5.cell? ⟨g2,0 * 6 + 2,none⟩ = some (.int .i64 a3):=by rw [Nat.mul_comm];exact mm 2 (by omega)
     have m3 : w5.cell? ⟨g2,0 * 6 + 3,none⟩ = some (.string a4):=by rw [Nat.mul_comm];exact mm 3 (by omega)
     have m4 : w5.cell? ⟨g2,0 * 6 + 4,none⟩ = some (.slice l1' l2' l3'):=by rw [Nat.mul_comm];exact mm 4 (by omega)
     have m5 : w5.cell? ⟨g2,0 * 6 + 5,none⟩ = some (.slice r1' r2' r3'):=by rw [Nat.mul_comm];exact mm 5 (by omega)
     clear mm
     go_upto_region 10 with fail
     obtain ⟨w6,hw6⟩ : ∃ w6,((((((w5.setCell ⟨g2,0 * 6,none⟩ (.int .i64 uk)).setCell ⟨g2,0 * 6 + 1,none⟩ (.int .i64 un)).setCell ⟨g2,0 * 6 + 2,none⟩ (.int .i64 ug)).setCell ⟨g2,0 * 6 + 3,none⟩ (.string us)).setCell ⟨g2,0 * 6 + 4,none⟩ (.slice qa ea da)).setCell ⟨g2,0 * 6 + 5,none⟩ (.slice qb eb db)) = w6:=⟨_,rfl⟩
     have t5:=((((((s2.stored (0 * 6) (.int .i64 uk)).1.stored (0 * 6 + 1) (.int .i64 un)).1.stored (0 * 6 + 2) (.int .i64 ug)).1.stored (0 * 6 + 3) (.string us)).1.stored (0 * 6 + 4) (.slice qa ea da)).1.stored (0 * 6 + 5) (.slice qb eb db)).1
     rw [flat_set' (fun cs h => (J6 cs h).six) (by omega),I2.fin (by omega)] at t5
     have sg2:=set6_grown w5 g2 (0 * 6) (0 * 6 + 1) (0 * 6 + 2) (0 * 6 + 3) (0 * 6 + 4) (0 * 6 + 5) (.int .i64 uk) (.int .i64 un) (.int .i64 ug) (.string us) (.slice qa ea da) (.slice qb eb db)
     rw [hw6] at t5 sg2
     first
     | rw [hw6]
     | (simp only [Nat.zero_mul, Nat.zero_add] at hw6
        rw [hw6])
     have F6:=F5.grown sg2 (fun k h => by cases h;exact hat2'.imp (fun h => .inr h) id)
     have s16:=World.ownsRow.kept s1 sg2 (.inr (by simp [Value.ownBlock];omega))
     have E0:=(sg2.block w.heap.size (lt_of_block D0) (by simp;omega)).trans D0
     have E2:=(sg2.block (w.heap.size + 2) (lt_of_block D2) (by simp;omega)).trans D2
     clear hw6 sg2 b0 b1 b2 b3 b4 b5 bf x0 x1 x2 x3 x4 x5 xf f2 m0 m1 m2 m3 m4 m5 D0 D1 D2 F5 s1 s2
     obtain ⟨b0,b1,b2,b3,b4,b5,bf⟩:=six_of E0
     obtain ⟨x0,x1,x2,x3,x4,x5,xf⟩:=six_of E2
     have hlt6 : w.heap.size + 2 < w6.heap.size:=lt_of_block E2
     go_wp2
     refine bodyPost_ret (v:=.agg #[.int .i64 7,.int .i64 0,.int .i64 0,.string ⟨#[]⟩,.slice (some ⟨g1,0,none⟩) (n + 1) c1,.slice (some ⟨g2,0,none⟩) (n + 1) c2]) (by simp [results,Tryz.results164,go_sem,x0,x1,x2,x3,x4,x5,xf,hlt6]) rfl ?_
     exact ⟨0,g1,c1,g2,c2,by omega,fun j y hj h => HM.out j y hj h,fun y h => absurd h (by omega),rfl,World.ownsRow.kept s16 (set6_grown _ _ _ _ _ _ _ _ _ _ _ _ _ _) (.inr (by simp [Value.ownBlock];omega)),World.ownsRow.kept t5 (set6_grown _ _ _ _ _ _ _ _ _ _ _ _ _ _) (.inr (by simp [Value.ownBlock];omega)),hat1',hat2',F6.grown (set6_grown _ _ _ _ _ _ _ _ _ _ _ _ _ _) (fun k h => by cases h;right;omega)⟩
   · obtain ⟨y,hy⟩ : ∃ y,ks[k]? = some y:=⟨_,List.getElem?_eq_getElem (by omega)⟩
     have gy : row1[k]? = some y:=I1.get.trans hy
     have l1 : wr.cell? ⟨g1,k,none⟩ = some (.string ⟨y.toArray⟩):=by rw [r1.cellAt k (by omega)];simp [gy,encStr]
     have t2 : (y == key) = false:=by simpa using hne y (List.mem_of_getElem? hy)
     cases t1 : Op.bytesLess y key
     · have HLT:=Lh (show key < y by simpa using rless_no t1 t2)
       obtain ⟨yK,hyK⟩ : ∃ y,row1[k + 1]? = some y:=⟨_,List.getElem?_eq_getElem (by omega)⟩
       have lK : wr.cell? ⟨g1,k + 1,none⟩ = some (.string ⟨yK.toArray⟩):=by rw [r1.cellAt (k + 1) (by omega)];simp [hyK,encStr]
       have ne1 : ¬ g1 = w.heap.size:=hg10.1
       have ne2 : ¬ w.heap.size = g1:=fun h => hg10.1 h.symm
       have v1 : (0 : Int) ≤ k:=by omega
       have v2 : (k : Int) < n + 1:=by omega
       have v3 : (0 : Int) ≤ (k : Int) + 1:=by omega
       have v4 : (k : Int) + 1 < n + 1:=by omega
       have v6 : ((k : Int) + 1).toNat = k + 1:=by omega
       have v5:=IntWalk.i64_in (k : Int) ⟨by omega,by omega⟩
       have v7 : (k : Int) + 1 - 1 = k:=by omega
       have hnA : (⟨g1,k,none⟩ : Addr) ≠ ⟨g1,k + 1,none⟩:=by simp
       have hnB : (⟨g1,k + 1,none⟩ : Addr) ≠ ⟨g1,k,none⟩:=by simp
       have hnC : (⟨w.heap.size,4,none⟩ : Addr) ≠ ⟨g1,k + 1,none⟩:=by simp
       go_upto_region 5 with fail
       go_region_held3 (fun w' => w'.cell? ⟨w.heap.size,4,none⟩ = some (.slice (some ⟨g1,0,none⟩) (n + 1) c1) ∧ w'.cell? ⟨g1,k,none⟩ = some (.string ⟨y.toArray⟩)) (first | (go_keep;done) | (simp [*,go_sem];done)) (fail)
       go_upto_region 6 with fail
       obtain ⟨w5,hw5⟩ : ∃ w5,(wr.setCell ⟨g1,k + 1,none⟩ (.string ⟨y.toArray⟩)).drew = w5:=⟨_,rfl⟩
       have ST:=r1.stored (k + 1) (encStr y)
       have s1 : w5.ownsRow B 9 1 (.slice (some ⟨g1,0,none⟩) (n + 1) c1) (n + 1) ((row1.map encStr).set (k + 1) (encStr y)):=by rw [← hw5];exact ST.1
       have sg : wr.grownBy w5 (some g1):=by rw [← hw5];exact ⟨ST.2.os,ST.2.tape,ST.2.output,ST.2.size,ST.2.block⟩
       clear ST
       rw [hw5]
       have s2:=World.ownsRow.kept r2 sg (.inr (by simp [Value.ownBlock];omega))
       have F5 : Fr (fun b => (Value.slice kp n kc).ownBlock = some b ∨ (Value.slice dp n dc).ownBlock = some b) w w5:=F.grown sg (fun k h => by cases h;exact hat1'.imp (fun h => .inl h) id)
       have D0:=(sg.block w.heap.size (lt_of_block B0) (by simp;omega)).trans B0
       have D1:=(sg.block (w.heap.size + 1) (lt_of_block B1) (by simp;omega)).trans B1
       have D2:=(sg.block (w.heap.size + 2) (lt_of_block B2) (by simp;omega)).trans B2
       rw [← List.map_set] at s1
       have I1':=I1.step hy
       clear hw5 sg b0 b1 b2 b3 b4 b5 bf x0 x1 x2 x3 x4 x5 xf f1 f2 lK l1 B0 B1 B2 F r1 r2 ne1 ne2 hnA hnB hnC
       obtain ⟨b0,b1,b2,b3,b4,b5,bf⟩:=six_of D0
       have f2:=s2.frozenAt
       obtain ⟨cc,hcc⟩ : ∃ y,css[k]? = some y:=⟨_,List.getElem?_eq_getElem (by omega)⟩
       have hrc:=I2.get.trans hcc
       obtain ⟨vv,hvv⟩ : ∃ y,row2[k + 1]? = some y:=⟨_,List.getElem?_eq_getElem (by omega)⟩
       obtain ⟨a1,a2,a3,a4,l1',l2',l3',r1',r2',r3',rfl⟩:=J6 vv (List.mem_of_getElem? hvv)
       have hsh:=J6 cc (List.mem_of_getElem? hrc)
       obtain ⟨o1,o2,o3,o4,y1',y2',y3',z1',z2',z3',rfl⟩:=hsh
       have mm : ∀ j,j < 6 → w5.cell? ⟨g2,6 * (k + 1) + j,none⟩ = _:=fun j hj => (s2.cellAt _ (by omega)).trans (flat6_get (fun cs h => (J6 cs h).six) hvv hj)
       have m0 : w5.cell? ⟨g2,(k + 1) * 6,none⟩ = some (.int .i64 a1):=by rw [Nat.mul_comm];exact mm 0 (by omega)
       have m1 : w5.cell? ⟨g2,(k + 1) * 6 + 1,none⟩ = some (.int .i64 a2):=by rw [Nat.mul_comm];exact mm 1 (by omega)
       have m2 : w5.cell? ⟨g2,(k + 1) * 6 + 2,none⟩ = some (.int .i64 a3):=by rw [Nat.mul_comm];exact mm 2 (by omega)
       have m3 : w5.cell? ⟨g2,(k + 1) * 6 + 3,none⟩ = some (.string a4):=by rw [Nat.mul_comm];exact mm 3 (by omega)
       have m4 : w5.cell? ⟨g2,(k + 1) * 6 + 4,none⟩ = some (.slice l1' l2' l3'):=by rw [Nat.mul_comm];exact mm 4 (by omega)
       have m5 : w5.cell? ⟨g2,(k + 1) * 6 + 5,none⟩ = some (.slice r1' r2' r3'):=by rw [Nat.mul_comm];exact mm 5 (by omega)
       have pp : ∀ j,j < 6 → w5.cell? ⟨g2,6 * k + j,none⟩ = _:=fun j hj => (s2.cellAt _ (by omega)).trans (flat6_get (fun cs h => (J6 cs h).six) hrc hj)
       have p0 : w5.cell? ⟨g2,k * 6,none⟩ = some (.int .i64 o1):=by rw [Nat.mul_comm];exact pp 0 (by omega)
       have p1 : w5.cell? ⟨g2,k * 6 + 1,none⟩ = some (.int .i64 o2):=by rw [Nat.mul_comm];exact pp 1 (by omega)
       have p2 : w5.cell? ⟨g2,k * 6 + 2,none⟩ = some (.int .i64 o3):=by rw [Nat.mul_comm];exact pp 2 (by omega)
       have p3 : w5.cell? ⟨g2,k * 6 + 3,none⟩ = some (.string o4):=by rw [Nat.mul_comm];exact pp 3 (by omega)
       have p4 : w5.cell? ⟨g2,k * 6 + 4,none⟩ = some (.slice y1' y2' y3'):=by rw [Nat.mul_comm];exact pp 4 (by omega)
       have p5 : w5.cell? ⟨g2,k * 6 + 5,none⟩ = some (.slice z1' z2' z3'):=by rw [Nat.mul_comm];exact pp 5 (by omega)
       clear mm pp
       have ne1 : ¬ g2 = w.heap.size:=hg20.1
       have ne2 : ¬ w.heap.size = g2:=fun h => hg20.1 h.symm
       go_region
       have t5:=((((((s2.stored ((k + 1) * 6) (.int .i64 o1)).1.stored ((k + 1) * 6 + 1) (.int .i64 o2)).1.stored ((k + 1) * 6 + 2) (.int .i64 o3)).1.stored ((k + 1) * 6 + 3) (.string o4)).1.stored ((k + 1) * 6 + 4) (.slice y1' y2' y3')).1.stored ((k + 1) * 6 + 5) (.slice z1' z2' z3')).1
       rw [flat_set' (fun cs h => (J6 cs h).six) (by omega)] at t5
       have sg2:=set6_grown w5 g2 ((k + 1) * 6) ((k + 1) * 6 + 1) ((k + 1) * 6 + 2) ((k + 1) * 6 + 3) ((k + 1) * 6 + 4) ((k + 1) * 6 + 5) (.int .i64 o1) (.int .i64 o2) (.int .i64 o3) (.string o4) (.slice y1' y2' y3') (.slice z1' z2' z3')
       obtain ⟨w6,hw6⟩ : ∃ w6,((((((w5.setCell ⟨g2,(k + 1) * 6,none⟩ (.int .i64 o1)).setCell ⟨g2,(k + 1) * 6 + 1,none⟩ (.int .i64 o2)).setCell ⟨g2,(k + 1) * 6 + 2,none⟩ (.int .i64 o3)).setCell ⟨g2,(k + 1) * 6 + 3,none⟩ (.string o4)).setCell ⟨g2,(k + 1) * 6 + 4,none⟩ (.slice y1' y2' y3')).setCell ⟨g2,(k + 1) * 6 + 5,none⟩ (.slice z1' z2' z3')) = w6:=⟨_,rfl⟩
       rw [hw6] at t5 sg2
       rw [hw6]
       have I2':=I2.step hcc
       have F6:=F5.grown sg2 (fun k h => by cases h;exact hat2'.imp (fun h => .inr h) id)
       have s16:=World.ownsRow.kept s1 sg2 (.inr (by simp [Value.ownBlock];omega))
       have E0:=(sg2.block w.heap.size (lt_of_block D0) (by simp;omega)).trans D0
       have E1:=(sg2.block (w.heap.size + 1) (lt_of_block D1) (by simp;omega)).trans D1
       have E2:=(sg2.block (w.heap.size + 2) (lt_of_block D2) (by simp;omega)).trans D2
       have HM2:=Lh (show ∀ j y,k ≤ j → ks[j]? = some y → key < y by
         intro j y' hj h
         by_cases hjk : j = k
         · subst hjk;rw [hy] at h;cases h;exact HLT.out
         · exact HM.out j y' (by omega) h)
       have J6' : ∀ cs ∈ row2.set (k + 1) [.int .i64 o1,.int .i64 o2,.int .i64 o3,.string o4,.slice y1' y2' y3',.slice z1' z2' z3'],Shp cs:=by
         intro cs h
         rcases List.mem_or_eq_of_mem_set h with h | h
         · exact J6 cs h
         · subst h;exact ⟨_,_,_,_,_,_,_,_,_,_,rfl⟩
       clear hw6 sg2 m0 m1 m2 m3 m4 m5 p0 p1 p2 p3 p4 p5 D0 D1 D2 F5 s1 s2 b0 b1 b2 b3 b4 b5 bf f2
       go_wp2
       go_roundw
       case rel => exact ⟨k,row1.set (k + 1) y,row2.set (k + 1) _,by omega,by go_num,E0,E1,E2,s16,t5,I1',I2',J6',HM2,F6.drew⟩
       case measure => simp [intOf]
     · have HLE:=Lh (show y ≤ key by rw [bytesLess_eq,decide_eq_true_eq] at t1;exact List.le_of_lt t1)
       obtain ⟨yK,hyK⟩ : ∃ y,row1[(k + 1)]? = some y:=⟨_,List.getElem?_eq_getElem (by omega)⟩
       have lK : wr.cell? ⟨g1,(k + 1),none⟩ = some (.string ⟨yK.toArray⟩):=by rw [r1.cellAt (k + 1) (by omega)];simp [hyK,encStr]
       go_upto_region 9 with fail
       obtain ⟨w5,hw5⟩ : ∃ w5,wr.setCell ⟨g1,(k + 1),none⟩ (.string ⟨key.toArray⟩) = w5:=⟨_,rfl⟩
       have ST:=r1.stored (k + 1) (encStr key)
       have hST : wr.setCell ⟨g1,(k + 1),none⟩ (encStr key) = w5:=hw5
       rw [hST] at ST
       obtain ⟨s1,sg⟩:=ST
       rw [hw5]
       have s2:=World.ownsRow.kept r2 sg (.inr (by simp [Value.ownBlock];omega))
       have F5 : Fr (fun b => (Value.slice kp n kc).ownBlock = some b ∨ (Value.slice dp n dc).ownBlock = some b) w w5:=F.grown sg (fun k h => by cases h;exact hat1'.imp (fun h => .inl h) id)
       have D0:=(sg.block w.heap.size (lt_of_block B0) (by simp;omega)).trans B0
       have D1:=(sg.block (w.heap.size + 1) (lt_of_block B1) (by simp;omega)).trans B1
       have D2:=(sg.block (w.heap.size + 2) (lt_of_block B2) (by simp;omega)).trans B2
       rw [← List.map_set,I1.fin (by omega)] at s1
       clear hw5 hST sg b0 b1 b2 b3 b4 b5 bf x0 x1 x2 x3 x4 x5 xf f1 f2 lK B0 B1 B2 F r1 r2
       obtain ⟨b0,b1,b2,b3,b4,b5,bf⟩:=six_of D0
       obtain ⟨x0,x1,x2,x3,x4,x5,xf⟩:=six_of D1
       have f2:=s2.frozenAt
       obtain ⟨vv,hvv⟩ : ∃ y,row2[(k + 1)]? = some y:=⟨_,List.getElem?_eq_getElem (by omega)⟩
       obtain ⟨a1,a2,a3,a4,l1',l2',l3',r1',r2',r3',rfl⟩:=J6 vv (List.mem_of_getElem? hvv)
       have mm : ∀ j,j < 6 → w5.cell? ⟨g2,6 * (k + 1) + j,none⟩ = _:=fun j hj => (s2.cellAt _ (by omega)).trans (flat6_get (fun cs h => (J6 cs h).six) hvv hj)
       have m0 : w5.cell? ⟨g2,(k + 1) * 6,none⟩ = some (.int .i64 a1):=by rw [Nat.mul_comm];exact mm 0 (by omega)
       have m1 : w5.cell? ⟨g2,(k + 1) * 6 + 1,none⟩ = some (.int .i64 a2):=by rw [Nat.mul_comm];exact mm 1 (by omega)
       have m2 : w5.cell? ⟨g2,(k + 1) * 6 + 2,none⟩ = some (.int .i64 a3):=by rw [Nat.mul_comm];exact mm 2 (by omega)
       have m3 : w5.cell? ⟨g2,(k + 1) * 6 + 3,none⟩ = some (.string a4):=by rw [Nat.mul_comm];exact mm 3 (by omega)
       have m4 : w5.cell? ⟨g2,(k + 1) * 6 + 4,none⟩ = some (.slice l1' l2' l3'):=by rw [Nat.mul_comm];exact mm 4 (by omega)
       have m5 : w5.cell? ⟨g2,(k + 1) * 6 + 5,none⟩ = some (.slice r1' r2' r3'):=by rw [Nat.mul_comm];exact mm 5 (by omega)
       clear mm
       go_upto_region 10 with fail
       obtain ⟨w6,hw6⟩ : ∃ w6,((((((w5.setCell ⟨g2,(k + 1) * 6,none⟩ (.int .i64 uk)).setCell ⟨g2,(k + 1) * 6 + 1,none⟩ (.int .i64 un)).setCell ⟨g2,(k + 1) * 6 + 2,none⟩ (.int .i64 ug)).setCell ⟨g2,(k + 1) * 6 + 3,none⟩ (.string us)).setCell ⟨g2,(k + 1) * 6 + 4,none⟩ (.slice qa ea da)).setCell ⟨g2,(k + 1) * 6 + 5,none⟩ (.slice qb eb db)) = w6:=⟨_,rfl⟩
       have t5:=((((((s2.stored ((k + 1) * 6) (.int .i64 uk)).1.stored ((k + 1) * 6 + 1) (.int .i64 un)).1.stored ((k + 1) * 6 + 2) (.int .i64 ug)).1.stored ((k + 1) * 6 + 3) (.string us)).1.stored ((k + 1) * 6 + 4) (.slice qa ea da)).1.stored ((k + 1) * 6 + 5) (.slice qb eb db)).1
       rw [flat_set' (fun cs h => (J6 cs h).six) (by omega),I2.fin (by omega)] at t5
       have sg2:=set6_grown w5 g2 ((k + 1) * 6) ((k + 1) * 6 + 1) ((k + 1) * 6 + 2) ((k + 1) * 6 + 3) ((k + 1) * 6 + 4) ((k + 1) * 6 + 5) (.int .i64 uk) (.int .i64 un) (.int .i64 ug) (.string us) (.slice qa ea da) (.slice qb eb db)
       rw [hw6] at t5 sg2
       first
       | rw [hw6]
       | (simp only [Nat.zero_mul, Nat.zero_add] at hw6
          rw [hw6])
       have F6:=F5.grown sg2 (fun k h => by cases h;exact hat2'.imp (fun h => .inr h) id)
       have s16:=World.ownsRow.kept s1 sg2 (.inr (by simp [Value.ownBlock];omega))
       have E0:=(sg2.block w.heap.size (lt_of_block D0) (by simp;omega)).trans D0
       have E2:=(sg2.block (w.heap.size + 2) (lt_of_block D2) (by simp;omega)).trans D2
       clear hw6 sg2 b0 b1 b2 b3 b4 b5 bf x0 x1 x2 x3 x4 x5 xf f2 m0 m1 m2 m3 m4 m5 D0 D1 D2 F5 s1 s2
       obtain ⟨b0,b1,b2,b3,b4,b5,bf⟩:=six_of E0
       obtain ⟨x0,x1,x2,x3,x4,x5,xf⟩:=six_of E2
       have hlt6 : w.heap.size + 2 < w6.heap.size:=lt_of_block E2
       go_wp2
       refine bodyPost_ret (v:=.agg #[.int .i64 7,.int .i64 0,.int .i64 0,.string ⟨#[]⟩,.slice (some ⟨g1,0,none⟩) (n + 1) c1,.slice (some ⟨g2,0,none⟩) (n + 1) c2]) (by simp [results,Tryz.results164,go_sem,x0,x1,x2,x3,x4,x5,xf,hlt6]) rfl ?_
       exact ⟨k + 1,g1,c1,g2,c2,by omega,fun j y hj h => HM.out j y hj h,fun y' _ h => by simp only [Nat.add_sub_cancel] at h;rw [hy] at h;cases h;exact HLE.out,rfl,World.ownsRow.kept s16 (set6_grown _ _ _ _ _ _ _ _ _ _ _ _ _ _) (.inr (by simp [Value.ownBlock];omega)),World.ownsRow.kept t5 (set6_grown _ _ _ _ _ _ _ _ _ _ _ _ _ _) (.inr (by simp [Value.ownBlock];omega)),hat1',hat2',F6.grown (set6_grown _ _ _ _ _ _ _ _ _ _ _ _ _ _) (fun k h => by cases h;right;omega)⟩
end Go.Proofs.YtfgdhcemidlnfaaGreatDoor
namespace Fo
theorem find_key {acc : List (L × Ob)} {y : L} (h : y ∈ acc.map (·.1)) (p : L × Ob) : (acc ++ [p]).find? (fun q => q.1 == y) = acc.find? (fun q => q.1 == y):=by
 rw [List.find?_append]
 obtain ⟨q,hq,rfl⟩:=List.mem_map.1 h
 have : (acc.find? (fun r => r.1 == q.1)).isSome:=by
   rw [List.find?_isSome];exact ⟨q,hq,by simp⟩
 obtain ⟨z,hz⟩:=Option.isSome_iff_exists.1 this
 rw [hz];rfl
theorem find_new {acc : List (L × Ob)} {k : L} {x : Ob} (h : k ∉ acc.map (·.1)) : (acc ++ [(k,x)]).find? (fun q => q.1 == k) = some (k,x):=by
 rw [List.find?_append]
 have : acc.find? (fun r => r.1 == k) = none:=by
   rw [List.find?_eq_none]
   intro q hq he
   have : q.1 = k:=by simpa using he
   exact h (List.mem_map.2 ⟨q,hq,this⟩)
 rw [this]
 simp
theorem keys_mem {acc : List (L × Ob)} {y : L} (h : y ∈ (mkDict acc).keys) : y ∈ acc.map (·.1):=by
 unfold mkDict Ob.keys at h
 have h2:=(isort_perm _).mem_iff.1 h
 obtain ⟨q,hq,rfl⟩:=List.mem_map.1 h2
 exact List.mem_map.2 ⟨q,(List.mem_filter.1 hq).1,rfl⟩
theorem keys_sorted (acc : List (L × Ob)) : (mkDict acc).keys.Pairwise (· ≤ ·):=isort_sorted _
def lookK (acc : List (L × Ob)) (k : L) : Ob:=((acc.find? fun p => p.1 == k).map (·.2)).getD .zero
theorem mk_keys (acc : List (L × Ob)) : (mkDict acc).keys = isort ((acc.filter fun p => p.2.kind != 0).map (·.1)):=rfl
theorem mk_kids (acc : List (L × Ob)) : (mkDict acc).kids = (mkDict acc).keys.map (lookK acc):=rfl
theorem mk_len (acc : List (L × Ob)) : (mkDict acc).kids.length = (mkDict acc).keys.length:=by rw [mk_kids,List.length_map]
theorem keys_le (acc : List (L × Ob)) : (mkDict acc).keys.length ≤ acc.length:=by
 rw [mk_keys,(isort_perm _).length_eq,List.length_map]
 exact List.length_filter_le _ _
theorem mk_null {acc : List (L × Ob)} {k : L} {x : Ob} (h : x.kind = 0) : (mkDict (acc ++ [(k,x)])).keys = (mkDict acc).keys ∧ (mkDict (acc ++ [(k,x)])).kids = (mkDict acc).kids:=by
 have hk : (mkDict (acc ++ [(k,x)])).keys = (mkDict acc).keys:=by
   rw [mk_keys,mk_keys];simp [h]
 refine ⟨hk,?_⟩
 rw [mk_kids,mk_kids,hk]
 apply List.map_congr_left
 intro y hy
 unfold lookK
 rw [find_key (keys_mem hy)]
theorem mk_put {acc : List (L × Ob)} {k : L} {x : Ob} {P : Nat} (h : x.kind ≠ 0) (hn : k ∉ acc.map (·.1)) (hP : P ≤ (mkDict acc).keys.length)
   (h1 : ∀ j y,P ≤ j → (mkDict acc).keys[j]? = some y → k < y) (h2 : ∀ y,0 < P → (mkDict acc).keys[P - 1]? = some y → y ≤ k) :
   (mkDict (acc ++ [(k,x)])).keys = (mkDict acc).keys.take P ++ k :: (mkDict acc).keys.drop P ∧ (mkDict (acc ++ [(k,x)])).kids = (mkDict acc).kids.take P ++ x :: (mkDict acc).kids.drop P:=by
 have hks : (mkDict (acc ++ [(k,x)])).keys = (mkDict acc).keys.take P ++ k :: (mkDict acc).keys.drop P:=by
   rw [mk_keys (acc ++ [(k,x)])]
   symm
   apply isort_of_perm
   · have e : ((acc ++ [(k,x)]).filter fun p => p.2.kind != 0).map (·.1) = ((acc.filter fun p => p.2.kind != 0).map (·.1)) ++ [k]:=by simp [h]
     rw [e]
     have hp : (((acc.filter fun p => p.2.kind != 0).map (·.1)) ++ [k]).Perm (k :: (mkDict acc).keys):=(List.perm_append_singleton k _).trans (List.Perm.cons k (isort_perm _).symm)
     refine hp.trans ?_
     have:=(List.perm_middle (a:=k) (l₁:=(mkDict acc).keys.take P) (l₂:=(mkDict acc).keys.drop P)).symm
     rw [List.take_append_drop] at this
     exact this
   · have hs:=keys_sorted acc
     have hgt : ∀ b ∈ (mkDict acc).keys.drop P,k ≤ b:=by
       intro b hb
       obtain ⟨j,hj,rfl⟩:=List.mem_iff_getElem.1 hb
       have:=h1 (P + j) ((mkDict acc).keys.drop P)[j] (by omega) (by rw [List.getElem_drop];exact List.getElem?_eq_getElem _)
       exact List.le_of_lt this
     have hle : ∀ a ∈ (mkDict acc).keys.take P,a ≤ k:=by
       intro a ha
       obtain ⟨j,hj,rfl⟩:=List.mem_iff_getElem.1 ha
       have hj2 : j < P:=by have:=hj;simp at this;omega
       have hl:=h2 ((mkDict acc).keys[P - 1]'(by omega)) (by omega) (List.getElem?_eq_getElem _)
       rw [List.getElem_take]
       by_cases hjp : j = P - 1
       · subst hjp;exact hl
       · exact List.le_trans (List.pairwise_iff_getElem.1 hs j (P - 1) (by omega) (by omega) (by omega)) hl
     refine List.pairwise_append.2 ⟨hs.sublist (List.take_sublist _ _),List.pairwise_cons.2 ⟨hgt,hs.sublist (List.drop_sublist _ _)⟩,?_⟩
     intro a ha b hb
     rcases List.mem_cons.1 hb with rfl | hb
     · exact hle a ha
     · exact List.le_trans (hle a ha) (hgt b hb)
 refine ⟨hks,?_⟩
 rw [mk_kids (acc ++ [(k,x)]),hks,List.map_append,List.map_cons]
 have hold : ∀ y ∈ (mkDict acc).keys,lookK (acc ++ [(k,x)]) y = lookK acc y:=fun y hy => by unfold lookK;rw [find_key (keys_mem hy)]
 have hnew : lookK (acc ++ [(k,x)]) k = x:=by unfold lookK;rw [find_new hn];rfl
 rw [hnew,mk_kids acc,← List.map_take,← List.map_drop]
 congr 1
 · exact List.map_congr_left fun y hy => hold y ((List.take_sublist _ _).subset hy)
 · congr 1
   exact List.map_congr_left fun y hy => hold y ((List.drop_sublist _ _).subset hy)
end Fo
namespace Go.Proofs.YtfgdhcemidlnfaaGreatDoor
open Go.RowKit Fo
structure RDI (d : Nat) (w : World) (acc : List (L × Ob)) (ms : List L) (mv kv dv : Value) (css : List (List Value)) (wr : World) : Prop where
 b0 : wr.heap[w.heap.size]? = some (.cells #[.int .i64 0,.int .i64 0,.int .i64 0,.string ⟨#[]⟩,.slice none 0 0,.slice none 0 0] 26 (0,0))
 b1 : wr.heap[w.heap.size + 1]? = some (.cells #[.int .i64 7,.int .i64 0,.int .i64 0,.string ⟨#[]⟩,kv,dv] 26 (0,0))
 met : wr.ownsRow (w.heap.size + 2) 9 1 mv ms.length (ms.map encStr)
 keys : wr.ownsRow (w.heap.size + 2) 9 1 kv (mkDict acc).keys.length ((mkDict acc).keys.map encStr)
 kids : wr.ownsRow (w.heap.size + 2) 26 6 dv (mkDict acc).keys.length css.flatten
 dis : ∀ b,mv.ownBlock = some b → kv.ownBlock ≠ some b
 at' : KidsAt (fun b => w.heap.size + 2 ≤ b ∧ kv.ownBlock ≠ some b ∧ dv.ownBlock ≠ some b ∧ mv.ownBlock ≠ some b) (d + 1) wr css (mkDict acc).kids
 low : Below w.heap.size w wr
theorem RDI.below {d : Nat} {w : World} {acc : List (L × Ob)} {ms : List L} {mv kv dv : Value} {css : List (List Value)} {wr w' : World} (h : RDI d w acc ms mv kv dv css wr) (hb : Below wr.heap.size wr w') : RDI d w acc ms mv kv dv css w':=by
 have hg : wr.grownBy w' none:=⟨hb.os,hb.tape,hb.output,hb.size,fun k hk _ => hb.block k hk⟩
 exact ⟨(hb.block _ (lt_of_block h.b0)).trans h.b0,(hb.block _ (lt_of_block h.b1)).trans h.b1,World.ownsRow.kept h.met hg (Classical.em _),World.ownsRow.kept h.keys hg (Classical.em _),World.ownsRow.kept h.kids hg (Classical.em _),
   h.dis,h.at'.grow (fun b h1 h2 => ⟨h1,hb.block b h2⟩),h.low.trans (hb.mono (Nat.le_of_lt (lt_of_block h.b0)))⟩
theorem RDI.push {d : Nat} {w : World} {acc : List (L × Ob)} {ms : List L} {mv kv dv : Value} {css : List (List Value)} {wr w5 : World} (h : RDI d w acc ms mv kv dv css wr) (y : L) (o : Go.Obj) {g c : Nat}
   (hown : w5.ownsRow (w.heap.size + 2) 9 1 (.slice (some ⟨g,0,none⟩) (ms.length + 1) c) (ms.length + 1) (ms.map encStr ++ [encStr y]))
   (hg : (wr.alloc o).grownBy w5 mv.ownBlock) (hat : mv.ownBlock = some g ∨ g = wr.heap.size + 1) :
   RDI d w acc (ms ++ [y]) (.slice (some ⟨g,0,none⟩) (ms.length + 1) c) kv dv css w5:=by
 have hlt1:=lt_of_block h.b1
 have hmb : ∀ k,mv.ownBlock = some k → w.heap.size + 2 ≤ k:=own_base h.met
 have hkb : ∀ k,kv.ownBlock = some k → k < wr.heap.size:=fun k hk => (World.ownsRow.lt h.keys k hk).2
 have hdb : ∀ k,dv.ownBlock = some k → k < wr.heap.size:=fun k hk => (World.ownsRow.lt h.kids k hk).2
 have hkeep : ∀ k,k < wr.heap.size → mv.ownBlock ≠ some k → w5.heap[k]? = wr.heap[k]?:=fun k h1 h2 =>
   (hg.block k (by simp;omega) (Ne.symm h2)).trans (Below.heap_alloc _ _ _ h1)
 have hlow : ∀ k,k < w.heap.size + 2 → mv.ownBlock ≠ some k:=fun k hk he => by have:=hmb k he;omega
 have hmd:=own_ne h.met h.kids (by decide)
 have hga : wr.grownBy w5 mv.ownBlock:=⟨hg.os,hg.tape,hg.output,by have:=hg.size;simp at this;omega,fun k hk hn => hkeep k hk (Ne.symm hn)⟩
 refine ⟨(hkeep _ (by omega) (hlow _ (by omega))).trans h.b0,(hkeep _ hlt1 (hlow _ (by omega))).trans h.b1,?_,World.ownsRow.kept h.keys hga ?_,World.ownsRow.kept h.kids hga ?_,?_,?_,?_⟩
 · simpa using hown
 · cases hk : kv.ownBlock with
   | none => exact .inl rfl
   | some k => exact .inr (fun he => h.dis k he.symm hk)
 · rcases hmd with h1 | h1
   · cases hk : dv.ownBlock with
     | none => exact .inl rfl
     | some k => exact .inr (by rw [h1];simp)
   · exact .inr (Ne.symm h1)
 · intro b hb
   simp only [Value.ownBlock] at hb
   cases hb
   intro hk
   rcases hat with h1 | h1
   · exact h.dis g h1 hk
   · have:=hkb g hk;omega
 · refine h.at'.grow (fun b h1 h2 => ⟨⟨h1.1,h1.2.1,h1.2.2.1,?_⟩,hkeep b h2 h1.2.2.2⟩)
   simp only [Value.ownBlock]
   intro he;cases he
   rcases hat with h3 | h3
   · exact h1.2.2.2 h3
   · omega
 · exact h.low.trans ⟨hga.os,hga.tape,hga.output,hga.size,fun k hk => hkeep k (by omega) (hlow k (by omega))⟩
theorem KidsAt.insertR {S : Nat → Prop} {w : World} {d : Nat} {css : List (List Value)} {acc : List Ob} {cs : List Value} {o : Ob} (h : KidsAt S d w css acc) (hl : cs.length = 6) (ho : ObjAt S d w cs o) (P : Nat) (hP : P ≤ css.length) :
   KidsAt S d w (css.take P ++ cs :: css.drop P) (acc.take P ++ o :: acc.drop P):=by
 have hl2:=h.1
 refine ⟨by simp [hl2],fun i c x h1 h2 => ?_⟩
 by_cases hi : i < P
 · rw [List.getElem?_append_left (by simp;omega),List.getElem?_take,if_pos hi] at h1
   rw [List.getElem?_append_left (by simp;omega),List.getElem?_take,if_pos hi] at h2
   exact h.2 i c x h1 h2
 · rw [List.getElem?_append_right (by simp;omega)] at h1
   rw [List.getElem?_append_right (by simp;omega)] at h2
   have e1 : (css.take P).length = P:=by simp;omega
   have e2 : (acc.take P).length = P:=by simp;omega
   rw [e1] at h1
   rw [e2] at h2
   by_cases h0 : i = P
   · subst h0;simp at h1 h2;subst h1;subst h2;exact ⟨hl,ho⟩
   · obtain ⟨j,hj⟩ : ∃ j,i - P = j + 1:=⟨i - P - 1,by omega⟩
     rw [hj,List.getElem?_cons_succ,List.getElem?_drop] at h1
     rw [hj,List.getElem?_cons_succ,List.getElem?_drop] at h2
     exact h.2 _ c x h1 h2
theorem own_fr {w w' : World} {S : Nat → Prop} {B sz n : Nat} {e : TypeId} {v : Value} {xs : List Value} (h : w.ownsRow B e sz v n xs) (hF : Fr S w w') (hS : ∀ b,v.ownBlock = some b → ¬ S b) : w'.ownsRow B e sz v n xs:=by
 refine ⟨h.1,?_⟩
 rcases h.2 with h1 | ⟨g,cap,cur,rfl,hb,hg,h3⟩
 · exact .inl h1
 · exact .inr ⟨g,cap,cur,rfl,hb,(hF.block g (lt_of_block hg) (hS g rfl)).trans hg,h3⟩
theorem RDI.null {d : Nat} {w : World} {acc : List (L × Ob)} {ms : List L} {mv kv dv : Value} {css : List (List Value)} {wr : World} (h : RDI d w acc ms mv kv dv css wr) {k : L} {x : Ob} (hx : x.kind = 0) : RDI d w (acc ++ [(k,x)]) ms mv kv dv css wr:=by
 obtain ⟨e1,e2⟩:=mk_null (acc:=acc) (k:=k) hx
 exact ⟨h.b0,h.b1,h.met,by rw [e1];exact h.keys,by rw [e1];exact h.kids,h.dis,by rw [e2];exact h.at',h.low⟩
theorem RDI.put {d : Nat} {w : World} {acc : List (L × Ob)} {ms : List L} {mv kv dv : Value} {css : List (List Value)} {w8 w9 w10 : World} (h : RDI d w acc ms mv kv dv css w8) {k : L} {x : Ob} {xc : List Value} {P g1 c1 g2 c2 n : Nat}
   (hx : x.kind ≠ 0) (hk : k ∉ acc.map (·.1)) (hn : (mkDict acc).keys.length = n) (hP : P ≤ n)
   (hgt : ∀ j y,P ≤ j → (mkDict acc).keys[j]? = some y → k < y) (hle : ∀ y,0 < P → (mkDict acc).keys[P - 1]? = some y → y ≤ k)
   (ho1 : w9.ownsRow (w.heap.size + 2) 9 1 (.slice (some ⟨g1,0,none⟩) (n + 1) c1) (n + 1) (((mkDict acc).keys.take P ++ k :: (mkDict acc).keys.drop P).map encStr))
   (ho2 : w9.ownsRow (w.heap.size + 2) 26 6 (.slice (some ⟨g2,0,none⟩) (n + 1) c2) (n + 1) (css.take P ++ xc :: css.drop P).flatten)
   (ha1 : kv.ownBlock = some g1 ∨ w8.heap.size ≤ g1) (ha2 : dv.ownBlock = some g2 ∨ w8.heap.size ≤ g2)
   (hF : Fr (fun b => kv.ownBlock = some b ∨ dv.ownBlock = some b) w8 w9)
   (hl : xc.length = 6) (hO : ObjAt (fun b => w.heap.size + 2 ≤ b ∧ kv.ownBlock ≠ some b ∧ dv.ownBlock ≠ some b ∧ mv.ownBlock ≠ some b) (d + 1) w8 xc x)
   (hb1 : w10.heap[w.heap.size + 1]? = some (.cells #[.int .i64 7,.int .i64 0,.int .i64 0,.string ⟨#[]⟩,.slice (some ⟨g1,0,none⟩) (n + 1) c1,.slice (some ⟨g2,0,none⟩) (n + 1) c2] 26 (0,0)))
   (hg : w9.grownBy w10 (some (w.heap.size + 1))) :
   RDI d w (acc ++ [(k,x)]) ms mv (.slice (some ⟨g1,0,none⟩) (n + 1) c1) (.slice (some ⟨g2,0,none⟩) (n + 1) c2) (css.take P ++ xc :: css.drop P) w10:=by
 obtain ⟨e1,e2⟩:=mk_put hx hk (by omega) hgt hle
 have hlt1:=lt_of_block h.b1
 have hkb : ∀ b,kv.ownBlock = some b → w.heap.size + 2 ≤ b:=own_base h.keys
 have hdb : ∀ b,dv.ownBlock = some b → w.heap.size + 2 ≤ b:=own_base h.kids
 have hmb : ∀ b,mv.ownBlock = some b → b < w8.heap.size:=fun b hb => (World.ownsRow.lt h.met b hb).2
 have hmB : ∀ b,mv.ownBlock = some b → w.heap.size + 2 ≤ b:=own_base h.met
 have hmd:=own_ne h.met h.kids (by decide)
 have hmd2 : ∀ b,mv.ownBlock = some b → dv.ownBlock ≠ some b:=fun b hb he => by
   rcases hmd with h1 | h1
   · rw [h1] at hb;cases hb
   · exact h1 (by rw [hb,he])
 have hlow : ∀ b,b < w.heap.size + 2 → ¬ (kv.ownBlock = some b ∨ dv.ownBlock = some b):=fun b hb he => by
   rcases he with he | he
   · have:=hkb b he;omega
   · have:=hdb b he;omega
 have hg1 : w.heap.size + 2 ≤ g1:=own_base ho1 g1 rfl
 have hg2 : w.heap.size + 2 ≤ g2:=own_base ho2 g2 rfl
 have len1 : ((mkDict acc).keys.take P ++ k :: (mkDict acc).keys.drop P).length = n + 1:=by simp;omega
 have cssl : css.length = n:=by have:=h.at'.1;rw [mk_len] at this;omega
 have hS : ∀ b, (w.heap.size + 2 ≤ b ∧ kv.ownBlock ≠ some b ∧ dv.ownBlock ≠ some b ∧ mv.ownBlock ≠ some b) → b < w8.heap.size →
     (w.heap.size + 2 ≤ b ∧ (Value.slice (some ⟨g1,0,none⟩) (n + 1) c1).ownBlock ≠ some b ∧ (Value.slice (some ⟨g2,0,none⟩) (n + 1) c2).ownBlock ≠ some b ∧ mv.ownBlock ≠ some b) ∧ w10.heap[b]? = w8.heap[b]?:=by
   intro b hb hlt
   refine ⟨⟨hb.1,?_,?_,hb.2.2.2⟩,(hg.block b (Nat.lt_of_lt_of_le hlt hF.size) (by intro he;cases he;omega)).trans (hF.block b hlt (fun he => he.elim hb.2.1 hb.2.2.1))⟩
   · simp only [Value.ownBlock]
     intro he;cases he
     rcases ha1 with h1 | h1
     · exact hb.2.1 h1
     · omega
   · simp only [Value.ownBlock]
     intro he;cases he
     rcases ha2 with h1 | h1
     · exact hb.2.2.1 h1
     · omega
 refine ⟨?_,hb1,?_,?_,?_,?_,?_,?_⟩
 · rw [hg.block _ (by have:=hF.size;omega) (by simp),hF.block _ (by omega) (hlow _ (by omega))];exact h.b0
 · refine World.ownsRow.kept (own_fr h.met hF (fun b hb he => ?_)) hg (.inr (fun he => ?_))
   · rcases he with he | he
     · exact h.dis b hb he
     · exact hmd2 b hb he
   · have:=hmB _ he;omega
 · rw [e1,len1]
   exact World.ownsRow.kept ho1 hg (.inr (by simp [Value.ownBlock];omega))
 · rw [e1,len1]
   exact World.ownsRow.kept ho2 hg (.inr (by simp [Value.ownBlock];omega))
 · intro b hb
   simp only [Value.ownBlock]
   intro he;cases he
   rcases ha1 with h1 | h1
   · exact h.dis _ hb h1
   · have:=hmb _ hb;omega
 · rw [e2]
   exact (h.at'.grow hS).insertR hl (hO.grow hS) P (by omega)
 · refine h.low.trans ⟨hg.os.trans hF.os,hg.tape.trans hF.tape,hg.output.trans hF.output,Nat.le_trans hF.size hg.size,fun b hb => ?_⟩
   rw [hg.block b (by have:=hF.size;omega) (by simp;omega),hF.block b (by omega) (hlow b (by omega))]
theorem dS_lex {f : Tok → L → Res (Ob × L)} {m : Nat} {l : L} {acc : List (L × Ob)} {k : Int} (h : (nextT l).2 = .bad k) : dictS f (m + 1) l acc = .bad k:=by
 unfold dictS nextS;rw [h]
theorem dS_end {f : Tok → L → Res (Ob × L)} {m : Nat} {l : L} {acc : List (L × Ob)} {t : Tok} (h : (nextT l).2 = .good t) (h1 : (t.kind == 6) = true) (h2 : (t.s == [62, 62]) = true) :
   dictS f (m + 1) l acc = .good (acc,l.drop ((nextT l).1 + t.len)):=by
 have hk : t.kind = 6:=by simpa using h1
 have hs : t.s = [62,62]:=by simpa using h2
 unfold dictS nextS;rw [h];simp [hk,hs]
theorem dS_eof {f : Tok → L → Res (Ob × L)} {m : Nat} {l : L} {acc : List (L × Ob)} {t : Tok} (h : (nextT l).2 = .good t) (h1 : (t.kind == 0) = true) : dictS f (m + 1) l acc = .bad 4:=by
 have hk : t.kind = 0:=by simpa using h1
 unfold dictS nextS;rw [h];simp [hk]
theorem dS_form {f : Tok → L → Res (Ob × L)} {m : Nat} {l : L} {acc : List (L × Ob)} {t : Tok} (h : (nextT l).2 = .good t) (h0 : (t.kind == 0) = false) (h1 : ¬ ((t.kind == 6) = true ∧ (t.s == [62,62]) = true)) (h4 : (t.kind == 4) = false) : dictS f (m + 1) l acc = .bad 3:=by
 have hk : ¬ t.kind = 0:=by simpa using h0
 have hk4 : ¬ t.kind = 4:=by simpa using h4
 have h6 : ¬ (t.kind = 6 ∧ t.s = [62,62]):=fun hh => h1 (by simp [hh.1,hh.2])
 unfold dictS nextS;rw [h];dsimp only;rw [if_neg hk];dsimp only;rw [if_neg h6,if_pos hk4]
theorem dS_twice {f : Tok → L → Res (Ob × L)} {m : Nat} {l : L} {acc : List (L × Ob)} {t : Tok} (h : (nextT l).2 = .good t) (h4 : t.kind = 4) (ha : t.s ∈ acc.map (·.1)) : dictS f (m + 1) l acc = .bad 9:=by
 have h6 : ¬ (t.kind = 6 ∧ t.s = [62,62]):=fun hh => by omega
 have hany : (acc.any fun p => p.1 == t.s) = true:=by
   obtain ⟨p,hp,he⟩:=List.mem_map.1 ha
   exact List.any_eq_true.2 ⟨p,hp,by simpa using he⟩
 unfold dictS nextS;rw [h];dsimp only;rw [if_neg (by omega)];dsimp only;rw [if_neg h6,if_neg (by omega),if_pos hany]
theorem dS_obj {d m : Nat} {l : L} {acc : List (L × Ob)} {t : Tok} (h : (nextT l).2 = .good t) (h4 : t.kind = 4) (ha : t.s ∉ acc.map (·.1)) (hl : acc.length < 8191) :
   dictS (objS d) (m + 1) l acc = match objD d (l.drop ((nextT l).1 + t.len)) with | .bad e => .bad e | .good x => dictS (objS d) m x.2 (acc ++ [(t.s,x.1)]):=by
 have h6 : ¬ (t.kind = 6 ∧ t.s = [62,62]):=fun hh => by omega
 have hany : ¬ (acc.any fun p => p.1 == t.s) = true:=by
   intro hh
   obtain ⟨p,hp,he⟩:=List.any_eq_true.1 hh
   exact ha (List.mem_map.2 ⟨p,hp,by simpa using he⟩)
 have hn : nextS l = .good (t,l.drop ((nextT l).1 + t.len)):=by unfold nextS;rw [h];dsimp only;rw [if_neg (by omega)]
 rw [dictS,hn];dsimp only;rw [if_neg h6,if_neg (by omega),if_neg hany,if_neg (by omega)]
 unfold objD
 cases nextS (l.drop ((nextT l).1 + t.len)) with
 | bad e => rfl
 | good y =>
   obtain ⟨t2,r2⟩:=y
   dsimp only
   cases objS d t2 r2 with
   | bad e => rfl
   | good z => rfl
theorem RDI.obj {d : Nat} {w : World} {acc : List (L × Ob)} {ms : List L} {mv kv dv : Value} {css : List (List Value)} {wr : World} (h : RDI d w acc ms mv kv dv css wr) :
   ObjAt (fun b => w.heap.size + 2 ≤ b) (d + 2) wr (objCells 7 0 0 [] kv dv) (mkDict acc):=by
 refine ⟨kv,dv,rfl,?_,kids_at (by rw [mk_len];exact h.kids) h.at' (fun b hb => hb.1) (fun b hb => hb)⟩
 rcases h.keys.2 with ⟨h1,h2⟩ | ⟨g,cap,cur,h1,h2,h3⟩
 · exact .inl ⟨List.eq_nil_of_length_eq_zero h2,none,0,h1⟩
 · subst h1
   refine .inr ⟨g,0,cap,rfl,h2,fun i hi => ?_⟩
   rw [show 0 + i = i by omega,World.ownsRow.cellAt h.keys i (by omega)]
   simp [encStr,hi]
theorem dS_full {f : Tok → L → Res (Ob × L)} {m : Nat} {l : L} {acc : List (L × Ob)} {t : Tok} (h : (nextT l).2 = .good t) (h4 : t.kind = 4) (hl : 8191 ≤ acc.length) : ∃ k,dictS f (m + 1) l acc = .bad k:=by
 have h6 : ¬ (t.kind = 6 ∧ t.s = [62,62]):=fun hh => by omega
 have hn : nextS l = .good (t,l.drop ((nextT l).1 + t.len)):=by unfold nextS;rw [h];dsimp only;rw [if_neg (by omega)]
 rw [dictS,hn];dsimp only;rw [if_neg h6,if_neg (by omega)]
 by_cases ha : (acc.any fun p => p.1 == t.s) = true
 · rw [if_pos ha];exact ⟨9,rfl⟩
 · rw [if_neg ha,if_pos hl];exact ⟨6,rfl⟩
theorem rdict (s : ByteArray) (d : Nat) (hs : s.size ≤ 1048576) (hd : d ≤ 24) (HO : RObjC s d) : RDictC s d:=by
 intro a0 w ha0 hgood
 obtain ⟨z0,hgood⟩:=hgood
 obtain ⟨T,hT⟩ : ∃ T,dictS (objS d) ((s.data.toList.drop a0).length + 1) (s.data.toList.drop a0) [] = T:=⟨_,rfl⟩
 rw [hT] at hgood ⊢
 have HT:=Lh hT
 have HZ:=Lh hgood
 clear hgood
 have hl0 : (s.data.toList.drop a0).length = s.size - a0:=by simp
 rw [hl0] at HT
 clear hT hl0
 go_enter Tryz.func115,Tryz.ntmps115
 go_wp2
 go_loopw [1,10] (fun i v wr => ∃ (a fuel : Nat) (acc : List (L × Ob)) (kv dv : Value) (css : List (List Value)),a ≤ s.size ∧ a0 + acc.length ≤ a ∧ i = .int .i64 a ∧ RDI d w acc (acc.map (·.1)) v kv dv css wr ∧ s.size - a < fuel ∧ Hid (dictS (objS d) fuel (s.data.toList.drop a) acc = T)) (fun i _ _ => s.size - (intOf i).toNat)
 case atStart =>
   refine ⟨a0,s.size - a0 + 1,[],.slice none 0 0,.slice none 0 0,[],ha0,by simp,rfl,⟨?_,?_,⟨by simp,.inl ⟨rfl,rfl⟩⟩,⟨by simp [mk_keys,isort],.inl ⟨rfl,by simp [mk_keys,isort]⟩⟩,⟨by simp [mk_keys,isort],.inl ⟨rfl,by simp [mk_keys,isort]⟩⟩,fun b h => by simp [Value.ownBlock] at h,?_,bel⟩,by omega,HT⟩
   · rw [Below.heap_alloc _ _ _ (by simp)];exact heap_new_at _ _ _ rfl
   · exact heap_new_at _ _ _ (by simp)
   · have : (mkDict []).kids = []:=by simp [mk_kids,mk_keys,isort]
     rw [this];exact KidsAt.nil
 case round =>
   obtain ⟨a,fuel,acc,kv,dv,css,ha,hacc,rfl,hI,hfu,H⟩:=hrel
   clear HT
   obtain ⟨ms,hms⟩ : ∃ ms,acc.map (·.1) = ms:=⟨_,rfl⟩
   rw [hms] at hI
   have HML:=Lh (show ms.length = acc.length by rw [← hms];simp)
   have HMS:=Lh hms
   have hacc2 : a0 + ms.length ≤ a:=by rw [HML.out];exact hacc
   have HACC:=Lh hacc
   clear hms hacc
   obtain ⟨mp,mc,rfl⟩:=own_slice hI.met
   obtain ⟨n,hn⟩ : ∃ n,(mkDict acc).keys.length = n:=⟨_,rfl⟩
   have hk0:=hI.keys
   have hd0:=hI.kids
   rw [hn] at hk0 hd0
   have hnn : n ≤ ms.length:=by rw [← hn,HML.out];exact keys_le acc
   have hw1:=lt_of_block hI.b1
   obtain ⟨kp,kc,rfl⟩:=own_slice hk0
   obtain ⟨dp,dc,rfl⟩:=own_slice hd0
   clear hk0 hd0
   obtain ⟨fuel,rfl⟩ : ∃ f,fuel = f + 1:=⟨fuel - 1,by omega⟩
   cases hnx : (nextT (s.data.toList.drop a)).2 with
   | bad k =>
     have HX:=Lh (H.out.symm.trans (dS_lex hnx))
     have HN:=Lh (fun W => rnext_err s a k hnx ha (by omega) W)
     have hk2 : (k != 0) = true:=by have:=nextT_bad hnx;simp;omega
     clear hnx H
     go_wp2_with fail
     refine (HN.out _).mono ?_
     rintro e w1 ⟨rfl,hb1⟩
     go_upto_region 4 with fail
     obtain ⟨w3,hw3⟩ : ∃ w3,w1.alloc (.cells #[.int .i64 0,.int .i64 0,.int .i64 0,.int .i64 0,.string ⟨#[]⟩] 70) = w3:=⟨_,rfl⟩
     rw [hw3]
     have hb3 : Below wr.heap.size wr w3:=by rw [← hw3];exact hb1.alloc hb1.size _
     have GT : w3.heap[w1.heap.size]? = some (.cells #[.int .i64 0,.int .i64 0,.int .i64 0,.int .i64 0,.string ⟨#[]⟩] 70 (0,0)):=by rw [← hw3];exact new_at w1 _
     have htt2:=hb1.size
     obtain ⟨tt,htt⟩ : ∃ tt,w1.heap.size = tt:=⟨_,rfl⟩
     rw [htt] at GT htt2
     rw [htt]
     have hI3:=hI.below hb3
     have hlow3:=hI3.low
     have hz0 : w.heap.size < w3.heap.size:=by have:=lt_of_block hI3.b1;omega
     have ne1 : ¬ tt = w.heap.size:=by omega
     have ne2 : ¬ w.heap.size = tt:=by omega
     have ne3 : ¬ tt = w.heap.size + 1:=by omega
     have ne4 : ¬ w.heap.size + 1 = tt:=by omega
     obtain ⟨t0,t1,t2,t3,t4,tf⟩:=five_at GT
     obtain ⟨a0',a1,a2,a3,a4,a5,af⟩:=six_of hI3.b0
     obtain ⟨b0,b1,b2,b3,b4,b5,bf⟩:=six_of hI3.b1
     have hmlt : ∀ k,(Value.slice mp ms.length mc).ownBlock = some k → k < tt:=fun k hk => Nat.lt_of_lt_of_le (World.ownsRow.lt hI.met k hk).2 htt2
     clear hb1 hb3 hw3 htt hI HN
     go_wp2
     refine bodyPost_ret (v:=.tuple #[.agg #[.int .i64 0,.int .i64 0,.int .i64 0,.string ⟨#[]⟩,.slice none 0 0,.slice none 0 0],.int .i64 0,.int .i64 k]) (by simp [results,Tryz.results115,go_sem,a0',a1,a2,a3,a4,a5,af,hz0]) rfl ?_
     rw [HX.out]
     exact ⟨rfl,by have hb:=hlow3;exact bel⟩
   | good t =>
     obtain ⟨p,hp⟩ : ∃ p,a + (nextT (s.data.toList.drop a)).1 = p:=⟨_,rfl⟩
     obtain ⟨q,hq⟩ : ∃ q,p + t.len = q:=⟨_,rfl⟩
     have HN:=Lh (fun W => rnext_tok s a p t hnx hp ha (by omega) W)
     rw [hq] at HN
     have hqs : q ≤ s.size:=by
       have:=(nextT_good hnx).1
       rw [List.length_drop] at this
       have h2 : s.data.toList.length = s.size:=rfl
       omega
     have hqd : (s.data.toList.drop a).drop ((nextT (s.data.toList.drop a)).1 + t.len) = s.data.toList.drop q:=by rw [List.drop_drop];congr 1;omega
     have hrest : (t.kind == 4) = true ∨ (t.kind == 4) = false:=by cases (t.kind == 4) <;> simp
     rcases hrest with h4 | h4
     · have h40 : t.kind = 4:=by simpa using h4
       have u4 : (t.kind != 4) = false:=by simp [h40]
       have h6 : (t.kind == 6) = false:=by simp [h40]
       have h0 : (t.kind == 0) = false:=by simp [h40]
       have hl8 : acc.length < 8191:=by
         apply Classical.byContradiction
         intro hge
         obtain ⟨k,hk⟩:=dS_full (f:=objS d) (m:=fuel) hnx h40 (Nat.not_lt.1 hge)
         have h1:=H.out
         rw [hk,HZ.out] at h1
         cases h1
       have hms8 : ms.length < 8191:=by rw [HML.out];exact hl8
       have e8 : ((ms.length : Int) == 8191) = false:=by simp;omega
       have haq : a ≤ q:=by omega
       have HT9:=Lh (fun hm : t.s ∈ acc.map (·.1) => dS_twice (f:=objS d) (m:=fuel) hnx h40 hm)
       have HTO:=Lh (fun hm : t.s ∉ acc.map (·.1) => dS_obj (d:=d) (m:=fuel) hnx h40 hm hl8)
       rw [hqd] at HTO
       have H':=H.out
       clear hnx H hp hq hqd h4 h40
       go_wp2_with fail
       refine (HN.out _).mono ?_
       rintro e w1 ⟨rfl,hb1⟩
       go_upto_region 4 with fail
       obtain ⟨w3,hw3⟩ : ∃ w3,w1.alloc (.cells #[.int .i64 t.kind,.int .i64 p,.int .i64 q,.int .i64 t.n,.string ⟨t.s.toArray⟩] 70) = w3:=⟨_,rfl⟩
       rw [hw3]
       have hb3 : Below wr.heap.size wr w3:=by rw [← hw3];exact hb1.alloc hb1.size _
       have GT : w3.heap[w1.heap.size]? = some (.cells #[.int .i64 t.kind,.int .i64 p,.int .i64 q,.int .i64 t.n,.string ⟨t.s.toArray⟩] 70 (0,0)):=by rw [← hw3];exact new_at w1 _
       have htt2:=hb1.size
       obtain ⟨tt,htt⟩ : ∃ tt,w1.heap.size = tt:=⟨_,rfl⟩
       rw [htt] at GT htt2
       rw [htt]
       have hI3:=hI.below hb3
       have hlow3:=hI3.low
       have hz0 : w.heap.size < w3.heap.size:=by have:=lt_of_block hI3.b1;omega
       have ne1 : ¬ tt = w.heap.size:=by omega
       have ne2 : ¬ w.heap.size = tt:=by omega
       have ne3 : ¬ tt = w.heap.size + 1:=by omega
       have ne4 : ¬ w.heap.size + 1 = tt:=by omega
       obtain ⟨t0,t1,t2,t3,t4,tf⟩:=five_at GT
       obtain ⟨a0',a1,a2,a3,a4,a5,af⟩:=six_of hI3.b0
       obtain ⟨b0,b1,b2,b3,b4,b5,bf⟩:=six_of hI3.b1
       have hmlt : ∀ k,(Value.slice mp ms.length mc).ownBlock = some k → k < tt:=fun k hk => Nat.lt_of_lt_of_le (World.ownsRow.lt hI.met k hk).2 htt2
       clear hb1 hb3 hw3 htt hI HN
       go_wp2
       go_loopw [13] (fun i wx => ∃ j m : Nat,j ≤ ms.length ∧ i = .int .i64 j ∧ wx = w3.drewN m ∧ Hid (∀ l,l < j → ms[l]? ≠ some t.s)) (fun i _ => ms.length - (intOf i).toNat)
       case atStart => exact ⟨0,0,by omega,by simp,rfl,Lh (fun l hl => absurd hl (by omega))⟩
       case round =>
         obtain ⟨j,m,hj,rfl,rfl,HNE⟩:=hrel
         by_cases hjn : j < ms.length
         · obtain ⟨y,hy⟩ : ∃ y,ms[j]? = some y:=⟨_,List.getElem?_eq_getElem hjn⟩
           obtain ⟨g,cap,hv,hgl,hgh⟩:=World.ownsRow.form hI3.met (by omega)
           cases hv
           have l1 : w3.cell? ⟨g,j,none⟩ = some (.string ⟨y.toArray⟩):=by rw [World.ownsRow.cellAt hI3.met j (by omega)];simp [hy,encStr]
           have v1 : (0 : Int) ≤ j:=by omega
           have v2 : (j : Int) < ms.length:=by omega
           cases hyt : (y == t.s)
           · go_wp2_with fail
             go_quiet (fail)
             go_wp2
             go_roundw
             case rel => exact ⟨j + 1,m + nq,by omega,by go_num,rfl,Lh (fun l hl => by
               by_cases hlj : l = j
               · subst hlj;rw [hy];intro he;cases he;simp at hyt
               · exact HNE.out l (by omega))⟩
             case measure => simp [intOf];omega
           · have hyt2 : y = t.s:=by simpa using hyt
             have hmem : t.s ∈ acc.map (·.1):=by rw [HMS.out,← hyt2];exact List.mem_of_getElem? hy
             have HX:=Lh (H'.symm.trans (HT9.out hmem))
             clear hmem hyt2 H' HT9 HTO
             go_wp2_with fail
             go_quiet (fail)
             go_wp2
             refine bodyPost_ret (v:=.tuple #[.agg #[.int .i64 0,.int .i64 0,.int .i64 0,.string ⟨#[]⟩,.slice none 0 0,.slice none 0 0],.int .i64 0,.int .i64 9]) (by simp [results,Tryz.results115,go_sem,a0',a1,a2,a3,a4,a5,af,hz0]) rfl ?_
             rw [HX.out]
             exact ⟨rfl,by have hb:=hlow3;exact bel⟩
         · have hne : t.s ∉ ms := by
             intro hmem
             obtain ⟨l,hl,he⟩:=List.mem_iff_getElem.1 hmem
             exact HNE.out l (by omega) (by rw [List.getElem?_eq_getElem hl,he])
           have hne2 : t.s ∉ acc.map (·.1):=by rw [HMS.out];exact hne
           have HNE2:=Lh hne2
           have hstep:=HTO.out hne2
           rw [H'] at hstep
           obtain ⟨w4,hw4⟩ : ∃ w4,w3.drewN m = w4:=⟨_,rfl⟩
           rw [hw4]
           have hb34 : Below w3.heap.size w3 w4:=by rw [← hw4];exact belowDrewN (Below.refl _ _) _
           have hI4:=hI3.below hb34
           have GT4:=(hb34.block _ (lt_of_block GT)).trans GT
           have hlo4 : ∀ k,(Value.slice mp ms.length mc).ownBlock = some k → w.heap.size + 2 ≤ k:=own_base hI4.met
           have hB4 : w.heap.size + 2 ≤ w4.heap.size:=lt_of_block hI4.b1
           clear hw4 hb34 hI3 GT t0 t1 t2 t3 t4 tf a0' a1 a2 a3 a4 a5 af b0 b1 b2 b3 b4 b5 bf hne hne2 HNE H' HT9 HTO hlow3 hz0
           obtain ⟨t0,t1,t2,t3,t4,tf⟩:=five_at GT4
           obtain ⟨j0,hj0,z0,z1,z2⟩:=info_parts Tryz.infoSq
           have htt4 : tt < w4.heap.size:=lt_of_block GT4
           cases hR : objD d (s.data.toList.drop q) with
           | bad k =>
             rw [hR,HZ.out] at hstep
             cases hstep
           | good x =>
             obtain ⟨o,rest⟩:=x
             have hsh : rest.length < (s.data.toList.drop q).length:=objD_shorter hR
             simp only [List.length_drop,Array.length_toList,show s.data.size = s.size from rfl] at hsh
             have hocc:=fun W => HO q W hqs ⟨_,hR⟩
             rw [show (25 : Int) - (d : Int) = 24 - (d : Int) + 1 by omega] at hocc
             rw [hR] at hstep hocc
             have HX0:=Lh hstep.symm
             have HOC:=Lh hocc
             clear hstep hocc hR
             go_upto_region 20 with (at_builtin;go_must (refine wpList_append_lies _ rfl _ _ _ rfl (w.heap.size + 2) 9 j0 _ 1 16 Tryz.underlying23 hj0 z0 z1 z2 rfl (by omega) (.slice mp ms.length mc) ms.length (ms.map encStr) rfl (hI4.met.alloc _) ⟨w4.heap.size,0,none⟩ 1 1 [encStr t.s] rfl rfl (World.news_of_block (cs:=#[encStr t.s]) (t:=9) (fr:=(0,0)) (heap_alloc_new w4 _)) (by intro u hu;simp at hu;subst hu;rfl) (by omega) (by unfold maxLen;omega) (by omega) (by simp;omega) (w4.heap.size + 1) (by simp) ?_);intro g1 c3 w5 r1 hg1 hat1 hlt1)
             have hI5:=hI4.push t.s _ r1 hg1 hat1
             have hB5:=lt_of_block hI5.b1
             have GT5:=(hg1.block tt (by simp;omega) (fun he => by have:=hmlt tt he.symm;omega)).trans ((Below.heap_alloc _ _ _ htt4).trans GT4)
             clear r1 hg1 hat1 hlt1 hI4 GT4 t0 t1 t2 t3 t4 tf htt4 hlo4 hB4
             obtain ⟨t0,t1,t2,t3,t4,tf⟩:=five_at GT5
             go_wp2_with fail
             refine (HOC.out _).mono ?_
             rintro e w7 ⟨p1,n1,c1,p2,n2,c2,z,rfl,hz1,rfl,hO,hb7⟩
             simp only [List.length_drop,Array.length_toList,show s.data.size = s.size from rfl] at hsh
             go_upto_region 21 with fail
             obtain ⟨w8,hw8⟩ : ∃ w8,w7.alloc (.cells #[.int .i64 o.kind,.int .i64 o.n,.int .i64 o.g,.string ⟨o.s.toArray⟩,.slice p1 n1 c1,.slice p2 n2 c2] 26) = w8:=⟨_,rfl⟩
             rw [hw8]
             have hb78 : Below w7.heap.size w7 w8:=by rw [← hw8];exact belr
             have GX : w8.heap[w7.heap.size]? = some (.cells #[.int .i64 o.kind,.int .i64 o.n,.int .i64 o.g,.string ⟨o.s.toArray⟩,.slice p1 n1 c1,.slice p2 n2 c2] 26 (0,0)):=by rw [← hw8];exact heap_new_at _ _ _ rfl
             have hb58 : Below w5.heap.size w5 w8:=hb7.trans (hb78.mono hb7.size)
             have hI8:=hI5.below hb58
             have GT8:=(hb58.block _ (lt_of_block GT5)).trans GT5
             have hO8:=hO.grow (S':=fun b => w.heap.size + 2 ≤ b ∧ (Value.slice kp n kc).ownBlock ≠ some b ∧ (Value.slice dp n dc).ownBlock ≠ some b ∧ (Value.slice (some ⟨g1,0,none⟩) (ms.length + 1) c3).ownBlock ≠ some b) (w':=w8) (fun b h1 h2 => ⟨⟨by omega,fun h => by have:=(World.ownsRow.lt hI5.keys b h).2;omega,fun h => by have:=(World.ownsRow.lt hI5.kids b h).2;omega,fun h => by have:=(World.ownsRow.lt hI5.met b h).2;omega⟩,hb78.block b h2⟩)
             clear hw8 hb78 hb58 hb7 hO t0 t1 t2 t3 t4 tf hI5 GT5 HOC
             obtain ⟨t0,t1,t2,t3,t4,tf⟩:=five_at GT8
             obtain ⟨x0,x1,x2,x3,x4,x5,xf⟩:=six_of GX
             obtain ⟨b0,b1,b2,b3,b4,b5,bf⟩:=six_of hI8.b1
             have hmap : (acc ++ [(t.s,o)]).map (·.1) = ms ++ [t.s]:=by rw [List.map_append,HMS.out];rfl
             have HMAP:=Lh hmap
             clear hmap
             cases hk : (o.kind != 0)
             · have HK:=Lh (show o.kind = 0 by simpa using hk)
               go_wp2
               go_roundw
               case rel => exact ⟨z,fuel,acc ++ [(t.s,o)],_,_,css,hz1,by simp;have:=HACC.out;omega,rfl,by rw [HMAP.out];exact hI8.null HK.out,by omega,HX0⟩
               case measure => simp [intOf];omega
             · have HK:=Lh (show o.kind ≠ 0 by simpa using hk)
               go_wp2_with fail
               have hput:=rput w8 (w.heap.size + 2) n (mkDict acc).keys css t.s o.kind o.n o.g ⟨o.s.toArray⟩ p1 n1 c1 p2 n2 c2 (.slice kp n kc) (.slice dp n dc) hn (by have:=hI8.at'.1;rw [mk_len] at this;omega) (fun cs h => by
                 obtain ⟨i,hi,rfl⟩:=List.mem_iff_getElem.1 h
                 have hi2 : i < (mkDict acc).kids.length:=by rw [← hI8.at'.1];exact hi
                 obtain ⟨q1,m1,d1,q2,m2,d2,he⟩:=(hI8.at'.2 i _ _ (List.getElem?_eq_getElem hi) (List.getElem?_eq_getElem hi2)).2.shape
                 rw [he]
                 exact ⟨_,_,_,_,_,_,_,_,_,_,rfl⟩) (fun y hy he => HNE2.out (he ▸ keys_mem hy)) (by omega) (lt_of_block hI8.b1) hI8.keys (by have:=hI8.kids;rw [hn] at this;exact this)
               refine hput.mono ?_
               clear hput
               rintro e w9 ⟨P,g2,c4,g3,c5,hP,hgt,hle,rfl,ho1,ho2,ha1,ha2,hF⟩
               have hlow8 : ¬ ((Value.slice kp n kc).ownBlock = some (w.heap.size + 1) ∨ (Value.slice dp n dc).ownBlock = some (w.heap.size + 1)):=fun h => by
                 rcases h with h | h
                 · have:=own_base hI8.keys _ h;omega
                 · have:=own_base hI8.kids _ h;omega
               have B9:=(hF.block _ (lt_of_block hI8.b1) hlow8).trans hI8.b1
               obtain ⟨e0,e1,e2,e3,e4,e5,ef⟩:=six_of B9
               have B10:=set_six (v0:=.int .i64 7) (v1:=.int .i64 0) (v2:=.int .i64 0) (v3:=.string ⟨#[]⟩) (v4:=.slice (some ⟨g2,0,none⟩) (n + 1) c4) (v5:=.slice (some ⟨g3,0,none⟩) (n + 1) c5) B9
               have hg10:=set6_grown w9 (w.heap.size + 1) 0 1 2 3 4 5 (.int .i64 7) (.int .i64 0) (.int .i64 0) (.string ⟨#[]⟩) (.slice (some ⟨g2,0,none⟩) (n + 1) c4) (.slice (some ⟨g3,0,none⟩) (n + 1) c5)
               have HI10:=Lh (hI8.put (k:=t.s) (x:=o) (xc:=objCells o.kind o.n o.g o.s (.slice p1 n1 c1) (.slice p2 n2 c2)) HK.out HNE2.out hn hP hgt hle ho1 ho2 ha1 ha2 hF rfl hO8 B10 hg10)
               clear ho1 ho2 hF B10 hg10 hlow8 hgt hle B9
               go_wp2
               go_roundw
               case rel => exact ⟨z,fuel,acc ++ [(t.s,o)],_,_,_,hz1,by simp;have:=HACC.out;omega,rfl,by rw [HMAP.out];exact HI10.out,by omega,HX0⟩
               case measure => simp [intOf];omega
     · have u4 : (t.kind != 4) = true:=by simp at h4;simp [h4]
       cases h6 : (t.kind == 6)
       · cases h0 : (t.kind == 0)
         · have HX:=Lh (H.out.symm.trans (dS_form hnx h0 (by simp [h6]) h4))
           clear hnx H hp hq hqd h4
           go_wp2_with fail
           refine (HN.out _).mono ?_
           rintro e w1 ⟨rfl,hb1⟩
           go_upto_region 4 with fail
           obtain ⟨w3,hw3⟩ : ∃ w3,w1.alloc (.cells #[.int .i64 t.kind,.int .i64 p,.int .i64 q,.int .i64 t.n,.string ⟨t.s.toArray⟩] 70) = w3:=⟨_,rfl⟩
           rw [hw3]
           have hb3 : Below wr.heap.size wr w3:=by rw [← hw3];exact hb1.alloc hb1.size _
           have GT : w3.heap[w1.heap.size]? = some (.cells #[.int .i64 t.kind,.int .i64 p,.int .i64 q,.int .i64 t.n,.string ⟨t.s.toArray⟩] 70 (0,0)):=by rw [← hw3];exact new_at w1 _
           have htt2:=hb1.size
           obtain ⟨tt,htt⟩ : ∃ tt,w1.heap.size = tt:=⟨_,rfl⟩
           rw [htt] at GT htt2
           rw [htt]
           have hI3:=hI.below hb3
           have hlow3:=hI3.low
           have hz0 : w.heap.size < w3.heap.size:=by have:=lt_of_block hI3.b1;omega
           have ne1 : ¬ tt = w.heap.size:=by omega
           have ne2 : ¬ w.heap.size = tt:=by omega
           have ne3 : ¬ tt = w.heap.size + 1:=by omega
           have ne4 : ¬ w.heap.size + 1 = tt:=by omega
           obtain ⟨t0,t1,t2,t3,t4,tf⟩:=five_at GT
           obtain ⟨a0',a1,a2,a3,a4,a5,af⟩:=six_of hI3.b0
           obtain ⟨b0,b1,b2,b3,b4,b5,bf⟩:=six_of hI3.b1
           have hmlt : ∀ k,(Value.slice mp ms.length mc).ownBlock = some k → k < tt:=fun k hk => Nat.lt_of_lt_of_le (World.ownsRow.lt hI.met k hk).2 htt2
           clear hb1 hb3 hw3 htt hI HN
           go_wp2
           refine bodyPost_ret (v:=.tuple #[.agg #[.int .i64 0,.int .i64 0,.int .i64 0,.string ⟨#[]⟩,.slice none 0 0,.slice none 0 0],.int .i64 0,.int .i64 3]) (by simp [results,Tryz.results115,go_sem,a0',a1,a2,a3,a4,a5,af,hz0]) rfl ?_
           rw [HX.out]
           exact ⟨rfl,by have hb:=hlow3;exact bel⟩
         · have HX:=Lh (H.out.symm.trans (dS_eof hnx h0))
           clear hnx H hp hq hqd h4
           go_wp2_with fail
           refine (HN.out _).mono ?_
           rintro e w1 ⟨rfl,hb1⟩
           go_upto_region 4 with fail
           obtain ⟨w3,hw3⟩ : ∃ w3,w1.alloc (.cells #[.int .i64 t.kind,.int .i64 p,.int .i64 q,.int .i64 t.n,.string ⟨t.s.toArray⟩] 70) = w3:=⟨_,rfl⟩
           rw [hw3]
           have hb3 : Below wr.heap.size wr w3:=by rw [← hw3];exact hb1.alloc hb1.size _
           have GT : w3.heap[w1.heap.size]? = some (.cells #[.int .i64 t.kind,.int .i64 p,.int .i64 q,.int .i64 t.n,.string ⟨t.s.toArray⟩] 70 (0,0)):=by rw [← hw3];exact new_at w1 _
           have htt2:=hb1.size
           obtain ⟨tt,htt⟩ : ∃ tt,w1.heap.size = tt:=⟨_,rfl⟩
           rw [htt] at GT htt2
           rw [htt]
           have hI3:=hI.below hb3
           have hlow3:=hI3.low
           have hz0 : w.heap.size < w3.heap.size:=by have:=lt_of_block hI3.b1;omega
           have ne1 : ¬ tt = w.heap.size:=by omega
           have ne2 : ¬ w.heap.size = tt:=by omega
           have ne3 : ¬ tt = w.heap.size + 1:=by omega
           have ne4 : ¬ w.heap.size + 1 = tt:=by omega
           obtain ⟨t0,t1,t2,t3,t4,tf⟩:=five_at GT
           obtain ⟨a0',a1,a2,a3,a4,a5,af⟩:=six_of hI3.b0
           obtain ⟨b0,b1,b2,b3,b4,b5,bf⟩:=six_of hI3.b1
           have hmlt : ∀ k,(Value.slice mp ms.length mc).ownBlock = some k → k < tt:=fun k hk => Nat.lt_of_lt_of_le (World.ownsRow.lt hI.met k hk).2 htt2
           clear hb1 hb3 hw3 htt hI HN
           go_wp2
           refine bodyPost_ret (v:=.tuple #[.agg #[.int .i64 0,.int .i64 0,.int .i64 0,.string ⟨#[]⟩,.slice none 0 0,.slice none 0 0],.int .i64 0,.int .i64 4]) (by simp [results,Tryz.results115,go_sem,a0',a1,a2,a3,a4,a5,af,hz0]) rfl ?_
           rw [HX.out]
           exact ⟨rfl,by have hb:=hlow3;exact bel⟩
       · cases h7 : (t.s == [62,62])
         · have h0 : (t.kind == 0) = false:=by simp at h6;simp [h6]
           have HX:=Lh (H.out.symm.trans (dS_form hnx h0 (by simp [h7]) h4))
           clear hnx H hp hq hqd h4
           go_wp2_with fail
           refine (HN.out _).mono ?_
           rintro e w1 ⟨rfl,hb1⟩
           go_upto_region 4 with fail
           obtain ⟨w3,hw3⟩ : ∃ w3,w1.alloc (.cells #[.int .i64 t.kind,.int .i64 p,.int .i64 q,.int .i64 t.n,.string ⟨t.s.toArray⟩] 70) = w3:=⟨_,rfl⟩
           rw [hw3]
           have hb3 : Below wr.heap.size wr w3:=by rw [← hw3];exact hb1.alloc hb1.size _
           have GT : w3.heap[w1.heap.size]? = some (.cells #[.int .i64 t.kind,.int .i64 p,.int .i64 q,.int .i64 t.n,.string ⟨t.s.toArray⟩] 70 (0,0)):=by rw [← hw3];exact new_at w1 _
           have htt2:=hb1.size
           obtain ⟨tt,htt⟩ : ∃ tt,w1.heap.size = tt:=⟨_,rfl⟩
           rw [htt] at GT htt2
           rw [htt]
           have hI3:=hI.below hb3
           have hlow3:=hI3.low
           have hz0 : w.heap.size < w3.heap.size:=by have:=lt_of_block hI3.b1;omega
           have ne1 : ¬ tt = w.heap.size:=by omega
           have ne2 : ¬ w.heap.size = tt:=by omega
           have ne3 : ¬ tt = w.heap.size + 1:=by omega
           have ne4 : ¬ w.heap.size + 1 = tt:=by omega
           obtain ⟨t0,t1,t2,t3,t4,tf⟩:=five_at GT
           obtain ⟨a0',a1,a2,a3,a4,a5,af⟩:=six_of hI3.b0
           obtain ⟨b0,b1,b2,b3,b4,b5,bf⟩:=six_of hI3.b1
           have hmlt : ∀ k,(Value.slice mp ms.length mc).ownBlock = some k → k < tt:=fun k hk => Nat.lt_of_lt_of_le (World.ownsRow.lt hI.met k hk).2 htt2
           clear hb1 hb3 hw3 htt hI HN
           go_wp2
           refine bodyPost_ret (v:=.tuple #[.agg #[.int .i64 0,.int .i64 0,.int .i64 0,.string ⟨#[]⟩,.slice none 0 0,.slice none 0 0],.int .i64 0,.int .i64 3]) (by simp [results,Tryz.results115,go_sem,a0',a1,a2,a3,a4,a5,af,hz0]) rfl ?_
           rw [HX.out]
           exact ⟨rfl,by have hb:=hlow3;exact bel⟩
         · have HX:=Lh (show T = .good (acc,s.data.toList.drop q) by rw [← H.out,dS_end hnx h6 h7,hqd])
           clear hnx H hp hq hqd h4
           go_wp2_with fail
           refine (HN.out _).mono ?_
           rintro e w1 ⟨rfl,hb1⟩
           go_upto_region 4 with fail
           obtain ⟨w3,hw3⟩ : ∃ w3,w1.alloc (.cells #[.int .i64 t.kind,.int .i64 p,.int .i64 q,.int .i64 t.n,.string ⟨t.s.toArray⟩] 70) = w3:=⟨_,rfl⟩
           rw [hw3]
           have hb3 : Below wr.heap.size wr w3:=by rw [← hw3];exact hb1.alloc hb1.size _
           have GT : w3.heap[w1.heap.size]? = some (.cells #[.int .i64 t.kind,.int .i64 p,.int .i64 q,.int .i64 t.n,.string ⟨t.s.toArray⟩] 70 (0,0)):=by rw [← hw3];exact new_at w1 _
           have htt2:=hb1.size
           obtain ⟨tt,htt⟩ : ∃ tt,w1.heap.size = tt:=⟨_,rfl⟩
           rw [htt] at GT htt2
           rw [htt]
           have hI3:=hI.below hb3
           have hlow3:=hI3.low
           have hz0 : w.heap.size < w3.heap.size:=by have:=lt_of_block hI3.b1;omega
           have ne1 : ¬ tt = w.heap.size:=by omega
           have ne2 : ¬ w.heap.size = tt:=by omega
           have ne3 : ¬ tt = w.heap.size + 1:=by omega
           have ne4 : ¬ w.heap.size + 1 = tt:=by omega
           obtain ⟨t0,t1,t2,t3,t4,tf⟩:=five_at GT
           obtain ⟨a0',a1,a2,a3,a4,a5,af⟩:=six_of hI3.b0
           obtain ⟨b0,b1,b2,b3,b4,b5,bf⟩:=six_of hI3.b1
           have hmlt : ∀ k,(Value.slice mp ms.length mc).ownBlock = some k → k < tt:=fun k hk => Nat.lt_of_lt_of_le (World.ownsRow.lt hI.met k hk).2 htt2
           clear hb1 hb3 hw3 htt hI HN
           have hOB:=hI3.obj
           go_wp2_with fail
           go_region_held3 (fun w' => w'.cell? ⟨w.heap.size + 1,0,none⟩ = some (.int .i64 7) ∧ w'.cell? ⟨w.heap.size + 1,1,none⟩ = some (.int .i64 0) ∧ w'.cell? ⟨w.heap.size + 1,2,none⟩ = some (.int .i64 0) ∧ w'.cell? ⟨w.heap.size + 1,3,none⟩ = some (.string ⟨#[]⟩) ∧ w'.cell? ⟨w.heap.size + 1,4,none⟩ = some (.slice kp n kc) ∧ w'.cell? ⟨w.heap.size + 1,5,none⟩ = some (.slice dp n dc) ∧ w'.cell? ⟨tt,2,none⟩ = some (.int .i64 q)) (go_keep) (fail)
           all_goals go_wp2
           all_goals refine bodyPost_ret (v:=.tuple #[.agg #[.int .i64 7,.int .i64 0,.int .i64 0,.string ⟨#[]⟩,.slice kp n kc,.slice dp n dc],.int .i64 q,.int .i64 0]) (by simp [results,Tryz.results115,go_sem,a0',a1,a2,a3,a4,a5,af,hz0]) rfl ?_
           all_goals rw [HX.out]
           all_goals refine ⟨kp,n,kc,dp,n,dc,q,rfl,hqs,rfl,ObjAt.grow hOB ?_,?_⟩
           · intro b h1 h2
             refine ⟨by omega,?_⟩
             rw [heap_drew,Below.heap_setCell _ _ _ _ (by show b ≠ w.heap.size;omega),Below.heap_setCell _ _ _ _ (by show b ≠ w.heap.size;omega),Below.heap_setCell _ _ _ _ (by show b ≠ w.heap.size;omega),Below.heap_setCell _ _ _ _ (by show b ≠ w.heap.size;omega),Below.heap_setCell _ _ _ _ (by show b ≠ w.heap.size;omega),Below.heap_setCell _ _ _ _ (by show b ≠ w.heap.size;omega)]
           · have hb:=hlow3
             exact bel
theorem robj_in (s : ByteArray) (hs : s.size ≤ 1048576) : ∀ d,d ≤ 24 → RObjC s d
 | 0,_ => by
   intro a w ha hgood
   unfold objD
   cases hn : nextS (s.data.toList.drop a) with
   | bad k => exact robj_lex s 0 a k _ ha hs hn w
   | good x =>
     obtain ⟨t,r⟩:=x
     obtain ⟨h1,h0,rfl⟩:=nextS_good hn
     have hg:=(nextT_good h1).1
     have hq : a + (nextT (s.data.toList.drop a)).1 + t.len ≤ s.size:=by simp at hg;omega
     dsimp only
     rw [objS]
     cases hb : beginsS t
     · exact robj_form s 0 a _ _ t _ ha hs hq h1 rfl rfl (by simpa using h0) hb w
     · exact robj_deep s 0 a _ _ t _ ha hs hq h1 rfl rfl (by simpa using h0) hb (by omega) w
 | d + 1,hd => by
   intro a w ha hgood
   obtain ⟨z,hz⟩:=hgood
   unfold objD at hz ⊢
   cases hn : nextS (s.data.toList.drop a) with
   | bad k => exact robj_lex s (d + 1) a k _ ha hs hn w
   | good x =>
     obtain ⟨t,r⟩:=x
     rw [hn] at hz
     obtain ⟨h1,h0,hr⟩:=nextS_good hn
     have hg:=nextT_good h1
     obtain ⟨q,hq0⟩ : ∃ q,a + (nextT (s.data.toList.drop a)).1 + t.len = q:=⟨_,rfl⟩
     have hq : q ≤ s.size:=by have:=hg.1;simp at this;omega
     have hr2 : r = s.data.toList.drop q:=by rw [hr,List.drop_drop];congr 1;omega
     subst hr2
     have hk0 : (t.kind == 0) = false:=by simpa using h0
     have hdp : (25 : Int) - ((d + 1 : Nat) : Int) ≤ 24:=by omega
     dsimp only at hz ⊢
     rw [objS] at hz ⊢
     cases hb : beginsS t
     · exact robj_form s (d + 1) a _ q t _ ha hs hq h1 rfl hq0 hk0 hb w
     rw [hb] at hz
     simp only [if_true] at hz ⊢
     by_cases k1 : t.kind = 1
     · rw [if_pos k1]
       cases hf : refS t (s.data.toList.drop q) with
       | none => exact robj_int s (d + 1) a _ q t _ ha hs hq h1 rfl hq0 hk0 hb hdp k1 hf w
       | some x => obtain ⟨g,rr⟩:=x;exact robj_ref s (d + 1) a _ q t _ ha hs hq h1 rfl hq0 hk0 hb hdp k1 g rr hf w
     rw [if_neg k1] at hz ⊢
     by_cases k2 : t.kind = 2
     · rw [if_pos k2];exact robj_real s (d + 1) a _ q t _ ha hs hq h1 rfl hq0 hk0 hb hdp k2 w
     rw [if_neg k2] at hz ⊢
     by_cases k3 : t.kind = 3
     · rw [if_pos k3];exact robj_str s (d + 1) a _ q t _ ha hs hq h1 rfl hq0 hk0 hb hdp k3 w
     rw [if_neg k3] at hz ⊢
     by_cases k4 : t.kind = 4
     · rw [if_pos k4];exact robj_name s (d + 1) a _ q t _ ha hs hq h1 rfl hq0 hk0 hb hdp k4 w
     rw [if_neg k4] at hz ⊢
     by_cases k5 : t.kind = 5
     · rw [if_pos k5]
       by_cases hw : t.s = wNull
       · rw [if_pos hw];exact robj_null s (d + 1) a _ q t _ ha hs hq h1 rfl hq0 hk0 hb hdp k5 hw w
       · rw [if_neg hw];exact robj_bool s (d + 1) a _ q t _ ha hs hq h1 rfl hq0 hk0 hb hdp k5 hw w
     rw [if_neg k5] at hz ⊢
     have k6 : t.kind = 6:=by have:=hg.2.1;have:=hg.2.2.1;omega
     have e25 : (25 : Int) - ((d + 1 : Nat) : Int) = 24 - (d : Int):=by omega
     rw [e25]
     rw [e25] at hdp
     by_cases hw : t.s = [91]
     · rw [if_pos hw] at hz ⊢
       obtain ⟨A,hA⟩ : ∃ A,arrS (objS d) d ((s.data.toList.drop q).length + 1) (s.data.toList.drop q) [] = A:=⟨_,rfl⟩
       rw [hA] at hz
       cases A with
       | bad e => cases hz
       | good y =>
         refine robj_arr s (d + 1) a _ q t _ ha hs hq h1 rfl hq0 hk0 hb hdp k6 hw _ (fun W => ?_) w
         have h:=rarray s d hs (by omega) (robj_in s hs d (by omega)) q W hq ⟨_,hA⟩
         rw [hA] at h ⊢
         obtain ⟨ks,r⟩:=y
         exact h
     · rw [if_neg hw] at hz ⊢
       obtain ⟨A,hA⟩ : ∃ A,dictS (objS d) ((s.data.toList.drop q).length + 1) (s.data.toList.drop q) [] = A:=⟨_,rfl⟩
       rw [hA] at hz
       cases A with
       | bad e => cases hz
       | good y =>
         refine robj_dict s (d + 1) a _ q t _ ha hs hq h1 rfl hq0 hk0 hb hdp k6 hw _ (fun W => ?_) w
         have h:=rdict s d hs (by omega) (robj_in s hs d (by omega)) q W hq ⟨_,hA⟩
         rw [hA] at h ⊢
         obtain ⟨ks,r⟩:=y
         exact h
theorem readS_objD (l : L) : readS l = objD 24 l:=by
 unfold readS objD
 cases nextS l with
 | bad e => rfl
 | good x => rfl
def KObjOut (s : ByteArray) (w : World) (o : Ob) (rest : L) (e : Ending) (w' : World) : Prop :=
 ∃ (p1 : Option Addr) (n1 c1 : Nat) (p2 : Option Addr) (n2 c2 z : Nat), e = .returned (.tuple #[.agg #[.int .i64 o.kind, .int .i64 o.n, .int .i64 o.g, .string ⟨o.s.toArray⟩, .slice p1 n1 c1, .slice p2 n2 c2], .int .i64 z, .int .i64 0]) ∧ z ≤ s.size ∧ s.data.toList.drop z = rest ∧
     ObjAt (fun b => w.heap.size ≤ b) 25 w' (objCells o.kind o.n o.g o.s (.slice p1 n1 c1) (.slice p2 n2 c2)) o ∧ Below w.heap.size w w'
theorem kObject (s : ByteArray) (hs : s.size ≤ 1048576) (a : Nat) (ha : a ≤ s.size) (o : Ob) (rest : L) (hR : readS (s.data.toList.drop a) = .good (o, rest)) (w : World) :
   Calls Tryz.prog 37 #[.string s,.int .i64 a] w (KObjOut s w o rest):=by
 have hoc : ∀ W,Calls Tryz.prog 71 #[.string s,.int .i64 a,.int .i64 1] W (KObjOut s W o rest):=fun W => by
   rw [readS_objD] at hR
   have h:=robj_in s hs 24 (by omega) a W ha ⟨_,hR⟩
   rw [show (25 : Int) - ((24 : Nat) : Int) = 1 by omega,hR] at h
   exact h
 have HOC:=Lh hoc
 clear hoc hR
 have hz0 : decide ((a : Int) < 0) = false:=by simp
 have hz1 : decide (s.size < a) = false:=by simp;omega
 go_enter Tryz.func37,Tryz.ntmps37
 go_wp2_with fail
 refine (HOC.out _).mono ?_
 intro e w1 hpost
 have G0 : (w.alloc (.cells #[.int .i64 0,.int .i64 0,.int .i64 0,.string ⟨#[]⟩,.slice none 0 0,.slice none 0 0] 26)).heap[w.heap.size]? = _:=new_at w _
 obtain ⟨p1,n1,c1,p2,n2,c2,z,rfl,hz1,hz2,hO,hb1⟩:=hpost
 obtain ⟨a0,a1,a2,a3,a4,a5,af⟩:=six_at ((hb1.block _ (by simp)).trans G0)
 have l1 : w.heap.size < w1.heap.size:=by have:=hb1.size;simp at this;omega
 have HZ:=Lh hz2
 clear hz2
 go_wp2
 refine bodyPost_ret (v:=.tuple #[.agg #[.int .i64 o.kind,.int .i64 o.n,.int .i64 o.g,.string ⟨o.s.toArray⟩,.slice p1 n1 c1,.slice p2 n2 c2],.int .i64 z,.int .i64 0]) (by simp [results,Tryz.results37,go_sem,a0,a1,a2,a3,a4,a5,af,l1]) rfl ?_
 refine ⟨p1,n1,c1,p2,n2,c2,z,rfl,hz1,HZ.out,?_,bel⟩
 refine objAt_out (n:=(w.alloc (.cells #[.int .i64 0,.int .i64 0,.int .i64 0,.string ⟨#[]⟩,.slice none 0 0,.slice none 0 0] 26)).heap.size) hO (by simp) ?_
 intro b hb
 simp at hb
 rw [Below.heap_setCell _ _ _ _ (by show b ≠ w.heap.size;omega),Below.heap_setCell _ _ _ _ (by show b ≠ w.heap.size;omega),Below.heap_setCell _ _ _ _ (by show b ≠ w.heap.size;omega),Below.heap_setCell _ _ _ _ (by show b ≠ w.heap.size;omega),Below.heap_setCell _ _ _ _ (by show b ≠ w.heap.size;omega),Below.heap_setCell _ _ _ _ (by show b ≠ w.heap.size;omega)]
end Go.Proofs.YtfgdhcemidlnfaaGreatDoor
