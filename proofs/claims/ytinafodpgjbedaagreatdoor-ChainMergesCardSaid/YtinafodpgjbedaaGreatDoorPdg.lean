/- Parts of the proof: DictB DictC DictD Dict Parse FaceP Top. -/
import Derived.Test.YtinafodpgjbedaaGreatDoorPdf
import Derived.Test.YtinafodpgjbedaaGreatDoorPdd
import Derived.Deep.CutBlock
import Derived.Deep.DeepCutAuto
import Derived.Test.YtinafodpgjbedaaGreatDoorPdb
set_option linter.all false
set_option maxRecDepth 100000
set_option maxHeartbeats 8000000
namespace Go.Proofs.YtinafodpgjbedaaGreatDoor
open Go.RowKit Fo Go.Maps
theorem Tryz.infoStr : (Tryz.prog.info? 9).map (fun i => (i.zero,i.size,i.bytes)) = some (some (.string ⟨#[]⟩),1,16):=by kernel_rfl
def ownS (w : World) (B : Nat) (v : Value) (ss : List L) : Prop:=w.ownsRow B 9 1 v ss.length (ss.map encStr)
theorem ownS_nil (w : World) (B : Nat) : ownS w B (.slice none 0 0) []:=⟨by simp,.inl ⟨rfl,rfl⟩⟩
theorem ownS_alloc {w : World} {B : Nat} {v : Value} {ss : List L} (h : ownS w B v ss) (o : Go.Obj) : ownS (w.alloc o) B v ss:=World.ownsRow.alloc h o
theorem appendS {ops : Array Oper} {rest : List Oper} {o : Oper} {a : Act} {Q : Exit → Act → World → Prop} {w : World} (hgd : o.guard = none) (s x : Operand)
   (ho : o.op = .call { callee:=.builtin .append,args:=#[s,x],argTypes:=#[33,33] })
   (B : Nat) (v : Value) (ss : List L) (y : L) (hown : ownS w B v ss) (hs : a.eval s = v)
   (gx : Nat) (hx : a.eval x = .slice (some ⟨gx,0,none⟩) 1 1) (hgx : w.heap.size = gx) (hlen : ss.length ≤ 100000) (hB : B ≤ w.heap.size)
   (h : ∀ p c w',ownS w' B (.slice p (ss.length + 1) c) (ss ++ [y]) → Below B w w' → w.heap.size < w'.heap.size → wpList Tryz.prog ops Q rest (a.put o.dst (.slice p (ss.length + 1) c)) w') :
   wpList Tryz.prog ops Q (o :: rest) a (w.alloc (.cells #[.string ⟨y.toArray⟩] 9)):=by
 subst hgx
 obtain ⟨i0,hi,hz0,hz1,hz2⟩:=info_parts Tryz.infoStr
 refine wpList_append_own _ hgd s x 33 ho B 9 i0 (.string ⟨#[]⟩) 1 16 Tryz.underlying33 hi hz0 hz1 hz2 rfl (by decide) v ss.length _ hs (hown.alloc _) ⟨w.heap.size,0,none⟩ 1 1 [.string ⟨y.toArray⟩] hx rfl ?_ ?_ ?_ ?_ ?_ ?_
 · intro j u hj
   have hj0 : j = 0:=by
     rcases j with _ | j
     · rfl
     · simp at hj
   subst hj0
   simp at hj;subst hj
   rw [show (⟨w.heap.size,0,none⟩ : Addr).add 0 = ⟨w.heap.size,0,none⟩ from rfl,World.cell?_alloc_at _ _ _ _ rfl];rfl
 · intro u hu;simp at hu;subst hu;rfl
 · unfold maxLen;omega
 · omega
 · simp;omega
 · intro v' w' hown' hg _
   obtain ⟨p,c,rfl⟩:=own_slice hown'
   refine h p c w' ?_ (((Below.refl B w).alloc hB _).trans ((Below.refl B _).grown hg (by simp;omega) (own_base hown))) (by have:=hg.size;simp at this;omega)
   unfold ownS
   simpa using hown'
def keepB (vals : List (L × Obv)) (x : L) : Bool:=vals.any fun p => p.1 == x && p.2.k != 0
theorem keepB_at {D : DataW Value} {vals : List (L × Obv)} (h : MapIs D vals) {x : L} {c : Obv} (hh : Maps.has D (.string x) = true) (hat : ∀ z,D.atKey (.string x) z = .held c.val) : keepB vals x = (c.k != 0) ∧ (x,c) ∈ vals:=by
 rw [h.has] at hh
 obtain ⟨p,hp,hpx⟩:=List.any_eq_true.1 hh
 have hpx' : p.1 = x:=by simpa using hpx
 have h1:=h.at' p hp .nil
 rw [hpx',hat] at h1
 have h2 : c.val = p.2.val:=by simpa using h1
 have h3 : c = p.2:=by
   unfold Obv.val at h2
   cases c;cases hpp : p.2
   rw [hpp] at h2
   simp at h2 ⊢
   obtain ⟨a1,a2,a3,a4,⟨a5,a6,a7⟩,a8,a9,a10⟩:=h2
   exact ⟨a1,a2,a3,a4,a5,a6,a7,a8,a9,a10⟩
 refine ⟨?_,by rw [h3,← hpx'];exact hp⟩
 unfold keepB
 cases hk : (c.k != 0)
 · rw [List.any_eq_false]
   intro q hq
   by_cases hqx : q.1 = x
   · have : q = p := by
       have hn:=h.nodup
       obtain ⟨i,hi,rfl⟩:=List.mem_iff_getElem.1 hq
       obtain ⟨j,hj,rfl⟩:=List.mem_iff_getElem.1 hp
       by_cases hij : i = j
       · subst hij;rfl
       · exfalso
         have hne:=List.pairwise_iff_getElem.1 hn
         rcases Nat.lt_or_gt_of_ne hij with h | h
         · exact hne i j (by simpa using hi) (by simpa using hj) h (by simp [hqx,hpx'])
         · exact hne j i (by simpa using hj) (by simpa using hi) h (by simp [hqx,hpx'])
     subst this
     rw [← h3];simp [hk]
   · simp [hqx]
 · exact List.any_eq_true.2 ⟨p,hp,by rw [← h3];simp [hpx',hk]⟩
theorem ranges_of {P : Program} {k : TypeId} {R : Value → Option (DataW Value × List MemPlace)} {w w' : World} {b r n : Nat} {D : DataW Value} {left : Lit → Bool} {cnt : Nat} (h : w.ranges P k R b r n D left cnt)
   (hb : w'.heap[b]? = w.heap[b]?) (hr : w'.heap[r]? = w.heap[r]?) : w'.ranges P k R b r n D left cnt:=by
 obtain ⟨es,clock,since,seen,c0,h1,F,hs,hD,h2,rest⟩:=h
 exact ⟨es,clock,since,seen,c0,hb.trans h1,F,hs,hD,hr.trans h2,rest⟩
structure RInv (wc : World) (bm n : Nat) (vals : List (L × Obv)) (D : DataW Value) (wr : World) (left : Lit → Bool) (cnt : Nat) (sa : List L) (v : Value) : Prop where
 hbm : bm < wc.heap.size
 hrg : wr.ranges Tryz.prog 9 obR bm (wc.heap.size + 1) n D left cnt
 hC : Collected D left sa
 hob : wr.heap[wc.heap.size]? = some (.cells #[.int .i64 7,.int .i64 0,.int .i64 0,.string ⟨#[]⟩,v,.slice none 0 0] 36 (0,0))
 hown : ownS wr (wc.heap.size + 2) v (sa.filter (keepB vals))
 hb : Below wc.heap.size wc wr
 hcnt : sa.length + cnt ≤ Maps.size D
theorem RInv.skip {wc : World} {bm n : Nat} {vals : List (L × Obv)} {D : DataW Value} {wr w2 : World} {left : Lit → Bool} {cnt cnt2 : Nat} {sa : List L} {v : Value} {x : L} {c : Obv} (h : RInv wc bm n vals D wr left cnt sa v)
   (hlk : left (.string x) = true) (hat : ∀ zd,D.atKey (.string x) zd = .held c.val) (hrg2 : w2.ranges Tryz.prog 9 obR bm (wc.heap.size + 1) n D (fun z => left z && !z.sameKey (.string x)) cnt2) (hlt : cnt2 < cnt) (hg2 : wr.grownBy w2 (some (wc.heap.size + 1)))
   (hk : keepB vals x = false) (o : Go.Obj) : RInv wc bm n vals D (w2.alloc o) (fun z => left z && !z.sameKey (.string x)) cnt2 (sa ++ [x]) v:=by
 have l1:=h.hrg.lt
 have l2:=hg2.size
 have hbk : ∀ k,k < wc.heap.size + 1 → w2.heap[k]? = wr.heap[k]?:=fun k hk => hg2.block k (by omega) (by simp;omega)
 refine ⟨h.hbm,hrg2.alloc o,h.hC.step hlk hat,?_,?_,?_,by have:=h.hcnt;simp;omega⟩
 · rw [Below.heap_alloc _ _ _ (by omega),hbk _ (by omega)];exact h.hob
 · rw [List.filter_append]
   have : [x].filter (keepB vals) = []:=by simp [hk]
   rw [this,List.append_nil]
   have hne:=own_base h.hown
   exact (World.ownsRow.kept h.hown hg2 (.inr (by intro h;have:=hne _ h;omega))).alloc o
 · have hs:=h.hb.size
   exact ⟨hg2.os.trans h.hb.os,hg2.tape.trans h.hb.tape,hg2.output.trans h.hb.output,by simp;omega,fun k hk => by
     rw [Below.heap_alloc _ _ _ (by omega),hbk k (by omega)];exact h.hb.block k hk⟩
theorem RInv.push {wc : World} {bm n : Nat} {vals : List (L × Obv)} {D : DataW Value} {wr w2 wz : World} {left : Lit → Bool} {cnt cnt2 : Nat} {sa : List L} {v v' : Value} {x : L} {c : Obv} (h : RInv wc bm n vals D wr left cnt sa v)
   (hlk : left (.string x) = true) (hat : ∀ zd,D.atKey (.string x) zd = .held c.val) (hrg2 : w2.ranges Tryz.prog 9 obR bm (wc.heap.size + 1) n D (fun z => left z && !z.sameKey (.string x)) cnt2) (hlt : cnt2 < cnt) (hg2 : wr.grownBy w2 (some (wc.heap.size + 1)))
   (hk : keepB vals x = true) (o : Go.Obj) (hbz : Below (wc.heap.size + 2) (w2.alloc o) wz) (hown : ownS wz (wc.heap.size + 2) v' (sa.filter (keepB vals) ++ [x])) :
   RInv wc bm n vals D (wz.setCell ⟨wc.heap.size,4,none⟩ v') (fun z => left z && !z.sameKey (.string x)) cnt2 (sa ++ [x]) v':=by
 have l1:=h.hrg.lt
 have l2:=hg2.size
 have l3:=hbz.size
 simp at l3
 have hbk : ∀ k,k < wc.heap.size + 1 → w2.heap[k]? = wr.heap[k]?:=fun k hk => hg2.block k (by omega) (by simp;omega)
 have hbk2 : ∀ k,k < wc.heap.size + 2 → wz.heap[k]? = w2.heap[k]?:=fun k hk => (hbz.block k hk).trans (Below.heap_alloc _ _ _ (by omega))
 have hset : ∀ k,k ≠ wc.heap.size → (wz.setCell ⟨wc.heap.size,4,none⟩ v').heap[k]? = wz.heap[k]?:=fun k hk => Below.heap_setCell _ _ _ _ hk
 have hbm:=h.hbm
 refine ⟨hbm,ranges_of hrg2 ?_ ?_,h.hC.step hlk hat,?_,?_,?_,by have:=h.hcnt;simp;omega⟩
 · rw [hset _ (by omega),hbk2 _ (by omega)]
 · rw [hset _ (by omega),hbk2 _ (by omega)]
 · refine set_fourth (v4:=v) ?_
   rw [hbk2 _ (by omega),hbk _ (by omega)];exact h.hob
 · rw [List.filter_append]
   have : [x].filter (keepB vals) = [x]:=by simp [hk]
   rw [this]
   have hne:=own_base hown
   refine World.ownsRow.kept hown (row:=some wc.heap.size) ⟨rfl,rfl,rfl,by simp [World.setCell],fun k h1 h2 => hset k (by intro h;exact h2 (by rw [h]))⟩ (.inr (by intro h;have:=hne _ h;omega))
 · have hs:=h.hb.size
   exact ⟨hbz.os.trans (hg2.os.trans h.hb.os),hbz.tape.trans (hg2.tape.trans h.hb.tape),hbz.output.trans (hg2.output.trans h.hb.output),by simp [World.setCell];omega,fun k hk => by
     rw [hset k (by omega),hbk2 k (by omega),hbk k (by omega)];exact h.hb.block k hk⟩
open Go.RowKit Fo Go.Maps
theorem isort_length (l : List L) : (isort l).length = l.length:=(isort_perm l).length_eq
theorem sort_in (B : Nat) (v : Value) (ss : List L) (w : World) (h : ownS w B v ss) (hB : B ≤ w.heap.size) (hl : ss.length ≤ 100000) :
   Calls Tryz.prog 234 #[v] w fun e w' => e = .returned (.tuple #[]) ∧ ownS w' B v (isort ss) ∧ Below B w w':=by
 rcases h.2 with ⟨h1,h2⟩ | ⟨g,cap,cur,rfl,hbase,hb,h1,h2,h3,h4⟩
 · have : ss = []:=List.eq_nil_of_length_eq_zero h2
   subst this;subst h1
   refine (Tryz.slices_Sort_string_none none 0 w).mono ?_
   rintro e w' ⟨rfl,rfl⟩
   exact ⟨rfl,h,Below.refl _ _⟩
 · refine (Tryz.slices_Sort_string g 0 cap ss w (holds_of_block hb (by simpa using h4)) (Array.getElem?_eq_some_iff.1 hb).1 (by omega)).mono ?_
   rintro e w' ⟨rfl,n,os,rfl⟩
   refine ⟨rfl,?_,(Below.refl B w).grown (grownBy_sorted _) hB (by intro k hk;cases hk;exact hbase)⟩
   have hm : ss.mergeSort (fun x y => decide (x ≤ y)) = isort ss:=isort_merge ss ss (List.Perm.refl _)
   rw [hm]
   have:=ownsRow_sorted (n:=n) (os:=os) (isort_length ss) hbase hb h1 h2 h3
   unfold ownS
   rw [isort_length];exact this
theorem appendO {ops : Array Oper} {rest : List Oper} {o : Oper} {a : Act} {Q : Exit → Act → World → Prop} {w : World} (hgd : o.guard = none) (s x : Operand)
   (ho : o.op = .call { callee:=.builtin .append,args:=#[s,x],argTypes:=#[34,34] })
   (B n : Nat) (v : Value) (xs : List Value) (c : Obv) (hown : w.ownsRow B 36 6 v n xs) (hs : a.eval s = v)
   (gx : Nat) (hx : a.eval x = .slice (some ⟨gx,0,none⟩) 1 1) (hgx : w.heap.size = gx) (hlen : n ≤ 100000) (hB : B ≤ w.heap.size)
   (h : ∀ g cap w',w'.ownsRow B 36 6 (.slice (some ⟨g,0,none⟩) (n + 1) cap) (n + 1) (xs ++ objCells c.k c.n c.g c.s (.slice c.p1 c.n1 c.c1) (.slice c.p2 c.n2 c.c2)) →
     (w.alloc (.cells #[.int .i64 c.k,.int .i64 c.n,.int .i64 c.g,.string ⟨c.s.toArray⟩,.slice c.p1 c.n1 c.c1,.slice c.p2 c.n2 c.c2] 36)).grownBy w' v.ownBlock → (v.ownBlock = some g ∨ g = w.heap.size + 1) → g < w'.heap.size →
     wpList Tryz.prog ops Q rest (a.put o.dst (.slice (some ⟨g,0,none⟩) (n + 1) cap)) w') :
   wpList Tryz.prog ops Q (o :: rest) a (w.alloc (.cells #[.int .i64 c.k,.int .i64 c.n,.int .i64 c.g,.string ⟨c.s.toArray⟩,.slice c.p1 c.n1 c.c1,.slice c.p2 c.n2 c.c2] 36)):=by
 subst hgx
 obtain ⟨i0,hi,hz0,hz1,hz2⟩:=info_parts Tryz.infoOb
 refine wpList_append_lies _ hgd s x 34 ho B 36 i0 _ 6 88 Tryz.underlying34 hi hz0 hz1 hz2 rfl (by omega) v n xs hs (hown.alloc _) ⟨w.heap.size,0,none⟩ 1 1
   (objCells c.k c.n c.g c.s (.slice c.p1 c.n1 c.c1) (.slice c.p2 c.n2 c.c2)) hx rfl (World.news_of_block (cs:=#[.int .i64 c.k,.int .i64 c.n,.int .i64 c.g,.string ⟨c.s.toArray⟩,.slice c.p1 c.n1 c.c1,.slice c.p2 c.n2 c.c2]) (t:=36) (fr:=(0,0)) (heap_alloc_new w _))
   ?_ (by omega) (by unfold maxLen;omega) (by omega) (by simp;omega) (w.heap.size + 1) (by simp) h
 intro u hu;simp [objCells] at hu;rcases hu with rfl | rfl | rfl | rfl | rfl | rfl <;> rfl
def cellsO (c : Obv) : List Value:=objCells c.k c.n c.g c.s (.slice c.p1 c.n1 c.c1) (.slice c.p2 c.n2 c.c2)
def zeroO : Obv:=⟨0,0,0,[],none,0,0,none,0,0⟩
def valAt (vals : List (L × Obv)) (x : L) : Obv:=((vals.find? fun p => p.1 == x).map (·.2)).getD zeroO
theorem valAt_mem {vals : List (L × Obv)} (h : (vals.map (·.1)).Nodup) {x : L} {c : Obv} (hm : (x,c) ∈ vals) : valAt vals x = c:=by
 induction vals with
 | nil => cases hm
 | cons y ps ih =>
   rw [List.map_cons,List.nodup_cons] at h
   rcases List.mem_cons.1 hm with rfl | hm'
   · simp [valAt]
   · have : y.1 ≠ x := by
       intro he;apply h.1;rw [he];exact List.mem_map.2 ⟨(x,c),hm',rfl⟩
     have:=ih h.2 hm'
     unfold valAt at *
     rw [List.find?_cons_of_neg (by simpa using ‹y.1 ≠ x›)]
     exact this
structure KInv (wo : World) (bm n : Nat) (vals : List (L × Obv)) (D : DataW Value) (ks : List L) (v : Value) (wr : World) (k : Nat) (kv : Value) : Prop where
 hbm : bm < wo.heap.size
 hk : k ≤ ks.length
 hown : wr.ownsMap Tryz.prog 9 obR bm n D
 hob : wr.heap[wo.heap.size]? = some (.cells #[.int .i64 7,.int .i64 0,.int .i64 0,.string ⟨#[]⟩,v,kv] 36 (0,0))
 hkeys : ownS wr (wo.heap.size + 2) v ks
 hrow : wr.ownsRow (wo.heap.size + 2) 36 6 kv k (((ks.take k).map fun x => cellsO (valAt vals x)).flatten)
 hne : ∀ b,v.ownBlock = some b → kv.ownBlock ≠ some b
 hb : Below wo.heap.size wo wr
theorem KInv.step {wo : World} {bm n : Nat} {vals : List (L × Obv)} {D : DataW Value} {ks : List L} {v : Value} {wr : World} {k : Nat} {kv : Value} (h : KInv wo bm n vals D ks v wr k kv) (hk : k < ks.length) {wz : World} {g cap : Nat} {o : Go.Obj} {c : Obv}
   (hc : valAt vals (ks.getD k []) = c)
   (hown : wz.ownsRow (wo.heap.size + 2) 36 6 (.slice (some ⟨g,0,none⟩) (k + 1) cap) (k + 1) (((ks.take k).map fun x => cellsO (valAt vals x)).flatten ++ cellsO c))
   (hg : (wr.alloc o).grownBy wz kv.ownBlock) (hat : kv.ownBlock = some g ∨ g = wr.heap.size + 1) :
   KInv wo bm n vals D ks v (wz.setCell ⟨wo.heap.size,5,none⟩ (.slice (some ⟨g,0,none⟩) (k + 1) cap)) (k + 1) (.slice (some ⟨g,0,none⟩) (k + 1) cap):=by
 have hlo:=own_base h.hrow
 have hlt : wo.heap.size < wr.heap.size:=lt_of_block h.hob
 have hgs:=hg.size
 simp at hgs
 have keep : ∀ b,b < wr.heap.size → kv.ownBlock ≠ some b → wz.heap[b]? = wr.heap[b]?:=fun b h1 h2 => (hg.block b (by simp;omega) (Ne.symm h2)).trans (Below.heap_alloc _ _ _ h1)
 have nlow : ∀ b,b < wo.heap.size + 2 → kv.ownBlock ≠ some b:=fun b h1 h2 => by have:=hlo b h2;omega
 have hset : ∀ b,b ≠ wo.heap.size → (wz.setCell ⟨wo.heap.size,5,none⟩ (.slice (some ⟨g,0,none⟩) (k + 1) cap)).heap[b]? = wz.heap[b]?:=fun b hb => Below.heap_setCell _ _ _ _ hb
 have hgb : wz.grownBy (wz.setCell ⟨wo.heap.size,5,none⟩ (.slice (some ⟨g,0,none⟩) (k + 1) cap)) (some wo.heap.size):=⟨rfl,rfl,rfl,by simp [World.setCell],fun b h1 h2 => hset b (by intro h;exact h2 (by rw [h]))⟩
 have hbm:=h.hbm
 have hloK:=own_base h.hkeys
 refine ⟨hbm,hk,?_,?_,?_,?_,?_,?_⟩
 · obtain ⟨es,clock,h1,F,h2,h3⟩:=h.hown
   exact ⟨es,clock,by rw [hset _ (by omega),keep _ (by omega) (nlow _ (by omega))];exact h1,F,h2,h3⟩
 · refine set_fifth (v5:=kv) ?_
   rw [keep _ (by omega) (nlow _ (by omega))];exact h.hob
 · have h1 : ownS wz (wo.heap.size + 2) v ks := by
     refine World.ownsRow.kept (World.ownsRow.alloc h.hkeys o) hg ?_
     cases hv : v.ownBlock with
     | none => exact .inl rfl
     | some b => exact .inr (fun e => h.hne b hv e.symm)
   exact World.ownsRow.kept h1 hgb (.inr (by intro e;have:=hloK _ e;omega))
 · have hgl:=own_base hown
   have : (ks.take (k + 1)).map (fun x => cellsO (valAt vals x)) = (ks.take k).map (fun x => cellsO (valAt vals x)) ++ [cellsO c]:=by
     rw [List.take_succ_eq_append_getElem hk,List.map_append,← hc];simp [List.getD,hk]
   rw [this,List.flatten_append]
   have h2:=World.ownsRow.kept hown hgb (.inr (by intro e;have:=hgl _ e;omega))
   simpa using h2
 · intro b hv
   rcases hat with h1 | h1
   · intro e
     simp [Value.ownBlock] at e
     exact h.hne b hv (by rw [h1,e])
   · intro e
     simp [Value.ownBlock] at e
     have:=(World.ownsRow.lt h.hkeys b hv).2
     omega
 · have hs:=h.hb.size
   exact ⟨hg.os.trans h.hb.os,hg.tape.trans h.hb.tape,hg.output.trans h.hb.output,by simp [World.setCell];omega,fun b hb => by
     rw [hset b (by omega),keep b (by omega) (nlow b (by omega))];exact h.hb.block b hb⟩
open Go.RowKit Fo Go.Maps
theorem cellsO_k {c : Obv} {o : Ob} {S : Nat → Prop} {d : Nat} {w : World} (h : ObjAt S d w (cellsO c) o) : c.k = o.kind:=by
 obtain ⟨p1,n1,c1,p2,n2,c2,e⟩:=h.shape
 unfold cellsO objCells at e
 simp at e
 exact e.1
theorem val_of_pair {S : Nat → Prop} {d : Nat} {w : World} {vals : List (L × Obv)} {acc : List (L × Ob)} (hkeys : vals.map (·.1) = acc.map (·.1)) (hkids : KidsAt S d w (vals.map fun p => cellsO p.2) (acc.map (·.2))) {x : L} {o : Ob} (hm : (x, o) ∈ acc) :
   ∃ c,(x,c) ∈ vals ∧ ObjAt S d w (cellsO c) o:=by
 obtain ⟨i,hi,he⟩:=List.mem_iff_getElem.1 hm
 have hl : vals.length = acc.length:=by have:=congrArg List.length hkeys;simpa using this
 have hi2 : i < vals.length:=by omega
 have hk : vals[i].1 = x:=by
   have h1 : (vals.map (·.1))[i]? = (acc.map (·.1))[i]?:=by rw [hkeys]
   simp [hi,hi2,he] at h1
   exact h1
 refine ⟨vals[i].2,?_,?_⟩
 · rw [← hk];exact List.getElem_mem hi2
 · exact (hkids.2 i (cellsO vals[i].2) o (by simp [hi2]) (by simp [hi,he])).2
theorem keepB_val {vals : List (L × Obv)} (hn : (vals.map (·.1)).Nodup) {x : L} {c : Obv} (hm : (x,c) ∈ vals) : keepB vals x = (c.k != 0):=by
 unfold keepB
 cases hk : (c.k != 0)
 · rw [List.any_eq_false]
   intro q hq
   by_cases hqx : q.1 = x
   · have h1:=valAt_mem hn hm
     have h2:=valAt_mem hn (x:=x) (c:=q.2) (by rw [← hqx];exact hq)
     rw [h1] at h2
     rw [← h2];simp [hk]
   · simp [hqx]
 · exact List.any_eq_true.2 ⟨(x,c),hm,by simp [hk]⟩
theorem keys_perm {S : Nat → Prop} {d : Nat} {w : World} {vals : List (L × Obv)} {acc : List (L × Ob)} {D : DataW Value} {n b : Nat} (hown : w.ownsMap Tryz.prog 9 obR b n D) (hmi : MapIs D vals) (hkeys : vals.map (·.1) = acc.map (·.1))
   (hkids : KidsAt S d w (vals.map fun p => cellsO p.2) (acc.map (·.2))) {sa : List L} (hP : sa.Perm (strKeys D)) : (sa.filter (keepB vals)).Perm ((acc.filter fun p => p.2.kind != 0).map (·.1)):=by
 obtain ⟨es,hD,hpw,_⟩:=hown.entries Tryz.keyed
 obtain ⟨es',hD',hko⟩:=hown.keysOf
 obtain rfl : es = es':=by rw [hD] at hD';simpa using hD'
 have h1 : (acc.map (·.1)).Perm (strKeys D):=by
   rw [hD]
   refine perm_strKeys hpw (fun p hp => by obtain ⟨v,hv⟩:=hko p hp;obtain ⟨x,_,hx,_⟩:=Maps.keyOf_str Tryz.underlying9 hv;exact ⟨x,hx⟩) (hkeys ▸ hmi.nodup) (fun x => ?_)
   rw [← hD,hmi.has,any_keys hkeys,List.any_eq_true,List.mem_map]
   exact ⟨fun ⟨p,h1,h2⟩ => ⟨p,h1,by simpa using h2⟩,fun ⟨p,h1,h2⟩ => ⟨p,h1,by simpa using h2⟩⟩
 have h2:=(hP.trans h1.symm).filter (keepB vals)
 rw [List.filter_map] at h2
 refine h2.trans ?_
 have h3 : acc.filter (keepB vals ∘ (·.1)) = acc.filter fun p => p.2.kind != 0:=by
   apply List.filter_congr
   intro p hp
   obtain ⟨c,hc,hO⟩:=val_of_pair hkeys hkids (x:=p.1) (o:=p.2) hp
   show keepB vals p.1 = _
   rw [keepB_val hmi.nodup hc,cellsO_k hO]
 rw [h3]
theorem keysAt_own {S : Nat → Prop} {w : World} {B : Nat} {v : Value} {ks : List L} (h : ownS w B v ks) (hS : ∀ b,B ≤ b → S b) : KeysAt S w v ks:=by
 rcases h.2 with ⟨h1,h2⟩ | ⟨g,cap,cur,h1,h2,h3⟩
 · exact .inl ⟨List.eq_nil_of_length_eq_zero h2,_,_,h1⟩
 · refine .inr ⟨g,0,cap,h1,hS g h2,fun i hi => ?_⟩
   have:=World.ownsRow.cellAt (g:=g) (cap:=cap) (by rw [← h1];exact h) i (by omega)
   rw [show 0 + i = i by omega,this]
   simp [hi]
theorem dict_out {s : ByteArray} {m : Int} {d r : Nat} {w wo wr : World} {a n : Nat} {acc : List (L × Ob)} {vals : List (L × Obv)} {D : DataW Value} (hE : DEnd s m d r w wo a acc vals D) {sa ks : List L} {v kv : Value} (hP : sa.Perm (strKeys D)) (hks : isort (sa.filter (keepB vals)) = ks)
   (hI : KInv wo (w.heap.size + 1) n vals D ks v wr ks.length kv) : ObjAt (fun b => w.heap.size + 1 ≤ b) (d + 2) wr (objCells 7 0 0 [] v kv) (mkDict acc):=by
 have hw:=hE.hown.lt
 have hkeq : isort ((acc.filter fun p => p.2.kind != 0).map (·.1)) = ks:=by
   rw [← hks]
   have hp:=keys_perm (d:=d + 1) hE.hown hE.hmi hE.hkeys hE.hkids hP
   exact (isort_of_perm (hp.symm.trans (isort_perm _).symm) (isort_sorted _)).symm
 have hnda : (acc.map (·.1)).Nodup:=hE.hkeys ▸ hE.hmi.nodup
 have hmem : ∀ x ∈ ks,∃ o,(x,o) ∈ acc:=by
   intro x hx
   rw [← hkeq] at hx
   have:=(isort_perm _).mem_iff.1 hx
   obtain ⟨p,hp,rfl⟩:=List.mem_map.1 this
   exact ⟨p.2,(List.mem_filter.1 hp).1⟩
 have hkids : KidsAt (fun b => w.heap.size + 1 ≤ b ∧ b < wo.heap.size) (d + 1) wr (ks.map fun x => cellsO (valAt vals x)) (ks.map fun k => ((acc.find? fun p => p.1 == k).map (·.2)).getD .zero):=by
   refine ⟨by simp,fun i cs o h1 h2 => ?_⟩
   rw [List.getElem?_map] at h1 h2
   cases hx : ks[i]? with
   | none => rw [hx] at h1;cases h1
   | some x =>
     rw [hx] at h1 h2
     simp only [Option.map_some,Option.some.injEq] at h1 h2
     obtain ⟨o',ho⟩:=hmem x (List.mem_of_getElem? hx)
     obtain ⟨c,hc,hO⟩:=val_of_pair hE.hkeys hE.hkids ho
     have e1 : valAt vals x = c:=valAt_mem hE.hmi.nodup hc
     have e2 : acc.find? (fun p => p.1 == x) = some (x,o'):=find_pair hnda ho
     rw [e2] at h2
     rw [e1] at h1
     simp at h2
     subst h1;subst h2
     refine ⟨rfl,hO.grow (fun b hb1 hb2 => ⟨⟨by omega,hb2⟩,hI.hb.block b hb2⟩)⟩
 have hrow:=hI.hrow
 rw [List.take_of_length_le (Nat.le_refl _)] at hrow
 have hlen : (ks.map fun k => ((acc.find? fun p => p.1 == k).map (·.2)).getD Ob.zero).length = ks.length:=by simp
 rw [← hlen] at hrow
 have hk2:=kids_at (S':=fun b => w.heap.size + 1 ≤ b) hrow hkids (fun b hb => hb.1) (fun b hb => by omega)
 unfold mkDict
 rw [hkeq]
 exact ⟨_,_,rfl,keysAt_own hI.hkeys (fun b hb => by omega),hk2⟩
open Go.RowKit Fo Go.Maps
theorem zeroOb (w : World) : (zeroValue 36).run Tryz.prog w = .ok (Obv.val ⟨0,0,0,[],none,0,0,none,0,0⟩) w:=by kernel_rfl
theorem dict_in (s : ByteArray) (m : Int) (d : Nat) (hs : s.size ≤ 140737488355327) (hd : d ≤ 24) (HO : ObjC s m d) : DictC s m d:=by
 intro r a0 w ha0 hm0 hr0
 have hlt:=hr0.lt
 obtain ⟨T,hT⟩ : ∃ T,dictS (objS d) ((s.data.toList.drop a0).length + 1) (s.data.toList.drop a0) [] = T:=⟨_,rfl⟩
 rw [hT]
 have HT:=Lh hT;clear hT
 have HC:=Lh HO;clear HO
 have hmm:=@run_makeMap Tryz.prog
 go_enter Tryz.func194,Tryz.ntmps194
 go_upto_block 0 with fail
 go_cut [] (fun wx => ∃ (a : Nat) (acc : List (L × Ob)) (vals : List (L × Obv)) (D : DataW Value),DEnd s m d r w wx a acc vals D ∧ Hid (T = .good (acc,s.data.toList.drop a)))
 case first =>
   go_wp2_with fail
   go_loopw [6] (fun _ wr => ∃ (a fuel : Nat) (acc : List (L × Ob)) (vals : List (L × Obv)) (D : DataW Value),DInv s m d r w T wr a fuel acc vals D) (fun _ wr => s.size - rdPos wr r)
   case atStart =>
     refine ⟨a0,_,[],[],.map [],ha0,hr0.below bel,(Below.heap_alloc _ _ _ (by simp)).trans (heap_new_at _ _ _ rfl),?_,MapIs.nil,rfl,KidsAt.nil,(by repeat' (first | (with_reducible exact Bes.refl _ _) | (with_reducible refine Bes.drew ?_) | (with_reducible refine Bes.drewN ?_ _) | (with_reducible refine Bes.alloc ?_ _) | (with_reducible refine Bes.setCell ?_ _ _) | (with_reducible refine Bes.setCell_new ?_ ?_ _) | (with_reducible refine Bes.belowB ?_ hb5 ?_) | (with_reducible refine Bes.belowB ?_ hb4 ?_) | (with_reducible refine Bes.belowB ?_ hb3 ?_) | (with_reducible refine Bes.belowB ?_ hb2 ?_) | (with_reducible refine Bes.belowB ?_ hb1 ?_) | (with_reducible refine Bes.belowB ?_ hbr ?_) | (with_reducible refine Bes.belowB ?_ hb ?_) | (with_reducible refine Bes.trans ?_ hs5) | (with_reducible refine Bes.trans ?_ hs4) | (with_reducible refine Bes.trans ?_ hs3) | (with_reducible refine Bes.trans ?_ hs2) | (with_reducible refine Bes.trans ?_ hs1) | (show _ ≤ _;simp;done) | (show _ ≤ _;simp;omega) | omega)),hm0.below bel,by simp,?_,HT.out⟩
     · have:=World.ownsMap_made (H:=Value) (w.alloc (.cells #[.int .i64 0,.int .i64 0,.int .i64 0,.string ⟨#[]⟩,.slice none 0 0,.slice none 0 0] 36)) Tryz.prog 9 obR
       simpa using this
     · simp
   case round =>
     obtain ⟨a,fuel,acc,vals,D,hI⟩:=hrel
     clear HT
     have ha:=hI.ha
     have hr:=hI.hr
     have hm:=hI.hm
     have ltr:=hr.lt
     have HPOS:=hr.pos
     have ltB : w.heap.size + 1 < wr.heap.size:=hI.hown.lt
     obtain ⟨fuel,rfl⟩ : ∃ f,fuel = f + 1:=⟨fuel - 1,by have:=hI.hfu;omega⟩
     cases hn : nextS (s.data.toList.drop a) with
     | bad k =>
       have HX:=Lh (hI.H.symm.trans (dictS_bad hn))
       have HN:=Lh (rnext_bad r s a k ha hs m wr hm hr hn)
       have hbes:=hI.hbes
       clear hn
       go_wp2_with fail
       refine HN.out.mono ?_
       rintro e w1 ⟨rfl,hs1⟩
       go_wp2
       refine ⟨rfl,?_⟩
       rw [HX.out]
       exact ⟨rfl,(by repeat' (first | (with_reducible exact Bes.refl _ _) | (with_reducible refine Bes.drew ?_) | (with_reducible refine Bes.drewN ?_ _) | (with_reducible refine Bes.alloc ?_ _) | (with_reducible refine Bes.setCell ?_ _ _) | (with_reducible refine Bes.setCell_new ?_ ?_ _) | (with_reducible refine Bes.belowB ?_ hb5 ?_) | (with_reducible refine Bes.belowB ?_ hb4 ?_) | (with_reducible refine Bes.belowB ?_ hb3 ?_) | (with_reducible refine Bes.belowB ?_ hb2 ?_) | (with_reducible refine Bes.belowB ?_ hb1 ?_) | (with_reducible refine Bes.belowB ?_ hbr ?_) | (with_reducible refine Bes.belowB ?_ hb ?_) | (with_reducible refine Bes.trans ?_ hs5) | (with_reducible refine Bes.trans ?_ hs4) | (with_reducible refine Bes.trans ?_ hs3) | (with_reducible refine Bes.trans ?_ hs2) | (with_reducible refine Bes.trans ?_ hs1) | (show _ ≤ _;simp;done) | (show _ ≤ _;simp;omega) | omega))⟩
     | good tr =>
       obtain ⟨t,rest⟩:=tr
       obtain ⟨h1,hk,hrest⟩:=nextS_good hn
       obtain ⟨g1,g2,g3,_⟩:=nextT_good h1
       obtain ⟨g5,g6⟩:=nextS_shorter hn
       obtain ⟨p,hp⟩ : ∃ p,a + (nextT (s.data.toList.drop a)).1 = p:=⟨_,rfl⟩
       have HN:=Lh (rnext_good r s a p t ha hs m wr hm hr h1 hk hp)
       simp only [List.length_drop,Array.length_toList,show s.data.size = s.size from rfl] at g1
       have hq : p + t.len ≤ s.size:=by omega
       rw [List.drop_drop,← Nat.add_assoc,hp] at hrest
       subst hrest
       have hqa : a < p + t.len:=by simp only [List.length_drop,Array.length_toList,show s.data.size = s.size from rfl] at g5;omega
       obtain ⟨q,hq'⟩ : ∃ q,p + t.len = q:=⟨_,rfl⟩
       rw [hq'] at hq hqa hn
       unfold tkV at HN
       rw [hq'] at HN
       have hsh:=nextT_short h1
       clear g1 g5 h1 hp
       have neB0 : w.heap.size ≠ r:=by omega
       have neB1 : w.heap.size + 1 ≠ r:=by omega
       cases hw : (t.kind == 6 && t.s == [62,62]) with
       | true =>
         have HX:=Lh (hI.H.symm.trans (dictS_end hn hw))
         have HW:=Lh hw
         clear hn hw
         go_wp2_with fail
         refine HN.out.mono ?_
         rintro e w1 ⟨rfl,hr1,hs1⟩
         go_wp2_with fail
         refine (word_in' _ _ _ _ _ _ _ true HW.out _).mono ?_
         rintro e w2 ⟨rfl,hb2⟩
         have hbw : Bes r wr w2:=hs1.trans ((by repeat' (first | (with_reducible exact Bes.refl _ _) | (with_reducible refine Bes.drew ?_) | (with_reducible refine Bes.drewN ?_ _) | (with_reducible refine Bes.alloc ?_ _) | (with_reducible refine Bes.setCell ?_ _ _) | (with_reducible refine Bes.setCell_new ?_ ?_ _) | (with_reducible refine Bes.belowB ?_ hb5 ?_) | (with_reducible refine Bes.belowB ?_ hb4 ?_) | (with_reducible refine Bes.belowB ?_ hb3 ?_) | (with_reducible refine Bes.belowB ?_ hb2 ?_) | (with_reducible refine Bes.belowB ?_ hb1 ?_) | (with_reducible refine Bes.belowB ?_ hbr ?_) | (with_reducible refine Bes.belowB ?_ hb ?_) | (with_reducible refine Bes.trans ?_ hs5) | (with_reducible refine Bes.trans ?_ hs4) | (with_reducible refine Bes.trans ?_ hs3) | (with_reducible refine Bes.trans ?_ hs2) | (with_reducible refine Bes.trans ?_ hs1) | (show _ ≤ _;simp;done) | (show _ ≤ _;simp;omega) | omega)))
         have hr2 : RdAt w2 r s q:=hr1.below (w':=w2) bel
         go_wp2
         go_meet
         case rel => exact ⟨q,acc,vals,D,hI.ended hlt hbw hr2 hq,HX⟩
       | false =>
         have HW:=Lh hw
         obtain ⟨bt,hbt⟩ : ∃ bt,acc.any (fun p => p.1 == t.s) = bt:=⟨_,rfl⟩
         have HBT:=Lh hbt
         by_cases hk4 : t.kind = 4
         · have e4 : (t.kind != 4) = false:=by simpa using hk4
           cases bt with
           | true =>
             have HX:=Lh (hI.H.symm.trans (dictS_twice hn hw hk4 hbt))
             clear hn hw hbt hk4
             go_wp2_with fail
             refine HN.out.mono ?_
             rintro e w1 ⟨rfl,hr1,hs1⟩
             go_wp2_with fail
             refine (word_in' _ _ _ _ _ _ _ false HW.out _).mono ?_
             rintro e w2 ⟨rfl,hb2⟩
             have hlt1:=hs1.size
             have hlt2 : w1.heap.size + 1 ≤ w2.heap.size:=by have:=hb2.size;simp at this;omega
             have k2:=(hb2.block w1.heap.size (by simp)).trans (heap_new_at w1 _ _ rfl)
             obtain ⟨tt,htt⟩ : ∃ tt,w1.heap.size = tt:=⟨_,rfl⟩
             rw [htt] at k2 hlt2
             rw [htt]
             obtain ⟨c0,c1,c2,c3,c4,cf⟩:=five_of k2
             have ltt : wr.heap.size ≤ tt:=by omega
             have httw : tt < w2.heap.size:=by omega
             have hbw : Bes r wr w2:=hs1.trans ((by repeat' (first | (with_reducible exact Bes.refl _ _) | (with_reducible refine Bes.drew ?_) | (with_reducible refine Bes.drewN ?_ _) | (with_reducible refine Bes.alloc ?_ _) | (with_reducible refine Bes.setCell ?_ _ _) | (with_reducible refine Bes.setCell_new ?_ ?_ _) | (with_reducible refine Bes.belowB ?_ hb5 ?_) | (with_reducible refine Bes.belowB ?_ hb4 ?_) | (with_reducible refine Bes.belowB ?_ hb3 ?_) | (with_reducible refine Bes.belowB ?_ hb2 ?_) | (with_reducible refine Bes.belowB ?_ hb1 ?_) | (with_reducible refine Bes.belowB ?_ hbr ?_) | (with_reducible refine Bes.belowB ?_ hb ?_) | (with_reducible refine Bes.trans ?_ hs5) | (with_reducible refine Bes.trans ?_ hs4) | (with_reducible refine Bes.trans ?_ hs3) | (with_reducible refine Bes.trans ?_ hs2) | (with_reducible refine Bes.trans ?_ hs1) | (show _ ≤ _;simp;done) | (show _ ≤ _;simp;omega) | omega)))
             have hr2 : RdAt w2 r s q:=hr1.below (w':=w2) bel
             have hown2:=ownMap_bes hI.hown hbw (by omega)
             obtain ⟨v0,ps0,hrun0,hv0⟩:=hown2.look_ok Tryz.keyed Tryz.underlying284 (zeroOb w2) (obR_val _) (Go.WideMaps.keyOf_string_mk (s:=⟨t.s.toArray⟩) Tryz.underlying9 (by show t.s.length ≤ maxLen;unfold maxLen;omega))
             obtain ⟨x0,rfl,_⟩:=obR_inv hv0
             rw [show Maps.has D (.string (⟨t.s.toArray⟩ : ByteArray).data.toList) = _ from ((hI.hmi.has t.s).trans (any_keys hI.hkeys t.s)).trans HBT.out] at hrun0
             unfold Obv.val at hrun0
             have hsz : (Maps.size D : Int) = acc.length:=by rw [hI.hmi.size];have:=congrArg List.length hI.hkeys;simp at this;omega
             have HSZ:=Lh hsz
             clear hv0 hsz
             go_wp2
             exact ⟨rfl,by rw [HX.out];exact ⟨rfl,(hI.hbes.trans hbw).trans (.of_below bel)⟩⟩
           | false =>
             by_cases h9 : 8191 ≤ acc.length
             · have HX:=Lh (hI.H.symm.trans (dictS_many hn hw hk4 hbt h9))
               have e9 : decide ((acc.length : Int) ≥ 8191) = true:=by simp;omega
               clear hn hw hbt hk4
               go_wp2_with fail
               refine HN.out.mono ?_
               rintro e w1 ⟨rfl,hr1,hs1⟩
               go_wp2_with fail
               refine (word_in' _ _ _ _ _ _ _ false HW.out _).mono ?_
               rintro e w2 ⟨rfl,hb2⟩
               have hlt1:=hs1.size
               have hlt2 : w1.heap.size + 1 ≤ w2.heap.size:=by have:=hb2.size;simp at this;omega
               have k2:=(hb2.block w1.heap.size (by simp)).trans (heap_new_at w1 _ _ rfl)
               obtain ⟨tt,htt⟩ : ∃ tt,w1.heap.size = tt:=⟨_,rfl⟩
               rw [htt] at k2 hlt2
               rw [htt]
               obtain ⟨c0,c1,c2,c3,c4,cf⟩:=five_of k2
               have ltt : wr.heap.size ≤ tt:=by omega
               have httw : tt < w2.heap.size:=by omega
               have hbw : Bes r wr w2:=hs1.trans ((by repeat' (first | (with_reducible exact Bes.refl _ _) | (with_reducible refine Bes.drew ?_) | (with_reducible refine Bes.drewN ?_ _) | (with_reducible refine Bes.alloc ?_ _) | (with_reducible refine Bes.setCell ?_ _ _) | (with_reducible refine Bes.setCell_new ?_ ?_ _) | (with_reducible refine Bes.belowB ?_ hb5 ?_) | (with_reducible refine Bes.belowB ?_ hb4 ?_) | (with_reducible refine Bes.belowB ?_ hb3 ?_) | (with_reducible refine Bes.belowB ?_ hb2 ?_) | (with_reducible refine Bes.belowB ?_ hb1 ?_) | (with_reducible refine Bes.belowB ?_ hbr ?_) | (with_reducible refine Bes.belowB ?_ hb ?_) | (with_reducible refine Bes.trans ?_ hs5) | (with_reducible refine Bes.trans ?_ hs4) | (with_reducible refine Bes.trans ?_ hs3) | (with_reducible refine Bes.trans ?_ hs2) | (with_reducible refine Bes.trans ?_ hs1) | (show _ ≤ _;simp;done) | (show _ ≤ _;simp;omega) | omega)))
               have hr2 : RdAt w2 r s q:=hr1.below (w':=w2) bel
               have hown2:=ownMap_bes hI.hown hbw (by omega)
               obtain ⟨v0,ps0,hrun0,hv0⟩:=hown2.look_ok Tryz.keyed Tryz.underlying284 (zeroOb w2) (obR_val _) (Go.WideMaps.keyOf_string_mk (s:=⟨t.s.toArray⟩) Tryz.underlying9 (by show t.s.length ≤ maxLen;unfold maxLen;omega))
               obtain ⟨x0,rfl,_⟩:=obR_inv hv0
               rw [show Maps.has D (.string (⟨t.s.toArray⟩ : ByteArray).data.toList) = _ from ((hI.hmi.has t.s).trans (any_keys hI.hkeys t.s)).trans HBT.out] at hrun0
               unfold Obv.val at hrun0
               have hsz : (Maps.size D : Int) = acc.length:=by rw [hI.hmi.size];have:=congrArg List.length hI.hkeys;simp at this;omega
               have HSZ:=Lh hsz
               clear hv0 hsz
               go_wp2_with (at_len;refine wpList_len_own _ rfl _ 284 rfl 9 36 Tryz.underlying284 obR (w.heap.size + 1) acc.length D rfl (hown2.alloc _) ?_;rw [HSZ.out])
               exact ⟨rfl,by rw [HX.out];exact ⟨rfl,(hI.hbes.trans hbw).trans (.of_below bel)⟩⟩
             · have e9 : decide ((acc.length : Int) ≥ 8191) = false:=by simp;omega
               have hHid:=Lh hI.H
               have HNX:=Lh (fun W hW hR => dict_next s hs m d fuel r a q acc T HC.out t hn hw hk4 hbt h9 hHid hq W hW hR)
               clear hn hw hk4 hHid hbt
               go_wp2_with fail
               refine HN.out.mono ?_
               rintro e w1 ⟨rfl,hr1,hs1⟩
               go_wp2_with fail
               refine (word_in' _ _ _ _ _ _ _ false HW.out _).mono ?_
               rintro e w2 ⟨rfl,hb2⟩
               have hlt1:=hs1.size
               have hlt2 : w1.heap.size + 1 ≤ w2.heap.size:=by have:=hb2.size;simp at this;omega
               have k2:=(hb2.block w1.heap.size (by simp)).trans (heap_new_at w1 _ _ rfl)
               obtain ⟨tt,htt⟩ : ∃ tt,w1.heap.size = tt:=⟨_,rfl⟩
               rw [htt] at k2 hlt2
               rw [htt]
               obtain ⟨c0,c1,c2,c3,c4,cf⟩:=five_of k2
               have ltt : wr.heap.size ≤ tt:=by omega
               have httw : tt < w2.heap.size:=by omega
               have hbw : Bes r wr w2:=hs1.trans ((by repeat' (first | (with_reducible exact Bes.refl _ _) | (with_reducible refine Bes.drew ?_) | (with_reducible refine Bes.drewN ?_ _) | (with_reducible refine Bes.alloc ?_ _) | (with_reducible refine Bes.setCell ?_ _ _) | (with_reducible refine Bes.setCell_new ?_ ?_ _) | (with_reducible refine Bes.belowB ?_ hb5 ?_) | (with_reducible refine Bes.belowB ?_ hb4 ?_) | (with_reducible refine Bes.belowB ?_ hb3 ?_) | (with_reducible refine Bes.belowB ?_ hb2 ?_) | (with_reducible refine Bes.belowB ?_ hb1 ?_) | (with_reducible refine Bes.belowB ?_ hbr ?_) | (with_reducible refine Bes.belowB ?_ hb ?_) | (with_reducible refine Bes.trans ?_ hs5) | (with_reducible refine Bes.trans ?_ hs4) | (with_reducible refine Bes.trans ?_ hs3) | (with_reducible refine Bes.trans ?_ hs2) | (with_reducible refine Bes.trans ?_ hs1) | (show _ ≤ _;simp;done) | (show _ ≤ _;simp;omega) | omega)))
               have hr2 : RdAt w2 r s q:=hr1.below (w':=w2) bel
               have hown2:=ownMap_bes hI.hown hbw (by omega)
               obtain ⟨v0,ps0,hrun0,hv0⟩:=hown2.look_ok Tryz.keyed Tryz.underlying284 (zeroOb w2) (obR_val _) (Go.WideMaps.keyOf_string_mk (s:=⟨t.s.toArray⟩) Tryz.underlying9 (by show t.s.length ≤ maxLen;unfold maxLen;omega))
               obtain ⟨x0,rfl,_⟩:=obR_inv hv0
               rw [show Maps.has D (.string (⟨t.s.toArray⟩ : ByteArray).data.toList) = _ from ((hI.hmi.has t.s).trans (any_keys hI.hkeys t.s)).trans HBT.out] at hrun0
               unfold Obv.val at hrun0
               have hsz : (Maps.size D : Int) = acc.length:=by rw [hI.hmi.size];have:=congrArg List.length hI.hkeys;simp at this;omega
               have HSZ:=Lh hsz
               clear hv0 hsz
               go_wp2_with (at_len;refine wpList_len_own _ rfl _ 284 rfl 9 36 Tryz.underlying284 obR (w.heap.size + 1) acc.length D rfl (hown2.alloc _) ?_;rw [HSZ.out])
               obtain ⟨w3,hw3⟩ : ∃ w3,w2.alloc (.cells #[.int .i64 x0.k,.int .i64 x0.n,.int .i64 x0.g,.string ⟨x0.s.toArray⟩,.slice x0.p1 x0.n1 x0.c1,.slice x0.p2 x0.n2 x0.c2] 36) = w3:=⟨_,rfl⟩
               rw [hw3]
               have hb3 : Below w2.heap.size w2 w3:=hw3 ▸ bel
               have hs3 : Bes r wr w3.drew:=(hbw.trans (.of_below hb3)).drew
               have hr3 : RdAt w3.drew r s q:=RdAt.below (w':=w3) hr2 hb3
               have hm3 : MaxW w3.drew m:=hm.bes hs3 (hm.ne hr)
               have HNC:=HNX.out _ hm3 hr3
               have d4 : w3.drew.cell? ⟨tt,4,none⟩ = some (.string ⟨t.s.toArray⟩):=(hb3.cell (p:=⟨tt,4,none⟩) httw).trans c4
               have htt3 : tt < w3.drew.heap.size:=Nat.lt_of_lt_of_le httw hb3.size
               clear hw3 hb3 c0 c1 c2 c3 c4 cf hrun0 k2 hb2 htt hr1 hs1 hr2 hown2 hbw
               go_region_law (first
                 | (go_simp;go_at_call 152;refine HNC.mono ?_;rintro e w4 (⟨k,rfl,HX,hs4⟩ | ⟨t2,p2,q2,rfl,hq2,hR4,hs4,HF⟩);exact ⟨rfl,by rw [HX.out];exact ⟨rfl,(hI.hbes.trans hs3).trans hs4⟩⟩;have hm4 : MaxW w4 m:=hm3.bes hs4 (hm3.ne hr3);have HOb:=HF.out _ hm4 hR4;have d44 : w4.cell? ⟨tt,4,none⟩ = some (.string ⟨t.s.toArray⟩):=(World.cell?_of_block (hs4.block _ htt3 (by show tt ≠ r;omega))).trans d4;have htt4 : tt < w4.heap.size:=Nat.lt_of_lt_of_le htt3 hs4.size)
                 | (go_simp; go_at_call 151; refine HOb.mono ?_; rintro e w5 (⟨k, rfl, HX, hs5⟩ | ⟨o, p1, n1, c1, p2, n2, c2, z, rfl, hz1, hz2, HX, hO, hR5, hs5⟩); exact ⟨rfl, by rw [HX.out]; exact ⟨rfl, ((hI.hbes.trans hs3).trans hs4).trans hs5⟩⟩; have d45 : w5.cell? ⟨tt, 4, none⟩ = some (.string ⟨t.s.toArray⟩) := (World.cell?_of_block (hs5.block _ htt4 (by show tt ≠ r; omega))).trans d44; have hs05 := (hs3.trans hs4).trans hs5
                    obtain ⟨w6,hrun6,hown6,hg6⟩:=(ownMap_bes hI.hown hs05 (by omega)).update Tryz.keyed Tryz.underlying284 (by unfold maxLen;omega) (Go.WideMaps.keyOf_string_mk (s:=⟨t.s.toArray⟩) Tryz.underlying9 (by show t.s.length ≤ maxLen;unfold maxLen;omega)) (obR_val ⟨o.kind,o.n,o.g,o.s,p1,n1,c1,p2,n2,c2⟩)
                    have HST:=Lh (hI.step hlt (hs3.trans hs4) hs5 hO hR5 hz1 (by omega) h9 HBT.out hown6 hg6 HX.out)
                    unfold Obv.val at hrun6))
               all_goals go_wp2_with fail
               all_goals (go_roundw;(case rel => exact ⟨z,fuel,_,_,_,HST.out⟩);(case measure => (rw [HPOS,HST.out.hr.pos];omega)))
         · have HX:=Lh (hI.H.symm.trans (dictS_kind hn hw hk4))
           have e4 : (t.kind != 4) = true:=by simpa using hk4
           clear hn hw hbt
           go_wp2_with fail
           refine HN.out.mono ?_
           rintro e w1 ⟨rfl,hr1,hs1⟩
           go_wp2_with fail
           refine (word_in' _ _ _ _ _ _ _ false HW.out _).mono ?_
           rintro e w2 ⟨rfl,hb2⟩
           have hlt1:=hs1.size
           have hlt2 : w1.heap.size + 1 ≤ w2.heap.size:=by have:=hb2.size;simp at this;omega
           have k2:=(hb2.block w1.heap.size (by simp)).trans (heap_new_at w1 _ _ rfl)
           obtain ⟨tt,htt⟩ : ∃ tt,w1.heap.size = tt:=⟨_,rfl⟩
           rw [htt] at k2 hlt2
           rw [htt]
           obtain ⟨c0,c1,c2,c3,c4,cf⟩:=five_of k2
           have ltt : wr.heap.size ≤ tt:=by omega
           have httw : tt < w2.heap.size:=by omega
           have hbw : Bes r wr w2:=hs1.trans ((by repeat' (first | (with_reducible exact Bes.refl _ _) | (with_reducible refine Bes.drew ?_) | (with_reducible refine Bes.drewN ?_ _) | (with_reducible refine Bes.alloc ?_ _) | (with_reducible refine Bes.setCell ?_ _ _) | (with_reducible refine Bes.setCell_new ?_ ?_ _) | (with_reducible refine Bes.belowB ?_ hb5 ?_) | (with_reducible refine Bes.belowB ?_ hb4 ?_) | (with_reducible refine Bes.belowB ?_ hb3 ?_) | (with_reducible refine Bes.belowB ?_ hb2 ?_) | (with_reducible refine Bes.belowB ?_ hb1 ?_) | (with_reducible refine Bes.belowB ?_ hbr ?_) | (with_reducible refine Bes.belowB ?_ hb ?_) | (with_reducible refine Bes.trans ?_ hs5) | (with_reducible refine Bes.trans ?_ hs4) | (with_reducible refine Bes.trans ?_ hs3) | (with_reducible refine Bes.trans ?_ hs2) | (with_reducible refine Bes.trans ?_ hs1) | (show _ ≤ _;simp;done) | (show _ ≤ _;simp;omega) | omega)))
           have hr2 : RdAt w2 r s q:=hr1.below (w':=w2) bel
           have hown2:=ownMap_bes hI.hown hbw (by omega)
           obtain ⟨v0,ps0,hrun0,hv0⟩:=hown2.look_ok Tryz.keyed Tryz.underlying284 (zeroOb w2) (obR_val _) (Go.WideMaps.keyOf_string_mk (s:=⟨t.s.toArray⟩) Tryz.underlying9 (by show t.s.length ≤ maxLen;unfold maxLen;omega))
           obtain ⟨x0,rfl,_⟩:=obR_inv hv0
           rw [show Maps.has D (.string (⟨t.s.toArray⟩ : ByteArray).data.toList) = _ from ((hI.hmi.has t.s).trans (any_keys hI.hkeys t.s)).trans HBT.out] at hrun0
           unfold Obv.val at hrun0
           have hsz : (Maps.size D : Int) = acc.length:=by rw [hI.hmi.size];have:=congrArg List.length hI.hkeys;simp at this;omega
           have HSZ:=Lh hsz
           clear hv0 hsz
           go_wp2
           exact ⟨rfl,by rw [HX.out];exact ⟨rfl,(hI.hbes.trans hbw).trans (.of_below bel)⟩⟩
 case rest =>
   obtain ⟨a,acc,vals,D,hE,HT2⟩:=hcut
   obtain ⟨wo,rfl⟩ : ∃ wo : World,wo = wc:=⟨_,rfl⟩
   have hbm:=hE.hown.lt
   have hownX:=hE.hown.alloc (.cells #[.int .i64 7,.int .i64 0,.int .i64 0,.string ⟨#[]⟩,.slice none 0 0,.slice none 0 0] 36)
   go_upto_block 3 with (at_range;refine wpList_range_own _ rfl _ 284 rfl 9 36 Tryz.keyed Tryz.underlying284 obR (w.heap.size + 1) acc.length D rfl hownX ?_;intro w0 hrg0 hg0 hs0)
   go_frame
   have hri : w0.ranges Tryz.prog 9 obR (w.heap.size + 1) (wo.heap.size + 1) acc.length D (Maps.has D) (Maps.size D):=by simpa using hrg0
   have hR0 : RInv wo (w.heap.size + 1) acc.length vals D w0 (Maps.has D) (Maps.size D) [] (.slice none 0 0):=by
     refine ⟨hbm,hri,Collected.start D,?_,ownS_nil _ _,?_,by simp⟩
     · rw [hg0.block _ (by simp) (by simp)];exact heap_new_at _ _ _ rfl
     · exact (show Below wo.heap.size wo (wo.alloc _) from bel).grown hg0 (by simp) (by simp)
   clear hrg0 hg0 hs0 hownX hri
   rw [show (wo.alloc (.cells #[.int .i64 7,.int .i64 0,.int .i64 0,.string ⟨#[]⟩,.slice none 0 0,.slice none 0 0] 36)).heap.size = wo.heap.size + 1 by simp]
   have hDs : Maps.size D ≤ 8191:=by rw [hE.hmi.size];have:=congrArg List.length hE.hkeys;simp at this;have:=hE.hlen;omega
   go_cut [] (fun wx => ∃ (sa : List L) (v : Value),Below wo.heap.size wo wx ∧ wo.heap.size + 2 ≤ wx.heap.size ∧ wx.heap[wo.heap.size]? = some (.cells #[.int .i64 7,.int .i64 0,.int .i64 0,.string ⟨#[]⟩,v,.slice none 0 0] 36 (0,0)) ∧ ownS wx (wo.heap.size + 2) v (sa.filter (keepB vals)) ∧ Hid (sa.Perm (strKeys D)))
   case first =>
     go_wp2_with fail
     go_loopw [] (fun wr => ∃ (left : Lit → Bool) (cnt : Nat) (sa : List L) (v : Value),RInv wo (w.heap.size + 1) acc.length vals D wr left cnt sa v) (fun wr => wr.rangeLeft (w.heap.size + 1) (wo.heap.size + 1))
     case atStart => exact ⟨_,_,_,_,hR0⟩
     case round =>
       obtain ⟨left,cnt,sa,v,hI⟩:=hrel
       have hrg:=hI.hrg
       go_wp2_with (at_next;refine wpList_next_ranges _ rfl _ rfl 9 Tryz.keyed obR encStr Obv.val (fun key kl hk => by obtain ⟨x,hx,_⟩:=Maps.keyOf_str Tryz.underlying9 hk;exact ⟨x,hx⟩) (fun v y hv => by obtain ⟨c,hc,_⟩:=obR_inv hv;exact ⟨c,hc⟩) (w.heap.size + 1) (wo.heap.size + 1) acc.length D left cnt rfl hrg ?_ ?_)
       · intro hc0 hl0
         go_wp2
         go_meet
         case rel => exact ⟨sa,v,hI.hb,hI.hrg.lt,hI.hob,hI.hown,Lh (hI.hC.perm hI.hrg.owns Tryz.keyed Tryz.underlying9 hl0)⟩
       · intro x c kl yd yp w2 cnt2 hkey hlk hv hat hrg2 hlt2 hg2 hs2 hen
         obtain ⟨x',ex,rfl,_⟩:=Maps.keyOf_str Tryz.underlying9 hkey
         obtain rfl : x = x':=encStr_inj ex
         have hat' : ∀ zd,D.atKey (.string x) zd = .held c.val:=fun zd => by
           rw [hat zd];rw [obR_val] at hv;simp at hv;exact hv.1.symm
         have hkp:=(keepB_at hE.hmi (has_true_of_atKey hat) hat').1
         have hl1:=hrg2.lt
         have hnz : wo.heap.size < w2.heap.size:=by omega
         have hl2 : sa.length ≤ 8191:=by have:=hI.hcnt;omega
         have hfl : (sa.filter (keepB vals)).length ≤ 100000:=Nat.le_trans (List.length_filter_le _ _) (by omega)
         have HME:=Lh (And.intro hrg.left_eq hrg2.left_eq)
         have c4 : w2.heap[wo.heap.size]? = some (.cells #[.int .i64 7,.int .i64 0,.int .i64 0,.string ⟨#[]⟩,v,.slice none 0 0] 36 (0,0)):=by
           rw [hg2.block _ (by have:=hI.hrg.lt;omega) (by simp)];exact hI.hob
         have hown2 : ownS w2 (wo.heap.size + 2) v (sa.filter (keepB vals)):=World.ownsRow.kept hI.hown hg2 (.inr (by intro h;have:=own_base hI.hown _ h;omega))
         obtain ⟨q0,q1,q2,q3,q4,q5,qf⟩:=six_of c4
         have HHAT:=Lh hat'
         have HC4:=Lh c4
         unfold Obv.val at hen
         unfold Obv.val
         clear hs2 hat hv hkey hat' c4
         cases hk0 : (c.k != 0) with
         | false =>
           have HI2:=Lh (fun o => hI.skip hlk HHAT.out hrg2 hlt2 hg2 (hkp.trans hk0) o)
           clear hkp
           go_wp2
           go_roundw
           case rel => exact ⟨_,_,_,_,HI2.out _⟩
           case measure => rw [HME.out.1,(HI2.out _).hrg.left_eq];omega
         | true =>
           have hkp2:=hkp.trans hk0
           clear hkp
           go_wp2_with (at_builtin;go_must (refine appendS rfl _ _ rfl (wo.heap.size + 2) v (sa.filter (keepB vals)) x (ownS_alloc hown2 _) rfl (w2.heap.size + 1) rfl (by simp) hfl (by simp;omega) ?_);intro pz cz wz hown' hbz hlz;have c4z : wz.heap[wo.heap.size]? = some (.cells #[.int .i64 7,.int .i64 0,.int .i64 0,.string ⟨#[]⟩,v,.slice none 0 0] 36 (0,0)):=(hbz.block _ (by omega)).trans ((Below.heap_alloc _ _ _ hnz).trans HC4.out);obtain ⟨z0,z1,z2,z3,z4,z5,zf⟩:=six_of c4z)
           go_roundw
           case rel => exact ⟨_,_,_,_,hI.push hlk HHAT.out hrg2 hlt2 hg2 hkp2 _ hbz hown'⟩
           case measure => rw [HME.out.1,(hI.push hlk HHAT.out hrg2 hlt2 hg2 hkp2 _ hbz hown').hrg.left_eq];omega
   case rest =>
     obtain ⟨sa,v,hbx,hls,hob,hown,HP⟩:=hcut
     obtain ⟨ss,hss⟩ : ∃ ss,sa.filter (keepB vals) = ss:=⟨_,rfl⟩
     have HSS:=Lh hss
     rw [hss] at hown
     have hsl : ss.length ≤ 8191:=by
       rw [← hss]
       have h1:=List.length_filter_le (keepB vals) sa
       have h2:=HP.out.length_eq
       have h3 : (strKeys D).length = Maps.size D:=by
         obtain ⟨es,he⟩:=hE.hmi.tidy.isMap;rw [he];simp [strKeys,Maps.size]
       omega
     have lox : wo.heap.size < wc.heap.size:=lt_of_block hob
     obtain ⟨x0,x1,x2,x3,x4,x5,xf⟩:=six_of hob
     have HSO:=Lh (sort_in (wo.heap.size + 2) v ss wc hown hls (by omega))
     clear hss hown
     go_wp2_with fail
     refine HSO.out.mono ?_
     rintro e w1 ⟨rfl,hown1,hb1⟩
     have hob1:=(hb1.block wo.heap.size (by omega)).trans hob
     obtain ⟨y0,y1,y2,y3,y4,y5,yf⟩:=six_of hob1
     obtain ⟨ks,hks⟩ : ∃ ks,isort ss = ks:=⟨_,rfl⟩
     rw [hks] at hown1
     have hkl : ks.length ≤ 8191:=by rw [← hks,isort_length];exact hsl
     obtain ⟨nk,hnk⟩ : ∃ nk,ks.length = nk:=⟨_,rfl⟩
     obtain ⟨pk,ck,hvk⟩:=own_slice hown1
     rw [hnk] at hvk hkl
     subst hvk
     have HNK:=Lh hnk
     have hmem : ∀ x ∈ ks,∃ c,(x,c) ∈ vals ∧ valAt vals x = c ∧ Maps.has D (.string x) = true ∧ x.length ≤ maxLen:=by
       intro x hx
       have h1 : x ∈ ss:=by rw [← hks] at hx;exact (isort_perm ss).mem_iff.1 hx
       rw [← HSS.out] at h1
       obtain ⟨h2,h3⟩:=List.mem_filter.1 h1
       obtain ⟨p,hp,hpx⟩:=List.any_eq_true.1 h3
       simp only [Bool.and_eq_true,beq_iff_eq] at hpx
       have h4 : (x,p.2) ∈ vals:=by rw [← hpx.1];exact hp
       exact ⟨p.2,h4,valAt_mem hE.hmi.nodup h4,by rw [hE.hmi.has];exact List.any_eq_true.2 ⟨p,hp,by simpa using hpx.1⟩,strKeys_le hE.hown Tryz.underlying9 x (HP.out.mem_iff.1 h2)⟩
     have HMEM:=Lh hmem
     have HKS:=Lh hks
     have hK0 : KInv wo (w.heap.size + 1) acc.length vals D ks (.slice pk nk ck) w1 0 (.slice none 0 0):=by
       refine ⟨hbm,by omega,?_,hob1,hown1,⟨by simp,.inl ⟨rfl,rfl⟩⟩,fun b _ => by simp [Value.ownBlock],hbx.trans (hb1.mono (by omega))⟩
       obtain ⟨es,clock,h1,F,h2,h3⟩:=hE.hown
       exact ⟨es,clock,by rw [hb1.block _ (by omega),hbx.block _ hbm];exact h1,F,h2,h3⟩
     clear hks x0 x1 x2 x3 x4 x5 xf hmem hnk
     go_upto_block 5 with fail
     clear y0 y1 y2 y3 y4 y5 yf
     go_wp2_with fail
     go_loopw [70] (fun i wr => ∃ (k : Nat) (kv : Value),k ≤ nk ∧ i = .int .i64 k ∧ KInv wo (w.heap.size + 1) acc.length vals D ks (.slice pk nk ck) wr k kv) (fun i _ => nk - (intOf i).toNat)
     case atStart => exact ⟨0,_,Nat.zero_le _,rfl,hK0⟩
     case round =>
       obtain ⟨k,kv,hk,rfl,hI⟩:=hrel
       obtain ⟨y0,y1,y2,y3,y4,y5,yf⟩:=six_of hI.hob
       by_cases hlt2 : k < nk
       · obtain ⟨x,hx⟩ : ∃ x,ks.getD k [] = x:=⟨_,rfl⟩
         have hkk : k < ks.length:=by rw [HNK.out];exact hlt2
         have hxm : x ∈ ks:=by rw [← hx];simp [List.getD,hkk]
         obtain ⟨c,hc1,hc2,hc3,hc4⟩:=HMEM.out x hxm
         obtain ⟨gk,rfl⟩ : ∃ gk,pk = some ⟨gk,0,none⟩:=by
           rcases hI.hkeys.2 with ⟨h1,h2⟩ | ⟨g,cap,cur,h1,_⟩
           · omega
           · cases h1;exact ⟨_,rfl⟩
         have hcell : wr.cell? ⟨gk,k,none⟩ = some (.string ⟨x.toArray⟩):=by
           have:=World.ownsRow.cellAt (g:=gk) (cap:=ck) (by have h:=hI.hkeys;unfold ownS at h;rw [HNK.out] at h;exact h) k (by omega)
           rw [this];simp [List.getD,hkk] at hx;simp [hkk,hx]
         obtain ⟨vl,pl,hrun,hvl⟩:=hI.hown.lookup Tryz.keyed Tryz.underlying284 (zeroOb wr) (obR_val _) (Go.WideMaps.keyOf_string_mk (s:=⟨x.toArray⟩) Tryz.underlying9 (by show x.length ≤ maxLen;exact hc4))
         have hvc : vl = c.val:=by
           obtain ⟨y,hy,hy2⟩:=obR_inv hvl
           have:=hE.hmi.at' _ hc1 (.held (Obv.val ⟨0,0,0,[],none,0,0,none,0,0⟩))
           simp at hy2
           rw [hy2.1] at this
           rw [hy];simpa using this
         subst hvc
         unfold Obv.val at hrun
         have HST:=Lh (fun wz g cap o h1 h2 h3 => hI.step (wz:=wz) (g:=g) (cap:=cap) (o:=o) (c:=c) hkk (by rw [hx];exact hc2) h1 h2 h3)
         have hrow:=hI.hrow
         have hlow : wo.heap.size < wr.heap.size:=lt_of_block hI.hob
         have hgk : gk < wr.heap.size:=(World.ownsRow.lt hI.hkeys gk rfl).2
         have hls2 : wo.heap.size + 2 ≤ wr.heap.size:=by have:=(World.ownsRow.lt hI.hkeys gk rfl).1;omega
         have hlok:=own_base hI.hrow
         have HOB:=Lh hI.hob
         clear hvl hx hxm hc1 hc2 hc3 hc4
         go_wp2_with (at_builtin;go_must (refine appendO rfl _ _ rfl (wo.heap.size + 2) k kv _ c hrow rfl wr.heap.size rfl rfl (by omega) hls2 ?_);intro gz cz wz hownz hgz hatz hltz;have c4z : wz.heap[wo.heap.size]? = some (.cells #[.int .i64 7,.int .i64 0,.int .i64 0,.string ⟨#[]⟩,.slice (some ⟨gk,0,none⟩) nk ck,kv] 36 (0,0)):=(hgz.block _ (by simp;omega) (by intro h;have:=hlok _ h.symm;omega)).trans ((Below.heap_alloc _ _ _ hlow).trans HOB.out);obtain ⟨z0,z1,z2,z3,z4,z5,zf⟩:=six_of c4z)
         go_roundw
         case rel => exact ⟨k + 1,_,by omega,by go_num,HST.out _ _ _ _ hownz hgz hatz⟩
         case measure => simp [intOf];omega
       · obtain ⟨pv,cv,hkv⟩:=own_slice hI.hrow
         subst hkv
         have hkn : k = ks.length:=by rw [HNK.out];omega
         have hbw : Below wo.heap.size wo wr:=hI.hb
         have HO:=Lh (show ObjAt (fun b => w.heap.size + 1 ≤ b) (d + 2) wr (objCells 7 0 0 [] (.slice pk nk ck) (.slice pv k cv)) (mkDict acc) from dict_out hE HP.out (HSS.out.symm ▸ HKS.out) (by rw [← hkn];exact hI))
         obtain ⟨b0,b1,b2,b3,b4,b5,bf⟩:=six_of ((hbw.block _ (by omega)).trans hE.hB0)
         clear hkn
         go_wp2
         refine bodyPost_ret (v:=.agg #[.int .i64 7,.int .i64 0,.int .i64 0,.string ⟨#[]⟩,.slice pk nk ck,.slice pv k cv]) (by simp [results,Tryz.results194,go_sem,b0,b1,b2,b3,b4,b5,bf]) rfl ?_
         rw [HT2.out]
         have hrw : RdAt wr r s a:=hE.hr.below hbw
         have hs3 : Bes r w wr:=hE.hbes.trans (.of_below hbw)
         refine ⟨_,a,rfl,hE.ha,rfl,objAt_out HO.out (by omega) ?_,hrw.belowB (B:=r + 1) belr (by omega),?_⟩
         · intro b hb
           rw [Below.heap_setCell _ _ _ _ (by show b ≠ w.heap.size;omega),Below.heap_setCell _ _ _ _ (by show b ≠ w.heap.size;omega),Below.heap_setCell _ _ _ _ (by show b ≠ w.heap.size;omega),Below.heap_setCell _ _ _ _ (by show b ≠ w.heap.size;omega),Below.heap_setCell _ _ _ _ (by show b ≠ w.heap.size;omega),Below.heap_setCell _ _ _ _ (by show b ≠ w.heap.size;omega)]
         · (repeat' (first | (with_reducible exact hs3) | (with_reducible refine Bes.setCell_new ?_ ?_ _) | (show _ ≤ _;simp;done) | (show _ ≤ _;simp;omega) | omega))
open Go.RowKit Fo
theorem leaf_post {r : Nat} {s : ByteArray} {d a : Nat} {w w' : World} {k n g : Int} {x : L} {e : Ending} (he : e = .returned (obV k n g x)) (hb : Below w.heap.size w w') (ha : a ≤ s.size) (hr : RdAt w r s a) :
   RdPost r s (d + 1) w (.good (.mk k n g x [] [],s.data.toList.drop a)) e w' :=
 ⟨_,a,he,ha,rfl,obV_at _ d w' k n g x,hr.below hb,.of_below hb⟩
theorem obj_zero (s : ByteArray) (m : Int) : ObjC s m 0:=by
 intro r a p t w ha hm hr hp hk h6 h0
 rw [objS]
 cases hb : beginsS t
 · refine (object_no r t p a (24 - ((0 : Nat) : Int)) hb w).mono ?_
   rintro e w' ⟨he,hw⟩
   exact ⟨he,.of_below hw⟩
 · refine (object_deep r t p a hb w).mono ?_
   rintro e w' ⟨he,hw⟩
   exact ⟨he,.of_below hw⟩
theorem obj_step (s : ByteArray) (hs : s.size ≤ 140737488355327) (m : Int) (d : Nat) (hd : d < 24) (HA : ArrC s m d) (HD : DictC s m d) : ObjC s m (d + 1):=by
 intro r a p t w ha hm hr hp hk h6 h0
 have hd0 : (24 : Int) - ((d + 1 : Nat) : Int) < 24:=by omega
 rw [objS]
 cases hb : beginsS t
 · refine (object_no r t p a _ hb w).mono ?_
   rintro e w' ⟨he,hw⟩
   exact ⟨he,.of_below hw⟩
 simp only [if_true]
 by_cases k1 : t.kind = 1
 · rw [if_pos k1]
   cases hn : refS t (s.data.toList.drop a) with
   | none =>
     refine (object_int s a a r t p _ hd0 hb w ha hs m hm hr k1 hn).mono ?_
     rintro e w' ⟨he,hw⟩
     exact leaf_post he hw ha hr
   | some x =>
     obtain ⟨g,rest⟩:=x
     refine (object_ref s a a r t p _ hd0 hb w ha hs m hm hr k1 g rest hn).mono ?_
     rintro e w' ⟨z,hz1,hz2,he,hR,hB⟩
     exact ⟨_,z,he,hz1,hz2.symm,obV_at _ _ w' 8 t.n g [],hR,hB⟩
 rw [if_neg k1]
 by_cases k2 : t.kind = 2
 · rw [if_pos k2]
   refine (object_real r t p a _ hd0 hb w k2).mono ?_
   rintro e w' ⟨he,hw⟩
   exact leaf_post he hw ha hr
 rw [if_neg k2]
 by_cases k3 : t.kind = 3
 · rw [if_pos k3]
   refine (object_str r t p a _ hd0 hb w k3).mono ?_
   rintro e w' ⟨he,hw⟩
   exact leaf_post he hw ha hr
 rw [if_neg k3]
 by_cases k4 : t.kind = 4
 · rw [if_pos k4]
   refine (object_name r t p a _ hd0 hb w k4).mono ?_
   rintro e w' ⟨he,hw⟩
   exact leaf_post he hw ha hr
 rw [if_neg k4]
 by_cases k5 : t.kind = 5
 · rw [if_pos k5]
   by_cases hn : t.s = wNull
   · rw [if_pos hn]
     refine (object_null r t p a _ hd0 hb w k5 hn).mono ?_
     rintro e w' ⟨he,hw⟩
     exact leaf_post he hw ha hr
   · rw [if_neg hn]
     refine (object_bool r t p a _ hd0 hb w k5 hn).mono ?_
     rintro e w' ⟨he,hw⟩
     exact leaf_post he hw ha hr
 rw [if_neg k5]
 have k6 : t.kind = 6:=by omega
 by_cases hn : t.s = [91]
 · rw [if_pos hn]
   have:=object_arr s a a r t p (24 - ((d + 1 : Nat) : Int)) hd0 (by omega) hb w hs m hm hr k6 hn (d + 2) _ (fun W hW hR => by
     have:=HA r a W ha hW hR
     rw [show (24 : Int) - ((d + 1 : Nat) : Int) + 1 = 24 - (d : Int) by omega];exact this)
   exact this
 · rw [if_neg hn]
   have:=object_dict s a a r t p (24 - ((d + 1 : Nat) : Int)) hd0 (by omega) hb w hs m hm hr k6 hn (d + 2) _ (fun W hW hR => by
     have:=HD r a W ha hW hR
     rw [show (24 : Int) - ((d + 1 : Nat) : Int) + 1 = 24 - (d : Int) by omega];exact this)
   exact this
theorem obj_in (s : ByteArray) (hs : s.size ≤ 140737488355327) (m : Int) : ∀ d,d ≤ 24 → ObjC s m d
 | 0,_ => obj_zero s m
 | d + 1,h => obj_step s hs m d (by omega) (array_in s m d hs (by omega) (obj_in s hs m d (by omega))) (dict_in s m d hs (by omega) (obj_in s hs m d (by omega)))
open Go.RowKit Fo
theorem pface_idle (q : Addr) (w : World) :
   CallsD Tryz.prog 150 #[.pointer (some q)] .returning w fun e u' w' => e = .returned (.tuple #[]) ∧ u' = .returning ∧ w' = w:=by
 refine callsD_of_wpS Tryz.func150 rfl fun c₀ cs hu => ?_
 simp only [Tryz.ntmps150,List.size_toArray,List.length_cons,List.length_nil,Nat.reduceAdd,Nat.reduceSub,Array.replicate_succ,Array.replicate_zero,List.push_toArray,List.append_toArray,List.nil_append,List.cons_append]
 apply wpS_seq
 apply wpS_region
 simp [wpOpsS,go_sem,recoverD,hu,Tryz.ntmps150,Exit.thenS]
 refine wpS_of_wp ?_
 go_wp2
 cases c₀
 simp_all [bodyPostS,results,Tryz.results150]
theorem pface_catch (q : Addr) (x : Int) (older : List PanicEntry) (w : World) (v1 : Int) (c1 : w.cell? q = some (.int .i64 v1)) (f1 : w.frozen? q = false) :
   CallsD Tryz.prog 150 #[.pointer (some q)] (.panicking ({ v:=.iface 245 (.int .i64 x),recovered:=false } :: older)) w fun e u' w' =>
     e = .returned (.tuple #[]) ∧ u' = .panicking ({ v:=.iface 245 (.int .i64 x),recovered:=true } :: older) ∧ w' = w.setCell q (.int .i64 x):=by
 have hta : ∀ (x : Int) (w : World),(Instr.typeAssert (.iface 245 (.int .i64 x)) 20 245 true).run Tryz.prog w = .ok (.tuple #[.int .i64 x,.bool true]) w:=fun _ _ => by kernel_rfl
 refine callsD_of_wpS Tryz.func150 rfl fun c₀ cs hu => ?_
 simp only [Tryz.ntmps150,List.size_toArray,List.length_cons,List.length_nil,Nat.reduceAdd,Nat.reduceSub,Array.replicate_succ,Array.replicate_zero,List.push_toArray,List.append_toArray,List.nil_append,List.cons_append]
 apply wpS_seq
 apply wpS_region
 simp [wpOpsS,go_sem,recoverD,hu,Tryz.ntmps150,Exit.thenS]
 refine wpS_of_wp ?_
 go_wp2
 cases c₀
 simp_all [bodyPostS,results,Tryz.results150]
open Go.RowKit Fo
theorem heap_drew (w : World) (b : Nat) : w.drew.heap[b]? = w.heap[b]?:=rfl
def ReadPost (r : Nat) (s : ByteArray) (w : World) (R : Res (Ob × L)) (e : Ending) (w' : World) : Prop :=
 match R with
 | .good (o, rest) => ∃ (p1 : Option Addr) (n1 c1 : Nat) (p2 : Option Addr) (n2 c2 z : Nat), e = .returned (.tuple #[.agg #[.int .i64 o.kind, .int .i64 o.n, .int .i64 o.g, .string ⟨o.s.toArray⟩, .slice p1 n1 c1, .slice p2 n2 c2], .int .i64 0]) ∧ z ≤ s.size ∧ rest = s.data.toList.drop z ∧
     ObjAt (fun b => w.heap.size ≤ b) 25 w' (objCells o.kind o.n o.g o.s (.slice p1 n1 c1) (.slice p2 n2 c2)) o ∧ RdAt w' r s z ∧ Bes r w w'
 | .bad k => e = .returned (.tuple #[.agg #[.int .i64 0,.int .i64 0,.int .i64 0,.string ⟨#[]⟩,.slice none 0 0,.slice none 0 0],.int .i64 k]) ∧ Bes r w w'
theorem readS_good {l r : L} {t : Tok} (h : nextS l = .good (t,r)) : readS l = objS 24 t r:=by unfold readS;rw [h]
theorem readS_bad {l : L} {k : Int} (h : nextS l = .bad k) : readS l = .bad k:=by unfold readS;rw [h]
theorem rread_bad (r : Nat) (s : ByteArray) (a : Nat) (k : Int) (ha : a ≤ s.size) (hs : s.size ≤ 140737488355327) (m : Int) (w : World) (hm : MaxW w m) (hr : RdAt w r s a) (h : nextS (s.data.toList.drop a) = .bad k) :
   Calls Tryz.prog 120 #[.pointer (some ⟨r,0,none⟩)] w fun e w' => e = .returned (.tuple #[.agg #[.int .i64 0,.int .i64 0,.int .i64 0,.string ⟨#[]⟩,.slice none 0 0,.slice none 0 0],.int .i64 k]) ∧ Bes r w w':=by
 have HN:=Lh (fun W hm hr => rnext_bad r s a k ha hs m W hm hr h)
 have hlt:=hr.lt
 clear h
 go_enter_defers Tryz.func120,Tryz.ntmps120
 go_wp2_with fail
 refine (HN.out _ (hm.below bel) (hr.below bel)).mono ?_
 rintro e w1 ⟨rfl,hs1⟩
 have hl1:=hs1.size
 simp at hl1
 have n0 : w1.heap[w.heap.size]? = some (.cells #[.int .i64 0,.int .i64 0,.int .i64 0,.string ⟨#[]⟩,.slice none 0 0,.slice none 0 0] 36 (0,0)):=by
   rw [hs1.block _ (by simp;omega) (by omega),Below.heap_alloc _ _ _ (by simp)];exact heap_new_at _ _ _ rfl
 have n1 : w1.heap[w.heap.size + 1]? = some (.cells #[.int .i64 0] 43 (0,0)):=by
   rw [hs1.block _ (by simp) (by omega)];exact heap_new_at _ _ _ (by simp)
 obtain ⟨x0,x1,x2,x3,x4,x5,xf⟩:=six_of n0
 have y0 : w1.cell? ⟨w.heap.size + 1,0,none⟩ = some (.int .i64 0):=by simp [World.cell?,n1]
 have yf : w1.frozen? ⟨w.heap.size + 1,0,none⟩ = false:=by simp [World.frozen?,n1]
 have hbw : Bes r w w1:=(Bes.of_below (show Below w.heap.size w ((w.alloc _).alloc _) from bel)).trans hs1
 clear n0 n1
 go_wp2
 refine leaves_cons (f:=150) (args:=#[.pointer (some ⟨w.heap.size + 1,0,none⟩)]) (by simp) (by simp [go_sem]) ?_
 refine (pface_catch _ _ _ _ 0 y0 yf).mono ?_
 rintro e u' w'' ⟨rfl,rfl,rfl⟩
 simp [Leaves,settle,results,Tryz.results120,go_sem,x0,x1,x2,x3,x4,x5,xf,y0,yf]
 exact hbw.setCell_new (by simp) _
theorem rread_tok (r : Nat) (s : ByteArray) (a p q : Nat) (t : Tok) (ha : a ≤ s.size) (hs : s.size ≤ 140737488355327) (m : Int) (w : World) (hm : MaxW w m) (hr : RdAt w r s a) (h1 : (nextT (s.data.toList.drop a)).2 = .good t) (hk : t.kind ≠ 0) (hp : a + (nextT (s.data.toList.drop a)).1 = p)
   (hq' : p + t.len = q) (hq : q ≤ s.size) (h6 : t.kind ≤ 6) (h0 : 0 ≤ t.kind) :
   Calls Tryz.prog 120 #[.pointer (some ⟨r,0,none⟩)] w (ReadPost r s w (objS 24 t (s.data.toList.drop q))):=by
 have HN:=Lh (fun W hm hr => rnext_good r s a p t ha hs m W hm hr h1 hk hp)
 unfold tkV at HN
 rw [hq'] at HN
 have HO:=Lh (fun W hm hr => obj_in s hs m 24 (by decide) r q p t W hq hm hr hq' hk h6 h0)
 have hlt:=hr.lt
 have hne:=hm.ne hr
 have e0 : (24 : Int) - ((24 : Nat) : Int) = 0:=by decide
 rw [e0] at HO
 clear h1 hp hq' hk h6 h0 e0
 go_enter_defers Tryz.func120,Tryz.ntmps120
 go_wp2_with fail
 refine (HN.out _ (hm.below bel) (hr.below bel)).mono ?_
 rintro e w1 ⟨rfl,hr1,hs1⟩
 have hm1 : MaxW w1 m:=(hm.below (w':=(w.alloc (.cells #[.int .i64 0,.int .i64 0,.int .i64 0,.string ⟨#[]⟩,.slice none 0 0,.slice none 0 0] 36)).alloc (.cells #[.int .i64 0] 43)) bel).bes hs1 hne
 have hl1:=hs1.size
 simp at hl1
 have gn0 : w1.heap[w.heap.size]? = some (.cells #[.int .i64 0,.int .i64 0,.int .i64 0,.string ⟨#[]⟩,.slice none 0 0,.slice none 0 0] 36 (0,0)):=by
   rw [hs1.block _ (by simp;omega) (by omega),Below.heap_alloc _ _ _ (by simp)];exact heap_new_at _ _ _ rfl
 have gn1 : w1.heap[w.heap.size + 1]? = some (.cells #[.int .i64 0] 43 (0,0)):=by
   rw [hs1.block _ (by simp) (by omega)];exact heap_new_at _ _ _ (by simp)
 have hbw : Bes r w w1:=(Bes.of_below (show Below w.heap.size w ((w.alloc _).alloc _) from bel)).trans hs1
 go_wp2_with fail
 refine (HO.out _ hm1 hr1).mono ?_
 intro e w2 hpost
 cases hR : objS 24 t (s.data.toList.drop q) with
 | bad k =>
   rw [hR] at hpost
   obtain ⟨rfl,hs2⟩:=hpost
   have o0:=(hs2.block w.heap.size (by omega) (by omega)).trans gn0
   have o1:=(hs2.block (w.heap.size + 1) (by omega) (by omega)).trans gn1
   obtain ⟨x0,x1,x2,x3,x4,x5,xf⟩:=six_of o0
   have y0 : w2.cell? ⟨w.heap.size + 1,0,none⟩ = some (.int .i64 0):=by simp [World.cell?,o1]
   have yf : w2.frozen? ⟨w.heap.size + 1,0,none⟩ = false:=by simp [World.frozen?,o1]
   have hl2:=hs2.size
   have hbw2 : Bes r w w2:=hbw.trans hs2
   clear gn0 gn1 o0 o1 hs2 hbw
   go_wp2
   refine leaves_cons (f:=150) (args:=#[.pointer (some ⟨w.heap.size + 1,0,none⟩)]) (by simp) (by simp [go_sem]) ?_
   refine (pface_catch _ _ _ _ 0 y0 yf).mono ?_
   rintro e u' w'' ⟨rfl,rfl,rfl⟩
   simp [Leaves,settle,results,Tryz.results120,go_sem,x0,x1,x2,x3,x4,x5,xf,y0,yf]
   exact ⟨rfl,hbw2.setCell_new (by simp) _⟩
 | good x =>
   obtain ⟨o,rest⟩:=x
   rw [hR] at hpost
   obtain ⟨cs,z,rfl,hz1,hz2,hO,hR2,hs2⟩:=hpost
   obtain ⟨p1,n1,c1,p2,n2,c2,rfl⟩:=hO.shape
   have o0:=(hs2.block w.heap.size (by omega) (by omega)).trans gn0
   have o1:=(hs2.block (w.heap.size + 1) (by omega) (by omega)).trans gn1
   obtain ⟨x0,x1,x2,x3,x4,x5,xf⟩:=six_of o0
   have y0 : w2.cell? ⟨w.heap.size + 1,0,none⟩ = some (.int .i64 0):=by simp [World.cell?,o1]
   have yf : w2.frozen? ⟨w.heap.size + 1,0,none⟩ = false:=by simp [World.frozen?,o1]
   have hl2:=hs2.size
   have hbw2 : Bes r w w2:=hbw.trans hs2
   clear gn0 gn1 o0 o1 hs2 hbw
   have HO2:=Lh (fun (W : World) (h : ∀ b,w1.heap.size ≤ b → W.heap[b]? = w2.heap[b]?) => objAt_out (B:=w.heap.size) (w3:=W) hO (by omega) h)
   have HZ:=Lh hz2
   have hl3 : w.heap.size + 1 < w2.heap.size:=by omega
   have hl4 : w.heap.size < w2.heap.size:=by omega
   clear hO hz2
   unfold objCells
   go_wp2
   refine leaves_cons (f:=150) (args:=#[.pointer (some ⟨w.heap.size + 1,0,none⟩)]) (by simp) (by simp [go_sem]) ?_
   refine (pface_idle _ _).mono ?_
   rintro e u' w'' ⟨rfl,rfl,rfl⟩
   simp [Leaves,settle,results,Tryz.results120,go_sem,x0,x1,x2,x3,x4,x5,xf,y0,yf]
   rw [hR]
   refine ⟨p1,n1,c1,p2,n2,c2,z,rfl,hz1,HZ.out,HO2.out _ ?_,hR2.belowB (B:=r + 1) belr (by omega),?_⟩
   · intro b hb
     rw [Below.heap_setCell _ _ _ _ (by show b ≠ w.heap.size + 1;omega),Below.heap_setCell _ _ _ _ (by show b ≠ w.heap.size;omega),Below.heap_setCell _ _ _ _ (by show b ≠ w.heap.size;omega),Below.heap_setCell _ _ _ _ (by show b ≠ w.heap.size;omega),Below.heap_setCell _ _ _ _ (by show b ≠ w.heap.size;omega),Below.heap_setCell _ _ _ _ (by show b ≠ w.heap.size;omega),Below.heap_setCell _ _ _ _ (by show b ≠ w.heap.size;omega)]
   · (repeat' (first | (with_reducible exact hbw2) | (with_reducible refine Bes.setCell_new ?_ ?_ _) | (show _ ≤ _;simp;done) | (show _ ≤ _;simp;omega) | omega))
theorem rread_in (r : Nat) (s : ByteArray) (a : Nat) (ha : a ≤ s.size) (hs : s.size ≤ 140737488355327) (m : Int) (w : World) (hm : MaxW w m) (hr : RdAt w r s a) :
   Calls Tryz.prog 120 #[.pointer (some ⟨r,0,none⟩)] w (ReadPost r s w (readS (s.data.toList.drop a))):=by
 cases hn : nextS (s.data.toList.drop a) with
 | bad k => rw [readS_bad hn];exact rread_bad r s a k ha hs m w hm hr hn
 | good tr =>
   obtain ⟨t,rest⟩:=tr
   rw [readS_good hn]
   obtain ⟨h1,hk,hrest⟩:=nextS_good hn
   obtain ⟨g1,g2,g3,_⟩:=nextT_good h1
   simp only [List.length_drop,Array.length_toList,show s.data.size = s.size from rfl] at g1
   rw [List.drop_drop,← Nat.add_assoc] at hrest
   subst hrest
   exact rread_tok r s a _ _ t ha hs m w hm hr h1 hk rfl rfl (by omega) g3 g2
def ObjPost (s : ByteArray) (w : World) (R : Res (Ob × L)) (e : Ending) (w' : World) : Prop :=
 match R with
 | .good (o, rest) => ∃ (p1 : Option Addr) (n1 c1 : Nat) (p2 : Option Addr) (n2 c2 z : Nat), e = .returned (.tuple #[.agg #[.int .i64 o.kind, .int .i64 o.n, .int .i64 o.g, .string ⟨o.s.toArray⟩, .slice p1 n1 c1, .slice p2 n2 c2], .int .i64 z, .int .i64 0]) ∧ z ≤ s.size ∧ rest = s.data.toList.drop z ∧
     ObjAt (fun b => w.heap.size ≤ b) 25 w' (objCells o.kind o.n o.g o.s (.slice p1 n1 c1) (.slice p2 n2 c2)) o ∧ Below w.heap.size w w'
 | .bad k => e = .returned (.tuple #[.agg #[.int .i64 0,.int .i64 0,.int .i64 0,.string ⟨#[]⟩,.slice none 0 0,.slice none 0 0],.int .i64 0,.int .i64 k]) ∧ Below w.heap.size w w'
theorem below_bes {n r : Nat} {w w1 w2 : World} (h : Below n w w1) (hb : Bes r w1 w2) (hr : n ≤ r) (hn : n ≤ w1.heap.size) : Below n w w2 :=
 ⟨hb.os.trans h.os,hb.tape.trans h.tape,hb.output.trans h.output,Nat.le_trans h.size hb.size,fun k hk => (hb.block k (by omega) (by omega)).trans (h.block k hk)⟩
theorem nextS_codes {l : L} {k : Int} (h : nextS l = .bad k) : 2 ≤ k ∧ k ≤ 5:=by
 rcases nextS_bad h with h | ⟨h,_⟩
 · exact nextT_bad h
 · omega
theorem arrS_codes {f : Tok → L → Res (Ob × L)} (hf : ∀ t l k,f t l = .bad k → 2 ≤ k ∧ k ≤ 9) {d : Nat} : ∀ {m : Nat} {l : L} {acc : List Ob} {k : Int},l.length < m → (∀ t l o r,f t l = .good (o,r) → r.length ≤ l.length) → arrS f d m l acc = .bad k → 2 ≤ k ∧ k ≤ 9
 | 0,_,_,_,h,_,_ => by omega
 | m + 1,l,acc,k,hm,hs,h => by
   rw [arrS] at h
   split at h
   · rename_i e he;cases h;have:=nextS_codes he;omega
   · rename_i t r h1
     have h2:=(nextS_shorter h1).1
     split at h
     · cases h
     · split at h
       · cases h;omega
       · split at h
         · rename_i e he;cases h;exact hf _ _ _ he
         · rename_i o r2 h3
           have:=hs _ _ _ _ h3
           exact arrS_codes hf (by omega) hs h
theorem dictS_codes {f : Tok → L → Res (Ob × L)} (hf : ∀ t l k,f t l = .bad k → 2 ≤ k ∧ k ≤ 9) : ∀ {m : Nat} {l : L} {acc : List (L × Ob)} {k : Int},l.length < m → (∀ t l o r,f t l = .good (o,r) → r.length ≤ l.length) → dictS f m l acc = .bad k → 2 ≤ k ∧ k ≤ 9
 | 0,_,_,_,h,_,_ => by omega
 | m + 1,l,acc,k,hm,hs,h => by
   rw [dictS] at h
   split at h
   · rename_i e he;cases h;have:=nextS_codes he;omega
   · rename_i t r h1
     have h2:=(nextS_shorter h1).1
     split at h
     · cases h
     · split at h
       · cases h;omega
       · split at h
         · cases h;omega
         · split at h
           · cases h;omega
           · split at h
             · rename_i e he;cases h;have:=nextS_codes he;omega
             · rename_i t2 r2 h4
               have h5:=(nextS_shorter h4).1
               split at h
               · rename_i e he;cases h;exact hf _ _ _ he
               · rename_i o r3 h3
                 have:=hs _ _ _ _ h3
                 exact dictS_codes hf (by omega) hs h
theorem objS_codes : ∀ (d : Nat) (t : Tok) (l : L) (k : Int),objS d t l = .bad k → 2 ≤ k ∧ k ≤ 9
 | 0,t,l,k,h => by rw [objS] at h;split at h <;> cases h <;> omega
 | d + 1,t,l,k,h => by
   rw [objS] at h
   split at h
   · split at h
     · split at h <;> cases h
     · split at h
       · cases h
       · split at h
         · cases h
         · split at h
           · cases h
           · split at h
             · cases h
             · split at h
               · split at h
                 · rename_i e he;cases h;exact arrS_codes (objS_codes d) (by omega) (objS_shorter d) he
                 · cases h
               · split at h
                 · rename_i e he;cases h;exact dictS_codes (objS_codes d) (by omega) (objS_shorter d) he
                 · cases h
   · cases h;omega
theorem readS_codes {l : L} {k : Int} (h : readS l = .bad k) : 2 ≤ k ∧ k ≤ 9:=by
 unfold readS at h
 split at h
 · rename_i e he;cases h;have:=nextS_codes he;omega
 · exact objS_codes _ _ _ _ h
theorem Object_in (s : ByteArray) (a : Nat) (ha : a ≤ s.size) (hs : s.size ≤ 140737488355327) (m : Int) (w : World) (hm : MaxW w m) :
   Calls Tryz.prog 74 #[.string s,.int .i64 a] w (ObjPost s w (readS (s.data.toList.drop a))):=by
 obtain ⟨R,hR⟩ : ∃ R,readS (s.data.toList.drop a) = R:=⟨_,rfl⟩
 have HRD:=Lh (fun r W hm hr => hR ▸ rread_in r s a ha hs m W hm hr)
 have HCO:=Lh (fun k (h : R = .bad k) => readS_codes (hR.trans h))
 rw [hR]
 clear hR
 have hlt : decide ((s.size : Int) < a) = false:=by simp;omega
 go_enter Tryz.func74,Tryz.ntmps74
 go_wp2_with fail
 refine (HRD.out _ _ (hm.below bel) (heap_new_at _ _ _ (by simp))).mono ?_
 intro e w1 hpost
 have bW : Below w.heap.size w ((w.alloc (.cells #[.int .i64 0,.int .i64 0,.int .i64 0,.string ⟨#[]⟩,.slice none 0 0,.slice none 0 0] 36)).alloc (.cells #[.string s,.int .i64 a] 178)):=bel
 have g0 : ((w.alloc (.cells #[.int .i64 0,.int .i64 0,.int .i64 0,.string ⟨#[]⟩,.slice none 0 0,.slice none 0 0] 36)).alloc (.cells #[.string s,.int .i64 a] 178)).heap[w.heap.size]? = some (.cells #[.int .i64 0,.int .i64 0,.int .i64 0,.string ⟨#[]⟩,.slice none 0 0,.slice none 0 0] 36 (0,0)):=by
   rw [Below.heap_alloc _ _ _ (by simp)];exact heap_new_at _ _ _ rfl
 cases R with
 | bad k =>
   obtain ⟨rfl,hs1⟩:=hpost
   have hb1 : Below w.heap.size w w1:=below_bes bW hs1 (by simp) (by simp;omega)
   have hl1 : w.heap.size + 2 ≤ w1.heap.size:=by have:=hs1.size;simp at this;omega
   have g1:=(hs1.block w.heap.size (by simp;omega) (by simp)).trans g0
   obtain ⟨x0,x1,x2,x3,x4,x5,xf⟩:=six_of g1
   have hk0 : (k != 0) = true:=by have:=HCO.out k rfl;simp;omega
   have hnw : w.heap.size < w1.heap.size:=by omega
   clear hs1 bW g0 g1
   go_wp2
   refine bodyPost_ret (v:=.tuple #[.agg #[.int .i64 0,.int .i64 0,.int .i64 0,.string ⟨#[]⟩,.slice none 0 0,.slice none 0 0],.int .i64 0,.int .i64 k]) (by simp [results,Tryz.results74,go_sem,x0,x1,x2,x3,x4,x5,xf,hnw]) rfl ⟨rfl,bel⟩
 | good x =>
   obtain ⟨o,rest⟩:=x
   obtain ⟨p1,n1,c1,p2,n2,c2,z,rfl,hz1,hz2,hO,hR1,hs1⟩:=hpost
   have hb1 : Below w.heap.size w w1:=below_bes bW hs1 (by simp) (by simp;omega)
   have hl1 : w.heap.size + 2 ≤ w1.heap.size:=by have:=hs1.size;simp at this;omega
   have g1:=(hs1.block w.heap.size (by simp;omega) (by simp)).trans g0
   obtain ⟨x0,x1,x2,x3,x4,x5,xf⟩:=six_of g1
   have hnw : w.heap.size < w1.heap.size:=by omega
   have hnw1 : w.heap.size + 1 < w1.heap.size:=by omega
   have hrc:=hR1.cell1
   have HO2:=Lh (fun (W : World) (h : ∀ b,w.heap.size + 2 ≤ b → b < w1.heap.size → W.heap[b]? = w1.heap[b]?) => ObjAt.grow (S':=fun b => w.heap.size ≤ b) (w':=W) hO (fun b hb1 hb2 => ⟨by simp at hb1;omega,h b (by simpa using hb1) hb2⟩))
   have HZ:=Lh hz2
   clear hs1 bW g0 g1 hO hR1 hz2
   go_wp2
   obtain ⟨w3,hw3⟩ : ∃ w3,w1.alloc (.cells #[.int .i64 o.kind,.int .i64 o.n,.int .i64 o.g,.string ⟨o.s.toArray⟩,.slice p1 n1 c1,.slice p2 n2 c2] 36) = w3:=⟨_,rfl⟩
   have hb3 : Below w1.heap.size w1 w3:=hw3 ▸ bel
   have hg3 : w3.heap[w1.heap.size]? = some (.cells #[.int .i64 o.kind,.int .i64 o.n,.int .i64 o.g,.string ⟨o.s.toArray⟩,.slice p1 n1 c1,.slice p2 n2 c2] 36 (0,0)):=hw3 ▸ heap_alloc_new w1 _
   rw [hw3]
   clear hw3
   obtain ⟨y0,y1,y2,y3,y4,y5,yf⟩:=six_of hg3
   have z0:=(hb3.cell (p:=⟨w.heap.size,0,none⟩) hnw).trans x0
   have z1:=(hb3.cell (p:=⟨w.heap.size,1,none⟩) hnw).trans x1
   have z2:=(hb3.cell (p:=⟨w.heap.size,2,none⟩) hnw).trans x2
   have z3:=(hb3.cell (p:=⟨w.heap.size,3,none⟩) hnw).trans x3
   have z4:=(hb3.cell (p:=⟨w.heap.size,4,none⟩) hnw).trans x4
   have z5:=(hb3.cell (p:=⟨w.heap.size,5,none⟩) hnw).trans x5
   have zf : ∀ o,w3.frozen? ⟨w.heap.size,o,none⟩ = false:=fun o => (hb3.frozen (p:=⟨w.heap.size,o,none⟩) hnw).trans (xf o)
   have zr:=(hb3.cell (p:=⟨w.heap.size + 1,1,none⟩) hnw1).trans hrc
   have ne1 : ¬ w1.heap.size = w.heap.size:=by omega
   have ne2 : ¬ w.heap.size = w1.heap.size:=by omega
   have hb13 : Below w.heap.size w w3:=bel
   have HO3:=Lh (fun (W : World) (h : ∀ b,w.heap.size + 2 ≤ b → b < w1.heap.size → W.heap[b]? = w3.heap[b]?) => HO2.out W (fun b h1 h2 => (h b h1 h2).trans (hb3.block b h2)))
   have hl3:=hb3.size
   clear x0 x1 x2 x3 x4 x5 xf hrc hg3
   go_region_held3 (fun w' => w'.cell? ⟨w1.heap.size,0,none⟩ = some (.int .i64 o.kind) ∧ w'.cell? ⟨w1.heap.size,1,none⟩ = some (.int .i64 o.n) ∧ w'.cell? ⟨w1.heap.size,2,none⟩ = some (.int .i64 o.g) ∧ w'.cell? ⟨w1.heap.size,3,none⟩ = some (.string ⟨o.s.toArray⟩) ∧ w'.cell? ⟨w1.heap.size,4,none⟩ = some (.slice p1 n1 c1) ∧ w'.cell? ⟨w1.heap.size,5,none⟩ = some (.slice p2 n2 c2) ∧ w'.cell? ⟨w.heap.size + 1,1,none⟩ = some (.int .i64 z)) (go_keep) (fail)
   go_wp2
   refine bodyPost_ret (v:=.tuple #[.agg #[.int .i64 o.kind,.int .i64 o.n,.int .i64 o.g,.string ⟨o.s.toArray⟩,.slice p1 n1 c1,.slice p2 n2 c2],.int .i64 z,.int .i64 0]) (by simp [results,Tryz.results74,go_sem,z0,z1,z2,z3,z4,z5,zf]) rfl ?_
   refine ⟨p1,n1,c1,p2,n2,c2,z,rfl,hz1,HZ.out,HO3.out _ ?_,?_⟩
   · intro b hb _
     rw [heap_drew,Below.heap_setCell _ _ _ _ (by show b ≠ w.heap.size;omega),Below.heap_setCell _ _ _ _ (by show b ≠ w.heap.size;omega),Below.heap_setCell _ _ _ _ (by show b ≠ w.heap.size;omega),Below.heap_setCell _ _ _ _ (by show b ≠ w.heap.size;omega),Below.heap_setCell _ _ _ _ (by show b ≠ w.heap.size;omega),Below.heap_setCell _ _ _ _ (by show b ≠ w.heap.size;omega)]
   · have hb:=hb13
     exact bel
end Go.Proofs.YtinafodpgjbedaaGreatDoor
