/- Parts of the proof: ChQ ChV TdC Same ChS ChM TdD DictA DictB. -/
import Derived.Test.YtinafodpgjbedaaGreatDoorPcd
import Derived.Test.YtinafodpgjbedaaGreatDoorPce
import Derived.Shelf.SlSortCmp.NoneTotal
import Derived.Test.YtinafodpgjbedaaGreatDoorPca
import Derived.RangeFuncNested
import Derived.RangeFuncBound
import Derived.RangeFuncCalls
import Derived.RangeFuncLeaves
import Derived.RangeFuncBox
import Derived.Shelf.Abstract
import Derived.Shelf.RegionOpen
import Derived.OwnWalkIn
import Derived.TacticsInMore
import Derived.LoopNIn
import Derived.LoopIn
import Derived.Maps.AppendAt
import Derived.Maps.OwnIn
import Derived.Lib.SlKeysI
import Derived.Sort.MapsRangeIn
import Derived.RangeFuncMany
import Derived.BigQuiet
import Derived.Deep.QuietTactic
import Derived.Deep.RegionHeld3
import Derived.Deep.CutBlock
import Derived.Deep.DeepCutAuto
import Derived.Maps.RangeWalk
import Derived.Sort.KeysCollected
import Derived.Sort.OwnSorted
set_option linter.all false
set_option maxRecDepth 100000
set_option maxHeartbeats 8000000
namespace Go.Proofs.YtinafodpgjbedaaGreatDoor
open Go.RowKit Go.Shelf Go.Sort Fo
section
variable {α : Type} [Inhabited α] {E : Enc α} {t : TypeId} {w : World} {B g cap n : Nat} {os : Array Obj} {cur : Array Value} {xs ys : List α}
theorem flat_at (E : Enc α) (xs : List α) (i : Nat) (hi : i < xs.length * E.k) : (flatK E.cells E.k xs.toArray)[i]? = (E.row xs)[i]? ∧ ((E.row xs)[i]?).isSome:=by
 have hk0 : 0 < E.k:=by
   rcases Nat.eq_zero_or_pos E.k with h | h
   · rw [h] at hi;omega
   · exact h
 have hq : i / E.k < xs.length:=Nat.div_lt_of_lt_mul (by rw [Nat.mul_comm];exact hi)
 have hm:=Nat.mod_lt i hk0
 have hr:=E.row_at xs (i / E.k) hq (i % E.k) hm
 rw [Nat.mul_comm,Nat.div_add_mod] at hr
 have hc : i % E.k < (E.cells xs[i / E.k]).length:=by rw [E.len];exact hm
 rw [hr]
 have hs : i < (flatK E.cells E.k xs.toArray).size:=by simpa using hi
 have g:=get_flatK E.cells E.k xs.toArray i (by simpa using hi)
 have hqa : i / E.k < xs.toArray.size:=by simpa using hq
 have e1 : xs.toArray[i / E.k]! = xs[i / E.k]:=by rw [getElem!_pos xs.toArray (i / E.k) hqa];simp
 have e2 : (E.cells xs[i / E.k])[i % E.k]! = (E.cells xs[i / E.k])[i % E.k]:=getElem!_pos (E.cells xs[i / E.k]) (i % E.k) hc
 rw [e1,e2,getElem!_pos _ i hs] at g
 rw [Array.getElem?_eq_getElem hs,g,List.getElem?_eq_getElem hc]
 exact ⟨rfl,rfl⟩
theorem holdsK_of (hb : w.heap[g]? = some (.cells cur t (0,0))) (ht : cur.toList.take (xs.length * E.k) = E.row xs) : HoldsK E.cells E.k w g 0 xs.toArray:=by
 intro j hj
 have hj' : j < xs.length * E.k:=by simpa using hj
 obtain ⟨h1,h2⟩:=flat_at E xs j hj'
 refine ⟨?_,by simp [World.frozen?,hb]⟩
 have h3 : cur[j]? = (E.row xs)[j]?:=by
   rw [← ht,List.getElem?_take_of_lt hj',Array.getElem?_toList]
 simp only [World.cell?,hb,Nat.zero_add]
 simp only [Option.isSome_none,Bool.false_eq_true,if_false]
 rw [h3,← h1]
 rw [getElem!_pos _ j hj,Array.getElem?_eq_getElem hj]
 rfl
theorem heap_sortedK (hb : w.heap[g]? = some (.cells cur t (0,0))) : (sortWorldK E.cells E.k w g 0 n ys.toArray os).heap[g]? = some (.cells (putCells id 0 (flatK E.cells E.k ys.toArray) cur) t (0,0)):=by
 have hg : g < w.heap.size:=lt_of_block hb
 unfold sortWorldK putRowK
 rw [heap_grow_old _ _ (by simpa using hg)]
 simp [putRow,mapBlock,Sort.ahead,Array.getElem?_modify,hb,onCells]
theorem grownBy_sortedK : w.grownBy (sortWorldK E.cells E.k w g 0 n ys.toArray os) (some g):=by
 unfold sortWorldK putRowK
 refine ⟨rfl,rfl,rfl,by simp,fun k hk hne => ?_⟩
 rw [heap_grow_old _ _ (by simpa using hk)]
 have : g ≠ k:=fun e => hne (by rw [e])
 simp [putRow,mapBlock,Sort.ahead,Array.getElem?_modify,this]
theorem rownS_sorted (hl : ys.length = xs.length) (hB : B ≤ g) (hb : w.heap[g]? = some (.cells cur t (0, 0))) (h1 : xs.length ≤ cap) (h2 : cap ≤ maxLen) (h3 : cur.size = cap * E.k) :
   rownS E t (sortWorldK E.cells E.k w g 0 n ys.toArray os) B (.slice (some ⟨g,0,none⟩) xs.length cap) ys:=by
 refine ⟨E.row_length ys,.inr ⟨g,cap,_,by rw [hl],hB,heap_sortedK hb,by omega,h2,by simp [putCells,h3],?_⟩⟩
 have hle : ys.length * E.k ≤ cur.size:=by rw [h3,hl];exact Nat.mul_le_mul_right _ h1
 refine List.ext_getElem? fun j => ?_
 by_cases hj : j < ys.length * E.k
 · obtain ⟨g1,g2⟩:=flat_at E ys j hj
   have hs : j < (flatK E.cells E.k ys.toArray).size:=by simpa using hj
   rw [List.getElem?_take_of_lt hj,Array.getElem?_toList,← g1,Array.getElem?_eq_getElem hs]
   have hjc : j < cur.size:=by omega
   have h4 : j < (putCells id 0 (flatK E.cells E.k ys.toArray) cur).size:=by simpa [putCells] using hjc
   rw [Array.getElem?_eq_getElem h4]
   congr 1
   simp only [putCells,Array.getElem_mapIdx]
   rw [if_pos ⟨Nat.zero_le _,by rw [Nat.zero_add];exact hs⟩,Nat.sub_zero,getElem!_pos _ j hs]
   rfl
 · rw [List.getElem?_take_eq_none (by omega),List.getElem?_eq_none (by rw [E.row_length];omega)]
theorem perm_of {d' : Array α} (h : PermIn 0 xs.toArray.size xs.toArray d') : d'.toList.Perm xs:=by
 obtain ⟨h1,_,h3⟩:=h
 have e1 : d'.extract 0 xs.toArray.size = d':=by rw [← h1,Array.extract_size]
 have e2 : xs.toArray.extract 0 xs.toArray.size = xs.toArray:=Array.extract_size
 rw [e1,e2] at h3
 exact h3
theorem sorted_of {lt : α → α → Bool} {d' : Array α} (hs : d'.size = xs.length) (h : SortedIn lt 0 xs.length d') : d'.toList.Pairwise fun a b => lt b a = false:=by
 rw [List.pairwise_iff_getElem]
 intro i j hi hj hij
 have hi' : i < d'.size:=by simpa using hi
 have hj' : j < d'.size:=by simpa using hj
 have:=h i j (Nat.zero_le _) hij (by omega)
 rw [getElem!_pos d' j hj',getElem!_pos d' i hi'] at this
 simpa using this
end
section
variable {α : Type} [Inhabited α]
theorem sort_slots (E : Enc α) (hE : E.k = 4) (cf : α → α → Int) (hO : SWO (ltOf cf)) (g : Nat) (eg : ∀ args w, (callFunc g args).run Tryz.prog w = .ok (.enter g args) w)
   (hcmp : ∀ x y W,Calls Tryz.prog g #[.agg (E.cells x).toArray,.agg (E.cells y).toArray] W fun e w' => e = .returned (.int .i64 (cf x y)) ∧ ∃ q os',w' = grow (W.drewN q) os')
   (B : Nat) (v : Value) (xs : List α) (w : World) (h : rownS E 28 w B v xs) (hlen : xs.length ≤ 1000000000) (hB : B ≤ w.heap.size) :
   Calls Tryz.prog 34 #[v,.func (.func g) #[] #[]] w fun e w' => e = .returned (.tuple #[]) ∧ ∃ ys,ys.Perm xs ∧ ys.Pairwise (fun a b => ltOf cf b a = false) ∧ rownS E 28 w' B v ys ∧ Below B w w' ∧ w.grownBy w' v.ownBlock:=by
 rcases h.2 with ⟨rfl,h0⟩ | ⟨blk,cap,cur,rfl,h2,h3,h4,h5,h6,h7⟩
 · have hx : xs = []:=List.eq_nil_of_length_eq_zero h0
   subst hx
   have hc:=AnyF.slices_SortFunc_none (P:=Tryz.prog) (ρ:=Tryz.sortSl_ren) Tryz.sortSl none 0 (.func (.func g) #[] #[]) w
   refine (show Calls Tryz.prog 34 _ _ _ from hc).mono ?_
   rintro e w' ⟨rfl,rfl⟩
   exact ⟨rfl,[],.nil,.nil,rownS_nil _ _,Below.refl _ _,⟨rfl,rfl,rfl,Nat.le_refl _,fun k hk _ => rfl⟩⟩
 · have hc := AnyQ.slices_SortFunc (P := Tryz.prog) (ρ := Tryz.sortSl_ren) Tryz.sortSl E.k Tryz.isAgg28 (by rw [hE]; exact Tryz.sizeOf28) E.cells E.len E.one cf hO g #[] blk 0 cap xs.toArray w eg
     (fun m os dk _ x y => hcmp x y _) (holdsK_of h3 h7) (lt_of_block h3) (by simp;omega)
   refine (show Calls Tryz.prog 34 _ _ _ from hc).mono ?_
   rintro e w' ⟨rfl,d',n,os,hp,hs,rfl⟩
   have hsz : d'.size = xs.length:=by simpa using hp.1
   have hrow:=rownS_sorted (E:=E) (t:=28) (B:=B) (w:=w) (g:=blk) (cap:=cap) (n:=n) (os:=os) (cur:=cur) (xs:=xs) (ys:=d'.toList) (by simpa using hsz) h2 h3 h4 h5 h6
   have hg : w.grownBy (sortWorldK E.cells E.k w blk 0 n d' os) (some blk):=by
     have:=grownBy_sortedK (E:=E) (w:=w) (g:=blk) (n:=n) (os:=os) (ys:=d'.toList)
     simpa using this
   refine ⟨rfl,d'.toList,perm_of hp,sorted_of hsz (by simpa using hs),by simpa using hrow,(Below.refl B w).grown hg hB (fun k e => by cases e;exact h2),hg⟩
end
open Go.RowKit Go.Shelf Go.Maps Go.Sort Fo
attribute [local go_sem] Oper.semAt_some
theorem Tryz.infoSlt : (Tryz.prog.info? 28).map (fun i => (i.zero,i.size,i.bytes)) = some (some (slV ⟨0,0,0,0⟩),4,32):=by kernel_rfl
def encSl (x : Sl) : Array Value:=#[.agg (slE.cells x).toArray]
theorem chNew (w : World) (o : Obj) (b : Nat) (h : b = w.heap.size) : (w.alloc o).heap[b]? = some o:=by subst h;exact heap_alloc_new w o
theorem nodN_nodup {ps : List Sl} (h : NodN ps) : ps.Nodup:=h.imp fun {a b} h e => h (by rw [e])
theorem perm_all {D : DataW Unit} {ps xs : List Sl} {left : Lit → Bool} (hD : MapS D ps) (hn : NodN ps) (hC : CollectedI D left (xs.map (·.num))) (hx : ∀ x ∈ xs,x ∈ ps) (hl : ∀ kl,left kl = false) : xs.Perm ps:=by
 have hnx : xs.Nodup:=by
   have h:=hC.1
   rw [List.nodup_iff_pairwise_ne,List.pairwise_map] at h
   exact h.imp fun {a b} h e => h (by rw [e])
 refine (List.perm_ext_iff_of_nodup hnx (nodN_nodup hn)).2 fun x => ⟨hx x,fun hp => ?_⟩
 have hf:=nod_num hn hp
 have hh:=hD.has x.num
 rw [show ps.find? (fun y => y.num == x.num) = some x from hf] at hh
 have hm:=(hC.2 x.num).2 ⟨hh,hl _⟩
 obtain ⟨y,hy,e⟩:=List.mem_map.1 hm
 have hy2:=nod_num hn (hx y hy)
 rw [e,hf] at hy2
 cases hy2
 exact hy
theorem maps_values_in (mb : Option Nat) (w : World) :
   Calls Tryz.prog 19 #[.map mb] w fun e w' => e = .returned (.func (.func 35) #[] #[.pointer (some ⟨w.heap.size,0,none⟩)]) ∧
     w' = w.alloc (.cells #[.map mb] 48):=by
 have hmf : ∀ (fn : Fn) (first cap : Array Value) (w : World),(Instr.makeFunc fn first cap).run Tryz.prog w = .ok (.func fn first cap) w:=fun _ _ _ _ => rfl
 go_enter Tryz.func19,Tryz.ntmps19
 go_wp2
 go_ret
 exact ⟨rfl,rfl⟩
theorem vals1_stops (Bm b nn : Nat) (D : DataW Unit) (ps : List Sl) (w0 : World) (hBm : Bm < w0.heap.size) (hm : w0.cell? ⟨Bm, 0, none⟩ = some (.map (some b))) (hown : w0.ownsMap Tryz.prog 3 slotR b nn D) (hD : MapS D ps) (hnod : NodN ps) :
   SeqStopsK Fence.wide 5 Tryz.prog 35 #[.pointer (some ⟨Bm,0,none⟩)] encSl KeepsWalks (fun xs => xs.Perm ps) (fun _ => True) (Maps.size D) w0:=by
 intro l J Jx W hW hAJ hAJx hY hJ0
 have hro : Fence.wide.round = none:=rfl
 have hmW:=(hW.cell (p:=⟨Bm,0,none⟩) hBm).trans hm
 have hown' : W.ownsMap Tryz.prog 3 slotR b nn D:=by
   have hbl:=hown.lt
   obtain ⟨es,clock,hb,Ft,hs,hD⟩:=hown
   exact ⟨es,clock,(hW.block b hbl).trans hb,Ft,hs,hD⟩
 have HD:=Lh (And.intro hD hnod)
 have HY:=Lh hY
 clear hm hown hD hnod hW hY
 refine callsIn_of_wp Tryz.func35 rfl trivial ?_ hro
 simp only [Tryz.ntmps35,List.size_toArray,List.length_cons,List.length_nil,Nat.reduceAdd,Nat.reduceSub,Array.replicate_succ,Array.replicate_zero,List.push_toArray,List.append_toArray,List.nil_append,List.cons_append]
 gi_wp2_with (first
   | (gi_at_range;refine wpListIn_range_own _ rfl _ 48 rfl 3 28 (int_keyed Tryz.underlying3) Tryz.underlying48 slotR b nn _ rfl hown' ?_;intro w1 hrg0 hg0 hs0)
   | gi_in)
 go_frame
 gi_loopw [4] (fun _ wr => ∃ (left : Lit → Bool) (cnt : Nat) (xs : List Sl),wr.ranges Tryz.prog 3 slotR b W.heap.size nn D left cnt ∧ xs.length + cnt ≤ Maps.size D ∧ CollectedI D left (xs.map (·.num)) ∧ Hid (∀ x ∈ xs,x ∈ ps) ∧ J xs wr)
   (fun _ wr => wr.rangeLeft b W.heap.size)
 case atStart => exact ⟨_,_,[],hrg0,by simp,CollectedI.start D,Lh (by simp),hAJ [] W w1 none hJ0 hg0 (fun r e => by cases e)⟩
 case round =>
   obtain ⟨left,cnt,xs,hrg,hcs,hC,hV,hJs⟩:=hrel
   gi_wp2_with (first
     | (gi_at_next;refine wpListIn_next_ranges _ rfl _ rfl 3 (int_keyed Tryz.underlying3) slotR encZ slV (fun key kl hk => by obtain ⟨x,hx,_⟩:=Maps.keyOf_i64 Tryz.underlying3 hk;exact ⟨x,hx⟩) (fun v y hv => by obtain ⟨x,rfl,_⟩:=slotR_inv hv;exact ⟨x,rfl⟩) b W.heap.size nn _ _ _ rfl hrg ?_ ?_)
     | gi_in)
   · intro hc0 hl0
     gi_wp2
     go_end0
     exact ⟨⟨_,rfl⟩,.inl ⟨xs,perm_all HD.out.1 HD.out.2 hC hV.out hl0,hJs⟩⟩
   · intro x c kl yd yp w2 cnt2 hkey hlk hv hat hrg2 hlt hg2 hs2 hen
     obtain ⟨x',ex,rfl,_⟩:=Maps.keyOf_i64 Tryz.underlying3 hkey
     obtain rfl : x = x':=encZ_inj ex
     have hz : yd = slD c:=by
       have h:=slotR_slV c
       rw [hv] at h
       exact congrArg (fun z : DataW Unit × List MemPlace => z.1) (Option.some.inj h)
     have hcp : c ∈ ps ∧ c.num = x:=by
       have hh:=has_true_of_atKey hat
       rw [HD.out.1.has x] at hh
       obtain ⟨z,hz2⟩:=Option.isSome_iff_exists.1 hh
       have h1:=HD.out.1.at' x z hz2 (slD z)
       rw [hat,hz] at h1
       obtain rfl:=slD_inj h1
       exact numF_some hz2
     obtain ⟨cn,ck,ca,cg⟩:=c
     obtain ⟨hcp,rfl⟩:=hcp
     have hJ2 : J xs w2:=hAJ xs wr w2 (some W.heap.size) hJs hg2 (fun r e => by cases e;exact ⟨Nat.le_refl _,hrg.iter_walk⟩)
     have hJ3 : J xs (w2.alloc (.cells #[.int .i64 cn,.int .i64 ck,.int .i64 ca,.int .i64 cg] 28)):=hAJ xs w2 _ none hJ2 ((show w2.grownBy (w2.alloc _) none from ⟨rfl,rfl,rfl,by simp,fun k hk _ => Below.heap_alloc _ _ _ hk⟩)) (fun r e => by cases e)
     obtain ⟨fn,tmps,assign,body,hy,hR⟩:=HY.out xs ⟨cn,ck,ca,cg⟩ _ hJ3 (by omega)
     dsimp only [encSl,slE] at hy
     dsimp only [slV] at hen
     have HV2:=Lh (show ∀ y ∈ xs ++ [(⟨cn,ck,ca,cg⟩ : Sl)],y ∈ ps from fun y hy => (List.mem_append.1 hy).elim (hV.out y) (fun e => by simp at e;subst e;exact hcp))
     have HC2:=Lh (show CollectedI D (fun z => left z && !z.sameKey (.int .i64 cn)) ((xs ++ [(⟨cn,ck,ca,cg⟩ : Sl)]).map (·.num)) by simpa using hC.step hlk hat)
     clear hs2 hv hz hkey ex hat hlk hcp
     gi_wp2
     refine hR.mono ?_
     rintro e W3 (⟨rfl,hJ4,hk3⟩ | ⟨rfl,hJx3⟩)
     · gi_wp2
       have hrg3:=(hrg2.of_walks (KeepsWalks.alloc _ _)).of_walks hk3
       go_roundw
       case rel => exact ⟨_,cnt2,_,hrg3,by simp;omega,HC2.out,HV2,hJ4⟩
       case measure => rw [hrg3.left_eq,hrg.left_eq];exact hlt
     · gi_wp2
       refine bodyPost_ret (results_none rfl _ _ _) rfl ?_
       exact ⟨⟨_,rfl⟩,.inr ⟨_,trivial,hJx3⟩⟩
theorem row_not_walk {W : World} {base : Nat} {e : TypeId} {size : Nat} {v : Value} {k : Nat} {xs : List Value} (h : W.ownsRow base e size v k xs) : ∀ (j : Nat) (o : Obj),v.ownBlock = some j → W.heap[j]? = some o → o.isWalk = false:=by
 intro j o hj ho
 rcases h.2 with ⟨rfl,_⟩ | ⟨g,cap,cur,rfl,_,hgb,_⟩
 · simp [Value.ownBlock] at hj
 · have : g = j:=by simpa [Value.ownBlock] using hj
   subst this;rw [hgb] at ho;cases ho;rfl
theorem block_keptC {A B : World} {row : Option Nat} {b : Nat} {c : Array Value} {t : TypeId} {fr : Nat × Nat} (h : A.heap[b]? = some (.cells c t fr)) (hg : A.grownBy B row) (hrow : ∀ r,row = some r → ∃ o : Obj,A.heap[r]? = some o ∧ o.isCells = false) : B.heap[b]? = some (.cells c t fr) :=
 (grownBy_keeps_cells hg hrow h rfl).trans h
theorem row_snocS (pre : List Sl) (x : Sl) : slE.row (pre ++ [x]) = slE.row pre ++ slE.cells x:=by rw [slE.row_append];simp [Enc.row]
theorem appendSeq_in (gf : Nat) (lb : Array Value) (eg : ∀ args w, (callFunc gf args).run Tryz.prog w = .ok (.enter gf args) w) (ps : List Sl) (N : Nat) (hN : N ≤ 100000000) (w : World)
   (hseq : SeqStopsK Fence.wide 5 Tryz.prog gf lb encSl KeepsWalks (fun xs => xs.Perm ps) (fun _ => True) N w) :
   CallsIn Fence.wide 6 Tryz.prog 60 #[.slice none 0 0,.func (.func gf) #[] lb] w fun e w' => ∃ v xs,e = .returned v ∧ xs.Perm ps ∧ rownS slE 28 w' w.heap.size v xs ∧ Below w.heap.size w w':=by
 obtain ⟨i0,hi,hz0,hz1,hz2⟩:=info_parts Tryz.infoSlt
 have hro : Fence.wide.round = none:=rfl
 obtain ⟨sv,hsv⟩ : ∃ sv,Value.func (.func gf) #[] lb = sv:=⟨_,rfl⟩
 have HSV:=Lh hsv
 rw [hsv]
 clear hsv
 refine callsIn_of_wp_marks Tryz.func60 rfl trivial ?_ hro
 simp only [Tryz.ntmps60,List.size_toArray,List.length_cons,List.length_nil,Nat.reduceAdd,Nat.reduceSub,Array.replicate_succ,Array.replicate_zero,List.push_toArray,List.append_toArray,List.nil_append,List.cons_append]
 gi_wp2
 obtain ⟨H,hH⟩ : ∃ H,w.heap.size = H:=⟨_,rfl⟩
 have bO:=Boxed.new w 25 (.slice none 0 0)
 have hB0 : Below w.heap.size w (w.alloc (.cells #[.slice none 0 0] 25)):=(Below.refl _ w).alloc (Nat.le_refl _) _
 have hsw : (w.alloc (.cells #[.slice none 0 0] 25)).heap.size = H + 1:=by simp;omega
 obtain ⟨W0,hW0⟩ : ∃ W0,w.alloc (.cells #[.slice none 0 0] 25) = W0:=⟨_,rfl⟩
 rw [hW0] at bO hB0 hsw ⊢
 have hb0:=hB0
 rw [hH] at bO hB0
 simp only [hH]
 clear hW0
 refine wpIn_rangeFunc_ownH hro (by omega) (gf:=gf) (lb:=lb) HSV.out.symm trivial eg
   hseq walksK_t walksK_b hb0 (fun _ => rfl)
   (fun pre W => (∃ v,Boxed W H 25 v ∧ W.ownsRow H 28 4 v pre.length (slE.row pre) ∧ True) ∧ Below H w W)
   (fun _ _ _ => False)
   (OwnFrom.and (Own.from (holdsRow_own H H 25 28 4 (fun pre : List Sl => pre.length) (fun pre => slE.row pre) (fun _ _ => True)) _) (ownFrom_below (by omega) (by omega)))
   (fun _ _ _ _ _ hs _ _ => hs)
   ⟨⟨_,bO,World.ownsRow_nil _ _ _ _,trivial⟩,hB0⟩
   (fun x a' W => ∃ Bx,H < Bx ∧ W.heap[Bx]? = some (.cells (slE.cells x).toArray 28 (0,0)) ∧ a' = { tmps:=#[.slice none 0 0,sv,.pointer (some ⟨H,0,none⟩),undef,.slice none 0 0,.pointer (some ⟨Bx,0,none⟩),sv,.agg (slE.cells x).toArray,undef,undef,undef,undef,undef],defers:=[] })
   (fun x a' _ X Y row hs hg hr => by obtain ⟨Bx,h1,h2,h3⟩:=hs;exact ⟨Bx,h1,block_keptC h2 hg (fun r e => (hr r e).2),h3⟩)
   ?assign ?body ?done ?stop
 case assign =>
   rintro l pre ⟨cn,ck,ca,cg⟩ W K ⟨⟨v,hv,hrow,_⟩,hB⟩ hK
   have hz:=hB.size
   have hlt:=hv.lt
   dsimp only [encSl,slE] at hK ⊢
   gi_wp2
   exact hK _ _ ((KeepsOthers.alloc _ _).from _) (KeepsWalks.alloc _ _) ⟨⟨v,hv.alloc _,World.ownsRow.alloc hrow _,trivial⟩,hB.alloc (by omega) _⟩ ⟨W.heap.size,hlt,chNew _ _ _ rfl,rfl⟩
 case body =>
   rintro l pre ⟨cn,ck,ca,cg⟩ a' W hl ⟨r,hr⟩ ⟨⟨v,hv,hrow,_⟩,hB⟩ ⟨Bx,hBx,bX,rfl⟩ hlt
   have hc:=hv.cell
   have hzz:=hB.size
   dsimp only [slE] at bX ⊢
   have v0 : W.cell? ⟨Bx,0,none⟩ = some (.int .i64 cn):=by simp [World.cell?,bX]
   have v1 : W.cell? ⟨Bx,1,none⟩ = some (.int .i64 ck):=by simp [World.cell?,bX]
   have v2 : W.cell? ⟨Bx,2,none⟩ = some (.int .i64 ca):=by simp [World.cell?,bX]
   have v3 : W.cell? ⟨Bx,3,none⟩ = some (.int .i64 cg):=by simp [World.cell?,bX]
   clear bX
   gi_wp2_with (gi_at_builtin;refine wpListIn_append_own_at _ rfl _ _ 25 rfl H 28 i0 (slV ⟨0,0,0,0⟩) 4 32 Tryz.underlying25 hi hz0 hz1 hz2 rfl (by decide) _ _ _ rfl (hrow.alloc _) ⟨W.heap.size,0,none⟩ 1 1 (slE.cells ⟨cn,ck,ca,cg⟩) rfl rfl (World.news_of_block (cs:=(slE.cells ⟨cn,ck,ca,cg⟩).toArray) (t:=28) (fr:=(0,0)) (heap_alloc_new W _)) (slE.one _) (by unfold maxLen;omega) (by omega) (by simp;omega) ?_;intro v' w1 hown' hgrow _ hob;obtain ⟨g',cap',rfl⟩:=ownsRow_succ hown';obtain ⟨hv1,hv2,hr2,hk2,hb2⟩:=hv.appended (by decide) hrow (hH ▸ hB.size) (Nat.le_refl _) hown' hgrow;have hc1:=hv1.cell;have hf1:=hv1.frozen)
   have hkw : KeepsWalks W (w1.setCell ⟨H,0,none⟩ (.slice (some ⟨g',0,none⟩) (pre.length + 1) cap')):=((KeepsWalks.alloc _ _).trans (KeepsWalks.of_grownBy hgrow (row_not_walk (World.ownsRow.alloc hrow _)))).trans (KeepsWalks.setCell _ _ _)
   refine ⟨hk2.from _,hkw,⟨_,hv2,?_,trivial⟩,hB.trans hb2⟩
   show World.ownsRow _ H 28 4 _ (pre ++ [_]).length (slE.row (pre ++ [(⟨cn,ck,ca,cg⟩ : Sl)]))
   rw [row_snocS,List.length_append]
   exact hr2
 case done =>
   rintro D ys W hD hys ⟨⟨v,hv,hrow,_⟩,hB⟩ hK
   have hc:=hv.cell
   gi_wp2
   refine ⟨by simp,.inl ⟨_,_,rfl,run_takeDeferred hK,?_⟩⟩
   exact ⟨_,results_tmp rfl _ _ _,v,ys,rfl,hys,by rw [hH];exact ownsRow_putObj hrow _ hK rfl,by rw [hH];exact hB.trans (belowK_b (w:=w) (by omega) W D _ _ (by omega) hK rfl rfl)⟩
 case stop =>
   rintro D c pre W _ _ h _
   exact h.elim
theorem sortedFunc_in (cf : Sl → Sl → Int) (hO : Go.Sort.SWO (ltOf cf)) (g : Nat) (eg : ∀ args w, (callFunc g args).run Tryz.prog w = .ok (.enter g args) w)
   (hcmp : ∀ x y W,Calls Tryz.prog g #[.agg (slE.cells x).toArray,.agg (slE.cells y).toArray] W fun e w' => e = .returned (.int .i64 (cf x y)) ∧ ∃ q os',w' = grow (W.drewN q) os')
   (Bm b nn : Nat) (ps : List Sl) (w : World) (hBm : Bm < w.heap.size) (hm : w.cell? ⟨Bm,0,none⟩ = some (.map (some b))) (hM : MpS w b nn ps) (hnod : NodN ps) (hnn : nn ≤ 100000000) (hpn : ps.length ≤ 100000000) :
   Calls Tryz.prog 18 #[.func (.func 35) #[] #[.pointer (some ⟨Bm,0,none⟩)],.func (.func g) #[] #[]] w fun e w' =>
     ∃ v ys,e = .returned v ∧ ys.Perm ps ∧ ys.Pairwise (fun a b => ltOf cf b a = false) ∧ rownS slE 28 w' w.heap.size v ys ∧ Below w.heap.size w w':=by
 obtain ⟨D,hown,hD⟩:=hM
 have hsz:=hown.size_le
 have HCL:=Lh (show Calls Tryz.prog 33 #[.func (.func 35) #[] #[.pointer (some ⟨Bm,0,none⟩)]] w (fun e w' => ∃ v xs,e = .returned v ∧ xs.Perm ps ∧ rownS slE 28 w' w.heap.size v xs ∧ Below w.heap.size w w') from by
   have hA:=Lh (callsIn_wide.1 (appendSeq_in 35 #[.pointer (some ⟨Bm,0,none⟩)] (enters_of Tryz.func35 (by kernel_rfl) rfl) ps (Maps.size D) (by omega) w (vals1_stops Bm b nn D ps w hBm hm hown hD hnod)))
   clear hm hown hD
   go_enter Tryz.func33,Tryz.ntmps33
   go_wp2_with fail
   refine hA.out.mono ?_
   rintro e w' ⟨v,xs,rfl,hp,hr,hb⟩
   go_wp2
   go_ret
   exact ⟨v,xs,rfl,hp,hr,hb⟩)
 have HPL:=Lh (fun (xs : List Sl) (hp : xs.Perm ps) => show xs.length ≤ 100000000 by have:=hp.length_eq;omega)
 clear hm hown hD hsz
 go_enter Tryz.func18,Tryz.ntmps18
 go_wp2_with fail
 refine HCL.out.mono ?_
 rintro e w1 ⟨v,xs,rfl,hp,hr,hb⟩
 have HS:=Lh (sort_slots slE rfl cf hO g eg hcmp w.heap.size v xs w1 hr (by have:=HPL.out xs hp;omega) hb.size)
 go_wp2_with fail
 refine HS.out.mono ?_
 rintro e w2 ⟨rfl,ys,hp2,hs2,hr2,hb2,_⟩
 go_wp2
 go_ret
 exact ⟨v,ys,rfl,hp2.trans hp,hs2,hr2,hb.trans hb2⟩
open Go.RowKit Fo Go.Maps
structure SInv (acc ps : List Sl) : Prop where
 perm : ps.Perm acc
 nod : NodN ps
 up : upS acc
 num : ∀ x ∈ ps,0 ≤ x.num ∧ x.num ≤ 8191
theorem SInv.nil : SInv [] []:=⟨.nil,.nil,.nil,fun x h => by cases h⟩
theorem layR_ok : ∀ {acc : List Sl} {x : Sl} {acc1 : List Sl},upS acc → layR acc x = some acc1 → (∀ y ∈ acc,y.num ≠ x.num) ∧ acc1.Perm (acc ++ [x]) ∧ upS acc1 ∧ (∀ y ∈ acc1,y ∈ acc ∨ y = x)
 | [],x,acc1,_,h => by
   cases h
   exact ⟨fun y hy => (by cases hy),.refl _,List.pairwise_singleton _ _,fun y hy => .inr (by simpa using hy)⟩
 | z :: acc,x,acc1,hu,h => by
   obtain ⟨u1,u2⟩:=List.pairwise_cons.1 hu
   unfold layR at h
   by_cases h1 : z.num < x.num
   · rw [if_pos h1] at h
     cases h2 : layR acc x with
     | none => rw [h2] at h;cases h
     | some r =>
       rw [h2] at h
       cases h
       obtain ⟨g1,g2,g3,g4⟩:=layR_ok u2 h2
       refine ⟨fun y hy => ?_,(List.Perm.cons z g2),List.pairwise_cons.2 ⟨fun y hy => ?_,g3⟩,fun y hy => ?_⟩
       · rcases List.mem_cons.1 hy with rfl | hy
         · omega
         · exact g1 y hy
       · rcases g4 y hy with hy | rfl
         · exact u1 y hy
         · exact h1
       · rcases List.mem_cons.1 hy with rfl | hy
         · exact .inl (by simp)
         · rcases g4 y hy with hy | hy
           · exact .inl (by simp [hy])
           · exact .inr hy
   · rw [if_neg h1] at h
     by_cases h2 : z.num = x.num
     · rw [if_pos h2] at h;cases h
     · rw [if_neg h2] at h
       cases h
       refine ⟨fun y hy => ?_,?_,List.pairwise_cons.2 ⟨fun y hy => ?_,hu⟩,fun y hy => ?_⟩
       · rcases List.mem_cons.1 hy with rfl | hy
         · exact h2
         · have:=u1 y hy;omega
       · exact (List.perm_append_singleton x (z :: acc)).symm
       · rcases List.mem_cons.1 hy with rfl | hy
         · omega
         · have:=u1 y hy;omega
       · rcases List.mem_cons.1 hy with rfl | hy
         · exact .inr rfl
         · exact .inl hy
theorem SInv.push {acc ps acc1 : List Sl} {x : Sl} (h : SInv acc ps) (hl : layR acc x = some acc1) (hx : 0 ≤ x.num ∧ x.num ≤ 8191) : SInv acc1 (ps ++ [x]) ∧ ps.find? (fun y => y.num == x.num) = none:=by
 obtain ⟨g1,g2,g3,_⟩:=layR_ok h.up hl
 refine ⟨⟨(h.perm.append_right _).trans g2.symm,?_,g3,fun y hy => ?_⟩,?_⟩
 · refine List.pairwise_append.2 ⟨h.nod,List.pairwise_singleton _ _,fun a ha b hb => ?_⟩
   simp only [List.mem_singleton] at hb
   subst hb
   exact g1 a (h.perm.mem_iff.1 ha)
 · rcases List.mem_append.1 hy with hy | hy
   · exact h.num y hy
   · simp only [List.mem_singleton] at hy;subst hy;exact hx
 · rw [List.find?_eq_none]
   intro y hy
   have:=g1 y (h.perm.mem_iff.1 hy)
   simpa using this
theorem sect_end {f : Nat} {l : L} {acc PS : List Sl} {L2 l1 : L} (h : sectR f l acc = some (PS,L2)) (hw : wordR l wordTr = some l1) : PS = acc ∧ L2 = l1:=by
 cases f with
 | zero => cases h
 | succ f => unfold sectR at h;rw [hw] at h;cases h;exact ⟨rfl,rfl⟩
theorem sect_step {f : Nat} {l : L} {acc PS : List Sl} {L2 : L} (h : sectR f l acc = some (PS, L2)) (hw : wordR l wordTr = none) :
   ∃ first l1 count l2 acc1 l3 f',numR l 0 8191 = some (first,l1) ∧ numR l1 0 (8192 - first) = some (count,l2) ∧ entriesR count.toNat first l2 acc = some (acc1,l3) ∧ sectR f' l3 acc1 = some (PS,L2):=by
 cases f with
 | zero => cases h
 | succ f =>
   unfold sectR at h
   rw [hw] at h
   dsimp only at h
   cases h1 : numR l 0 8191 with
   | none => rw [h1] at h;cases h
   | some y =>
     obtain ⟨first,l1⟩:=y
     rw [h1] at h
     dsimp only at h
     cases h2 : numR l1 0 (8192 - first) with
     | none => rw [h2] at h;cases h
     | some y =>
       obtain ⟨count,l2⟩:=y
       rw [h2] at h
       dsimp only at h
       cases h3 : entriesR count.toNat first l2 acc with
       | none => rw [h3] at h;cases h
       | some y =>
         obtain ⟨acc1,l3⟩:=y
         rw [h3] at h
         exact ⟨first,l1,count,l2,acc1,l3,f,rfl,h2,h3,h⟩
theorem entries_step {n : Nat} {num : Int} {l : L} {acc acc1 : List Sl} {l3 : L} (h : entriesR (n + 1) num l acc = some (acc1, l3)) :
   ∃ x l1 acc2,entryR num l = some (x,l1) ∧ layR acc x = some acc2 ∧ entriesR n (num + 1) l1 acc2 = some (acc1,l3):=by
 unfold entriesR at h
 cases h1 : entryR num l with
 | none => rw [h1] at h;cases h
 | some y =>
   obtain ⟨x,l1⟩:=y
   rw [h1] at h
   dsimp only at h
   cases h2 : layR acc x with
   | none => rw [h2] at h;cases h
   | some acc2 => rw [h2] at h;exact ⟨x,l1,acc2,rfl,h2,h⟩
theorem entry_num {num : Int} {l r : L} {x : Sl} (h : entryR num l = some (x,r)) : x.num = num:=by
 unfold entryR at h
 split at h
 · cases h
 · split at h
   · cases h
   · split at h
     · cases h;rfl
     · split at h
       · cases h;rfl
       · cases h
def smallO : Nat → Ob → Prop
 | 0,_ => False
 | d + 1,o => o.keys.length ≤ 140737488355328 ∧ o.kids.length ≤ 140737488355328 ∧ o.s.length ≤ 140737488355328 ∧ (∀ x ∈ o.keys,x.length ≤ 140737488355328) ∧ ∀ k ∈ o.kids,smallO d k
def RowAt (S : Nat → Prop) (d : Nat) (w : World) (v : Value) (kids : List Ob) : Prop :=
 (kids = [] ∧ ∃ p c,v = .slice p 0 c) ∨
 ∃ b off c,v = .slice (some ⟨b,off,none⟩) kids.length c ∧ S b ∧
   ∀ i (h : i < kids.length),∃ ks : List Value,ks.length = 6 ∧ (∀ j (hj : j < ks.length),w.cell? ⟨b,off + 6 * i + j,none⟩ = some ks[j]) ∧ ObjAt S d w ks kids[i]
theorem RowAt.kept {S : Nat → Prop} {w w' : World} {d : Nat} {v : Value} {kids : List Ob} (h : RowAt S d w v kids) (hk : ∀ b,S b → w'.heap[b]? = w.heap[b]?) : RowAt S d w' v kids:=by
 rcases h with h | ⟨b,off,c,h1,h2,h3⟩
 · exact .inl h
 · refine .inr ⟨b,off,c,h1,h2,fun i hi => ?_⟩
   obtain ⟨ks,g1,g2,g3⟩:=h3 i hi
   exact ⟨ks,g1,fun j hj => (World.cell?_of_block (hk b h2)).trans (g2 j hj),ObjAt.kept hk d g3⟩
theorem ObjAt.form {S : Nat → Prop} {d : Nat} {w : World} {cs : List Value} {o : Ob} (h : ObjAt S d w cs o) : ∃ p1 n1 c1 p2 n2 c2,cs = objCells o.kind o.n o.g o.s (.slice p1 n1 c1) (.slice p2 n2 c2):=by
 cases d with
 | zero => exact h.elim
 | succ d =>
   obtain ⟨kv,dv,h1,h2,h3⟩:=h
   have a1 : ∃ p n c,kv = .slice p n c:=by
     rcases h2 with ⟨_,p,c,h⟩ | ⟨b,o,c,h,_⟩
     · exact ⟨_,_,_,h⟩
     · exact ⟨_,_,_,h⟩
   have a2 : ∃ p n c,dv = .slice p n c:=by
     rcases h3 with ⟨_,p,c,h⟩ | ⟨b,o,c,h,_⟩
     · exact ⟨_,_,_,h⟩
     · exact ⟨_,_,_,h⟩
   obtain ⟨p1,n1,c1,rfl⟩:=a1
   obtain ⟨p2,n2,c2,rfl⟩:=a2
   exact ⟨p1,n1,c1,p2,n2,c2,h1⟩
theorem row_kid {S : Nat → Prop} {d : Nat} {w : World} {b off n c : Nat} {os : List Ob} (h : RowAt S d w (.slice (some ⟨b, off, none⟩) n c) os) (hn : os.length = n) (k : Nat) (hk : k < n) :
   ∃ (o : Ob) (p1 : Option Addr) (n1 c1 : Nat) (p2 : Option Addr) (n2 c2 : Nat),os.getD k .zero = o ∧ o ∈ os ∧ S b ∧ ObjAt S d w (objCells o.kind o.n o.g o.s (.slice p1 n1 c1) (.slice p2 n2 c2)) o ∧
     w.cell? ⟨b,off + k * 6,none⟩ = some (.int .i64 o.kind) ∧ w.cell? ⟨b,off + k * 6 + 1,none⟩ = some (.int .i64 o.n) ∧ w.cell? ⟨b,off + k * 6 + 2,none⟩ = some (.int .i64 o.g) ∧
     w.cell? ⟨b,off + k * 6 + 3,none⟩ = some (.string ⟨o.s.toArray⟩) ∧ w.cell? ⟨b,off + k * 6 + 4,none⟩ = some (.slice p1 n1 c1) ∧ w.cell? ⟨b,off + k * 6 + 5,none⟩ = some (.slice p2 n2 c2):=by
 rcases h with ⟨rfl,p,c',h1⟩ | ⟨b',off',c',h1,h2,h3⟩
 · simp at hn;omega
 · cases h1
   have hk' : k < os.length:=by omega
   obtain ⟨ks,g1,g2,g3⟩:=h3 k hk'
   obtain ⟨p1,n1,c1,p2,n2,c2,rfl⟩:=g3.form
   refine ⟨os[k],p1,n1,c1,p2,n2,c2,by simp [List.getD,hk'],List.getElem_mem hk',h2,g3,?_⟩
   have e : off + 6 * k = off + k * 6:=by omega
   rw [e] at g2
   exact ⟨g2 0 (by simp [objCells]),g2 1 (by simp [objCells]),g2 2 (by simp [objCells]),g2 3 (by simp [objCells]),g2 4 (by simp [objCells]),g2 5 (by simp [objCells])⟩
structure SecV where
 at' : Int
 sp : Option Addr
 sn : Nat
 sc : Nat
 k : Int
 n : Int
 g : Int
 s : ByteArray
 p1 : Option Addr
 n1 : Nat
 c1 : Nat
 p2 : Option Addr
 n2 : Nat
 c2 : Nat
 prev : Int
 hyb : Int
 own : Int
def encSec : Enc SecV where
 k:=11
 cells x:=[.int .i64 x.at',.slice x.sp x.sn x.sc,.int .i64 x.k,.int .i64 x.n,.int .i64 x.g,.string x.s,.slice x.p1 x.n1 x.c1,.slice x.p2 x.n2 x.c2,.int .i64 x.prev,.int .i64 x.hyb,.int .i64 x.own]
 len _:=rfl
 one x u hu:=by
   simp only [List.mem_cons,List.not_mem_nil,or_false] at hu
   rcases hu with rfl | rfl | rfl | rfl | rfl | rfl | rfl | rfl | rfl | rfl | rfl <;> rfl
structure SecIs (S : Nat → Prop) (d : Nat) (w : World) (x : SecV) (s : Sec) : Prop where
 at' : x.at' = s.at'
 prev : x.prev = s.prev
 hyb : x.hyb = s.hyb
 own : x.own = s.own
 len : x.sn = s.slots.length
 slots : RArg slE w (.slice x.sp x.sn x.sc) s.slots
 trail : ObjAt S d w [.int .i64 x.k,.int .i64 x.n,.int .i64 x.g,.string x.s,.slice x.p1 x.n1 x.c1,.slice x.p2 x.n2 x.c2] s.trail
theorem SecIs.below {S : Nat → Prop} {d : Nat} {w w' : World} {x : SecV} {s : Sec} (h : SecIs S d w x s) (hS : ∀ b,S b → b < w.heap.size) (hb : Below w.heap.size w w') : SecIs S d w' x s :=
 ⟨h.at',h.prev,h.hyb,h.own,h.len,h.slots.below hb,h.trail.kept (fun b hs => hb.block b (hS b hs)) d⟩
theorem SecIs.weaken {S S' : Nat → Prop} {d : Nat} {w : World} {x : SecV} {s : Sec} (h : SecIs S d w x s) (hk : ∀ b,S b → b < w.heap.size → S' b) : SecIs S' d w x s :=
 ⟨h.at',h.prev,h.hyb,h.own,h.len,h.slots,h.trail.weaken hk d⟩
def SecsIs (S : Nat → Prop) (d : Nat) (w : World) (vs : List SecV) (l : List Sec) : Prop:=vs.length = l.length ∧ ∀ (i : Nat) (v : SecV) (s : Sec),vs[i]? = some v → l[i]? = some s → SecIs S d w v s
theorem SecsIs.below {S : Nat → Prop} {d : Nat} {w w' : World} {vs : List SecV} {l : List Sec} (h : SecsIs S d w vs l) (hS : ∀ b,S b → b < w.heap.size) (hb : Below w.heap.size w w') : SecsIs S d w' vs l :=
 ⟨h.1,fun i v s hv hs => (h.2 i v s hv hs).below hS hb⟩
theorem SecsIs.weaken {S S' : Nat → Prop} {d : Nat} {w : World} {vs : List SecV} {l : List Sec} (h : SecsIs S d w vs l) (hk : ∀ b,S b → b < w.heap.size → S' b) : SecsIs S' d w vs l :=
 ⟨h.1,fun i v s hv hs => (h.2 i v s hv hs).weaken hk⟩
theorem SecsIs.take {S : Nat → Prop} {d : Nat} {w : World} {vs : List SecV} {l : List Sec} (h : SecsIs S d w vs l) (q : Nat) : SecsIs S d w (vs.take q) (l.take q):=by
 refine ⟨by simp [h.1],fun i v o hv ho => ?_⟩
 by_cases hi : i < q
 · rw [List.getElem?_take_of_lt hi] at hv ho
   exact h.2 i v o hv ho
 · rw [List.getElem?_take_eq_none (by omega)] at hv
   cases hv
theorem SecsIs.drop {S : Nat → Prop} {d : Nat} {w : World} {vs : List SecV} {l : List Sec} (h : SecsIs S d w vs l) (q : Nat) : SecsIs S d w (vs.drop q) (l.drop q):=by
 refine ⟨by simp [h.1],fun i v o hv ho => ?_⟩
 rw [List.getElem?_drop] at hv ho
 exact h.2 _ v o hv ho
theorem SecsIs.cons {S : Nat → Prop} {d : Nat} {w : World} {vs : List SecV} {l : List Sec} {v : SecV} {s : Sec} (hv : SecIs S d w v s) (h : SecsIs S d w vs l) : SecsIs S d w (v :: vs) (s :: l):=by
 refine ⟨by simp [h.1],fun i v' s' h1 h2 => ?_⟩
 cases i with
 | zero => simp at h1 h2;subst h1;subst h2;exact hv
 | succ i => simp at h1 h2;exact h.2 i v' s' h1 h2
theorem sec_at {w : World} {p : Option Addr} {n c : Nat} {vs : List SecV} (h : RArg encSec w (.slice p n c) vs) (k : Nat) (x : SecV) (hx : vs[k]? = some x) :
   ∃ g off,p = some ⟨g,off,none⟩ ∧ g < w.heap.size ∧ w.cell? ⟨g,off + k * 11,none⟩ = some (.int .i64 x.at') ∧ w.cell? ⟨g,off + k * 11 + 1,none⟩ = some (.slice x.sp x.sn x.sc) ∧
     w.cell? ⟨g,off + k * 11 + 2,none⟩ = some (.int .i64 x.k) ∧ w.cell? ⟨g,off + k * 11 + 3,none⟩ = some (.int .i64 x.n) ∧ w.cell? ⟨g,off + k * 11 + 4,none⟩ = some (.int .i64 x.g) ∧
     w.cell? ⟨g,off + k * 11 + 5,none⟩ = some (.string x.s) ∧ w.cell? ⟨g,off + k * 11 + 6,none⟩ = some (.slice x.p1 x.n1 x.c1) ∧ w.cell? ⟨g,off + k * 11 + 7,none⟩ = some (.slice x.p2 x.n2 x.c2) ∧
     w.cell? ⟨g,off + k * 11 + 8,none⟩ = some (.int .i64 x.prev) ∧ w.cell? ⟨g,off + k * 11 + 9,none⟩ = some (.int .i64 x.hyb) ∧ w.cell? ⟨g,off + k * 11 + 10,none⟩ = some (.int .i64 x.own):=by
 obtain ⟨p',c',e,h⟩:=h
 cases e
 obtain ⟨hk,rfl⟩:=List.getElem?_eq_some_iff.1 hx
 obtain ⟨g,off,h1,h2,h3⟩:=h k hk
 exact ⟨g,off,h1,h2,h3 0 _ rfl,h3 1 _ rfl,h3 2 _ rfl,h3 3 _ rfl,h3 4 _ rfl,h3 5 _ rfl,h3 6 _ rfl,h3 7 _ rfl,h3 8 _ rfl,h3 9 _ rfl,h3 10 _ rfl⟩
theorem rarg_len {α : Type} {E : Enc α} {w : World} {p : Option Addr} {n c : Nat} {xs : List α} (h : RArg E w (.slice p n c) xs) : n = xs.length:=by
 obtain ⟨p',c',e,_⟩:=h
 cases e;rfl
theorem RArg.take {α : Type} {E : Enc α} {w : World} {p : Option Addr} {n c : Nat} {xs : List α} (h : RArg E w (.slice p n c) xs) (q : Nat) (hq : q ≤ n) (c' : Nat) : RArg E w (.slice p q c') (xs.take q):=by
 have hn:=rarg_len h
 obtain ⟨p',c0,e,h⟩:=h
 cases e
 refine ⟨p,c',by rw [List.length_take,Nat.min_eq_left (by omega)],fun j hj => ?_⟩
 rw [List.length_take] at hj
 obtain ⟨g,off,h1,h2,h3⟩:=h j (by omega)
 refine ⟨g,off,h1,h2,fun i u hu => h3 i u ?_⟩
 rw [List.getElem_take] at hu
 exact hu
theorem RArg.drop {α : Type} {E : Enc α} {w : World} {b off n c : Nat} {xs : List α} (h : RArg E w (.slice (some ⟨b,off,none⟩) n c) xs) (q : Nat) (hq : q ≤ n) (c' : Nat) : RArg E w (.slice (some ⟨b,off + q * E.k,none⟩) (n - q) c') (xs.drop q):=by
 have hn:=rarg_len h
 obtain ⟨p',c0,e,h⟩:=h
 cases e
 refine ⟨_,c',by rw [List.length_drop],fun j hj => ?_⟩
 rw [List.length_drop] at hj
 obtain ⟨g,o,h1,h2,h3⟩:=h (q + j) (by omega)
 cases h1
 refine ⟨b,off + q * E.k,rfl,h2,fun i u hu => ?_⟩
 rw [List.getElem_drop] at hu
 have:=h3 i u hu
 rw [Nat.add_mul] at this
 rw [← this]
 congr 2
 omega
open Go.RowKit Fo Go.Maps Go.Sort
def cmpM (x y : Sl) : Int:=if x.num < y.num then -1 else 1
theorem cmpM_lt (x y : Sl) : ltOf cmpM x y = decide (x.num < y.num):=by
 unfold ltOf cmpM
 by_cases h : x.num < y.num
 · simp [h]
 · simp [h]
theorem cmpM_swo : Go.Sort.SWO (ltOf cmpM) where
 irrefl x:=by rw [cmpM_lt];simp
 trans x y z h1 h2:=by rw [cmpM_lt] at *;simp at *;omega
 ntrans x y z h1 h2:=by rw [cmpM_lt] at *;simp at *;omega
theorem cmpM_in (x y : Sl) (W : World) : Calls Tryz.prog 20 #[.agg (slE.cells x).toArray,.agg (slE.cells y).toArray] W fun e w' => e = .returned (.int .i64 (cmpM x y)) ∧ ∃ q os',w' = grow (W.drewN q) os':=by
 obtain ⟨x0,x1,x2,x3⟩:=x
 obtain ⟨y0,y1,y2,y3⟩:=y
 unfold cmpM
 dsimp only [slE]
 by_cases h : x0 < y0
 · rw [if_pos h]
   go_enter Tryz.func20,Tryz.ntmps20
   go_wp2
   go_ret
   exact ⟨rfl,0,_,by rw [alloc_eq_grow,alloc_eq_grow,grow_grow];rfl⟩
 · rw [if_neg h]
   go_enter Tryz.func20,Tryz.ntmps20
   go_wp2
   go_ret
   exact ⟨rfl,0,_,by rw [alloc_eq_grow,alloc_eq_grow,grow_grow];rfl⟩
theorem four_of' {w : World} {b : Nat} {t : TypeId} {v0 v1 v2 v3 : Value} (h : w.heap[b]? = some (.cells #[v0, v1, v2, v3] t (0, 0))) :
   w.cell? ⟨b,0,none⟩ = some v0 ∧ w.cell? ⟨b,1,none⟩ = some v1 ∧ w.cell? ⟨b,2,none⟩ = some v2 ∧ w.cell? ⟨b,3,none⟩ = some v3:=by
 simp [World.cell?,h]
theorem allS_take {l : List Sec} {k : Nat} (h : k < l.length) : allS (l.take (k + 1)) = allS (l.take k) ++ l[k].slots:=by
 unfold allS
 rw [List.take_succ_eq_append_getElem h,List.flatMap_append]
 simp
theorem firsts_take {l : List Sec} {k : Nat} (h : k < l.length) : firstsS (allS (l.take (k + 1))) = (l[k].slots).foldl addF (firstsS (allS (l.take k))):=by
 rw [allS_take h];unfold firstsS;rw [List.foldl_append]
theorem fold_take {l : List Sl} {P : List Sl} {j : Nat} (h : j < l.length) : (l.take (j + 1)).foldl addF P = addF ((l.take j).foldl addF P) l[j]:=by
 rw [List.take_succ_eq_append_getElem h,List.foldl_append];rfl
theorem merge_in (S : Nat → Prop) (d : Nat) (w : World) (p : Option Addr) (n c : Nat) (vs : List SecV) (l : List Sec) (hR : RArg encSec w (.slice p n c) vs) (hI : SecsIs S d w vs l) (hS : ∀ b, S b → b < w.heap.size)
   (hn : n ≤ 1000) (hsl : ∀ s ∈ l,s.slots.length ≤ 8192) (hwf : ∀ s ∈ l,∀ x ∈ s.slots,(Lit.int .i64 x.num).wf = true) :
   Calls Tryz.prog 7 #[.slice p n c] w fun e w' => ∃ v,e = .returned v ∧ rownS slE 28 w' w.heap.size v (mergeS (allS l)) ∧ Below w.heap.size w w':=by
 have hvl : vs.length = n:=(rarg_len hR).symm
 have hll : l.length = n:=by rw [← hI.1];exact hvl
 have HR:=Lh hR
 have HI:=Lh hI
 have HS:=Lh hS
 have HL:=Lh (And.intro hsl (And.intro hwf hll))
 have HVL:=Lh hvl
 clear hR hI hS hsl hwf hvl hll
 have hmk : ∀ w,(Instr.makeMap 48 none).run Tryz.prog w = .ok (.map (some w.heap.size)) (w.alloc (.map #[] 0)):=fun _ => by kernel_rfl
 go_enter Tryz.func7,Tryz.ntmps7
 go_wp2
 go_loopw [13] (fun i wr => ∃ (k : Nat),k ≤ n ∧ i = .int .i64 k ∧ Below w.heap.size w wr ∧ w.heap.size < wr.heap.size ∧ MpS wr w.heap.size (k * 8192) (firstsS (allS (l.take k)))) (fun i _ => n - (intOf i).toNat)
 case atStart => exact ⟨0,Nat.zero_le _,rfl,bel,by simp,by have h:=MpS.made w;simpa [allS,firstsS] using h⟩
 case round =>
   obtain ⟨k,hk,rfl,hbr,hzr,HM⟩:=hrel
   by_cases hlk : k < n
   · have hRr:=HR.out.below hbr
     obtain ⟨x,hx⟩ : ∃ x,vs[k]? = some x:=⟨_,List.getElem?_eq_getElem (by rw [HVL.out];exact hlk)⟩
     obtain ⟨g,off,rfl,hg,a0,a1,a2,a3,a4,a5,a6,a7,a8,a9,a10⟩:=sec_at hRr k x hx
     have hkl : k < l.length:=by rw [HL.out.2.2];exact hlk
     have hSec:=HI.out.2 k x l[k] hx (List.getElem?_eq_getElem hkl)
     have hsn:=hSec.len
     have hsm : x.sn ≤ 8192:=by rw [hsn];exact HL.out.1 _ (List.getElem_mem hkl)
     have HF0:=Lh (firsts_take hkl)
     have HWF:=Lh (HL.out.2.1 _ (List.getElem_mem hkl))
     have HSL:=Lh (And.intro hsn hSec.slots)
     obtain ⟨P,hP⟩ : ∃ P,firstsS (allS (l.take k)) = P:=⟨_,rfl⟩
     rw [hP] at HF0 HM
     obtain ⟨ss,hss⟩ : ∃ ss,l[k].slots = ss:=⟨_,rfl⟩
     rw [hss] at HF0 HWF HSL
     have hgne : ¬ g = wr.heap.size:=by omega
     clear hRr hSec hsn hP hss hx
     obtain ⟨A0,sp,sn,sc,K,N,G,st,p1,n1,c1,p2,n2,c2,pv,hy,ow⟩:=x
     dsimp only at *
     obtain ⟨W1,rfl⟩ : ∃ W1,W1 = wr:=⟨_,rfl⟩
     go_wp2
     go_loopw [20] (fun j wr => ∃ (q : Nat),q ≤ sn ∧ j = .int .i64 q ∧ Below w.heap.size w wr ∧ w.heap.size < wr.heap.size ∧ MpS wr w.heap.size (k * 8192 + q) ((ss.take q).foldl addF P)) (fun j _ => sn - (intOf j).toNat)
     case atStart => exact ⟨0,Nat.zero_le _,rfl,hbr.alloc hbr.size _,by simp;omega,HM.below bel⟩
     case round =>
       obtain ⟨q,hq,rfl,hb2,hz2,HM2⟩:=hrel
       by_cases hlq : q < sn
       · have hqs : q < ss.length:=by rw [← HSL.out.1];exact hlq
         have hvr:=HSL.out.2.below hb2
         obtain ⟨g2,off2,rfl,hg2,e0,e1,e2,e3⟩:=slot_at hvr q hqs
         have hwf:=HWF.out _ (List.getElem_mem hqs)
         have HFT:=Lh (fold_take (P:=P) hqs)
         obtain ⟨y,hy0⟩ : ∃ y,ss[q] = y:=⟨_,rfl⟩
         rw [hy0] at e0 e1 e2 e3 hwf HFT
         obtain ⟨x0,x1,x2,x3⟩:=y
         dsimp only at e0 e1 e2 e3 hwf
         obtain ⟨Q,hQ⟩ : ∃ Q,(ss.take q).foldl addF P = Q:=⟨_,rfl⟩
         rw [hQ] at HM2 HFT
         have hg2ne : ¬ g2 = wr.heap.size:=by omega
         have HM3 : MpS (wr.alloc (.cells #[.int .i64 x0,.int .i64 x1,.int .i64 x2,.int .i64 x3] 28)) w.heap.size (k * 8192 + q) Q:=HM2.below bel
         obtain ⟨⟨y0,y1,y2,y3⟩,hlook,_⟩:=HM3.lookW x0 hwf
         simp only [slV] at hlook
         have HM4 : MpS ((wr.alloc (.cells #[.int .i64 x0,.int .i64 x1,.int .i64 x2,.int .i64 x3] 28)).alloc (.cells #[.int .i64 y0,.int .i64 y1,.int .i64 y2,.int .i64 y3] 28)) w.heap.size (k * 8192 + q) Q:=HM3.below bel
         cases hth : (Q.find? (fun y => y.num == x0)).isSome
         · rw [hth] at hlook
           have HAD:=Lh (show addF Q ⟨x0,x1,x2,x3⟩ = Q ++ [⟨x0,x1,x2,x3⟩] by unfold addF;rw [if_neg];show ¬ (Q.find? _).isSome = true;rw [hth];decide)
           obtain ⟨D,hown,hD⟩:=HM4
           have HPS:=Lh (hD.push ⟨x0,x1,x2,x3⟩ (by simpa using hth))
           obtain ⟨w6,hrun6,hown6,hg6⟩:=hown.update (int_keyed Tryz.underlying3) Tryz.underlying48 (by unfold maxLen;omega) (keyOf_int_mk Tryz.underlying3 hwf) (slotR_slV ⟨x0,x1,x2,x3⟩)
           simp only [slV] at hrun6
           have HM6 : MpS w6 w.heap.size (k * 8192 + (q + 1)) (Q ++ [⟨x0,x1,x2,x3⟩]):=⟨_,hown6,HPS.out⟩
           have hb6 : Below w.heap.size w w6:=((hb2.alloc hb2.size _).alloc (by simp;omega) _).grown hg6 (by simp;omega) (fun j hj => by cases hj;exact Nat.le_refl _)
           have hz6 : w.heap.size < w6.heap.size:=by have:=hg6.size;simp at this;omega
           clear hown hD hown6 hg6 HM3 HM2 hvr hy0 hQ hth
           go_wp2
           go_roundw
           case rel => exact ⟨q + 1,by omega,by go_num,hb6,hz6,by rw [HFT.out,HAD.out];exact HM6⟩
           case measure => simp [intOf];omega
         · rw [hth] at hlook
           have HAD:=Lh (show addF Q ⟨x0,x1,x2,x3⟩ = Q by unfold addF;rw [if_pos];exact hth)
           have HM6 : MpS ((wr.alloc (.cells #[.int .i64 x0,.int .i64 x1,.int .i64 x2,.int .i64 x3] 28)).alloc (.cells #[.int .i64 y0,.int .i64 y1,.int .i64 y2,.int .i64 y3] 28)) w.heap.size (k * 8192 + (q + 1)) Q:=by
             obtain ⟨D,hown,hD⟩:=HM4
             exact ⟨D,hown.mono (by omega),hD⟩
           clear hvr hy0 hQ hth HM3 HM2 HM4
           go_wp2
           go_roundw
           case rel => exact ⟨q + 1,by omega,by go_num,(hb2.alloc hb2.size _).alloc (by simp;omega) _,by simp;omega,by rw [HFT.out,HAD.out];exact HM6⟩
           case measure => simp [intOf];omega
       · have hqn : q = sn:=by omega
         subst hqn
         have HM6 : MpS wr w.heap.size ((k + 1) * 8192) (firstsS (allS (l.take (k + 1)))):=by
           rw [HF0.out]
           rw [List.take_of_length_le (by rw [← HSL.out.1];exact Nat.le_refl _)] at HM2
           obtain ⟨D,hown,hD⟩:=HM2
           exact ⟨D,hown.mono (by omega),hD⟩
         clear HM2
         go_wp2
         go_roundw
         case rel => exact ⟨k + 1,by omega,by go_num,hb2,hz2,HM6⟩
         case measure => simp [intOf];omega
   · have hkn : k = n:=by omega
     subst hkn
     have hM : MpS wr w.heap.size (k * 8192) (firstsS (allS l)):=by
       rw [List.take_of_length_le (by rw [HL.out.2.2];exact Nat.le_refl _)] at HM
       exact HM
     have hlen : (allS l).length ≤ k * 8192:=by
       have key : ∀ l : List Sec,(∀ s ∈ l,s.slots.length ≤ 8192) → (allS l).length ≤ l.length * 8192:=by
         intro l
         induction l with
         | nil => intro _;exact Nat.zero_le _
         | cons s l ih =>
           intro h
           have h1:=h s (by simp)
           have h2:=ih fun t ht => h t (by simp [ht])
           show (s.slots ++ allS l).length ≤ _
           rw [List.length_append,List.length_cons];omega
       have:=key l HL.out.1
       rw [HL.out.2.2] at this;exact this
     have hfl:=firstsS_len (allS l)
     have hbv : Below wr.heap.size wr (wr.alloc (.cells #[.map (some w.heap.size)] 48)):=bel
     have HSF:=Lh (sortedFunc_in cmpM cmpM_swo 20 (enters_of Tryz.func20 (by kernel_rfl) rfl) cmpM_in wr.heap.size w.heap.size (k * 8192) (firstsS (allS l)) (wr.alloc (.cells #[.map (some w.heap.size)] 48)) (by simp)
       (by simp [World.cell?_alloc_at]) (hM.below hbv) (firstsS_ok _).1 (by omega) (by omega))
     clear HM hM hlen hfl
     go_wp2_with fail
     go_wp2_with (first | (go_at_call 19;refine (maps_values_in _ _).mono ?_;rintro e w5 ⟨rfl,rfl⟩) | (go_at_call 18;refine HSF.out.mono ?_;rintro e w6 ⟨v,ys,rfl,hp,hs,hr,hb6⟩))
     go_ret
     have hys : ys = mergeS (allS l):=merge_sorted hp (hs.imp fun {a b} h => by rw [cmpM_lt] at h;simpa using h)
     rw [← hys]
     exact ⟨v,rfl,hr.low (by simp;omega),hbr.trans ((hbv.mono (Nat.le_of_lt hzr)).trans (hb6.mono (by simp;omega)))⟩
open Go.RowKit Fo Go.Maps Go.Sort
theorem RdT.pos {w : World} {r : Nat} {s : ByteArray} {a : Nat} (h : RdT w r s a) : rdPos w r = a:=by
 unfold rdPos;rw [h.cell1];simp
structure TInv (s : ByteArray) (m : Int) (r : Nat) (w wr : World) (a : Nat) (acc ps : List Sl) : Prop where
 ha : a ≤ s.size
 hr : RdT wr r s a
 map : MpS wr w.heap.size ps.length ps
 inv : SInv acc ps
 len : ps.length ≤ a
 bes : Bes r w wr
 lt : w.heap.size < wr.heap.size
 hm : MaxW wr m
theorem TInv.step {s : ByteArray} {m : Int} {r : Nat} {w wr w' : World} {a b : Nat} {acc ps : List Sl} (h : TInv s m r w wr a acc ps) (hs : Bes r wr w') (hr : RdT w' r s b) (hb : b ≤ s.size) (hab : a ≤ b) (hlt : r < w.heap.size) (hrm : r ≠ 1) : TInv s m r w w' b acc ps :=
 ⟨hb,hr,h.map.kept (hs.block _ h.lt (by omega)),h.inv,Nat.le_trans h.len hab,h.bes.trans hs,Nat.lt_of_lt_of_le h.lt hs.size,h.hm.bes hs hrm⟩
theorem TInv.below {s : ByteArray} {m : Int} {r : Nat} {w wr w' : World} {a : Nat} {acc ps : List Sl} (h : TInv s m r w wr a acc ps) (hb : Below wr.heap.size wr w') (hlt : r < w.heap.size) (hrm : r ≠ 1) : TInv s m r w w' a acc ps :=
 h.step (Bes.of_below hb) (h.hr.below hb) h.ha (Nat.le_refl _) hlt hrm
theorem Bes.grown {r b : Nat} {a w w' : World} (h : Bes r a w) (hg : w.grownBy w' (some b)) (hb : a.heap.size ≤ b) : Bes r a w' :=
 ⟨hg.os.trans h.os,hg.tape.trans h.tape,hg.output.trans h.output,Nat.le_trans h.size hg.size,fun k hk hr => (hg.block k (Nat.lt_of_lt_of_le hk h.size) (fun e => by cases e;omega)).trans (h.block k hk hr)⟩
theorem TInv.put {s : ByteArray} {m : Int} {r : Nat} {w wr w' : World} {a b : Nat} {acc ps acc2 : List Sl} {x : Sl} (h : TInv s m r w wr b acc ps) (hg : wr.grownBy w' (some w.heap.size)) (hM : MpS w' w.heap.size (ps.length + 1) (ps ++ [x])) (hi : SInv acc2 (ps ++ [x])) (hab : ps.length < b)
   (hlt : r < w.heap.size) (hrm : r ≠ 1) : TInv s m r w w' b acc2 (ps ++ [x]):=by
 have hr1:=h.hr.lt
 have hk : ∀ k,k < wr.heap.size → k ≠ w.heap.size → w'.heap[k]? = wr.heap[k]?:=fun k h1 h2 => hg.block k h1 (fun e => by cases e;exact h2 rfl)
 refine ⟨h.ha,?_,by simpa using hM,hi,by simp;omega,h.bes.grown hg (Nat.le_refl _),Nat.lt_of_lt_of_le h.lt hg.size,?_⟩
 · have:=h.hr
   unfold RdT at *
   rw [hk r hr1 (by omega)];exact this
 · have h1:=h.hm
   have h2:=MaxW.lt h1
   by_cases hc : 1 = w.heap.size
   · obtain ⟨D,⟨es,clock,hb,_⟩,_⟩:=h.map
     unfold MaxW World.cell? at h1
     rw [← hc] at hb
     simp [hb] at h1
   · unfold MaxW at *
     rw [World.cell?_of_block (a:=⟨1,0,none⟩) (hk _ h2 hc)];exact h1
theorem wf_small {c : Int} (h0 : 0 ≤ c) (h1 : c ≤ 1000000) : (Lit.int .i64 c).wf = true:=by simp [Lit.wf,IntKind.min,IntKind.max,IntKind.bits,IntKind.signed];omega
theorem sect_tok {s : ByteArray} {a f : Nat} {acc PS : List Sl} {L2 : L} (ha : a ≤ s.size) (h : sectR f (s.data.toList.drop a) acc = some (PS, L2)) :
   (∃ l n p,TokAt s a ⟨5,l,n,wordTr⟩ p ∧ PS = acc ∧ L2 = s.data.toList.drop (p + l)) ∨
   (∃ (F C : Nat) (l1 : Nat) (x1 : L) (p1 l2 : Nat) (x2 : L) (p2 f' : Nat) (acc1 : List Sl) (l3 : L),TokAt s a ⟨1,l1,F,x1⟩ p1 ∧ TokAt s (p1 + l1) ⟨1,l2,C,x2⟩ p2 ∧ F + C ≤ 8192 ∧ F ≤ 8191 ∧
     entriesR C F (s.data.toList.drop (p2 + l2)) acc = some (acc1,l3) ∧ sectR f' l3 acc1 = some (PS,L2)):=by
 cases hw : wordR (s.data.toList.drop a) wordTr with
 | some l1 =>
   obtain ⟨rfl,rfl⟩:=sect_end h hw
   obtain ⟨l,n,p,hT,rfl⟩:=wordR_at ha hw
   exact .inl ⟨l,n,p,hT,rfl,rfl⟩
 | none =>
   obtain ⟨first,l1,count,l2,acc1,l3,f',h1,h2,h3,h4⟩:=sect_step h hw
   obtain ⟨k1,x1,p1,T1,b1,b2,rfl⟩:=numR_at ha h1
   obtain ⟨k2,x2,p2,T2,b3,b4,rfl⟩:=numR_at T1.2.2 h2
   obtain ⟨F,rfl⟩ : ∃ F : Nat,first = F:=⟨first.toNat,by omega⟩
   obtain ⟨C,rfl⟩ : ∃ C : Nat,count = C:=⟨count.toNat,by omega⟩
   exact .inr ⟨F,C,k1,x1,p1,k2,x2,p2,f',acc1,l3,T1,T2,by omega,by omega,by simpa using h3,h4⟩
abbrev SlR:={ x : Sl // 0 ≤ x.num ∧ x.num ≤ 8191 }
instance instInhabitedSlR : Inhabited SlR:=⟨⟨⟨0,0,0,0⟩,by decide,by decide⟩⟩
def encR : Enc SlR:=⟨4,fun x => slE.cells x.1,fun _ => rfl,fun x u hu => slE.one x.1 u hu⟩
theorem encR_row (xs : List SlR) : encR.row xs = slE.row (xs.map (·.1)):=by
 induction xs with
 | nil => rfl
 | cons x xs ih =>
   show encR.cells x ++ encR.row xs = slE.cells x.1 ++ slE.row (xs.map (·.1))
   rw [ih];rfl
theorem rowR {w : World} {B : Nat} {v : Value} {xs : List SlR} : rownS encR 28 w B v xs ↔ rownS slE 28 w B v (xs.map (·.1)):=by
 unfold rownS
 rw [encR_row,List.length_map]
 exact Iff.rfl
def cmpT (x y : SlR) : Int:=x.1.num - y.1.num
theorem cmpT_lt (x y : SlR) : ltOf cmpT x y = decide (x.1.num < y.1.num):=by
 unfold ltOf cmpT
 by_cases h : x.1.num < y.1.num
 · simp [h];omega
 · simp [h];omega
theorem cmpT_swo : SWO (ltOf cmpT) where
 irrefl x:=by rw [cmpT_lt];simp
 trans x y z h1 h2:=by rw [cmpT_lt] at *;simp at *;omega
 ntrans x y z h1 h2:=by rw [cmpT_lt] at *;simp at *;omega
theorem cmpT_in (x y : SlR) (W : World) : Calls Tryz.prog 119 #[.agg (encR.cells x).toArray,.agg (encR.cells y).toArray] W fun e w' => e = .returned (.int .i64 (cmpT x y)) ∧ ∃ q os',w' = grow (W.drewN q) os':=by
 obtain ⟨⟨x0,x1,x2,x3⟩,hx0,hx1⟩:=x
 obtain ⟨⟨y0,y1,y2,y3⟩,hy0,hy1⟩:=y
 dsimp only at hx0 hx1 hy0 hy1
 unfold cmpT
 dsimp only [encR,slE]
 have hw : IntKind.i64.wrap (x0 - y0) = x0 - y0:=IntWalk.i64_in _ (by omega)
 clear hx0 hx1 hy0 hy1
 go_enter Tryz.func119,Tryz.ntmps119
 go_wp2
 go_ret
 exact ⟨rfl,0,_,by rw [alloc_eq_grow,alloc_eq_grow,grow_grow];rfl⟩
theorem sorted_eq {ys ps PS : List Sl} (h1 : ys.Perm ps) (h2 : ps.Perm PS) (hn : NodN ps) (hu : upS PS) (hs : ys.Pairwise fun a b => ¬ b.num < a.num) : ys = PS:=by
 have hy:=nod_perm hn h1.symm
 have hup : upS ys:=(hs.and hy).imp fun {a b} h => by have:=h.1;have:=h.2;omega
 refine upS_ext hup hu fun n => ?_
 rw [num_perm hn h1.symm,num_perm hn h2]
theorem tslots_good (r : Nat) (s : ByteArray) (a0 f0 : Nat) (PS : List Sl) (L2 : L) (h : sectR f0 (s.data.toList.drop a0) [] = some (PS, L2)) (ha0 : a0 ≤ s.size) (hs : s.size ≤ 100000000) (m : Int) (w : World) (hm0 : MaxW w m) (hr0 : RdT w r s a0) (hrm : r ≠ 1) :
   Calls Tryz.prog 73 #[.pointer (some ⟨r,0,none⟩)] w fun e w' => (∃ v,e = .returned v ∧ rownS slE 28 w' (w.heap.size + 1) v PS) ∧ (∃ b,b ≤ s.size ∧ L2 = s.data.toList.drop b ∧ RdT w' r s b) ∧ Bes r w w':=by
 have hlt:=hr0.lt
 have HH:=Lh h
 have hmk : ∀ w,(Instr.makeMap 48 none).run Tryz.prog w = .ok (.map (some w.heap.size)) (w.alloc (.map #[] 0)):=fun _ => by kernel_rfl
 clear h
 go_enter Tryz.func73,Tryz.ntmps73
 go_upto_block 0 with fail
 go_cut [] (fun wx => ∃ (a : Nat) (ps : List Sl),TInv s m r w wx a PS ps ∧ L2 = s.data.toList.drop a)
 case first =>
   go_wp2_with fail
   go_loopw [] (fun wr => ∃ (a f : Nat) (acc ps : List Sl),TInv s m r w wr a acc ps ∧ Hid (sectR f (s.data.toList.drop a) acc = some (PS,L2))) (fun wr => s.size - rdPos wr r)
   case atStart => exact ⟨a0,f0,[],[],⟨ha0,hr0.below bel,MpS.made w,SInv.nil,Nat.zero_le _,(by repeat' (first | (with_reducible exact Bes.refl _ _) | (with_reducible refine Bes.drew ?_) | (with_reducible refine Bes.drewN ?_ _) | (with_reducible refine Bes.alloc ?_ _) | (with_reducible refine Bes.setCell ?_ _ _) | (with_reducible refine Bes.setCell_new ?_ ?_ _) | (with_reducible refine Bes.belowB ?_ hb5 ?_) | (with_reducible refine Bes.belowB ?_ hb4 ?_) | (with_reducible refine Bes.belowB ?_ hb3 ?_) | (with_reducible refine Bes.belowB ?_ hb2 ?_) | (with_reducible refine Bes.belowB ?_ hb1 ?_) | (with_reducible refine Bes.belowB ?_ hbr ?_) | (with_reducible refine Bes.belowB ?_ hb ?_) | (with_reducible refine Bes.trans ?_ hs5) | (with_reducible refine Bes.trans ?_ hs4) | (with_reducible refine Bes.trans ?_ hs3) | (with_reducible refine Bes.trans ?_ hs2) | (with_reducible refine Bes.trans ?_ hs1) | (show _ ≤ _;simp;done) | (show _ ≤ _;simp;omega) | omega)),by simp,hm0.below bel⟩,HH⟩
   case round =>
     obtain ⟨a,f,acc,ps,hI,H⟩:=hrel
     clear HH
     rcases sect_tok hI.ha H.out with ⟨l,n,p,hT,hPS,hL2⟩ | ⟨F,C,l1,x1,p1,l2,x2,p2,f',acc1,l3,T1,T2,hFC,hF,hE,hS⟩
     · have HX:=Lh (And.intro hPS hL2)
       have HN:=Lh (tnext_at r s a p l 5 n wordTr hT hI.ha (by omega) m wr hI.hm hI.hr)
       have hI0:=Lh hI
       have hpl:=hT.2.2
       have hap:=tok_pos hT (by decide) hI.ha
       clear hPS hL2 hT H hI
       go_wp2_with fail
       refine HN.out.mono ?_
       rintro e w1 ⟨rfl,hr1,hs1⟩
       go_wp2
       go_meet
       case rel =>
         rw [HX.out.1]
         exact ⟨p + l,ps,(hI0.out.step hs1 hr1 hpl (by omega) hlt hrm).below bel hlt hrm,HX.out.2⟩
     · have HT:=Lh (And.intro T1 T2)
       have HES:=Lh (And.intro hE hS)
       have hap:=tok_pos T1 (by decide) hI.ha
       have hp1:=T1.2.2
       have hp2:=T2.2.2
       have hap2:=tok_pos T2 (by decide) T1.2.2
       have HPOS:=Lh hI.hr.pos
       have hI0:=Lh hI
       have HN1:=Lh (tnext_at r s a p1 l1 1 F x1 T1 hI.ha (by omega) m wr hI.hm hI.hr)
       obtain ⟨W0,rfl⟩ : ∃ W0,W0 = wr:=⟨_,rfl⟩
       clear T1 T2 hE hS H hI
       have hw : IntKind.i64.wrap ((F : Int) + (C : Int)) = (F : Int) + C:=IntWalk.i64_in _ (by omega)
       have hw2 : decide ((F : Int) + (C : Int) ≤ 8192) = true:=by rw [decide_eq_true_eq];omega
       go_wp2_with fail
       refine HN1.out.mono ?_
       rintro e w1 ⟨rfl,hr1,hs1⟩
       have I1:=(hI0.out.step hs1 hr1 hp1 (by omega) hlt hrm)
       have hz1:=hs1.size
       clear HN1 hr1 hs1
       go_wp2_with fail
       refine (twhole_good (F : Int) 8191 p1 (p1 + l1) _ (by omega) (by omega) _).mono ?_
       rintro e w2 ⟨rfl,hb2⟩
       have I2:=Lh (I1.below (show Below w1.heap.size w1 w2 from bel) hlt hrm)
       clear hb2
       go_wp2_with fail
       refine (tnext_at r s (p1 + l1) p2 l2 1 C x2 HT.out.2 hp1 (by omega) m _ I2.out.hm I2.out.hr).mono ?_
       rintro e w3 ⟨rfl,hr3,hs3⟩
       have I3:=I2.out.step hs3 hr3 hp2 (by omega) hlt hrm
       clear hr3 hs3
       go_wp2_with fail
       refine (twhole_good (C : Int) 8192 p2 (p2 + l2) _ (by omega) (by omega) _).mono ?_
       rintro e w4 ⟨rfl,hb4⟩
       have I4:=Lh (I3.below (show Below w3.heap.size w3 w4 from bel) hlt hrm)
       clear hb4 I3 I1
       go_wp2_with (go_at_call 71;refine (tmust_yes _).mono ?_;rintro e w9 ⟨rfl,rfl⟩)
       go_loopw [36] (fun i wr => ∃ (k b : Nat) (acc ps : List Sl),k ≤ C ∧ i = .int .i64 k ∧ TInv s m r w wr b acc ps ∧ p2 + l2 ≤ b ∧ Hid (entriesR (C - k) ((F : Int) + k) (s.data.toList.drop b) acc = some (acc1,l3))) (fun i _ => C - (intOf i).toNat)
       case atStart => exact ⟨0,p2 + l2,acc,ps,Nat.zero_le _,rfl,I4.out,Nat.le_refl _,Lh (by simpa using HES.out.1)⟩
       case round =>
         clear I4 I2
         obtain ⟨k,b,acc,ps,hk,rfl,hI,hpb,HE⟩:=hrel
         by_cases hlk : k < C
         · obtain ⟨x,lx,acc2,hx,hl,hrest⟩:=entries_step (n:=C - (k + 1)) (by have:=HE.out;rwa [show C - k = C - (k + 1) + 1 by omega] at this)
           have hnum:=entry_num hx
           obtain ⟨hinv,hfind⟩:=hI.inv.push hl (by rw [hnum];omega)
           have HX:=Lh (And.intro hinv hrest)
           have hw3 : IntKind.i64.wrap ((F : Int) + (k : Int)) = (F : Int) + k:=IntWalk.i64_in _ (by omega)
           have hwf : (Lit.int .i64 ((F : Int) + k)).wf = true:=wf_small (by omega) (by omega)
           obtain ⟨⟨y0,y1,y2,y3⟩,hlook,_⟩:=hI.map.lookW ((F : Int) + k) hwf
           rw [← hnum,hfind,hnum] at hlook
           simp only [slV,Option.isSome_none] at hlook
           have HEN:=Lh (fun W hb => tentry_good r s b ((F : Int) + k) x lx hx hI.ha (by omega) m W (hI.hm.below hb) (hI.hr.below hb) hrm)
           obtain ⟨x0,x1',x2',x3⟩:=x
           dsimp only at hnum
           subst hnum
           simp only [slV] at HEN
           have hI0:=Lh hI
           have HNO:=Lh hfind
           clear hx hl hrest hinv hfind HE hI
           go_wp2_with fail
           refine (HEN.out _ bel).mono ?_
           rintro e w5 ⟨rfl,⟨b5,hbb5,hb5,rfl,hr5⟩,hs5⟩
           have I5:=(hI0.out.below (show Below wr.heap.size wr (wr.alloc (.cells #[.int .i64 y0,.int .i64 y1,.int .i64 y2,.int .i64 y3] 28)) from bel) hlt hrm).step hs5 hr5 hb5 (by omega) hlt hrm
           have I6:=I5.below (show Below w5.heap.size w5 (w5.alloc (.cells #[.int .i64 ((F : Int) + k),.int .i64 x1',.int .i64 x2',.int .i64 x3] 28)) from bel) hlt hrm
           have hlen5 : ps.length < b5:=by have:=hI0.out.len;omega
           obtain ⟨D,hown,hD⟩:=I6.map
           have HPS:=Lh (hD.push ⟨(F : Int) + k,x1',x2',x3⟩ HNO.out)
           obtain ⟨w6,hrun6,hown6,hg6⟩:=hown.update (int_keyed Tryz.underlying3) Tryz.underlying48 (by unfold maxLen;omega) (keyOf_int_mk Tryz.underlying3 hwf) (slotR_slV ⟨(F : Int) + k,x1',x2',x3⟩)
           simp only [slV] at hrun6
           have I7:=Lh (I6.put (a:=b5) hg6 ⟨_,hown6,HPS.out⟩ HX.out.1 hlen5 hlt hrm)
           clear hown hD hown6 hg6 I5 I6 hr5 hs5 hlook
           go_wp2_with (go_at_call 71;refine (tmust_yes _).mono ?_;rintro e w9 ⟨rfl,h9⟩;obtain rfl:=h9.symm)
           go_roundw
           case rel => exact ⟨k + 1,b5,acc2,_,by omega,by go_num,I7.out,by omega,Lh (by have:=HX.out.2;rw [show ((k + 1 : Nat) : Int) = (k : Int) + 1 by omega,← Int.add_assoc];exact this)⟩
           case measure => simp [intOf];omega
         · have hkC : k = C:=by omega
           subst hkC
           have HE2:=HE.out
           rw [Nat.sub_self] at HE2
           obtain ⟨rfl,rfl⟩ : acc1 = acc ∧ l3 = s.data.toList.drop b:=by unfold entriesR at HE2;cases HE2;exact ⟨rfl,rfl⟩
           have HI:=Lh hI
           clear HE HE2 hI
           go_wp2
           go_roundw
           case rel => exact ⟨b,f',acc1,ps,HI.out,Lh HES.out.2⟩
           case measure => rw [HI.out.hr.pos,HPOS.out];have:=HI.out.ha;omega
 case rest =>
   obtain ⟨a,ps,hI,hL2⟩:=hcut
   obtain ⟨W1,rfl⟩ : ∃ W1,W1 = wc:=⟨_,rfl⟩
   have HL2:=Lh hL2
   have HI:=Lh hI
   obtain ⟨D,hown,hD⟩:=hI.map
   have HD:=Lh (And.intro hD hI.inv)
   have hsz:=hown.size_le
   have hpl : ps.length ≤ 100000000:=by have:=hI.len;have:=hI.ha;omega
   clear hI hL2 HH hmk hD
   go_wp2_with (at_range;refine wpList_range_own _ rfl _ 48 rfl 3 28 (int_keyed Tryz.underlying3) Tryz.underlying48 slotR w.heap.size ps.length D rfl hown ?_;intro w0 hrg0 hg0 hs0)
   go_frame
   go_loopw [11] (fun v wr => ∃ (left : Lit → Bool) (cnt : Nat) (xs : List Sl),wr.ranges Tryz.prog 3 slotR w.heap.size W1.heap.size ps.length D left cnt ∧ xs.length + cnt ≤ Maps.size D ∧ CollectedI D left (xs.map (·.num)) ∧ Hid (∀ x ∈ xs,x ∈ ps) ∧ rownS slE 28 wr W1.heap.size v xs ∧ Below W1.heap.size W1 wr) (fun _ wr => wr.rangeLeft w.heap.size W1.heap.size)
   case atStart => exact ⟨_,_,[],hrg0,by simp,CollectedI.start D,Lh (by simp),rownS_nil _ _,(Below.refl _ W1).grown hg0 (Nat.le_refl _) (fun k e => by cases e)⟩
   case round =>
     clear hrg0 hg0 hs0 hown
     obtain ⟨left,cnt,xs,hrg,hcs,hC,hV,hrow,hbr⟩:=hrel
     have hzr:=hbr.size
     obtain ⟨vp,vc,rfl⟩:=rown_slice hrow
     go_wp2_with (at_next;refine wpList_next_ranges _ rfl _ rfl 3 (int_keyed Tryz.underlying3) slotR encZ slV (fun key kl hk => by obtain ⟨x,hx,_⟩:=Maps.keyOf_i64 Tryz.underlying3 hk;exact ⟨x,hx⟩) (fun v y hv => by obtain ⟨x,rfl,_⟩:=slotR_inv hv;exact ⟨x,rfl⟩) w.heap.size W1.heap.size ps.length D left cnt rfl hrg ?_ ?_)
     · intro hc0 hl0
       have hperm:=perm_all HD.out.1 HD.out.2.nod hC hV.out hl0
       have hnum : ∀ x ∈ xs,0 ≤ x.num ∧ x.num ≤ 8191:=fun x hx => HD.out.2.num x (hV.out x hx)
       obtain ⟨xr,hxr⟩ : ∃ xr : List SlR,xr.map (·.1) = xs:=⟨xs.pmap (fun x h => ⟨x,h⟩) hnum,by rw [List.map_pmap];simp⟩
       have hlx : xr.length = xs.length:=by rw [← hxr];simp
       have HSO:=Lh (sort_slots encR rfl cmpT cmpT_swo 119 (enters_of Tryz.func119 (by kernel_rfl) rfl) cmpT_in W1.heap.size (.slice vp xs.length vc) xr wr (rowR.2 (by rw [hxr];exact hrow)) (by omega) hzr)
       have HPX:=Lh (And.intro hperm hxr)
       clear hrow hC hV hperm hnum hxr hrg hl0 hlx
       go_wp2_with fail
       refine HSO.out.mono ?_
       rintro e w6 ⟨rfl,ys,hp,hsd,hr6,hb6,_⟩
       have hys : ys.map (·.1) = PS:=by
         refine sorted_eq ((hp.map _).trans (by rw [HPX.out.2];exact HPX.out.1)) HD.out.2.perm HD.out.2.nod HD.out.2.up ?_
         rw [List.pairwise_map]
         exact hsd.imp fun {a b} h => by rw [cmpT_lt] at h;simpa using h
       have hr7 : rownS slE 28 w6 W1.heap.size (.slice vp xs.length vc) PS:=by rw [← hys];exact rowR.1 hr6
       have hbw : Below W1.heap.size W1 w6:=hbr.trans hb6
       have HR7:=Lh (hr7.low (show w.heap.size + 1 ≤ W1.heap.size from HI.out.lt))
       clear hr6 hr7 hb6 hys hp hsd HSO
       go_wp2
       go_ret
       exact ⟨⟨_,rfl,HR7.out⟩,⟨a,HI.out.ha,HL2.out,HI.out.hr.below hbw⟩,HI.out.bes.trans (Bes.of_below hbw)⟩
     · intro x c kl yd yp w2 cnt2 hkey hlk hv hat hrg2 hlt2 hg2 hs2 hen
       obtain ⟨x',ex,rfl,_⟩:=Maps.keyOf_i64 Tryz.underlying3 hkey
       obtain rfl : x = x':=encZ_inj ex
       have hz : yd = slD c:=by
         have h:=slotR_slV c
         rw [hv] at h
         exact congrArg (fun z : DataW Unit × List MemPlace => z.1) (Option.some.inj h)
       have hcp : c ∈ ps ∧ c.num = x:=by
         have hh:=has_true_of_atKey hat
         rw [HD.out.1.has x] at hh
         obtain ⟨z,hz2⟩:=Option.isSome_iff_exists.1 hh
         have h1:=HD.out.1.at' x z hz2 (slD z)
         rw [hat,hz] at h1
         obtain rfl:=slD_inj h1
         exact numF_some hz2
       obtain ⟨cn,ck,ca,cg⟩:=c
       obtain ⟨hcp,rfl⟩:=hcp
       dsimp only [slV] at hen
       have HV2:=Lh (show ∀ y ∈ xs ++ [(⟨cn,ck,ca,cg⟩ : Sl)],y ∈ ps from fun y hy => (List.mem_append.1 hy).elim (hV.out y) (fun e => by simp at e;subst e;exact hcp))
       have HC2:=Lh (show CollectedI D (fun z => left z && !z.sameKey (.int .i64 cn)) ((xs ++ [(⟨cn,ck,ca,cg⟩ : Sl)]).map (·.num)) by simpa using hC.step hlk hat)
       have HME:=Lh hrg.left_eq
       have hb2 : Below W1.heap.size W1 w2:=hbr.grown hg2 hzr (fun k e => by cases e;exact Nat.le_refl _)
       have hrow2 : rownS slE 28 w2 W1.heap.size (.slice vp xs.length vc) xs:=World.ownsRow.kept hrow hg2 (by
         rcases (show wr.ownsRow W1.heap.size 28 4 _ _ _ from hrow).2 with ⟨e,_⟩ | ⟨g,cap,cur,e,_,hgb,_⟩
         · exact .inl (by rw [e];rfl)
         · refine .inr fun e' => ?_
           obtain ⟨_,_,_,_,_,_,_,_,_,hit,_⟩:=hrg
           rw [e] at e'
           have : g = W1.heap.size:=by simpa [Value.ownBlock] using e'
           rw [this] at hgb
           rw [hgb] at hit
           cases hit)
       have hz2:=hb2.size
       have hxl : xs.length ≤ 1000000000:=by omega
       clear hs2 hv hz hkey ex hat hlk hcp hrow hrg
       go_upto_region 19 with fail
       obtain ⟨w3,hw3⟩ : ∃ w3,w2.alloc (.cells #[.int .i64 cn,.int .i64 ck,.int .i64 ca,.int .i64 cg] 28) = w3:=⟨_,rfl⟩
       have hb23 : Below w2.heap.size w2 w3:=by rw [← hw3];exact bel
       have hk23 : KeepsWalks w2 w3:=by rw [← hw3];exact KeepsWalks.alloc _ _
       have hX3 : w3.heap[w2.heap.size]? = some (.cells #[.int .i64 cn,.int .i64 ck,.int .i64 ca,.int .i64 cg] 28 (0,0)):=by rw [← hw3];exact heap_new_at _ _ _ rfl
       have hz3 : w2.heap.size < w3.heap.size:=by rw [← hw3];simp
       rw [hw3]
       clear hw3
       have hrow3:=hrow2.below hb23
       have hrg3:=hrg2.of_walks hk23
       have hzB3 : W1.heap.size ≤ w3.heap.size:=by omega
       obtain ⟨x0,x1,x2,x3⟩:=four_of' hX3
       clear hrow2 hX3
       go_wp2_with (at_builtin;(refine rappendL (E:=slE) rfl _ _ rfl Tryz.underlying25 Tryz.infoSlt rfl (by decide) (by decide) W1.heap.size _ xs ⟨cn,ck,ca,cg⟩ hrow3 rfl rfl (by omega) hzB3 ?_;intro g3 q3 w6 hr6 hb6 hz6 hg6 hor6))
       have hrg6:=hrg3.of_walks ((KeepsWalks.alloc _ _).trans (KeepsWalks.of_grownBy hg6 (row_not_walk (World.ownsRow.alloc hrow3 _))))
       go_roundw
       case rel => exact ⟨_,cnt2,xs ++ [⟨cn,ck,ca,cg⟩],hrg6,by simp;omega,HC2.out,HV2,by simpa using hr6,hb2.trans ((hb23.mono hz2).trans hb6)⟩
       case measure => rw [hrg6.left_eq,HME.out];exact hlt2
open Go.RowKit Fo Go.Maps
theorem wordT_short {r : L} {t : Tok} (h : wordT r = .good t) : t.s.length ≤ 32767:=by
 unfold wordT at h
 split at h
 · split at h
   · cases h
   · cases h;simp
 · split at h
   · split at h
     · cases h;simp
     · cases h
     · obtain ⟨rfl,h2⟩:=told_good h;show r.length ≤ _;omega
   · obtain ⟨rfl,h2⟩:=told_good h;show r.length ≤ _;omega
theorem tokT_short {l : L} {t : Tok} (h : tokT l = .good t) : t.s.length ≤ 32767:=by
 cases l with
 | nil => cases h
 | cons c l =>
   unfold tokT at h
   dsimp only at h
   split at h
   · cases h;simp
   · split at h
     · split at h
       · cases h;simp
       · obtain ⟨x,m,h1,rfl,h2⟩:=strOf_good h;exact h2
     · split at h
       · split at h
         · cases h;simp
         · cases h
       · split at h
         · obtain ⟨x,h1,rfl,h2⟩:=nameOf_good h;show x.length ≤ _;omega
         · split at h
           · obtain ⟨x,m,h1,rfl,h2⟩:=strOf_good h;exact h2
           · split at h
             · cases h
             · exact wordT_short h
theorem nextT_short {l : L} {t : Tok} (h : (nextT l).2 = .good t) : t.s.length ≤ 32767:=by
 unfold nextT at h
 simp only at h
 split at h
 · cases h;simp
 · exact tokT_short h
def obRL (v : Value) : List Value → Option (DataW Value × List MemPlace)
 | [.int .i64 _,.int .i64 _,.int .i64 _,.string _,.slice _ _ _,.slice _ _ _] => some (.held v,[])
 | _ => none
def obR : Value → Option (DataW Value × List MemPlace)
 | .agg cs => obRL (.agg cs) cs.toList
 | _ => none
structure Obv where
 k : Int
 n : Int
 g : Int
 s : L
 p1 : Option Addr
 n1 : Nat
 c1 : Nat
 p2 : Option Addr
 n2 : Nat
 c2 : Nat
def Obv.val (x : Obv) : Value:=.agg #[.int .i64 x.k,.int .i64 x.n,.int .i64 x.g,.string ⟨x.s.toArray⟩,.slice x.p1 x.n1 x.c1,.slice x.p2 x.n2 x.c2]
theorem obR_val (x : Obv) : obR x.val = some (.held x.val,[]):=rfl
theorem obRL_inv {v : Value} {cs : List Value} {y : DataW Value × List MemPlace} (h : obRL v cs = some y) : ∃ x : Obv,.agg cs.toArray = x.val ∧ y = (.held v,[]):=by
 unfold obRL at h
 split at h
 · rename_i k n g s p1 n1 c1 p2 n2 c2
   cases h
   exact ⟨⟨k,n,g,s.data.toList,p1,n1,c1,p2,n2,c2⟩,rfl,rfl⟩
 · cases h
theorem obR_inv {v : Value} {y : DataW Value × List MemPlace} (h : obR v = some y) : ∃ x : Obv,v = x.val ∧ y = (.held x.val,[]):=by
 cases v <;> simp only [obR] at h <;> try (cases h;done)
 obtain ⟨x,h1,h2⟩:=obRL_inv h
 rw [Array.toArray_toList] at h1
 exact ⟨x,h1,by rw [← h1];exact h2⟩
theorem Tryz.keyed : Keyed Tryz.prog 9:=string_keyed Tryz.underlying9
structure MapIs (D : DataW Value) (vals : List (L × Obv)) : Prop where
 tidy : Tidy D
 has : ∀ x,Maps.has D (.string x) = vals.any (fun p => p.1 == x)
 size : Maps.size D = vals.length
 at' : ∀ p ∈ vals,∀ z,D.atKey (.string p.1) z = .held p.2.val
 nodup : (vals.map (·.1)).Nodup
theorem MapIs.nil : MapIs (.map []) []:=⟨tidy_empty,fun x => rfl,rfl,fun p hp => by simp at hp,List.nodup_nil⟩
theorem MapIs.push {D : DataW Value} {vals : List (L × Obv)} (h : MapIs D vals) (x : L) (v : Obv) (hx : vals.any (fun p => p.1 == x) = false) (hk : WideAt.IsKeyLit (.string x)) :
   MapIs (D.put (.string x) (.held v.val)) (vals ++ [(x,v)]):=by
 have hne : ∀ p ∈ vals,p.1 ≠ x:=fun p hp he => by
   have : vals.any (fun p => p.1 == x) = true:=List.any_eq_true.2 ⟨p,hp,by simpa using he⟩
   rw [hx] at this;cases this
 refine ⟨h.tidy.put hk _,fun y => ?_,?_,fun p hp z => ?_,?_⟩
 · by_cases hy : y = x
   · subst hy
     rw [has_put_same h.tidy.isMap hk];simp
   · rw [has_put_other (by simpa using hy),h.has y,List.any_append]
     have : ¬ x = y:=fun h => hy h.symm
     simp [this]
 · rw [size_put h.tidy,h.has,hx];simp [h.size]
 · rw [List.mem_append] at hp
   rcases hp with hp | hp
   · rw [atKey_put_other (by simpa using hne p hp)];exact h.at' p hp z
   · simp only [List.mem_singleton] at hp;subst hp
     exact atKey_put_same h.tidy.isMap hk _ _
 · rw [List.map_append,List.nodup_append]
   refine ⟨h.nodup,by simp,fun a ha b hb => ?_⟩
   obtain ⟨p,hp,rfl⟩:=List.mem_map.1 ha
   simp only [List.map_cons,List.map_nil,List.mem_singleton] at hb
   subst hb;exact hne p hp
theorem isKey_str (x : L) : WideAt.IsKeyLit (.string x):=trivial
structure DInv (s : ByteArray) (m : Int) (d r : Nat) (w : World) (T : Res (List (L × Ob) × L)) (wr : World) (a fuel : Nat) (acc : List (L × Ob)) (vals : List (L × Obv)) (D : DataW Value) : Prop where
 ha : a ≤ s.size
 hr : RdAt wr r s a
 hB0 : wr.heap[w.heap.size]? = some (.cells #[.int .i64 0,.int .i64 0,.int .i64 0,.string ⟨#[]⟩,.slice none 0 0,.slice none 0 0] 36 (0,0))
 hown : wr.ownsMap Tryz.prog 9 obR (w.heap.size + 1) acc.length D
 hmi : MapIs D vals
 hkeys : vals.map (·.1) = acc.map (·.1)
 hkids : KidsAt (fun b => w.heap.size + 2 ≤ b) (d + 1) wr (vals.map fun p => objCells p.2.k p.2.n p.2.g p.2.s (.slice p.2.p1 p.2.n1 p.2.c1) (.slice p.2.p2 p.2.n2 p.2.c2)) (acc.map (·.2))
 hbes : Bes r w wr
 hm : MaxW wr m
 hlen : acc.length ≤ 8191
 hfu : s.size - a < fuel
 H : dictS (objS d) fuel (s.data.toList.drop a) acc = T
theorem ownMap_bes {w w' : World} {P : Program} {k : TypeId} {R : Value → Option (DataW Value × List MemPlace)} {b n r : Nat} {D : DataW Value} (h : w.ownsMap P k R b n D) (hs : Bes r w w') (hr : b ≠ r) : w'.ownsMap P k R b n D :=
 h.kept (row:=some r) ⟨hs.os,hs.tape,hs.output,hs.size,fun k h1 h2 => hs.block k h1 (by intro h;exact h2 (by rw [h]))⟩ (by simpa using hr)
structure DEnd (s : ByteArray) (m : Int) (d r : Nat) (w : World) (wr : World) (a : Nat) (acc : List (L × Ob)) (vals : List (L × Obv)) (D : DataW Value) : Prop where
 ha : a ≤ s.size
 hr : RdAt wr r s a
 hB0 : wr.heap[w.heap.size]? = some (.cells #[.int .i64 0,.int .i64 0,.int .i64 0,.string ⟨#[]⟩,.slice none 0 0,.slice none 0 0] 36 (0,0))
 hown : wr.ownsMap Tryz.prog 9 obR (w.heap.size + 1) acc.length D
 hmi : MapIs D vals
 hkeys : vals.map (·.1) = acc.map (·.1)
 hkids : KidsAt (fun b => w.heap.size + 2 ≤ b) (d + 1) wr (vals.map fun p => objCells p.2.k p.2.n p.2.g p.2.s (.slice p.2.p1 p.2.n1 p.2.c1) (.slice p.2.p2 p.2.n2 p.2.c2)) (acc.map (·.2))
 hbes : Bes r w wr
 hm : MaxW wr m
 hlen : acc.length ≤ 8191
theorem DInv.ended {s : ByteArray} {m : Int} {d r : Nat} {w : World} {T : Res (List (L × Ob) × L)} {wr : World} {a fuel : Nat} {acc : List (L × Ob)} {vals : List (L × Obv)} {D : DataW Value}
   (h : DInv s m d r w T wr a fuel acc vals D) (hrw : r < w.heap.size) {w1 : World} {q : Nat} (hs1 : Bes r wr w1) (hR : RdAt w1 r s q) (hq : q ≤ s.size) : DEnd s m d r w w1 q acc vals D:=by
 have l0:=h.hbes.size
 have lm:=h.hown.lt
 refine ⟨hq,hR,?_,ownMap_bes h.hown hs1 (by omega),h.hmi,h.hkeys,?_,h.hbes.trans hs1,h.hm.bes hs1 (h.hm.ne h.hr),h.hlen⟩
 · rw [hs1.block _ (by omega) (by omega)];exact h.hB0
 · exact h.hkids.grow (fun b h1 h2 => ⟨h1,hs1.block b h2 (by omega)⟩)
theorem any_keys {α β : Type} {l : List (L × α)} {l' : List (L × β)} (h : l.map (·.1) = l'.map (·.1)) (x : L) : l.any (fun p => p.1 == x) = l'.any (fun p => p.1 == x):=by
 have e1 : l.any (fun p => p.1 == x) = (l.map (·.1)).any (· == x):=by rw [List.any_map];rfl
 have e2 : l'.any (fun p => p.1 == x) = (l'.map (·.1)).any (· == x):=by rw [List.any_map];rfl
 rw [e1,e2,h]
section
variable {f : Tok → L → Res (Ob × L)} {n : Nat} {l r r2 r3 : L} {acc : List (L × Ob)} {t t2 : Tok} {k : Int} {o : Ob}
theorem dictS_bad (h : nextS l = .bad k) : dictS f (n + 1) l acc = .bad k:=by rw [dictS,h]
theorem dictS_end (h : nextS l = .good (t,r)) (hw : (t.kind == 6 && t.s == [62,62]) = true) : dictS f (n + 1) l acc = .good (acc,r):=by
 rw [dictS,h];simp only [Bool.and_eq_true,beq_iff_eq] at hw;simp [hw]
theorem dictS_past (h : nextS l = .good (t, r)) (hw : (t.kind == 6 && t.s == [62, 62]) = false) : dictS f (n + 1) l acc =
   (if t.kind ≠ 4 then .bad 3 else if (acc.any fun p => p.1 == t.s) = true then .bad 9 else if 8191 ≤ acc.length then .bad 6 else
       match nextS r with
       | .bad e => .bad e
       | .good (t2,r2) =>
         match f t2 r2 with
         | .bad e => .bad e
         | .good (o,r3) => dictS f n r3 (acc ++ [(t.s,o)])):=by
 rw [dictS,h]
 have : ¬ (t.kind = 6 ∧ t.s = [62,62]):=by rintro ⟨h1,h2⟩;simp [h1,h2] at hw
 dsimp only
 rw [if_neg this]
 rfl
theorem dictS_kind (h : nextS l = .good (t,r)) (hw : (t.kind == 6 && t.s == [62,62]) = false) (hk : t.kind ≠ 4) : dictS f (n + 1) l acc = .bad 3:=by rw [dictS_past h hw,if_pos hk]
theorem dictS_twice (h : nextS l = .good (t,r)) (hw : (t.kind == 6 && t.s == [62,62]) = false) (hk : t.kind = 4) (ha : (acc.any fun p => p.1 == t.s) = true) : dictS f (n + 1) l acc = .bad 9:=by
 rw [dictS_past h hw,if_neg (by omega),if_pos ha]
theorem dictS_many (h : nextS l = .good (t,r)) (hw : (t.kind == 6 && t.s == [62,62]) = false) (hk : t.kind = 4) (ha : (acc.any fun p => p.1 == t.s) = false) (hl : 8191 ≤ acc.length) : dictS f (n + 1) l acc = .bad 6:=by
 rw [dictS_past h hw,if_neg (by omega),if_neg (by simp [ha]),if_pos hl]
theorem dictS_nbad (h : nextS l = .good (t,r)) (hw : (t.kind == 6 && t.s == [62,62]) = false) (hk : t.kind = 4) (ha : (acc.any fun p => p.1 == t.s) = false) (hl : ¬ 8191 ≤ acc.length) (h2 : nextS r = .bad k) : dictS f (n + 1) l acc = .bad k:=by
 rw [dictS_past h hw,if_neg (by omega),if_neg (by simp [ha]),if_neg hl,h2]
theorem dictS_fbad (h : nextS l = .good (t,r)) (hw : (t.kind == 6 && t.s == [62,62]) = false) (hk : t.kind = 4) (ha : (acc.any fun p => p.1 == t.s) = false) (hl : ¬ 8191 ≤ acc.length) (h2 : nextS r = .good (t2,r2)) (h3 : f t2 r2 = .bad k) : dictS f (n + 1) l acc = .bad k:=by
 rw [dictS_past h hw,if_neg (by omega),if_neg (by simp [ha]),if_neg hl,h2]
 dsimp only;rw [h3]
theorem dictS_more (h : nextS l = .good (t, r)) (hw : (t.kind == 6 && t.s == [62, 62]) = false) (hk : t.kind = 4) (ha : (acc.any fun p => p.1 == t.s) = false) (hl : ¬ 8191 ≤ acc.length) (h2 : nextS r = .good (t2, r2)) (h3 : f t2 r2 = .good (o, r3)) :
   dictS f (n + 1) l acc = dictS f n r3 (acc ++ [(t.s,o)]):=by
 rw [dictS_past h hw,if_neg (by omega),if_neg (by simp [ha]),if_neg hl,h2]
 dsimp only;rw [h3]
end
def DElemPost (s : ByteArray) (d fuel r q : Nat) (x : L) (acc : List (L × Ob)) (T : Res (List (L × Ob) × L)) (w : World) (e : Ending) (w' : World) : Prop :=
 (∃ k,e = .panicked [{ v:=.iface 245 (.int .i64 k),recovered:=false }] ∧ Hid (T = .bad k) ∧ Bes r w w') ∨
 (∃ (o : Ob) (p1 : Option Addr) (n1 c1 : Nat) (p2 : Option Addr) (n2 c2 z : Nat),e = .returned (.agg #[.int .i64 o.kind,.int .i64 o.n,.int .i64 o.g,.string ⟨o.s.toArray⟩,.slice p1 n1 c1,.slice p2 n2 c2]) ∧ z ≤ s.size ∧ q ≤ z ∧
   Hid (dictS (objS d) fuel (s.data.toList.drop z) (acc ++ [(x,o)]) = T) ∧ ObjAt (fun b => w.heap.size ≤ b) (d + 1) w' (objCells o.kind o.n o.g o.s (.slice p1 n1 c1) (.slice p2 n2 c2)) o ∧ RdAt w' r s z ∧ Bes r w w')
theorem dict_elem (s : ByteArray) (m : Int) (d fuel r a p q q0 : Nat) (acc : List (L × Ob)) (T : Res (List (L × Ob) × L)) (HC : ObjC s m d) (t t2 : Tok) (hn : nextS (s.data.toList.drop a) = .good (t, s.data.toList.drop q0)) (hw : (t.kind == 6 && t.s == [62, 62]) = false)
   (hk4 : t.kind = 4) (hany : (acc.any fun p => p.1 == t.s) = false) (hl : ¬ 8191 ≤ acc.length) (h2 : nextS (s.data.toList.drop q0) = .good (t2,s.data.toList.drop q))
   (hT : Hid (dictS (objS d) (fuel + 1) (s.data.toList.drop a) acc = T)) (hq : q ≤ s.size) (hpq : p + t2.len = q) (hk : t2.kind ≠ 0) (h6 : t2.kind ≤ 6) (h0 : 0 ≤ t2.kind)
   (w : World) (hm : MaxW w m) (hr : RdAt w r s q) :
   Calls Tryz.prog 151 #[.pointer (some ⟨r,0,none⟩),.agg #[.int .i64 t2.kind,.int .i64 p,.int .i64 q,.int .i64 t2.n,.string ⟨t2.s.toArray⟩],.int .i64 (24 - (d : Int))] w (DElemPost s d fuel r q t.s acc T w):=by
 refine (HC r q p t2 w hq hm hr hpq hk h6 h0).mono ?_
 intro e w' h
 unfold RdPost at h
 cases hf : objS d t2 (s.data.toList.drop q) with
 | bad k =>
   rw [hf] at h
   exact .inl ⟨k,h.1,Lh (hT.out.symm.trans (dictS_fbad hn hw hk4 hany hl h2 hf)),h.2⟩
 | good R =>
   obtain ⟨o,rest⟩:=R
   rw [hf] at h
   obtain ⟨cs,z,rfl,hz1,rfl,hO,hR,hB⟩:=h
   obtain ⟨p1,n1,c1,p2,n2,c2,rfl⟩:=hO.shape
   have hsh:=objS_shorter _ _ _ _ _ hf
   simp only [List.length_drop,Array.length_toList,show s.data.size = s.size from rfl] at hsh
   exact .inr ⟨o,p1,n1,c1,p2,n2,c2,z,rfl,hz1,by omega,Lh ((dictS_more hn hw hk4 hany hl h2 hf).symm.trans hT.out),hO,hR,hB⟩
def DNextPost (s : ByteArray) (m : Int) (d fuel r q : Nat) (x : L) (acc : List (L × Ob)) (T : Res (List (L × Ob) × L)) (w : World) (e : Ending) (w' : World) : Prop :=
 (∃ k,e = .panicked [{ v:=.iface 245 (.int .i64 k),recovered:=false }] ∧ Hid (T = .bad k) ∧ Bes r w w') ∨
 (∃ (t2 : Tok) (p2 q2 : Nat),e = .returned (.agg #[.int .i64 t2.kind,.int .i64 p2,.int .i64 q2,.int .i64 t2.n,.string ⟨t2.s.toArray⟩]) ∧ q < q2 ∧ RdAt w' r s q2 ∧ Bes r w w' ∧
   Hid (∀ W,MaxW W m → RdAt W r s q2 → Calls Tryz.prog 151 #[.pointer (some ⟨r,0,none⟩),.agg #[.int .i64 t2.kind,.int .i64 p2,.int .i64 q2,.int .i64 t2.n,.string ⟨t2.s.toArray⟩],.int .i64 (24 - (d : Int))] W (DElemPost s d fuel r q2 x acc T W)))
theorem dict_next (s : ByteArray) (hs : s.size ≤ 140737488355327) (m : Int) (d fuel r a q : Nat) (acc : List (L × Ob)) (T : Res (List (L × Ob) × L)) (HC : ObjC s m d) (t : Tok) (hn : nextS (s.data.toList.drop a) = .good (t, s.data.toList.drop q)) (hw : (t.kind == 6 && t.s == [62, 62]) = false)
   (hk4 : t.kind = 4) (hany : (acc.any fun p => p.1 == t.s) = false) (hl : ¬ 8191 ≤ acc.length) (hT : Hid (dictS (objS d) (fuel + 1) (s.data.toList.drop a) acc = T)) (hq : q ≤ s.size)
   (w : World) (hm : MaxW w m) (hr : RdAt w r s q) :
   Calls Tryz.prog 152 #[.pointer (some ⟨r,0,none⟩)] w (DNextPost s m d fuel r q t.s acc T w):=by
 cases h2 : nextS (s.data.toList.drop q) with
 | bad k =>
   refine (rnext_bad r s q k hq hs m w hm hr h2).mono ?_
   rintro e w' ⟨h1,h3⟩
   exact .inl ⟨k,h1,Lh (hT.out.symm.trans (dictS_nbad hn hw hk4 hany hl h2)),h3⟩
 | good tr =>
   obtain ⟨t2,rest⟩:=tr
   obtain ⟨h1,hk,hrest⟩:=nextS_good h2
   obtain ⟨g1,g2,g3,_⟩:=nextT_good h1
   obtain ⟨g5,g6⟩:=nextS_shorter h2
   obtain ⟨p,hp⟩ : ∃ p,q + (nextT (s.data.toList.drop q)).1 = p:=⟨_,rfl⟩
   refine (rnext_good r s q p t2 hq hs m w hm hr h1 hk hp).mono ?_
   rintro e w' ⟨e1,e2,e3⟩
   simp only [List.length_drop,Array.length_toList,show s.data.size = s.size from rfl] at g1
   have hq2 : p + t2.len ≤ s.size:=by omega
   rw [List.drop_drop,← Nat.add_assoc,hp] at hrest
   subst hrest
   have hqa : q < p + t2.len:=by simp only [List.length_drop,Array.length_toList,show s.data.size = s.size from rfl] at g5;omega
   exact .inr ⟨t2,p,p + t2.len,e1,hqa,e2,e3,Lh (fun W hW hR => dict_elem s m d fuel r a p (p + t2.len) q acc T HC t t2 hn hw hk4 hany hl h2 hT hq2 rfl hk g3 g2 W hW hR)⟩
theorem DInv.step {s : ByteArray} {m : Int} {d r : Nat} {w : World} {T : Res (List (L × Ob) × L)} {wr : World} {a fuel : Nat} {acc : List (L × Ob)} {vals : List (L × Obv)} {D : DataW Value}
   (h : DInv s m d r w T wr a (fuel + 1) acc vals D) (hrw : r < w.heap.size) {w1 w4 w5 : World} {x : L} {o : Ob} {p1 : Option Addr} {n1 c1 : Nat} {p2 : Option Addr} {n2 c2 z : Nat}
   (hs1 : Bes r wr w1) (hs4 : Bes r w1 w4) (hO : ObjAt (fun b => w1.heap.size ≤ b) (d + 1) w4 (objCells o.kind o.n o.g o.s (.slice p1 n1 c1) (.slice p2 n2 c2)) o) (hR4 : RdAt w4 r s z) (hz : z ≤ s.size) (haz : a < z) (hl9 : ¬ 8191 ≤ acc.length)
   (hany : (acc.any fun p => p.1 == x) = false) (hown5 : w5.ownsMap Tryz.prog 9 obR (w.heap.size + 1) (acc.length + 1) (D.put (.string x) (.held (Obv.val ⟨o.kind,o.n,o.g,o.s,p1,n1,c1,p2,n2,c2⟩))))
   (hg : w4.grownBy w5 (some (w.heap.size + 1))) (HX : dictS (objS d) fuel (s.data.toList.drop z) (acc ++ [(x,o)]) = T) :
   DInv s m d r w T w5 z fuel (acc ++ [(x,o)]) (vals ++ [(x,⟨o.kind,o.n,o.g,o.s,p1,n1,c1,p2,n2,c2⟩)]) (D.put (.string x) (.held (Obv.val ⟨o.kind,o.n,o.g,o.s,p1,n1,c1,p2,n2,c2⟩))):=by
 have l0:=h.hbes.size
 have l1:=hs1.size
 have l4:=hs4.size
 have lm:=h.hown.lt
 have hne : r ≠ w.heap.size + 1:=by omega
 have keep : ∀ b,b < w4.heap.size → b ≠ w.heap.size + 1 → w5.heap[b]? = w4.heap[b]?:=fun b hb hb2 => hg.block b hb (by simpa using hb2)
 have hmx : MaxW w4 m:=(h.hm.bes hs1 (h.hm.ne h.hr)).bes hs4 (h.hm.ne h.hr)
 refine ⟨hz,?_,?_,by simpa using hown5,?_,?_,?_,?_,?_,by simp;omega,?_,HX⟩
 · show w5.heap[r]? = _
   rw [keep r (by omega) hne];exact hR4
 · rw [keep _ (by omega) (by omega),hs4.block _ (by omega) (by omega),hs1.block _ (by omega) (by omega)];exact h.hB0
 · exact h.hmi.push x _ ((any_keys h.hkeys x).trans hany) (isKey_str x)
 · simp [h.hkeys]
 · rw [List.map_append,List.map_append]
   refine KidsAt.push ?_ rfl ?_
   · refine h.hkids.grow (fun b h1 h2 => ⟨h1,?_⟩)
     rw [keep b (by omega) (by omega),hs4.block b (by omega) (by omega),hs1.block b h2 (by omega)]
   · exact hO.grow (fun b h1 h2 => ⟨by omega,keep b h2 (by omega)⟩)
 · have h4:=(h.hbes.trans hs1).trans hs4
   exact ⟨hg.os.trans h4.os,hg.tape.trans h4.tape,hg.output.trans h4.output,by have:=hg.size;omega,fun b h1 h2 => (keep b (by omega) (by omega)).trans (h4.block b h1 h2)⟩
 · have:=MaxW.lt hmx
   unfold MaxW at *
   rw [World.cell?_of_block (a:=⟨1,0,none⟩) (keep 1 this (by omega))];exact hmx
 · have:=h.hfu;omega
open Go.RowKit Fo Go.Maps
theorem Tryz.infoStr : (Tryz.prog.info? 9).map (fun i => (i.zero,i.size,i.bytes)) = some (some (.string ⟨#[]⟩),1,16):=by kernel_rfl
def ownS (w : World) (B : Nat) (v : Value) (ss : List L) : Prop:=w.ownsRow B 9 1 v ss.length (ss.map encStr)
theorem ownS_nil (w : World) (B : Nat) : ownS w B (.slice none 0 0) []:=⟨by simp,.inl ⟨rfl,rfl⟩⟩
theorem ownS_alloc {w : World} {B : Nat} {v : Value} {ss : List L} (h : ownS w B v ss) (o : Go.Obj) : ownS (w.alloc o) B v ss:=World.ownsRow.alloc h o
theorem appendS {ops : Array Oper} {rest : List Oper} {o : Oper} {a : Act} {Q : Exit → Act → World → Prop} {w : World} (hgd : o.guard = none) (s x : Operand)
   (ho : o.op = .call { callee:=.builtin .append,args:=#[s,x],argTypes:=#[33,33] })
   (B : Nat) (v : Value) (ss : List L) (y : L) (hown : ownS w B v ss) (hs : a.eval s = v)
   (gx : Nat) (hx : a.eval x = .slice (some ⟨gx,0,none⟩) 1 1) (hgx : w.heap.size = gx) (hlen : ss.length ≤ 100000) (hB : B ≤ w.heap.size)
   (h : ∀ p c w',ownS w' B (.slice p (ss.length + 1) c) (ss ++ [y]) → Below B w w' → w.heap.size < w'.heap.size → wpList Tryz.prog ops Q rest (a.put o.dst (.slice p (ss.length + 1) c)) w') :
   wpList Tryz.prog ops Q (o :: rest) a (w.alloc (.cells #[.string ⟨y.toArray⟩] 9)):=by
 subst hgx
 obtain ⟨i0,hi,hz0,hz1,hz2⟩:=info_parts Tryz.infoStr
 refine wpList_append_own _ hgd s x 33 ho B 9 i0 (.string ⟨#[]⟩) 1 16 Tryz.underlying33 hi hz0 hz1 hz2 rfl (by decide) v ss.length _ hs (hown.alloc _) ⟨w.heap.size,0,none⟩ 1 1 [.string ⟨y.toArray⟩] hx rfl ?_ ?_ ?_ ?_ ?_ ?_
 · intro j u hj
   have hj0 : j = 0:=by
     rcases j with _ | j
     · rfl
     · simp at hj
   subst hj0
   simp at hj;subst hj
   rw [show (⟨w.heap.size,0,none⟩ : Addr).add 0 = ⟨w.heap.size,0,none⟩ from rfl,World.cell?_alloc_at _ _ _ _ rfl];rfl
 · intro u hu;simp at hu;subst hu;rfl
 · unfold maxLen;omega
 · omega
 · simp;omega
 · intro v' w' hown' hg _
   obtain ⟨p,c,rfl⟩:=own_slice hown'
   refine h p c w' ?_ (((Below.refl B w).alloc hB _).trans ((Below.refl B _).grown hg (by simp;omega) (own_base hown))) (by have:=hg.size;simp at this;omega)
   unfold ownS
   simpa using hown'
def keepB (vals : List (L × Obv)) (x : L) : Bool:=vals.any fun p => p.1 == x && p.2.k != 0
theorem keepB_at {D : DataW Value} {vals : List (L × Obv)} (h : MapIs D vals) {x : L} {c : Obv} (hh : Maps.has D (.string x) = true) (hat : ∀ z,D.atKey (.string x) z = .held c.val) : keepB vals x = (c.k != 0) ∧ (x,c) ∈ vals:=by
 rw [h.has] at hh
 obtain ⟨p,hp,hpx⟩:=List.any_eq_true.1 hh
 have hpx' : p.1 = x:=by simpa using hpx
 have h1:=h.at' p hp .nil
 rw [hpx',hat] at h1
 have h2 : c.val = p.2.val:=by simpa using h1
 have h3 : c = p.2:=by
   unfold Obv.val at h2
   cases c;cases hpp : p.2
   rw [hpp] at h2
   simp at h2 ⊢
   obtain ⟨a1,a2,a3,a4,⟨a5,a6,a7⟩,a8,a9,a10⟩:=h2
   exact ⟨a1,a2,a3,a4,a5,a6,a7,a8,a9,a10⟩
 refine ⟨?_,by rw [h3,← hpx'];exact hp⟩
 unfold keepB
 cases hk : (c.k != 0)
 · rw [List.any_eq_false]
   intro q hq
   by_cases hqx : q.1 = x
   · have : q = p := by
       have hn:=h.nodup
       obtain ⟨i,hi,rfl⟩:=List.mem_iff_getElem.1 hq
       obtain ⟨j,hj,rfl⟩:=List.mem_iff_getElem.1 hp
       by_cases hij : i = j
       · subst hij;rfl
       · exfalso
         have hne:=List.pairwise_iff_getElem.1 hn
         rcases Nat.lt_or_gt_of_ne hij with h | h
         · exact hne i j (by simpa using hi) (by simpa using hj) h (by simp [hqx,hpx'])
         · exact hne j i (by simpa using hj) (by simpa using hi) h (by simp [hqx,hpx'])
     subst this
     rw [← h3];simp [hk]
   · simp [hqx]
 · exact List.any_eq_true.2 ⟨p,hp,by rw [← h3];simp [hpx',hk]⟩
theorem ranges_of {P : Program} {k : TypeId} {R : Value → Option (DataW Value × List MemPlace)} {w w' : World} {b r n : Nat} {D : DataW Value} {left : Lit → Bool} {cnt : Nat} (h : w.ranges P k R b r n D left cnt)
   (hb : w'.heap[b]? = w.heap[b]?) (hr : w'.heap[r]? = w.heap[r]?) : w'.ranges P k R b r n D left cnt:=by
 obtain ⟨es,clock,since,seen,c0,h1,F,hs,hD,h2,rest⟩:=h
 exact ⟨es,clock,since,seen,c0,hb.trans h1,F,hs,hD,hr.trans h2,rest⟩
structure RInv (wc : World) (bm n : Nat) (vals : List (L × Obv)) (D : DataW Value) (wr : World) (left : Lit → Bool) (cnt : Nat) (sa : List L) (v : Value) : Prop where
 hbm : bm < wc.heap.size
 hrg : wr.ranges Tryz.prog 9 obR bm (wc.heap.size + 1) n D left cnt
 hC : Collected D left sa
 hob : wr.heap[wc.heap.size]? = some (.cells #[.int .i64 7,.int .i64 0,.int .i64 0,.string ⟨#[]⟩,v,.slice none 0 0] 36 (0,0))
 hown : ownS wr (wc.heap.size + 2) v (sa.filter (keepB vals))
 hb : Below wc.heap.size wc wr
 hcnt : sa.length + cnt ≤ Maps.size D
theorem RInv.skip {wc : World} {bm n : Nat} {vals : List (L × Obv)} {D : DataW Value} {wr w2 : World} {left : Lit → Bool} {cnt cnt2 : Nat} {sa : List L} {v : Value} {x : L} {c : Obv} (h : RInv wc bm n vals D wr left cnt sa v)
   (hlk : left (.string x) = true) (hat : ∀ zd,D.atKey (.string x) zd = .held c.val) (hrg2 : w2.ranges Tryz.prog 9 obR bm (wc.heap.size + 1) n D (fun z => left z && !z.sameKey (.string x)) cnt2) (hlt : cnt2 < cnt) (hg2 : wr.grownBy w2 (some (wc.heap.size + 1)))
   (hk : keepB vals x = false) (o : Go.Obj) : RInv wc bm n vals D (w2.alloc o) (fun z => left z && !z.sameKey (.string x)) cnt2 (sa ++ [x]) v:=by
 have l1:=h.hrg.lt
 have l2:=hg2.size
 have hbk : ∀ k,k < wc.heap.size + 1 → w2.heap[k]? = wr.heap[k]?:=fun k hk => hg2.block k (by omega) (by simp;omega)
 refine ⟨h.hbm,hrg2.alloc o,h.hC.step hlk hat,?_,?_,?_,by have:=h.hcnt;simp;omega⟩
 · rw [Below.heap_alloc _ _ _ (by omega),hbk _ (by omega)];exact h.hob
 · rw [List.filter_append]
   have : [x].filter (keepB vals) = []:=by simp [hk]
   rw [this,List.append_nil]
   have hne:=own_base h.hown
   exact (World.ownsRow.kept h.hown hg2 (.inr (by intro h;have:=hne _ h;omega))).alloc o
 · have hs:=h.hb.size
   exact ⟨hg2.os.trans h.hb.os,hg2.tape.trans h.hb.tape,hg2.output.trans h.hb.output,by simp;omega,fun k hk => by
     rw [Below.heap_alloc _ _ _ (by omega),hbk k (by omega)];exact h.hb.block k hk⟩
theorem RInv.push {wc : World} {bm n : Nat} {vals : List (L × Obv)} {D : DataW Value} {wr w2 wz : World} {left : Lit → Bool} {cnt cnt2 : Nat} {sa : List L} {v v' : Value} {x : L} {c : Obv} (h : RInv wc bm n vals D wr left cnt sa v)
   (hlk : left (.string x) = true) (hat : ∀ zd,D.atKey (.string x) zd = .held c.val) (hrg2 : w2.ranges Tryz.prog 9 obR bm (wc.heap.size + 1) n D (fun z => left z && !z.sameKey (.string x)) cnt2) (hlt : cnt2 < cnt) (hg2 : wr.grownBy w2 (some (wc.heap.size + 1)))
   (hk : keepB vals x = true) (o : Go.Obj) (hbz : Below (wc.heap.size + 2) (w2.alloc o) wz) (hown : ownS wz (wc.heap.size + 2) v' (sa.filter (keepB vals) ++ [x])) :
   RInv wc bm n vals D (wz.setCell ⟨wc.heap.size,4,none⟩ v') (fun z => left z && !z.sameKey (.string x)) cnt2 (sa ++ [x]) v':=by
 have l1:=h.hrg.lt
 have l2:=hg2.size
 have l3:=hbz.size
 simp at l3
 have hbk : ∀ k,k < wc.heap.size + 1 → w2.heap[k]? = wr.heap[k]?:=fun k hk => hg2.block k (by omega) (by simp;omega)
 have hbk2 : ∀ k,k < wc.heap.size + 2 → wz.heap[k]? = w2.heap[k]?:=fun k hk => (hbz.block k hk).trans (Below.heap_alloc _ _ _ (by omega))
 have hset : ∀ k,k ≠ wc.heap.size → (wz.setCell ⟨wc.heap.size,4,none⟩ v').heap[k]? = wz.heap[k]?:=fun k hk => Below.heap_setCell _ _ _ _ hk
 have hbm:=h.hbm
 refine ⟨hbm,ranges_of hrg2 ?_ ?_,h.hC.step hlk hat,?_,?_,?_,by have:=h.hcnt;simp;omega⟩
 · rw [hset _ (by omega),hbk2 _ (by omega)]
 · rw [hset _ (by omega),hbk2 _ (by omega)]
 · refine set_fourth (v4:=v) ?_
   rw [hbk2 _ (by omega),hbk _ (by omega)];exact h.hob
 · rw [List.filter_append]
   have : [x].filter (keepB vals) = [x]:=by simp [hk]
   rw [this]
   have hne:=own_base hown
   refine World.ownsRow.kept hown (row:=some wc.heap.size) ⟨rfl,rfl,rfl,by simp [World.setCell],fun k h1 h2 => hset k (by intro h;exact h2 (by rw [h]))⟩ (.inr (by intro h;have:=hne _ h;omega))
 · have hs:=h.hb.size
   exact ⟨hbz.os.trans (hg2.os.trans h.hb.os),hbz.tape.trans (hg2.tape.trans h.hb.tape),hbz.output.trans (hg2.output.trans h.hb.output),by simp [World.setCell];omega,fun k hk => by
     rw [hset k (by omega),hbk2 k (by omega),hbk k (by omega)];exact h.hb.block k hk⟩
end Go.Proofs.YtinafodpgjbedaaGreatDoor
