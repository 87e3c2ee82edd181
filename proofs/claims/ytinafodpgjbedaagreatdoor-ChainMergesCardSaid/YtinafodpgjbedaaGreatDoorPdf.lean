/- Parts of the proof: ShelfE ChQ ChV TdC Same ChS ChM TdD DictA. -/
import Derived.Test.YtinafodpgjbedaaGreatDoorPda
import Derived.Shelf.SlSortCmp.WholeK
import Derived.Test.YtinafodpgjbedaaGreatDoorPdd
import Derived.Shelf.SlSortCmp.NoneTotal
import Derived.RangeFuncNested
import Derived.RangeFuncBound
import Derived.RangeFuncCalls
import Derived.RangeFuncLeaves
import Derived.RangeFuncBox
import Derived.Shelf.Abstract
import Derived.Shelf.RegionOpen
import Derived.OwnWalkIn
import Derived.TacticsInMore
import Derived.LoopNIn
import Derived.LoopIn
import Derived.Maps.AppendAt
import Derived.Maps.OwnIn
import Derived.Test.YtinafodpgjbedaaGreatDoorPde
import Derived.Lib.SlKeysI
import Derived.Sort.MapsRangeIn
import Derived.RangeFuncMany
import Derived.BigQuiet
import Derived.Deep.QuietTactic
import Derived.Deep.RegionHeld3
import Derived.Deep.CutBlock
import Derived.Deep.DeepCutAuto
import Derived.Maps.RangeWalk
import Derived.Sort.KeysCollected
import Derived.Sort.OwnSorted
set_option linter.all false
set_option maxRecDepth 100000
set_option maxHeartbeats 8000000
namespace Go.Proofs
open Go.Shelf
def Tryz.sortSl_ren : Go.Shelf.Ren:=⟨fun | 6 => 34 | 15 => 62 | 14 => 61 | 28 => 104 | 29 => 105 | 20 => 96 | 21 => 97 | 22 => 98 | 23 => 99 | 24 => 100 | 25 => 101 | 26 => 102 | 27 => 103 | 46 => 140 | 47 => 141 | 48 => 142 | 49 => 143 | 50 => 144 | 57 => 183 | n => n,fun | 22 => 25 | 24 => 28 | 25 => 53 | 3 => 3 | 39 => 114 | 0 => 0 | 53 => 163 | 55 => 165 | 4 => 4 | 46 => 156 | 45 => 155 | 50 => 160 | 5 => 5 | 9 => 9 | 66 => 203 | 70 => 207 | 76 => 243 | 77 => 92 | n => n,fun | n => n⟩
theorem Tryz.sortSl : Go.Proofs.SlLaysF0.n6 Tryz.prog Tryz.sortSl_ren:={
 mixed:=by kernel_rfl
 f6:=⟨Tryz.f34.name,by decide,Tryz.func34.trans (congrArg some (by kernel_rfl))⟩
 f14:=⟨Tryz.f61.name,by decide,Tryz.func61.trans (congrArg some (by kernel_rfl))⟩
 f15:=Tryz.func62.trans (congrArg some (by kernel_rfl))
 f20:=⟨Tryz.f96.name,by decide,Tryz.func96.trans (congrArg some (by kernel_rfl))⟩
 f21:=⟨Tryz.f97.name,by decide,Tryz.func97.trans (congrArg some (by kernel_rfl))⟩
 f22:=⟨Tryz.f98.name,by decide,Tryz.func98.trans (congrArg some (by kernel_rfl))⟩
 f23:=⟨Tryz.f99.name,by decide,Tryz.func99.trans (congrArg some (by kernel_rfl))⟩
 f24:=⟨Tryz.f100.name,by decide,Tryz.func100.trans (congrArg some (by kernel_rfl))⟩
 f25:=⟨Tryz.f101.name,by decide,Tryz.func101.trans (congrArg some (by kernel_rfl))⟩
 f26:=⟨Tryz.f102.name,by decide,Tryz.func102.trans (congrArg some (by kernel_rfl))⟩
 f27:=⟨Tryz.f103.name,by decide,Tryz.func103.trans (congrArg some (by kernel_rfl))⟩
 f28:=Tryz.func104.trans (congrArg some (by kernel_rfl))
 f29:=Tryz.func105.trans (congrArg some (by kernel_rfl))
 f46:=⟨Tryz.f140.name,by decide,Tryz.func140.trans (congrArg some (by kernel_rfl))⟩
 f47:=Tryz.func141.trans (congrArg some (by kernel_rfl))
 f48:=Tryz.func142.trans (congrArg some (by kernel_rfl))
 f49:=⟨Tryz.f143.name,by decide,Tryz.func143.trans (congrArg some (by kernel_rfl))⟩
 f50:=⟨Tryz.f144.name,by decide,Tryz.func144.trans (congrArg some (by kernel_rfl))⟩
 f57:=⟨Tryz.f183.name,by decide,Tryz.func183.trans (congrArg some (by kernel_rfl))⟩
 t0:=Tryz.underlying0
 a0:=Tryz.isAgg0
 z0:=Tryz.sizeOf0
 v0:=Tryz.zeroValue0
 t3:=Tryz.underlying3
 a3:=Tryz.isAgg3
 z3:=Tryz.sizeOf3
 v3:=Tryz.zeroValue3
 t4:=Tryz.underlying4
 a4:=Tryz.isAgg4
 z4:=Tryz.sizeOf4
 v4:=Tryz.zeroValue4
 t5:=Tryz.underlying5
 a5:=Tryz.isAgg5
 z5:=Tryz.sizeOf5
 v5:=Tryz.zeroValue5
 t9:=Tryz.underlying9
 a9:=Tryz.isAgg9
 z9:=Tryz.sizeOf9
 v9:=Tryz.zeroValue9
 t22:=Tryz.underlying25
 a22:=Tryz.isAgg25
 z22:=Tryz.sizeOf25
 v22:=Tryz.zeroValue25
 t25:=Tryz.underlying53
 a25:=Tryz.isAgg53
 z25:=Tryz.sizeOf53
 v25:=Tryz.zeroValue53
 t39:=Tryz.underlying114
 a39:=Tryz.isAgg114
 z39:=Tryz.sizeOf114
 v39:=Tryz.zeroValue114
 t45:=Tryz.underlying155
 a45:=Tryz.isAgg155
 z45:=Tryz.sizeOf155
 v45:=Tryz.zeroValue155
 t46:=Tryz.underlying156
 a46:=Tryz.isAgg156
 z46:=Tryz.sizeOf156
 v46:=Tryz.zeroValue156
 t50:=Tryz.underlying160
 a50:=Tryz.isAgg160
 z50:=Tryz.sizeOf160
 v50:=Tryz.zeroValue160
 t53:=Tryz.underlying163
 a53:=Tryz.isAgg163
 z53:=Tryz.sizeOf163
 v53:=Tryz.zeroValue163
 t55:=Tryz.underlying165
 a55:=Tryz.isAgg165
 z55:=Tryz.sizeOf165
 v55:=Tryz.zeroValue165
 t66:=Tryz.underlying203
 a66:=Tryz.isAgg203
 z66:=Tryz.sizeOf203
 v66:=Tryz.zeroValue203
 t70:=Tryz.underlying207
 a70:=Tryz.isAgg207
 z70:=Tryz.sizeOf207
 v70:=Tryz.zeroValue207
 t76:=Tryz.underlying243
 a76:=Tryz.isAgg243
 z76:=Tryz.sizeOf243
 v76:=Tryz.zeroValue243
 t77:=Tryz.underlying92
 a77:=Tryz.isAgg92
 z77:=Tryz.sizeOf92
 v77:=Tryz.zeroValue92 }
end Go.Proofs
namespace Go.Proofs.YtinafodpgjbedaaGreatDoor
open Go.RowKit Go.Shelf Go.Sort Fo
section
variable {α : Type} [Inhabited α] {E : Enc α} {t : TypeId} {w : World} {B g cap n : Nat} {os : Array Obj} {cur : Array Value} {xs ys : List α}
theorem flat_at (E : Enc α) (xs : List α) (i : Nat) (hi : i < xs.length * E.k) : (flatK E.cells E.k xs.toArray)[i]? = (E.row xs)[i]? ∧ ((E.row xs)[i]?).isSome:=by
 have hk0 : 0 < E.k:=by
   rcases Nat.eq_zero_or_pos E.k with h | h
   · rw [h] at hi;omega
   · exact h
 have hq : i / E.k < xs.length:=Nat.div_lt_of_lt_mul (by rw [Nat.mul_comm];exact hi)
 have hm:=Nat.mod_lt i hk0
 have hr:=E.row_at xs (i / E.k) hq (i % E.k) hm
 rw [Nat.mul_comm,Nat.div_add_mod] at hr
 have hc : i % E.k < (E.cells xs[i / E.k]).length:=by rw [E.len];exact hm
 rw [hr]
 have hs : i < (flatK E.cells E.k xs.toArray).size:=by simpa using hi
 have g:=get_flatK E.cells E.k xs.toArray i (by simpa using hi)
 have hqa : i / E.k < xs.toArray.size:=by simpa using hq
 have e1 : xs.toArray[i / E.k]! = xs[i / E.k]:=by rw [getElem!_pos xs.toArray (i / E.k) hqa];simp
 have e2 : (E.cells xs[i / E.k])[i % E.k]! = (E.cells xs[i / E.k])[i % E.k]:=getElem!_pos (E.cells xs[i / E.k]) (i % E.k) hc
 rw [e1,e2,getElem!_pos _ i hs] at g
 rw [Array.getElem?_eq_getElem hs,g,List.getElem?_eq_getElem hc]
 exact ⟨rfl,rfl⟩
theorem holdsK_of (hb : w.heap[g]? = some (.cells cur t (0,0))) (ht : cur.toList.take (xs.length * E.k) = E.row xs) : HoldsK E.cells E.k w g 0 xs.toArray:=by
 intro j hj
 have hj' : j < xs.length * E.k:=by simpa using hj
 obtain ⟨h1,h2⟩:=flat_at E xs j hj'
 refine ⟨?_,by simp [World.frozen?,hb]⟩
 have h3 : cur[j]? = (E.row xs)[j]?:=by
   rw [← ht,List.getElem?_take_of_lt hj',Array.getElem?_toList]
 simp only [World.cell?,hb,Nat.zero_add]
 simp only [Option.isSome_none,Bool.false_eq_true,if_false]
 rw [h3,← h1]
 rw [getElem!_pos _ j hj,Array.getElem?_eq_getElem hj]
 rfl
theorem heap_sortedK (hb : w.heap[g]? = some (.cells cur t (0,0))) : (sortWorldK E.cells E.k w g 0 n ys.toArray os).heap[g]? = some (.cells (putCells id 0 (flatK E.cells E.k ys.toArray) cur) t (0,0)):=by
 have hg : g < w.heap.size:=lt_of_block hb
 unfold sortWorldK putRowK
 rw [heap_grow_old _ _ (by simpa using hg)]
 simp [putRow,mapBlock,Sort.ahead,Array.getElem?_modify,hb,onCells]
theorem grownBy_sortedK : w.grownBy (sortWorldK E.cells E.k w g 0 n ys.toArray os) (some g):=by
 unfold sortWorldK putRowK
 refine ⟨rfl,rfl,rfl,by simp,fun k hk hne => ?_⟩
 rw [heap_grow_old _ _ (by simpa using hk)]
 have : g ≠ k:=fun e => hne (by rw [e])
 simp [putRow,mapBlock,Sort.ahead,Array.getElem?_modify,this]
theorem rownS_sorted (hl : ys.length = xs.length) (hB : B ≤ g) (hb : w.heap[g]? = some (.cells cur t (0, 0))) (h1 : xs.length ≤ cap) (h2 : cap ≤ maxLen) (h3 : cur.size = cap * E.k) :
   rownS E t (sortWorldK E.cells E.k w g 0 n ys.toArray os) B (.slice (some ⟨g,0,none⟩) xs.length cap) ys:=by
 refine ⟨E.row_length ys,.inr ⟨g,cap,_,by rw [hl],hB,heap_sortedK hb,by omega,h2,by simp [putCells,h3],?_⟩⟩
 have hle : ys.length * E.k ≤ cur.size:=by rw [h3,hl];exact Nat.mul_le_mul_right _ h1
 refine List.ext_getElem? fun j => ?_
 by_cases hj : j < ys.length * E.k
 · obtain ⟨g1,g2⟩:=flat_at E ys j hj
   have hs : j < (flatK E.cells E.k ys.toArray).size:=by simpa using hj
   rw [List.getElem?_take_of_lt hj,Array.getElem?_toList,← g1,Array.getElem?_eq_getElem hs]
   have hjc : j < cur.size:=by omega
   have h4 : j < (putCells id 0 (flatK E.cells E.k ys.toArray) cur).size:=by simpa [putCells] using hjc
   rw [Array.getElem?_eq_getElem h4]
   congr 1
   simp only [putCells,Array.getElem_mapIdx]
   rw [if_pos ⟨Nat.zero_le _,by rw [Nat.zero_add];exact hs⟩,Nat.sub_zero,getElem!_pos _ j hs]
   rfl
 · rw [List.getElem?_take_eq_none (by omega),List.getElem?_eq_none (by rw [E.row_length];omega)]
theorem perm_of {d' : Array α} (h : PermIn 0 xs.toArray.size xs.toArray d') : d'.toList.Perm xs:=by
 obtain ⟨h1,_,h3⟩:=h
 have e1 : d'.extract 0 xs.toArray.size = d':=by rw [← h1,Array.extract_size]
 have e2 : xs.toArray.extract 0 xs.toArray.size = xs.toArray:=Array.extract_size
 rw [e1,e2] at h3
 exact h3
theorem sorted_of {lt : α → α → Bool} {d' : Array α} (hs : d'.size = xs.length) (h : SortedIn lt 0 xs.length d') : d'.toList.Pairwise fun a b => lt b a = false:=by
 rw [List.pairwise_iff_getElem]
 intro i j hi hj hij
 have hi' : i < d'.size:=by simpa using hi
 have hj' : j < d'.size:=by simpa using hj
 have:=h i j (Nat.zero_le _) hij (by omega)
 rw [getElem!_pos d' j hj',getElem!_pos d' i hi'] at this
 simpa using this
end
section
variable {α : Type} [Inhabited α]
theorem sort_slots (E : Enc α) (hE : E.k = 4) (cf : α → α → Int) (hO : SWO (ltOf cf)) (g : Nat) (eg : ∀ args w, (callFunc g args).run Tryz.prog w = .ok (.enter g args) w)
   (hcmp : ∀ x y W,Calls Tryz.prog g #[.agg (E.cells x).toArray,.agg (E.cells y).toArray] W fun e w' => e = .returned (.int .i64 (cf x y)) ∧ ∃ q os',w' = grow (W.drewN q) os')
   (B : Nat) (v : Value) (xs : List α) (w : World) (h : rownS E 28 w B v xs) (hlen : xs.length ≤ 1000000000) (hB : B ≤ w.heap.size) :
   Calls Tryz.prog 34 #[v,.func (.func g) #[] #[]] w fun e w' => e = .returned (.tuple #[]) ∧ ∃ ys,ys.Perm xs ∧ ys.Pairwise (fun a b => ltOf cf b a = false) ∧ rownS E 28 w' B v ys ∧ Below B w w' ∧ w.grownBy w' v.ownBlock:=by
 rcases h.2 with ⟨rfl,h0⟩ | ⟨blk,cap,cur,rfl,h2,h3,h4,h5,h6,h7⟩
 · have hx : xs = []:=List.eq_nil_of_length_eq_zero h0
   subst hx
   have hc:=AnyF.slices_SortFunc_none (P:=Tryz.prog) (ρ:=Tryz.sortSl_ren) Tryz.sortSl none 0 (.func (.func g) #[] #[]) w
   refine (show Calls Tryz.prog 34 _ _ _ from hc).mono ?_
   rintro e w' ⟨rfl,rfl⟩
   exact ⟨rfl,[],.nil,.nil,rownS_nil _ _,Below.refl _ _,⟨rfl,rfl,rfl,Nat.le_refl _,fun k hk _ => rfl⟩⟩
 · have hc := AnyQ.slices_SortFunc (P := Tryz.prog) (ρ := Tryz.sortSl_ren) Tryz.sortSl E.k Tryz.isAgg28 (by rw [hE]; exact Tryz.sizeOf28) E.cells E.len E.one cf hO g #[] blk 0 cap xs.toArray w eg
     (fun m os dk _ x y => hcmp x y _) (holdsK_of h3 h7) (lt_of_block h3) (by simp;omega)
   refine (show Calls Tryz.prog 34 _ _ _ from hc).mono ?_
   rintro e w' ⟨rfl,d',n,os,hp,hs,rfl⟩
   have hsz : d'.size = xs.length:=by simpa using hp.1
   have hrow:=rownS_sorted (E:=E) (t:=28) (B:=B) (w:=w) (g:=blk) (cap:=cap) (n:=n) (os:=os) (cur:=cur) (xs:=xs) (ys:=d'.toList) (by simpa using hsz) h2 h3 h4 h5 h6
   have hg : w.grownBy (sortWorldK E.cells E.k w blk 0 n d' os) (some blk):=by
     have:=grownBy_sortedK (E:=E) (w:=w) (g:=blk) (n:=n) (os:=os) (ys:=d'.toList)
     simpa using this
   refine ⟨rfl,d'.toList,perm_of hp,sorted_of hsz (by simpa using hs),by simpa using hrow,(Below.refl B w).grown hg hB (fun k e => by cases e;exact h2),hg⟩
end
open Go.RowKit Go.Shelf Go.Maps Go.Sort Fo
attribute [local go_sem] Oper.semAt_some
theorem Tryz.infoSlt : (Tryz.prog.info? 28).map (fun i => (i.zero,i.size,i.bytes)) = some (some (slV ⟨0,0,0,0⟩),4,32):=by kernel_rfl
def encSl (x : Sl) : Array Value:=#[.agg (slE.cells x).toArray]
theorem chNew (w : World) (o : Obj) (b : Nat) (h : b = w.heap.size) : (w.alloc o).heap[b]? = some o:=by subst h;exact heap_alloc_new w o
theorem nodN_nodup {ps : List Sl} (h : NodN ps) : ps.Nodup:=h.imp fun {a b} h e => h (by rw [e])
theorem perm_all {D : DataW Unit} {ps xs : List Sl} {left : Lit → Bool} (hD : MapS D ps) (hn : NodN ps) (hC : CollectedI D left (xs.map (·.num))) (hx : ∀ x ∈ xs,x ∈ ps) (hl : ∀ kl,left kl = false) : xs.Perm ps:=by
 have hnx : xs.Nodup:=by
   have h:=hC.1
   rw [List.nodup_iff_pairwise_ne,List.pairwise_map] at h
   exact h.imp fun {a b} h e => h (by rw [e])
 refine (List.perm_ext_iff_of_nodup hnx (nodN_nodup hn)).2 fun x => ⟨hx x,fun hp => ?_⟩
 have hf:=nod_num hn hp
 have hh:=hD.has x.num
 rw [show ps.find? (fun y => y.num == x.num) = some x from hf] at hh
 have hm:=(hC.2 x.num).2 ⟨hh,hl _⟩
 obtain ⟨y,hy,e⟩:=List.mem_map.1 hm
 have hy2:=nod_num hn (hx y hy)
 rw [e,hf] at hy2
 cases hy2
 exact hy
theorem maps_values_in (mb : Option Nat) (w : World) :
   Calls Tryz.prog 19 #[.map mb] w fun e w' => e = .returned (.func (.func 35) #[] #[.pointer (some ⟨w.heap.size,0,none⟩)]) ∧
     w' = w.alloc (.cells #[.map mb] 48):=by
 have hmf : ∀ (fn : Fn) (first cap : Array Value) (w : World),(Instr.makeFunc fn first cap).run Tryz.prog w = .ok (.func fn first cap) w:=fun _ _ _ _ => rfl
 go_enter Tryz.func19,Tryz.ntmps19
 go_wp2
 go_ret
 exact ⟨rfl,rfl⟩
theorem vals1_stops (Bm b nn : Nat) (D : DataW Unit) (ps : List Sl) (w0 : World) (hBm : Bm < w0.heap.size) (hm : w0.cell? ⟨Bm, 0, none⟩ = some (.map (some b))) (hown : w0.ownsMap Tryz.prog 3 slotR b nn D) (hD : MapS D ps) (hnod : NodN ps) :
   SeqStopsK Fence.wide 5 Tryz.prog 35 #[.pointer (some ⟨Bm,0,none⟩)] encSl KeepsWalks (fun xs => xs.Perm ps) (fun _ => True) (Maps.size D) w0:=by
 intro l J Jx W hW hAJ hAJx hY hJ0
 have hro : Fence.wide.round = none:=rfl
 have hmW:=(hW.cell (p:=⟨Bm,0,none⟩) hBm).trans hm
 have hown' : W.ownsMap Tryz.prog 3 slotR b nn D:=by
   have hbl:=hown.lt
   obtain ⟨es,clock,hb,Ft,hs,hD⟩:=hown
   exact ⟨es,clock,(hW.block b hbl).trans hb,Ft,hs,hD⟩
 have HD:=Lh (And.intro hD hnod)
 have HY:=Lh hY
 clear hm hown hD hnod hW hY
 refine callsIn_of_wp Tryz.func35 rfl trivial ?_ hro
 simp only [Tryz.ntmps35,List.size_toArray,List.length_cons,List.length_nil,Nat.reduceAdd,Nat.reduceSub,Array.replicate_succ,Array.replicate_zero,List.push_toArray,List.append_toArray,List.nil_append,List.cons_append]
 gi_wp2_with (first
   | (gi_at_range;refine wpListIn_range_own _ rfl _ 48 rfl 3 28 (int_keyed Tryz.underlying3) Tryz.underlying48 slotR b nn _ rfl hown' ?_;intro w1 hrg0 hg0 hs0)
   | gi_in)
 go_frame
 gi_loopw [4] (fun _ wr => ∃ (left : Lit → Bool) (cnt : Nat) (xs : List Sl),wr.ranges Tryz.prog 3 slotR b W.heap.size nn D left cnt ∧ xs.length + cnt ≤ Maps.size D ∧ CollectedI D left (xs.map (·.num)) ∧ Hid (∀ x ∈ xs,x ∈ ps) ∧ J xs wr)
   (fun _ wr => wr.rangeLeft b W.heap.size)
 case atStart => exact ⟨_,_,[],hrg0,by simp,CollectedI.start D,Lh (by simp),hAJ [] W w1 none hJ0 hg0 (fun r e => by cases e)⟩
 case round =>
   obtain ⟨left,cnt,xs,hrg,hcs,hC,hV,hJs⟩:=hrel
   gi_wp2_with (first
     | (gi_at_next;refine wpListIn_next_ranges _ rfl _ rfl 3 (int_keyed Tryz.underlying3) slotR encZ slV (fun key kl hk => by obtain ⟨x,hx,_⟩:=Maps.keyOf_i64 Tryz.underlying3 hk;exact ⟨x,hx⟩) (fun v y hv => by obtain ⟨x,rfl,_⟩:=slotR_inv hv;exact ⟨x,rfl⟩) b W.heap.size nn _ _ _ rfl hrg ?_ ?_)
     | gi_in)
   · intro hc0 hl0
     gi_wp2
     go_end0
     exact ⟨⟨_,rfl⟩,.inl ⟨xs,perm_all HD.out.1 HD.out.2 hC hV.out hl0,hJs⟩⟩
   · intro x c kl yd yp w2 cnt2 hkey hlk hv hat hrg2 hlt hg2 hs2 hen
     obtain ⟨x',ex,rfl,_⟩:=Maps.keyOf_i64 Tryz.underlying3 hkey
     obtain rfl : x = x':=encZ_inj ex
     have hz : yd = slD c:=by
       have h:=slotR_slV c
       rw [hv] at h
       exact congrArg (fun z : DataW Unit × List MemPlace => z.1) (Option.some.inj h)
     have hcp : c ∈ ps ∧ c.num = x:=by
       have hh:=has_true_of_atKey hat
       rw [HD.out.1.has x] at hh
       obtain ⟨z,hz2⟩:=Option.isSome_iff_exists.1 hh
       have h1:=HD.out.1.at' x z hz2 (slD z)
       rw [hat,hz] at h1
       obtain rfl:=slD_inj h1
       exact numF_some hz2
     obtain ⟨cn,ck,ca,cg⟩:=c
     obtain ⟨hcp,rfl⟩:=hcp
     have hJ2 : J xs w2:=hAJ xs wr w2 (some W.heap.size) hJs hg2 (fun r e => by cases e;exact ⟨Nat.le_refl _,hrg.iter_walk⟩)
     have hJ3 : J xs (w2.alloc (.cells #[.int .i64 cn,.int .i64 ck,.int .i64 ca,.int .i64 cg] 28)):=hAJ xs w2 _ none hJ2 ((show w2.grownBy (w2.alloc _) none from ⟨rfl,rfl,rfl,by simp,fun k hk _ => Below.heap_alloc _ _ _ hk⟩)) (fun r e => by cases e)
     obtain ⟨fn,tmps,assign,body,hy,hR⟩:=HY.out xs ⟨cn,ck,ca,cg⟩ _ hJ3 (by omega)
     dsimp only [encSl,slE] at hy
     dsimp only [slV] at hen
     have HV2:=Lh (show ∀ y ∈ xs ++ [(⟨cn,ck,ca,cg⟩ : Sl)],y ∈ ps from fun y hy => (List.mem_append.1 hy).elim (hV.out y) (fun e => by simp at e;subst e;exact hcp))
     have HC2:=Lh (show CollectedI D (fun z => left z && !z.sameKey (.int .i64 cn)) ((xs ++ [(⟨cn,ck,ca,cg⟩ : Sl)]).map (·.num)) by simpa using hC.step hlk hat)
     clear hs2 hv hz hkey ex hat hlk hcp
     gi_wp2
     refine hR.mono ?_
     rintro e W3 (⟨rfl,hJ4,hk3⟩ | ⟨rfl,hJx3⟩)
     · gi_wp2
       have hrg3:=(hrg2.of_walks (KeepsWalks.alloc _ _)).of_walks hk3
       go_roundw
       case rel => exact ⟨_,cnt2,_,hrg3,by simp;omega,HC2.out,HV2,hJ4⟩
       case measure => rw [hrg3.left_eq,hrg.left_eq];exact hlt
     · gi_wp2
       refine bodyPost_ret (results_none rfl _ _ _) rfl ?_
       exact ⟨⟨_,rfl⟩,.inr ⟨_,trivial,hJx3⟩⟩
theorem row_not_walk {W : World} {base : Nat} {e : TypeId} {size : Nat} {v : Value} {k : Nat} {xs : List Value} (h : W.ownsRow base e size v k xs) : ∀ (j : Nat) (o : Obj),v.ownBlock = some j → W.heap[j]? = some o → o.isWalk = false:=by
 intro j o hj ho
 rcases h.2 with ⟨rfl,_⟩ | ⟨g,cap,cur,rfl,_,hgb,_⟩
 · simp [Value.ownBlock] at hj
 · have : g = j:=by simpa [Value.ownBlock] using hj
   subst this;rw [hgb] at ho;cases ho;rfl
theorem block_keptC {A B : World} {row : Option Nat} {b : Nat} {c : Array Value} {t : TypeId} {fr : Nat × Nat} (h : A.heap[b]? = some (.cells c t fr)) (hg : A.grownBy B row) (hrow : ∀ r,row = some r → ∃ o : Obj,A.heap[r]? = some o ∧ o.isCells = false) : B.heap[b]? = some (.cells c t fr) :=
 (grownBy_keeps_cells hg hrow h rfl).trans h
theorem row_snocS (pre : List Sl) (x : Sl) : slE.row (pre ++ [x]) = slE.row pre ++ slE.cells x:=by rw [slE.row_append];simp [Enc.row]
theorem appendSeq_in (gf : Nat) (lb : Array Value) (eg : ∀ args w, (callFunc gf args).run Tryz.prog w = .ok (.enter gf args) w) (ps : List Sl) (N : Nat) (hN : N ≤ 100000000) (w : World)
   (hseq : SeqStopsK Fence.wide 5 Tryz.prog gf lb encSl KeepsWalks (fun xs => xs.Perm ps) (fun _ => True) N w) :
   CallsIn Fence.wide 6 Tryz.prog 60 #[.slice none 0 0,.func (.func gf) #[] lb] w fun e w' => ∃ v xs,e = .returned v ∧ xs.Perm ps ∧ rownS slE 28 w' w.heap.size v xs ∧ Below w.heap.size w w':=by
 obtain ⟨i0,hi,hz0,hz1,hz2⟩:=info_parts Tryz.infoSlt
 have hro : Fence.wide.round = none:=rfl
 obtain ⟨sv,hsv⟩ : ∃ sv,Value.func (.func gf) #[] lb = sv:=⟨_,rfl⟩
 have HSV:=Lh hsv
 rw [hsv]
 clear hsv
 refine callsIn_of_wp_marks Tryz.func60 rfl trivial ?_ hro
 simp only [Tryz.ntmps60,List.size_toArray,List.length_cons,List.length_nil,Nat.reduceAdd,Nat.reduceSub,Array.replicate_succ,Array.replicate_zero,List.push_toArray,List.append_toArray,List.nil_append,List.cons_append]
 gi_wp2
 obtain ⟨H,hH⟩ : ∃ H,w.heap.size = H:=⟨_,rfl⟩
 have bO:=Boxed.new w 25 (.slice none 0 0)
 have hB0 : Below w.heap.size w (w.alloc (.cells #[.slice none 0 0] 25)):=(Below.refl _ w).alloc (Nat.le_refl _) _
 have hsw : (w.alloc (.cells #[.slice none 0 0] 25)).heap.size = H + 1:=by simp;omega
 obtain ⟨W0,hW0⟩ : ∃ W0,w.alloc (.cells #[.slice none 0 0] 25) = W0:=⟨_,rfl⟩
 rw [hW0] at bO hB0 hsw ⊢
 have hb0:=hB0
 rw [hH] at bO hB0
 simp only [hH]
 clear hW0
 refine wpIn_rangeFunc_ownH hro (by omega) (gf:=gf) (lb:=lb) HSV.out.symm trivial eg
   hseq walksK_t walksK_b hb0 (fun _ => rfl)
   (fun pre W => (∃ v,Boxed W H 25 v ∧ W.ownsRow H 28 4 v pre.length (slE.row pre) ∧ True) ∧ Below H w W)
   (fun _ _ _ => False)
   (OwnFrom.and (Own.from (holdsRow_own H H 25 28 4 (fun pre : List Sl => pre.length) (fun pre => slE.row pre) (fun _ _ => True)) _) (ownFrom_below (by omega) (by omega)))
   (fun _ _ _ _ _ hs _ _ => hs)
   ⟨⟨_,bO,World.ownsRow_nil _ _ _ _,trivial⟩,hB0⟩
   (fun x a' W => ∃ Bx,H < Bx ∧ W.heap[Bx]? = some (.cells (slE.cells x).toArray 28 (0,0)) ∧ a' = { tmps:=#[.slice none 0 0,sv,.pointer (some ⟨H,0,none⟩),undef,.slice none 0 0,.pointer (some ⟨Bx,0,none⟩),sv,.agg (slE.cells x).toArray,undef,undef,undef,undef,undef],defers:=[] })
   (fun x a' _ X Y row hs hg hr => by obtain ⟨Bx,h1,h2,h3⟩:=hs;exact ⟨Bx,h1,block_keptC h2 hg (fun r e => (hr r e).2),h3⟩)
   ?assign ?body ?done ?stop
 case assign =>
   rintro l pre ⟨cn,ck,ca,cg⟩ W K ⟨⟨v,hv,hrow,_⟩,hB⟩ hK
   have hz:=hB.size
   have hlt:=hv.lt
   dsimp only [encSl,slE] at hK ⊢
   gi_wp2
   exact hK _ _ ((KeepsOthers.alloc _ _).from _) (KeepsWalks.alloc _ _) ⟨⟨v,hv.alloc _,World.ownsRow.alloc hrow _,trivial⟩,hB.alloc (by omega) _⟩ ⟨W.heap.size,hlt,chNew _ _ _ rfl,rfl⟩
 case body =>
   rintro l pre ⟨cn,ck,ca,cg⟩ a' W hl ⟨r,hr⟩ ⟨⟨v,hv,hrow,_⟩,hB⟩ ⟨Bx,hBx,bX,rfl⟩ hlt
   have hc:=hv.cell
   have hzz:=hB.size
   dsimp only [slE] at bX ⊢
   have v0 : W.cell? ⟨Bx,0,none⟩ = some (.int .i64 cn):=by simp [World.cell?,bX]
   have v1 : W.cell? ⟨Bx,1,none⟩ = some (.int .i64 ck):=by simp [World.cell?,bX]
   have v2 : W.cell? ⟨Bx,2,none⟩ = some (.int .i64 ca):=by simp [World.cell?,bX]
   have v3 : W.cell? ⟨Bx,3,none⟩ = some (.int .i64 cg):=by simp [World.cell?,bX]
   clear bX
   gi_wp2_with (gi_at_builtin;refine wpListIn_append_own_at _ rfl _ _ 25 rfl H 28 i0 (slV ⟨0,0,0,0⟩) 4 32 Tryz.underlying25 hi hz0 hz1 hz2 rfl (by decide) _ _ _ rfl (hrow.alloc _) ⟨W.heap.size,0,none⟩ 1 1 (slE.cells ⟨cn,ck,ca,cg⟩) rfl rfl (World.news_of_block (cs:=(slE.cells ⟨cn,ck,ca,cg⟩).toArray) (t:=28) (fr:=(0,0)) (heap_alloc_new W _)) (slE.one _) (by unfold maxLen;omega) (by omega) (by simp;omega) ?_;intro v' w1 hown' hgrow _ hob;obtain ⟨g',cap',rfl⟩:=ownsRow_succ hown';obtain ⟨hv1,hv2,hr2,hk2,hb2⟩:=hv.appended (by decide) hrow (hH ▸ hB.size) (Nat.le_refl _) hown' hgrow;have hc1:=hv1.cell;have hf1:=hv1.frozen)
   have hkw : KeepsWalks W (w1.setCell ⟨H,0,none⟩ (.slice (some ⟨g',0,none⟩) (pre.length + 1) cap')):=((KeepsWalks.alloc _ _).trans (KeepsWalks.of_grownBy hgrow (row_not_walk (World.ownsRow.alloc hrow _)))).trans (KeepsWalks.setCell _ _ _)
   refine ⟨hk2.from _,hkw,⟨_,hv2,?_,trivial⟩,hB.trans hb2⟩
   show World.ownsRow _ H 28 4 _ (pre ++ [_]).length (slE.row (pre ++ [(⟨cn,ck,ca,cg⟩ : Sl)]))
   rw [row_snocS,List.length_append]
   exact hr2
 case done =>
   rintro D ys W hD hys ⟨⟨v,hv,hrow,_⟩,hB⟩ hK
   have hc:=hv.cell
   gi_wp2
   refine ⟨by simp,.inl ⟨_,_,rfl,run_takeDeferred hK,?_⟩⟩
   exact ⟨_,results_tmp rfl _ _ _,v,ys,rfl,hys,by rw [hH];exact ownsRow_putObj hrow _ hK rfl,by rw [hH];exact hB.trans (belowK_b (w:=w) (by omega) W D _ _ (by omega) hK rfl rfl)⟩
 case stop =>
   rintro D c pre W _ _ h _
   exact h.elim
theorem sortedFunc_in (cf : Sl → Sl → Int) (hO : Go.Sort.SWO (ltOf cf)) (g : Nat) (eg : ∀ args w, (callFunc g args).run Tryz.prog w = .ok (.enter g args) w)
   (hcmp : ∀ x y W,Calls Tryz.prog g #[.agg (slE.cells x).toArray,.agg (slE.cells y).toArray] W fun e w' => e = .returned (.int .i64 (cf x y)) ∧ ∃ q os',w' = grow (W.drewN q) os')
   (Bm b nn : Nat) (ps : List Sl) (w : World) (hBm : Bm < w.heap.size) (hm : w.cell? ⟨Bm,0,none⟩ = some (.map (some b))) (hM : MpS w b nn ps) (hnod : NodN ps) (hnn : nn ≤ 100000000) (hpn : ps.length ≤ 100000000) :
   Calls Tryz.prog 18 #[.func (.func 35) #[] #[.pointer (some ⟨Bm,0,none⟩)],.func (.func g) #[] #[]] w fun e w' =>
     ∃ v ys,e = .returned v ∧ ys.Perm ps ∧ ys.Pairwise (fun a b => ltOf cf b a = false) ∧ rownS slE 28 w' w.heap.size v ys ∧ Below w.heap.size w w':=by
 obtain ⟨D,hown,hD⟩:=hM
 have hsz:=hown.size_le
 have HCL:=Lh (show Calls Tryz.prog 33 #[.func (.func 35) #[] #[.pointer (some ⟨Bm,0,none⟩)]] w (fun e w' => ∃ v xs,e = .returned v ∧ xs.Perm ps ∧ rownS slE 28 w' w.heap.size v xs ∧ Below w.heap.size w w') from by
   have hA:=Lh (callsIn_wide.1 (appendSeq_in 35 #[.pointer (some ⟨Bm,0,none⟩)] (enters_of Tryz.func35 (by kernel_rfl) rfl) ps (Maps.size D) (by omega) w (vals1_stops Bm b nn D ps w hBm hm hown hD hnod)))
   clear hm hown hD
   go_enter Tryz.func33,Tryz.ntmps33
   go_wp2_with fail
   refine hA.out.mono ?_
   rintro e w' ⟨v,xs,rfl,hp,hr,hb⟩
   go_wp2
   go_ret
   exact ⟨v,xs,rfl,hp,hr,hb⟩)
 have HPL:=Lh (fun (xs : List Sl) (hp : xs.Perm ps) => show xs.length ≤ 100000000 by have:=hp.length_eq;omega)
 clear hm hown hD hsz
 go_enter Tryz.func18,Tryz.ntmps18
 go_wp2_with fail
 refine HCL.out.mono ?_
 rintro e w1 ⟨v,xs,rfl,hp,hr,hb⟩
 have HS:=Lh (sort_slots slE rfl cf hO g eg hcmp w.heap.size v xs w1 hr (by have:=HPL.out xs hp;omega) hb.size)
 go_wp2_with fail
 refine HS.out.mono ?_
 rintro e w2 ⟨rfl,ys,hp2,hs2,hr2,hb2,_⟩
 go_wp2
 go_ret
 exact ⟨v,ys,rfl,hp2.trans hp,hs2,hr2,hb.trans hb2⟩
open Go.RowKit Fo Go.Maps
structure SInv (acc ps : List Sl) : Prop where
 perm : ps.Perm acc
 nod : NodN ps
 up : upS acc
 num : ∀ x ∈ ps,0 ≤ x.num ∧ x.num ≤ 8191
theorem SInv.nil : SInv [] []:=⟨.nil,.nil,.nil,fun x h => by cases h⟩
theorem layR_ok : ∀ {acc : List Sl} {x : Sl} {acc1 : List Sl},upS acc → layR acc x = some acc1 → (∀ y ∈ acc,y.num ≠ x.num) ∧ acc1.Perm (acc ++ [x]) ∧ upS acc1 ∧ (∀ y ∈ acc1,y ∈ acc ∨ y = x)
 | [],x,acc1,_,h => by
   cases h
   exact ⟨fun y hy => (by cases hy),.refl _,List.pairwise_singleton _ _,fun y hy => .inr (by simpa using hy)⟩
 | z :: acc,x,acc1,hu,h => by
   obtain ⟨u1,u2⟩:=List.pairwise_cons.1 hu
   unfold layR at h
   by_cases h1 : z.num < x.num
   · rw [if_pos h1] at h
     cases h2 : layR acc x with
     | none => rw [h2] at h;cases h
     | some r =>
       rw [h2] at h
       cases h
       obtain ⟨g1,g2,g3,g4⟩:=layR_ok u2 h2
       refine ⟨fun y hy => ?_,(List.Perm.cons z g2),List.pairwise_cons.2 ⟨fun y hy => ?_,g3⟩,fun y hy => ?_⟩
       · rcases List.mem_cons.1 hy with rfl | hy
         · omega
         · exact g1 y hy
       · rcases g4 y hy with hy | rfl
         · exact u1 y hy
         · exact h1
       · rcases List.mem_cons.1 hy with rfl | hy
         · exact .inl (by simp)
         · rcases g4 y hy with hy | hy
           · exact .inl (by simp [hy])
           · exact .inr hy
   · rw [if_neg h1] at h
     by_cases h2 : z.num = x.num
     · rw [if_pos h2] at h;cases h
     · rw [if_neg h2] at h
       cases h
       refine ⟨fun y hy => ?_,?_,List.pairwise_cons.2 ⟨fun y hy => ?_,hu⟩,fun y hy => ?_⟩
       · rcases List.mem_cons.1 hy with rfl | hy
         · exact h2
         · have:=u1 y hy;omega
       · exact (List.perm_append_singleton x (z :: acc)).symm
       · rcases List.mem_cons.1 hy with rfl | hy
         · omega
         · have:=u1 y hy;omega
       · rcases List.mem_cons.1 hy with rfl | hy
         · exact .inr rfl
         · exact .inl hy
theorem SInv.push {acc ps acc1 : List Sl} {x : Sl} (h : SInv acc ps) (hl : layR acc x = some acc1) (hx : 0 ≤ x.num ∧ x.num ≤ 8191) : SInv acc1 (ps ++ [x]) ∧ ps.find? (fun y => y.num == x.num) = none:=by
 obtain ⟨g1,g2,g3,_⟩:=layR_ok h.up hl
 refine ⟨⟨(h.perm.append_right _).trans g2.symm,?_,g3,fun y hy => ?_⟩,?_⟩
 · refine List.pairwise_append.2 ⟨h.nod,List.pairwise_singleton _ _,fun a ha b hb => ?_⟩
   simp only [List.mem_singleton] at hb
   subst hb
   exact g1 a (h.perm.mem_iff.1 ha)
 · rcases List.mem_append.1 hy with hy | hy
   · exact h.num y hy
   · simp only [List.mem_singleton] at hy;subst hy;exact hx
 · rw [List.find?_eq_none]
   intro y hy
   have:=g1 y (h.perm.mem_iff.1 hy)
   simpa using this
theorem sect_end {f : Nat} {l : L} {acc PS : List Sl} {L2 l1 : L} (h : sectR f l acc = some (PS,L2)) (hw : wordR l wordTr = some l1) : PS = acc ∧ L2 = l1:=by
 cases f with
 | zero => cases h
 | succ f => unfold sectR at h;rw [hw] at h;cases h;exact ⟨rfl,rfl⟩
theorem sect_step {f : Nat} {l : L} {acc PS : List Sl} {L2 : L} (h : sectR f l acc = some (PS, L2)) (hw : wordR l wordTr = none) :
   ∃ first l1 count l2 acc1 l3 f',numR l 0 8191 = some (first,l1) ∧ numR l1 0 (8192 - first) = some (count,l2) ∧ entriesR count.toNat first l2 acc = some (acc1,l3) ∧ sectR f' l3 acc1 = some (PS,L2):=by
 cases f with
 | zero => cases h
 | succ f =>
   unfold sectR at h
   rw [hw] at h
   dsimp only at h
   cases h1 : numR l 0 8191 with
   | none => rw [h1] at h;cases h
   | some y =>
     obtain ⟨first,l1⟩:=y
     rw [h1] at h
     dsimp only at h
     cases h2 : numR l1 0 (8192 - first) with
     | none => rw [h2] at h;cases h
     | some y =>
       obtain ⟨count,l2⟩:=y
       rw [h2] at h
       dsimp only at h
       cases h3 : entriesR count.toNat first l2 acc with
       | none => rw [h3] at h;cases h
       | some y =>
         obtain ⟨acc1,l3⟩:=y
         rw [h3] at h
         exact ⟨first,l1,count,l2,acc1,l3,f,rfl,h2,h3,h⟩
theorem entries_step {n : Nat} {num : Int} {l : L} {acc acc1 : List Sl} {l3 : L} (h : entriesR (n + 1) num l acc = some (acc1, l3)) :
   ∃ x l1 acc2,entryR num l = some (x,l1) ∧ layR acc x = some acc2 ∧ entriesR n (num + 1) l1 acc2 = some (acc1,l3):=by
 unfold entriesR at h
 cases h1 : entryR num l with
 | none => rw [h1] at h;cases h
 | some y =>
   obtain ⟨x,l1⟩:=y
   rw [h1] at h
   dsimp only at h
   cases h2 : layR acc x with
   | none => rw [h2] at h;cases h
   | some acc2 => rw [h2] at h;exact ⟨x,l1,acc2,rfl,h2,h⟩
theorem entry_num {num : Int} {l r : L} {x : Sl} (h : entryR num l = some (x,r)) : x.num = num:=by
 unfold entryR at h
 split at h
 · cases h
 · split at h
   · cases h
   · split at h
     · cases h;rfl
     · split at h
       · cases h;rfl
       · cases h
open Go.RowKit Fo
def smallO : Nat → Ob → Prop
 | 0,_ => False
 | d + 1,o => o.keys.length ≤ 140737488355328 ∧ o.kids.length ≤ 140737488355328 ∧ o.s.length ≤ 140737488355328 ∧ (∀ x ∈ o.keys,x.length ≤ 140737488355328) ∧ ∀ k ∈ o.kids,smallO d k
def RowAt (S : Nat → Prop) (d : Nat) (w : World) (v : Value) (kids : List Ob) : Prop :=
 (kids = [] ∧ ∃ p c,v = .slice p 0 c) ∨
 ∃ b off c,v = .slice (some ⟨b,off,none⟩) kids.length c ∧ S b ∧
   ∀ i (h : i < kids.length),∃ ks : List Value,ks.length = 6 ∧ (∀ j (hj : j < ks.length),w.cell? ⟨b,off + 6 * i + j,none⟩ = some ks[j]) ∧ ObjAt S d w ks kids[i]
theorem RowAt.kept {S : Nat → Prop} {w w' : World} {d : Nat} {v : Value} {kids : List Ob} (h : RowAt S d w v kids) (hk : ∀ b,S b → w'.heap[b]? = w.heap[b]?) : RowAt S d w' v kids:=by
 rcases h with h | ⟨b,off,c,h1,h2,h3⟩
 · exact .inl h
 · refine .inr ⟨b,off,c,h1,h2,fun i hi => ?_⟩
   obtain ⟨ks,g1,g2,g3⟩:=h3 i hi
   exact ⟨ks,g1,fun j hj => (World.cell?_of_block (hk b h2)).trans (g2 j hj),ObjAt.kept hk d g3⟩
theorem texts_nil (p1 p2 : Option Addr) (c1 c2 : Nat) (w : World) :
   Calls Tryz.prog 24 #[.slice p1 0 c1,.slice p2 0 c2] w fun e w' => e = .returned (.bool true) ∧ Below w.heap.size w w':=by
 go_enter Tryz.func24,Tryz.ntmps24
 go_wp2
 refine wp_loop_rounds 1 ?_
 rw [rounds_succ]
 go_wp2
 go_ret
 exact ⟨rfl,bel⟩
theorem texts_cons (b1 o1 c1 b2 o2 c2 : Nat) (ks : List L) (w : World) (hl : ks.length ≤ 140737488355328)
   (h1 : ∀ i (h : i < ks.length),w.cell? ⟨b1,o1 + i,none⟩ = some (.string ⟨(ks[i]).toArray⟩)) (h2 : ∀ i (h : i < ks.length),w.cell? ⟨b2,o2 + i,none⟩ = some (.string ⟨(ks[i]).toArray⟩))
   (l1 : b1 < w.heap.size) (l2 : b2 < w.heap.size) :
   Calls Tryz.prog 24 #[.slice (some ⟨b1,o1,none⟩) ks.length c1,.slice (some ⟨b2,o2,none⟩) ks.length c2] w fun e w' => e = .returned (.bool true) ∧ Below w.heap.size w w':=by
 obtain ⟨n,hn⟩ : ∃ n,ks.length = n:=⟨_,rfl⟩
 have H1:=Lh h1
 have H2:=Lh h2
 rw [hn] at hl
 rw [hn]
 have HN:=Lh hn
 clear h1 h2 hn
 go_enter Tryz.func24,Tryz.ntmps24
 go_wp2
 go_loopw [13] (fun i wr => ∃ k : Nat,k ≤ n ∧ i = .int .i64 k ∧ Below w.heap.size w wr) (fun i _ => n - (intOf i).toNat)
 case atStart => exact ⟨0,Nat.zero_le _,rfl,bel⟩
 case round =>
   obtain ⟨k,hk,rfl,hb⟩:=hrel
   by_cases hlt : k < n
   · have g1 : wr.cell? ⟨b1, o1 + k, none⟩ = some (.string ⟨(ks.getD k []).toArray⟩) := by
       rw [hb.cell (p:=⟨b1,o1 + k,none⟩) l1,H1.out k (by rw [HN.out];exact hlt)];simp [List.getD,HN.out,hlt]
     have g2 : wr.cell? ⟨b2,o2 + k,none⟩ = some (.string ⟨(ks.getD k []).toArray⟩):=by
       rw [hb.cell (p:=⟨b2,o2 + k,none⟩) l2,H2.out k (by rw [HN.out];exact hlt)];simp [List.getD,HN.out,hlt]
     obtain ⟨x,hx⟩ : ∃ x,(ks.getD k []).toArray = x:=⟨_,rfl⟩
     rw [hx] at g1 g2
     clear hx
     go_wp2
     go_quiet (fail)
     go_wp2
     go_roundw
     case rel => exact ⟨k + 1,by omega,by go_num,bel⟩
     case measure => simp [intOf];omega
   · go_wp2
     go_ret
     exact ⟨rfl,hb⟩
theorem texts_in (S : Nat → Prop) (w : World) (va vb : Value) (ks : List L) (hl : ks.length ≤ 140737488355328) (ha : KeysAt S w va ks) (hb : KeysAt S w vb ks) (hS : ∀ b, S b → b < w.heap.size) :
   Calls Tryz.prog 24 #[va,vb] w fun e w' => e = .returned (.bool true) ∧ Below w.heap.size w w':=by
 rcases ha with ⟨rfl,p,c,rfl⟩ | ⟨b1,o1,c1,rfl,s1,h1⟩
 · rcases hb with ⟨_,p2,c2,rfl⟩ | ⟨b2,o2,c2,rfl,s2,h2⟩
   · exact texts_nil _ _ _ _ w
   · exact texts_nil _ _ _ _ w
 · rcases hb with ⟨rfl,p2,c2,rfl⟩ | ⟨b2,o2,c2,rfl,s2,h2⟩
   · exact texts_nil _ _ _ _ w
   · exact texts_cons _ _ _ _ _ _ ks w hl h1 h2 (hS _ s1) (hS _ s2)
theorem ObjAt.form {S : Nat → Prop} {d : Nat} {w : World} {cs : List Value} {o : Ob} (h : ObjAt S d w cs o) : ∃ p1 n1 c1 p2 n2 c2,cs = objCells o.kind o.n o.g o.s (.slice p1 n1 c1) (.slice p2 n2 c2):=by
 cases d with
 | zero => exact h.elim
 | succ d =>
   obtain ⟨kv,dv,h1,h2,h3⟩:=h
   have a1 : ∃ p n c,kv = .slice p n c:=by
     rcases h2 with ⟨_,p,c,h⟩ | ⟨b,o,c,h,_⟩
     · exact ⟨_,_,_,h⟩
     · exact ⟨_,_,_,h⟩
   have a2 : ∃ p n c,dv = .slice p n c:=by
     rcases h3 with ⟨_,p,c,h⟩ | ⟨b,o,c,h,_⟩
     · exact ⟨_,_,_,h⟩
     · exact ⟨_,_,_,h⟩
   obtain ⟨p1,n1,c1,rfl⟩:=a1
   obtain ⟨p2,n2,c2,rfl⟩:=a2
   exact ⟨p1,n1,c1,p2,n2,c2,h1⟩
theorem row_kid {S : Nat → Prop} {d : Nat} {w : World} {b off n c : Nat} {os : List Ob} (h : RowAt S d w (.slice (some ⟨b, off, none⟩) n c) os) (hn : os.length = n) (k : Nat) (hk : k < n) :
   ∃ (o : Ob) (p1 : Option Addr) (n1 c1 : Nat) (p2 : Option Addr) (n2 c2 : Nat),os.getD k .zero = o ∧ o ∈ os ∧ S b ∧ ObjAt S d w (objCells o.kind o.n o.g o.s (.slice p1 n1 c1) (.slice p2 n2 c2)) o ∧
     w.cell? ⟨b,off + k * 6,none⟩ = some (.int .i64 o.kind) ∧ w.cell? ⟨b,off + k * 6 + 1,none⟩ = some (.int .i64 o.n) ∧ w.cell? ⟨b,off + k * 6 + 2,none⟩ = some (.int .i64 o.g) ∧
     w.cell? ⟨b,off + k * 6 + 3,none⟩ = some (.string ⟨o.s.toArray⟩) ∧ w.cell? ⟨b,off + k * 6 + 4,none⟩ = some (.slice p1 n1 c1) ∧ w.cell? ⟨b,off + k * 6 + 5,none⟩ = some (.slice p2 n2 c2):=by
 rcases h with ⟨rfl,p,c',h1⟩ | ⟨b',off',c',h1,h2,h3⟩
 · simp at hn;omega
 · cases h1
   have hk' : k < os.length:=by omega
   obtain ⟨ks,g1,g2,g3⟩:=h3 k hk'
   obtain ⟨p1,n1,c1,p2,n2,c2,rfl⟩:=g3.form
   refine ⟨os[k],p1,n1,c1,p2,n2,c2,by simp [List.getD,hk'],List.getElem_mem hk',h2,g3,?_⟩
   have e : off + 6 * k = off + k * 6:=by omega
   rw [e] at g2
   exact ⟨g2 0 (by simp [objCells]),g2 1 (by simp [objCells]),g2 2 (by simp [objCells]),g2 3 (by simp [objCells]),g2 4 (by simp [objCells]),g2 5 (by simp [objCells])⟩
theorem six_keep {B b o : Nat} {w w1 : World} {v0 v1 v2 v3 v4 v5 : Value} (hb : Below B w w1) (hl : b < B)
   (h : w.cell? ⟨b,o,none⟩ = some v0 ∧ w.cell? ⟨b,o + 1,none⟩ = some v1 ∧ w.cell? ⟨b,o + 2,none⟩ = some v2 ∧ w.cell? ⟨b,o + 3,none⟩ = some v3 ∧ w.cell? ⟨b,o + 4,none⟩ = some v4 ∧ w.cell? ⟨b,o + 5,none⟩ = some v5) :
   w1.cell? ⟨b,o,none⟩ = some v0 ∧ w1.cell? ⟨b,o + 1,none⟩ = some v1 ∧ w1.cell? ⟨b,o + 2,none⟩ = some v2 ∧ w1.cell? ⟨b,o + 3,none⟩ = some v3 ∧ w1.cell? ⟨b,o + 4,none⟩ = some v4 ∧ w1.cell? ⟨b,o + 5,none⟩ = some v5:=by
 obtain ⟨h0,h1,h2,h3,h4,h5⟩:=h
 refine ⟨?_,?_,?_,?_,?_,?_⟩ <;> (refine (hb.cell hl).trans ?_;assumption)
def SameC (S : Nat → Prop) (d : Nat) : Prop:=∀ (w : World) (csa csb : List Value) (o : Ob),ObjAt S d w csa o → ObjAt S d w csb o → smallO d o → (∀ b,S b → b < w.heap.size) →
 Calls Tryz.prog 12 #[.agg csa.toArray,.agg csb.toArray] w fun e w' => e = .returned (.bool true) ∧ Below w.heap.size w w'
theorem list_nil (p1 p2 : Option Addr) (c1 c2 : Nat) (w : World) :
   Calls Tryz.prog 25 #[.slice p1 0 c1,.slice p2 0 c2] w fun e w' => e = .returned (.bool true) ∧ Below w.heap.size w w':=by
 go_enter Tryz.func25,Tryz.ntmps25
 go_wp2
 refine wp_loop_rounds 1 ?_
 rw [rounds_succ]
 go_wp2
 go_ret
 exact ⟨rfl,bel⟩
theorem list_cons (S : Nat → Prop) (d : Nat) (HC : SameC S d) (b1 o1 c1 b2 o2 c2 : Nat) (os : List Ob) (w : World) (hl : os.length ≤ 140737488355328) (hsm : ∀ o ∈ os, smallO d o)
   (h1 : RowAt S d w (.slice (some ⟨b1,o1,none⟩) os.length c1) os) (h2 : RowAt S d w (.slice (some ⟨b2,o2,none⟩) os.length c2) os) (hS : ∀ b,S b → b < w.heap.size) :
   Calls Tryz.prog 25 #[.slice (some ⟨b1,o1,none⟩) os.length c1,.slice (some ⟨b2,o2,none⟩) os.length c2] w fun e w' => e = .returned (.bool true) ∧ Below w.heap.size w w':=by
 obtain ⟨n,hn⟩ : ∃ n,os.length = n:=⟨_,rfl⟩
 have HH:=Lh HC
 have HM:=Lh hsm
 have H1:=Lh h1
 have H2:=Lh h2
 have HS:=Lh hS
 rw [hn] at hl
 rw [hn]
 have HN:=Lh hn
 clear h1 h2 hn hS hsm HC
 go_enter Tryz.func25,Tryz.ntmps25
 go_wp2
 go_loopw [13] (fun i wr => ∃ k : Nat,k ≤ n ∧ i = .int .i64 k ∧ Below w.heap.size w wr) (fun i _ => n - (intOf i).toNat)
 case atStart => exact ⟨0,Nat.zero_le _,rfl,bel⟩
 case round =>
   obtain ⟨k,hk,rfl,hb⟩:=hrel
   by_cases hlt : k < n
   · obtain ⟨x,p1,n1,e1,p2,n2,e2,hx,hxm,s1,O1,f0,f1,f2,f3,f4,f5⟩:=row_kid (H1.out.kept (fun b h => hb.block b (HS.out b h))) rfl k (by rw [HN.out];exact hlt)
     obtain ⟨x',p3,n3,e3,p4,n4,e4,hx',_,s2,O2,g0,g1,g2,g3,g4,g5⟩:=row_kid (H2.out.kept (fun b h => hb.block b (HS.out b h))) rfl k (by rw [HN.out];exact hlt)
     obtain rfl : x = x':=hx.symm.trans hx'
     have hS2 : ∀ b,S b → b < wr.heap.size:=fun b h => Nat.lt_of_lt_of_le (HS.out b h) hb.size
     have HX:=Lh (fun (W : World) (hW : Below wr.heap.size wr W) => HH.out W _ _ x (O1.kept (fun b h => hW.block b (hS2 b h)) d) (O2.kept (fun b h => hW.block b (hS2 b h)) d) (HM.out x hxm) (fun b h => Nat.lt_of_lt_of_le (hS2 b h) hW.size))
     unfold objCells at HX
     have L1 : b1 < wr.heap.size:=hS2 _ s1
     have L2 : b2 < wr.heap.size:=hS2 _ s2
     clear hx hx' O1 O2 hS2 hxm
     go_wp2
     go_region_held3 (fun w' => w'.cell? ⟨b1, o1 + k * 6, none⟩ = some (.int .i64 x.kind) ∧ w'.cell? ⟨b1, o1 + k * 6 + 1, none⟩ = some (.int .i64 x.n) ∧ w'.cell? ⟨b1, o1 + k * 6 + 2, none⟩ = some (.int .i64 x.g) ∧ w'.cell? ⟨b1, o1 + k * 6 + 3, none⟩ = some (.string ⟨x.s.toArray⟩) ∧ w'.cell? ⟨b1, o1 + k * 6 + 4, none⟩ = some (.slice p1 n1 e1) ∧ w'.cell? ⟨b1, o1 + k * 6 + 5, none⟩ = some (.slice p2 n2 e2) ∧
         w'.cell? ⟨b2,o2 + k * 6,none⟩ = some (.int .i64 x.kind) ∧ w'.cell? ⟨b2,o2 + k * 6 + 1,none⟩ = some (.int .i64 x.n) ∧ w'.cell? ⟨b2,o2 + k * 6 + 2,none⟩ = some (.int .i64 x.g) ∧ w'.cell? ⟨b2,o2 + k * 6 + 3,none⟩ = some (.string ⟨x.s.toArray⟩) ∧ w'.cell? ⟨b2,o2 + k * 6 + 4,none⟩ = some (.slice p3 n3 e3) ∧ w'.cell? ⟨b2,o2 + k * 6 + 5,none⟩ = some (.slice p4 n4 e4)) (go_keep)
       ((go_at_call 12;refine (HX.out _ bel).mono ?_;rintro e w1 ⟨rfl,hb1⟩;have hbw : Below wr.heap.size wr w1:=bel;obtain ⟨k0,k1,k2,k3,k4,k5⟩:=six_keep hbw L1 ⟨f0,f1,f2,f3,f4,f5⟩;obtain ⟨l0,l1,l2,l3,l4,l5⟩:=six_keep hbw L2 ⟨g0,g1,g2,g3,g4,g5⟩;clear f0 f1 f2 f3 f4 f5 g0 g1 g2 g3 g4 g5))
     all_goals go_wp2
     all_goals
       go_roundw
       case rel => exact ⟨k + 1,by omega,by go_num,hb.trans (hbw.mono hb.size)⟩
       case measure => simp [intOf];omega
   · go_wp2
     go_ret
     exact ⟨rfl,hb⟩
theorem list_in (S : Nat → Prop) (d : Nat) (HC : SameC S d) (va vb : Value) (os : List Ob) (w : World) (hl : os.length ≤ 140737488355328) (hsm : ∀ o ∈ os, smallO d o)
   (ha : RowAt S d w va os) (hb : RowAt S d w vb os) (hS : ∀ b,S b → b < w.heap.size) :
   Calls Tryz.prog 25 #[va,vb] w fun e w' => e = .returned (.bool true) ∧ Below w.heap.size w w':=by
 have ha':=ha
 have hb':=hb
 rcases ha with ⟨rfl,p,c,rfl⟩ | ⟨b1,o1,c1,rfl,s1,h1⟩
 · rcases hb with ⟨_,p2,c2,rfl⟩ | ⟨b2,o2,c2,rfl,s2,h2⟩
   · exact list_nil _ _ _ _ w
   · exact list_nil _ _ _ _ w
 · rcases hb with ⟨rfl,p2,c2,rfl⟩ | ⟨b2,o2,c2,rfl,s2,h2⟩
   · exact list_nil _ _ _ _ w
   · exact list_cons S d HC _ _ _ _ _ _ os w hl hsm ha' hb' hS
theorem same_step (S : Nat → Prop) (d : Nat) (HC : SameC S d) : SameC S (d + 1):=by
 intro w csa csb o ha hb hsm hS
 obtain ⟨ka,da,rfl,hka,hda⟩:=ha
 obtain ⟨kb,db,rfl,hkb,hdb⟩:=hb
 obtain ⟨m1,m2,_,_,m3⟩:=hsm
 have HT:=Lh (fun (W : World) (hW : Below w.heap.size w W) => texts_in S W ka kb o.keys m1 (hka.kept (fun b h => hW.block b (hS b h))) (hkb.kept (fun b h => hW.block b (hS b h))) (fun b h => Nat.lt_of_lt_of_le (hS b h) hW.size))
 have hda' : RowAt S d w da o.kids:=hda
 have hdb' : RowAt S d w db o.kids:=hdb
 have HL:=Lh (fun (W : World) (hW : Below w.heap.size w W) => list_in S d HC da db o.kids W m2 m3 (hda'.kept (fun b h => hW.block b (hS b h))) (hdb'.kept (fun b h => hW.block b (hS b h))) (fun b h => Nat.lt_of_lt_of_le (hS b h) hW.size))
 have hka' : ∃ p n c,ka = .slice p n c:=by
   rcases hka with ⟨_,p,c,h⟩ | ⟨b,o,c,h,_⟩
   · exact ⟨_,_,_,h⟩
   · exact ⟨_,_,_,h⟩
 have hkb' : ∃ p n c,kb = .slice p n c:=by
   rcases hkb with ⟨_,p,c,h⟩ | ⟨b,o,c,h,_⟩
   · exact ⟨_,_,_,h⟩
   · exact ⟨_,_,_,h⟩
 have hda'' : ∃ p n c,da = .slice p n c:=by
   rcases hda with ⟨_,p,c,h⟩ | ⟨b,o,c,h,_⟩
   · exact ⟨_,_,_,h⟩
   · exact ⟨_,_,_,h⟩
 have hdb'' : ∃ p n c,db = .slice p n c:=by
   rcases hdb with ⟨_,p,c,h⟩ | ⟨b,o,c,h,_⟩
   · exact ⟨_,_,_,h⟩
   · exact ⟨_,_,_,h⟩
 obtain ⟨p1,n1,c1,rfl⟩:=hka'
 obtain ⟨p2,n2,c2,rfl⟩:=hkb'
 obtain ⟨p3,n3,c3,rfl⟩:=hda''
 obtain ⟨p4,n4,c4,rfl⟩:=hdb''
 clear hka hkb hda hdb hda' hdb' hS m1 m2 m3 HC
 unfold objCells
 go_enter Tryz.func12,Tryz.ntmps12
 go_wp2_with fail
 refine (HT.out _ bel).mono ?_
 rintro e w1 ⟨rfl,hb1⟩
 obtain ⟨hc,hf⟩:=bcell hb1
 have hz : w.heap.size + 2 ≤ w1.heap.size:=by have:=hb1.size;simp at this;omega
 go_wp2_with fail
 refine (HL.out _ bel).mono ?_
 rintro e w2 ⟨rfl,hb2⟩
 go_wp2
 go_ret
 exact ⟨rfl,bel⟩
theorem same_in (S : Nat → Prop) : ∀ d,SameC S d
 | 0 => fun _ _ _ _ h => h.elim
 | d + 1 => same_step S d (same_in S d)
open Go.RowKit Fo
structure SecV where
 at' : Int
 sp : Option Addr
 sn : Nat
 sc : Nat
 k : Int
 n : Int
 g : Int
 s : ByteArray
 p1 : Option Addr
 n1 : Nat
 c1 : Nat
 p2 : Option Addr
 n2 : Nat
 c2 : Nat
 prev : Int
 hyb : Int
 own : Int
def encSec : Enc SecV where
 k:=11
 cells x:=[.int .i64 x.at',.slice x.sp x.sn x.sc,.int .i64 x.k,.int .i64 x.n,.int .i64 x.g,.string x.s,.slice x.p1 x.n1 x.c1,.slice x.p2 x.n2 x.c2,.int .i64 x.prev,.int .i64 x.hyb,.int .i64 x.own]
 len _:=rfl
 one x u hu:=by
   simp only [List.mem_cons,List.not_mem_nil,or_false] at hu
   rcases hu with rfl | rfl | rfl | rfl | rfl | rfl | rfl | rfl | rfl | rfl | rfl <;> rfl
structure SecIs (S : Nat → Prop) (d : Nat) (w : World) (x : SecV) (s : Sec) : Prop where
 at' : x.at' = s.at'
 prev : x.prev = s.prev
 hyb : x.hyb = s.hyb
 own : x.own = s.own
 len : x.sn = s.slots.length
 slots : RArg slE w (.slice x.sp x.sn x.sc) s.slots
 trail : ObjAt S d w [.int .i64 x.k,.int .i64 x.n,.int .i64 x.g,.string x.s,.slice x.p1 x.n1 x.c1,.slice x.p2 x.n2 x.c2] s.trail
theorem SecIs.below {S : Nat → Prop} {d : Nat} {w w' : World} {x : SecV} {s : Sec} (h : SecIs S d w x s) (hS : ∀ b,S b → b < w.heap.size) (hb : Below w.heap.size w w') : SecIs S d w' x s :=
 ⟨h.at',h.prev,h.hyb,h.own,h.len,h.slots.below hb,h.trail.kept (fun b hs => hb.block b (hS b hs)) d⟩
def SecsIs (S : Nat → Prop) (d : Nat) (w : World) (vs : List SecV) (l : List Sec) : Prop:=vs.length = l.length ∧ ∀ (i : Nat) (v : SecV) (s : Sec),vs[i]? = some v → l[i]? = some s → SecIs S d w v s
theorem SecsIs.below {S : Nat → Prop} {d : Nat} {w w' : World} {vs : List SecV} {l : List Sec} (h : SecsIs S d w vs l) (hS : ∀ b,S b → b < w.heap.size) (hb : Below w.heap.size w w') : SecsIs S d w' vs l :=
 ⟨h.1,fun i v s hv hs => (h.2 i v s hv hs).below hS hb⟩
theorem sec_at {w : World} {p : Option Addr} {n c : Nat} {vs : List SecV} (h : RArg encSec w (.slice p n c) vs) (k : Nat) (x : SecV) (hx : vs[k]? = some x) :
   ∃ g off,p = some ⟨g,off,none⟩ ∧ g < w.heap.size ∧ w.cell? ⟨g,off + k * 11,none⟩ = some (.int .i64 x.at') ∧ w.cell? ⟨g,off + k * 11 + 1,none⟩ = some (.slice x.sp x.sn x.sc) ∧
     w.cell? ⟨g,off + k * 11 + 2,none⟩ = some (.int .i64 x.k) ∧ w.cell? ⟨g,off + k * 11 + 3,none⟩ = some (.int .i64 x.n) ∧ w.cell? ⟨g,off + k * 11 + 4,none⟩ = some (.int .i64 x.g) ∧
     w.cell? ⟨g,off + k * 11 + 5,none⟩ = some (.string x.s) ∧ w.cell? ⟨g,off + k * 11 + 6,none⟩ = some (.slice x.p1 x.n1 x.c1) ∧ w.cell? ⟨g,off + k * 11 + 7,none⟩ = some (.slice x.p2 x.n2 x.c2) ∧
     w.cell? ⟨g,off + k * 11 + 8,none⟩ = some (.int .i64 x.prev) ∧ w.cell? ⟨g,off + k * 11 + 9,none⟩ = some (.int .i64 x.hyb) ∧ w.cell? ⟨g,off + k * 11 + 10,none⟩ = some (.int .i64 x.own):=by
 obtain ⟨p',c',e,h⟩:=h
 cases e
 obtain ⟨hk,rfl⟩:=List.getElem?_eq_some_iff.1 hx
 obtain ⟨g,off,h1,h2,h3⟩:=h k hk
 exact ⟨g,off,h1,h2,h3 0 _ rfl,h3 1 _ rfl,h3 2 _ rfl,h3 3 _ rfl,h3 4 _ rfl,h3 5 _ rfl,h3 6 _ rfl,h3 7 _ rfl,h3 8 _ rfl,h3 9 _ rfl,h3 10 _ rfl⟩
theorem rarg_len {α : Type} {E : Enc α} {w : World} {p : Option Addr} {n c : Nat} {xs : List α} (h : RArg E w (.slice p n c) xs) : n = xs.length:=by
 obtain ⟨p',c',e,_⟩:=h
 cases e;rfl
open Go.RowKit Fo Go.Maps Go.Sort
def cmpM (x y : Sl) : Int:=if x.num < y.num then -1 else 1
theorem cmpM_lt (x y : Sl) : ltOf cmpM x y = decide (x.num < y.num):=by
 unfold ltOf cmpM
 by_cases h : x.num < y.num
 · simp [h]
 · simp [h]
theorem cmpM_swo : Go.Sort.SWO (ltOf cmpM) where
 irrefl x:=by rw [cmpM_lt];simp
 trans x y z h1 h2:=by rw [cmpM_lt] at *;simp at *;omega
 ntrans x y z h1 h2:=by rw [cmpM_lt] at *;simp at *;omega
theorem cmpM_in (x y : Sl) (W : World) : Calls Tryz.prog 20 #[.agg (slE.cells x).toArray,.agg (slE.cells y).toArray] W fun e w' => e = .returned (.int .i64 (cmpM x y)) ∧ ∃ q os',w' = grow (W.drewN q) os':=by
 obtain ⟨x0,x1,x2,x3⟩:=x
 obtain ⟨y0,y1,y2,y3⟩:=y
 unfold cmpM
 dsimp only [slE]
 by_cases h : x0 < y0
 · rw [if_pos h]
   go_enter Tryz.func20,Tryz.ntmps20
   go_wp2
   go_ret
   exact ⟨rfl,0,_,by rw [alloc_eq_grow,alloc_eq_grow,grow_grow];rfl⟩
 · rw [if_neg h]
   go_enter Tryz.func20,Tryz.ntmps20
   go_wp2
   go_ret
   exact ⟨rfl,0,_,by rw [alloc_eq_grow,alloc_eq_grow,grow_grow];rfl⟩
theorem four_of' {w : World} {b : Nat} {t : TypeId} {v0 v1 v2 v3 : Value} (h : w.heap[b]? = some (.cells #[v0, v1, v2, v3] t (0, 0))) :
   w.cell? ⟨b,0,none⟩ = some v0 ∧ w.cell? ⟨b,1,none⟩ = some v1 ∧ w.cell? ⟨b,2,none⟩ = some v2 ∧ w.cell? ⟨b,3,none⟩ = some v3:=by
 simp [World.cell?,h]
theorem allS_take {l : List Sec} {k : Nat} (h : k < l.length) : allS (l.take (k + 1)) = allS (l.take k) ++ l[k].slots:=by
 unfold allS
 rw [List.take_succ_eq_append_getElem h,List.flatMap_append]
 simp
theorem firsts_take {l : List Sec} {k : Nat} (h : k < l.length) : firstsS (allS (l.take (k + 1))) = (l[k].slots).foldl addF (firstsS (allS (l.take k))):=by
 rw [allS_take h];unfold firstsS;rw [List.foldl_append]
theorem fold_take {l : List Sl} {P : List Sl} {j : Nat} (h : j < l.length) : (l.take (j + 1)).foldl addF P = addF ((l.take j).foldl addF P) l[j]:=by
 rw [List.take_succ_eq_append_getElem h,List.foldl_append];rfl
theorem merge_in (S : Nat → Prop) (d : Nat) (w : World) (p : Option Addr) (n c : Nat) (vs : List SecV) (l : List Sec) (hR : RArg encSec w (.slice p n c) vs) (hI : SecsIs S d w vs l) (hS : ∀ b, S b → b < w.heap.size)
   (hn : n ≤ 1000) (hsl : ∀ s ∈ l,s.slots.length ≤ 8192) (hwf : ∀ s ∈ l,∀ x ∈ s.slots,(Lit.int .i64 x.num).wf = true) :
   Calls Tryz.prog 7 #[.slice p n c] w fun e w' => ∃ v,e = .returned v ∧ rownS slE 28 w' w.heap.size v (mergeS (allS l)) ∧ Below w.heap.size w w':=by
 have hvl : vs.length = n:=(rarg_len hR).symm
 have hll : l.length = n:=by rw [← hI.1];exact hvl
 have HR:=Lh hR
 have HI:=Lh hI
 have HS:=Lh hS
 have HL:=Lh (And.intro hsl (And.intro hwf hll))
 have HVL:=Lh hvl
 clear hR hI hS hsl hwf hvl hll
 have hmk : ∀ w,(Instr.makeMap 48 none).run Tryz.prog w = .ok (.map (some w.heap.size)) (w.alloc (.map #[] 0)):=fun _ => by kernel_rfl
 go_enter Tryz.func7,Tryz.ntmps7
 go_wp2
 go_loopw [13] (fun i wr => ∃ (k : Nat),k ≤ n ∧ i = .int .i64 k ∧ Below w.heap.size w wr ∧ w.heap.size < wr.heap.size ∧ MpS wr w.heap.size (k * 8192) (firstsS (allS (l.take k)))) (fun i _ => n - (intOf i).toNat)
 case atStart => exact ⟨0,Nat.zero_le _,rfl,bel,by simp,by have h:=MpS.made w;simpa [allS,firstsS] using h⟩
 case round =>
   obtain ⟨k,hk,rfl,hbr,hzr,HM⟩:=hrel
   by_cases hlk : k < n
   · have hRr:=HR.out.below hbr
     obtain ⟨x,hx⟩ : ∃ x,vs[k]? = some x:=⟨_,List.getElem?_eq_getElem (by rw [HVL.out];exact hlk)⟩
     obtain ⟨g,off,rfl,hg,a0,a1,a2,a3,a4,a5,a6,a7,a8,a9,a10⟩:=sec_at hRr k x hx
     have hkl : k < l.length:=by rw [HL.out.2.2];exact hlk
     have hSec:=HI.out.2 k x l[k] hx (List.getElem?_eq_getElem hkl)
     have hsn:=hSec.len
     have hsm : x.sn ≤ 8192:=by rw [hsn];exact HL.out.1 _ (List.getElem_mem hkl)
     have HF0:=Lh (firsts_take hkl)
     have HWF:=Lh (HL.out.2.1 _ (List.getElem_mem hkl))
     have HSL:=Lh (And.intro hsn hSec.slots)
     obtain ⟨P,hP⟩ : ∃ P,firstsS (allS (l.take k)) = P:=⟨_,rfl⟩
     rw [hP] at HF0 HM
     obtain ⟨ss,hss⟩ : ∃ ss,l[k].slots = ss:=⟨_,rfl⟩
     rw [hss] at HF0 HWF HSL
     have hgne : ¬ g = wr.heap.size:=by omega
     clear hRr hSec hsn hP hss hx
     obtain ⟨A0,sp,sn,sc,K,N,G,st,p1,n1,c1,p2,n2,c2,pv,hy,ow⟩:=x
     dsimp only at *
     obtain ⟨W1,rfl⟩ : ∃ W1,W1 = wr:=⟨_,rfl⟩
     go_wp2
     go_loopw [20] (fun j wr => ∃ (q : Nat),q ≤ sn ∧ j = .int .i64 q ∧ Below w.heap.size w wr ∧ w.heap.size < wr.heap.size ∧ MpS wr w.heap.size (k * 8192 + q) ((ss.take q).foldl addF P)) (fun j _ => sn - (intOf j).toNat)
     case atStart => exact ⟨0,Nat.zero_le _,rfl,hbr.alloc hbr.size _,by simp;omega,HM.below bel⟩
     case round =>
       obtain ⟨q,hq,rfl,hb2,hz2,HM2⟩:=hrel
       by_cases hlq : q < sn
       · have hqs : q < ss.length:=by rw [← HSL.out.1];exact hlq
         have hvr:=HSL.out.2.below hb2
         obtain ⟨g2,off2,rfl,hg2,e0,e1,e2,e3⟩:=slot_at hvr q hqs
         have hwf:=HWF.out _ (List.getElem_mem hqs)
         have HFT:=Lh (fold_take (P:=P) hqs)
         obtain ⟨y,hy0⟩ : ∃ y,ss[q] = y:=⟨_,rfl⟩
         rw [hy0] at e0 e1 e2 e3 hwf HFT
         obtain ⟨x0,x1,x2,x3⟩:=y
         dsimp only at e0 e1 e2 e3 hwf
         obtain ⟨Q,hQ⟩ : ∃ Q,(ss.take q).foldl addF P = Q:=⟨_,rfl⟩
         rw [hQ] at HM2 HFT
         have hg2ne : ¬ g2 = wr.heap.size:=by omega
         have HM3 : MpS (wr.alloc (.cells #[.int .i64 x0,.int .i64 x1,.int .i64 x2,.int .i64 x3] 28)) w.heap.size (k * 8192 + q) Q:=HM2.below bel
         obtain ⟨⟨y0,y1,y2,y3⟩,hlook,_⟩:=HM3.lookW x0 hwf
         simp only [slV] at hlook
         have HM4 : MpS ((wr.alloc (.cells #[.int .i64 x0,.int .i64 x1,.int .i64 x2,.int .i64 x3] 28)).alloc (.cells #[.int .i64 y0,.int .i64 y1,.int .i64 y2,.int .i64 y3] 28)) w.heap.size (k * 8192 + q) Q:=HM3.below bel
         cases hth : (Q.find? (fun y => y.num == x0)).isSome
         · rw [hth] at hlook
           have HAD:=Lh (show addF Q ⟨x0,x1,x2,x3⟩ = Q ++ [⟨x0,x1,x2,x3⟩] by unfold addF;rw [if_neg];show ¬ (Q.find? _).isSome = true;rw [hth];decide)
           obtain ⟨D,hown,hD⟩:=HM4
           have HPS:=Lh (hD.push ⟨x0,x1,x2,x3⟩ (by simpa using hth))
           obtain ⟨w6,hrun6,hown6,hg6⟩:=hown.update (int_keyed Tryz.underlying3) Tryz.underlying48 (by unfold maxLen;omega) (keyOf_int_mk Tryz.underlying3 hwf) (slotR_slV ⟨x0,x1,x2,x3⟩)
           simp only [slV] at hrun6
           have HM6 : MpS w6 w.heap.size (k * 8192 + (q + 1)) (Q ++ [⟨x0,x1,x2,x3⟩]):=⟨_,hown6,HPS.out⟩
           have hb6 : Below w.heap.size w w6:=((hb2.alloc hb2.size _).alloc (by simp;omega) _).grown hg6 (by simp;omega) (fun j hj => by cases hj;exact Nat.le_refl _)
           have hz6 : w.heap.size < w6.heap.size:=by have:=hg6.size;simp at this;omega
           clear hown hD hown6 hg6 HM3 HM2 hvr hy0 hQ hth
           go_wp2
           go_roundw
           case rel => exact ⟨q + 1,by omega,by go_num,hb6,hz6,by rw [HFT.out,HAD.out];exact HM6⟩
           case measure => simp [intOf];omega
         · rw [hth] at hlook
           have HAD:=Lh (show addF Q ⟨x0,x1,x2,x3⟩ = Q by unfold addF;rw [if_pos];exact hth)
           have HM6 : MpS ((wr.alloc (.cells #[.int .i64 x0,.int .i64 x1,.int .i64 x2,.int .i64 x3] 28)).alloc (.cells #[.int .i64 y0,.int .i64 y1,.int .i64 y2,.int .i64 y3] 28)) w.heap.size (k * 8192 + (q + 1)) Q:=by
             obtain ⟨D,hown,hD⟩:=HM4
             exact ⟨D,hown.mono (by omega),hD⟩
           clear hvr hy0 hQ hth HM3 HM2 HM4
           go_wp2
           go_roundw
           case rel => exact ⟨q + 1,by omega,by go_num,(hb2.alloc hb2.size _).alloc (by simp;omega) _,by simp;omega,by rw [HFT.out,HAD.out];exact HM6⟩
           case measure => simp [intOf];omega
       · have hqn : q = sn:=by omega
         subst hqn
         have HM6 : MpS wr w.heap.size ((k + 1) * 8192) (firstsS (allS (l.take (k + 1)))):=by
           rw [HF0.out]
           rw [List.take_of_length_le (by rw [← HSL.out.1];exact Nat.le_refl _)] at HM2
           obtain ⟨D,hown,hD⟩:=HM2
           exact ⟨D,hown.mono (by omega),hD⟩
         clear HM2
         go_wp2
         go_roundw
         case rel => exact ⟨k + 1,by omega,by go_num,hb2,hz2,HM6⟩
         case measure => simp [intOf];omega
   · have hkn : k = n:=by omega
     subst hkn
     have hM : MpS wr w.heap.size (k * 8192) (firstsS (allS l)):=by
       rw [List.take_of_length_le (by rw [HL.out.2.2];exact Nat.le_refl _)] at HM
       exact HM
     have hlen : (allS l).length ≤ k * 8192:=by
       have key : ∀ l : List Sec,(∀ s ∈ l,s.slots.length ≤ 8192) → (allS l).length ≤ l.length * 8192:=by
         intro l
         induction l with
         | nil => intro _;exact Nat.zero_le _
         | cons s l ih =>
           intro h
           have h1:=h s (by simp)
           have h2:=ih fun t ht => h t (by simp [ht])
           show (s.slots ++ allS l).length ≤ _
           rw [List.length_append,List.length_cons];omega
       have:=key l HL.out.1
       rw [HL.out.2.2] at this;exact this
     have hfl:=firstsS_len (allS l)
     have hbv : Below wr.heap.size wr (wr.alloc (.cells #[.map (some w.heap.size)] 48)):=bel
     have HSF:=Lh (sortedFunc_in cmpM cmpM_swo 20 (enters_of Tryz.func20 (by kernel_rfl) rfl) cmpM_in wr.heap.size w.heap.size (k * 8192) (firstsS (allS l)) (wr.alloc (.cells #[.map (some w.heap.size)] 48)) (by simp)
       (by simp [World.cell?_alloc_at]) (hM.below hbv) (firstsS_ok _).1 (by omega) (by omega))
     clear HM hM hlen hfl
     go_wp2_with fail
     go_wp2_with (first | (go_at_call 19;refine (maps_values_in _ _).mono ?_;rintro e w5 ⟨rfl,rfl⟩) | (go_at_call 18;refine HSF.out.mono ?_;rintro e w6 ⟨v,ys,rfl,hp,hs,hr,hb6⟩))
     go_ret
     have hys : ys = mergeS (allS l):=merge_sorted hp (hs.imp fun {a b} h => by rw [cmpM_lt] at h;simpa using h)
     rw [← hys]
     exact ⟨v,rfl,hr.low (by simp;omega),hbr.trans ((hbv.mono (Nat.le_of_lt hzr)).trans (hb6.mono (by simp;omega)))⟩
open Go.RowKit Fo Go.Maps Go.Sort
theorem RdT.pos {w : World} {r : Nat} {s : ByteArray} {a : Nat} (h : RdT w r s a) : rdPos w r = a:=by
 unfold rdPos;rw [h.cell1];simp
structure TInv (s : ByteArray) (m : Int) (r : Nat) (w wr : World) (a : Nat) (acc ps : List Sl) : Prop where
 ha : a ≤ s.size
 hr : RdT wr r s a
 map : MpS wr w.heap.size ps.length ps
 inv : SInv acc ps
 len : ps.length ≤ a
 bes : Bes r w wr
 lt : w.heap.size < wr.heap.size
 hm : MaxW wr m
theorem TInv.step {s : ByteArray} {m : Int} {r : Nat} {w wr w' : World} {a b : Nat} {acc ps : List Sl} (h : TInv s m r w wr a acc ps) (hs : Bes r wr w') (hr : RdT w' r s b) (hb : b ≤ s.size) (hab : a ≤ b) (hlt : r < w.heap.size) (hrm : r ≠ 1) : TInv s m r w w' b acc ps :=
 ⟨hb,hr,h.map.kept (hs.block _ h.lt (by omega)),h.inv,Nat.le_trans h.len hab,h.bes.trans hs,Nat.lt_of_lt_of_le h.lt hs.size,h.hm.bes hs hrm⟩
theorem TInv.below {s : ByteArray} {m : Int} {r : Nat} {w wr w' : World} {a : Nat} {acc ps : List Sl} (h : TInv s m r w wr a acc ps) (hb : Below wr.heap.size wr w') (hlt : r < w.heap.size) (hrm : r ≠ 1) : TInv s m r w w' a acc ps :=
 h.step (Bes.of_below hb) (h.hr.below hb) h.ha (Nat.le_refl _) hlt hrm
theorem Bes.grown {r b : Nat} {a w w' : World} (h : Bes r a w) (hg : w.grownBy w' (some b)) (hb : a.heap.size ≤ b) : Bes r a w' :=
 ⟨hg.os.trans h.os,hg.tape.trans h.tape,hg.output.trans h.output,Nat.le_trans h.size hg.size,fun k hk hr => (hg.block k (Nat.lt_of_lt_of_le hk h.size) (fun e => by cases e;omega)).trans (h.block k hk hr)⟩
theorem TInv.put {s : ByteArray} {m : Int} {r : Nat} {w wr w' : World} {a b : Nat} {acc ps acc2 : List Sl} {x : Sl} (h : TInv s m r w wr b acc ps) (hg : wr.grownBy w' (some w.heap.size)) (hM : MpS w' w.heap.size (ps.length + 1) (ps ++ [x])) (hi : SInv acc2 (ps ++ [x])) (hab : ps.length < b)
   (hlt : r < w.heap.size) (hrm : r ≠ 1) : TInv s m r w w' b acc2 (ps ++ [x]):=by
 have hr1:=h.hr.lt
 have hk : ∀ k,k < wr.heap.size → k ≠ w.heap.size → w'.heap[k]? = wr.heap[k]?:=fun k h1 h2 => hg.block k h1 (fun e => by cases e;exact h2 rfl)
 refine ⟨h.ha,?_,by simpa using hM,hi,by simp;omega,h.bes.grown hg (Nat.le_refl _),Nat.lt_of_lt_of_le h.lt hg.size,?_⟩
 · have:=h.hr
   unfold RdT at *
   rw [hk r hr1 (by omega)];exact this
 · have h1:=h.hm
   have h2:=MaxW.lt h1
   by_cases hc : 1 = w.heap.size
   · obtain ⟨D,⟨es,clock,hb,_⟩,_⟩:=h.map
     unfold MaxW World.cell? at h1
     rw [← hc] at hb
     simp [hb] at h1
   · unfold MaxW at *
     rw [World.cell?_of_block (a:=⟨1,0,none⟩) (hk _ h2 hc)];exact h1
theorem wf_small {c : Int} (h0 : 0 ≤ c) (h1 : c ≤ 1000000) : (Lit.int .i64 c).wf = true:=by simp [Lit.wf,IntKind.min,IntKind.max,IntKind.bits,IntKind.signed];omega
theorem sect_tok {s : ByteArray} {a f : Nat} {acc PS : List Sl} {L2 : L} (ha : a ≤ s.size) (h : sectR f (s.data.toList.drop a) acc = some (PS, L2)) :
   (∃ l n p,TokAt s a ⟨5,l,n,wordTr⟩ p ∧ PS = acc ∧ L2 = s.data.toList.drop (p + l)) ∨
   (∃ (F C : Nat) (l1 : Nat) (x1 : L) (p1 l2 : Nat) (x2 : L) (p2 f' : Nat) (acc1 : List Sl) (l3 : L),TokAt s a ⟨1,l1,F,x1⟩ p1 ∧ TokAt s (p1 + l1) ⟨1,l2,C,x2⟩ p2 ∧ F + C ≤ 8192 ∧ F ≤ 8191 ∧
     entriesR C F (s.data.toList.drop (p2 + l2)) acc = some (acc1,l3) ∧ sectR f' l3 acc1 = some (PS,L2)):=by
 cases hw : wordR (s.data.toList.drop a) wordTr with
 | some l1 =>
   obtain ⟨rfl,rfl⟩:=sect_end h hw
   obtain ⟨l,n,p,hT,rfl⟩:=wordR_at ha hw
   exact .inl ⟨l,n,p,hT,rfl,rfl⟩
 | none =>
   obtain ⟨first,l1,count,l2,acc1,l3,f',h1,h2,h3,h4⟩:=sect_step h hw
   obtain ⟨k1,x1,p1,T1,b1,b2,rfl⟩:=numR_at ha h1
   obtain ⟨k2,x2,p2,T2,b3,b4,rfl⟩:=numR_at T1.2.2 h2
   obtain ⟨F,rfl⟩ : ∃ F : Nat,first = F:=⟨first.toNat,by omega⟩
   obtain ⟨C,rfl⟩ : ∃ C : Nat,count = C:=⟨count.toNat,by omega⟩
   exact .inr ⟨F,C,k1,x1,p1,k2,x2,p2,f',acc1,l3,T1,T2,by omega,by omega,by simpa using h3,h4⟩
abbrev SlR:={ x : Sl // 0 ≤ x.num ∧ x.num ≤ 8191 }
instance instInhabitedSlR : Inhabited SlR:=⟨⟨⟨0,0,0,0⟩,by decide,by decide⟩⟩
def encR : Enc SlR:=⟨4,fun x => slE.cells x.1,fun _ => rfl,fun x u hu => slE.one x.1 u hu⟩
theorem encR_row (xs : List SlR) : encR.row xs = slE.row (xs.map (·.1)):=by
 induction xs with
 | nil => rfl
 | cons x xs ih =>
   show encR.cells x ++ encR.row xs = slE.cells x.1 ++ slE.row (xs.map (·.1))
   rw [ih];rfl
theorem rowR {w : World} {B : Nat} {v : Value} {xs : List SlR} : rownS encR 28 w B v xs ↔ rownS slE 28 w B v (xs.map (·.1)):=by
 unfold rownS
 rw [encR_row,List.length_map]
 exact Iff.rfl
def cmpT (x y : SlR) : Int:=x.1.num - y.1.num
theorem cmpT_lt (x y : SlR) : ltOf cmpT x y = decide (x.1.num < y.1.num):=by
 unfold ltOf cmpT
 by_cases h : x.1.num < y.1.num
 · simp [h];omega
 · simp [h];omega
theorem cmpT_swo : SWO (ltOf cmpT) where
 irrefl x:=by rw [cmpT_lt];simp
 trans x y z h1 h2:=by rw [cmpT_lt] at *;simp at *;omega
 ntrans x y z h1 h2:=by rw [cmpT_lt] at *;simp at *;omega
theorem cmpT_in (x y : SlR) (W : World) : Calls Tryz.prog 119 #[.agg (encR.cells x).toArray,.agg (encR.cells y).toArray] W fun e w' => e = .returned (.int .i64 (cmpT x y)) ∧ ∃ q os',w' = grow (W.drewN q) os':=by
 obtain ⟨⟨x0,x1,x2,x3⟩,hx0,hx1⟩:=x
 obtain ⟨⟨y0,y1,y2,y3⟩,hy0,hy1⟩:=y
 dsimp only at hx0 hx1 hy0 hy1
 unfold cmpT
 dsimp only [encR,slE]
 have hw : IntKind.i64.wrap (x0 - y0) = x0 - y0:=IntWalk.i64_in _ (by omega)
 clear hx0 hx1 hy0 hy1
 go_enter Tryz.func119,Tryz.ntmps119
 go_wp2
 go_ret
 exact ⟨rfl,0,_,by rw [alloc_eq_grow,alloc_eq_grow,grow_grow];rfl⟩
theorem sorted_eq {ys ps PS : List Sl} (h1 : ys.Perm ps) (h2 : ps.Perm PS) (hn : NodN ps) (hu : upS PS) (hs : ys.Pairwise fun a b => ¬ b.num < a.num) : ys = PS:=by
 have hy:=nod_perm hn h1.symm
 have hup : upS ys:=(hs.and hy).imp fun {a b} h => by have:=h.1;have:=h.2;omega
 refine upS_ext hup hu fun n => ?_
 rw [num_perm hn h1.symm,num_perm hn h2]
theorem tslots_good (r : Nat) (s : ByteArray) (a0 f0 : Nat) (PS : List Sl) (L2 : L) (h : sectR f0 (s.data.toList.drop a0) [] = some (PS, L2)) (ha0 : a0 ≤ s.size) (hs : s.size ≤ 100000000) (m : Int) (w : World) (hm0 : MaxW w m) (hr0 : RdT w r s a0) (hrm : r ≠ 1) :
   Calls Tryz.prog 73 #[.pointer (some ⟨r,0,none⟩)] w fun e w' => (∃ v,e = .returned v ∧ rownS slE 28 w' (w.heap.size + 1) v PS) ∧ (∃ b,b ≤ s.size ∧ L2 = s.data.toList.drop b ∧ RdT w' r s b) ∧ Bes r w w':=by
 have hlt:=hr0.lt
 have HH:=Lh h
 have hmk : ∀ w,(Instr.makeMap 48 none).run Tryz.prog w = .ok (.map (some w.heap.size)) (w.alloc (.map #[] 0)):=fun _ => by kernel_rfl
 clear h
 go_enter Tryz.func73,Tryz.ntmps73
 go_upto_block 0 with fail
 go_cut [] (fun wx => ∃ (a : Nat) (ps : List Sl),TInv s m r w wx a PS ps ∧ L2 = s.data.toList.drop a)
 case first =>
   go_wp2_with fail
   go_loopw [] (fun wr => ∃ (a f : Nat) (acc ps : List Sl),TInv s m r w wr a acc ps ∧ Hid (sectR f (s.data.toList.drop a) acc = some (PS,L2))) (fun wr => s.size - rdPos wr r)
   case atStart => exact ⟨a0,f0,[],[],⟨ha0,hr0.below bel,MpS.made w,SInv.nil,Nat.zero_le _,(by repeat' (first | (with_reducible exact Bes.refl _ _) | (with_reducible refine Bes.drew ?_) | (with_reducible refine Bes.drewN ?_ _) | (with_reducible refine Bes.alloc ?_ _) | (with_reducible refine Bes.setCell ?_ _ _) | (with_reducible refine Bes.setCell_new ?_ ?_ _) | (with_reducible refine Bes.belowB ?_ hb5 ?_) | (with_reducible refine Bes.belowB ?_ hb4 ?_) | (with_reducible refine Bes.belowB ?_ hb3 ?_) | (with_reducible refine Bes.belowB ?_ hb2 ?_) | (with_reducible refine Bes.belowB ?_ hb1 ?_) | (with_reducible refine Bes.belowB ?_ hbr ?_) | (with_reducible refine Bes.belowB ?_ hb ?_) | (with_reducible refine Bes.trans ?_ hs5) | (with_reducible refine Bes.trans ?_ hs4) | (with_reducible refine Bes.trans ?_ hs3) | (with_reducible refine Bes.trans ?_ hs2) | (with_reducible refine Bes.trans ?_ hs1) | (show _ ≤ _;simp;done) | (show _ ≤ _;simp;omega) | omega)),by simp,hm0.below bel⟩,HH⟩
   case round =>
     obtain ⟨a,f,acc,ps,hI,H⟩:=hrel
     clear HH
     rcases sect_tok hI.ha H.out with ⟨l,n,p,hT,hPS,hL2⟩ | ⟨F,C,l1,x1,p1,l2,x2,p2,f',acc1,l3,T1,T2,hFC,hF,hE,hS⟩
     · have HX:=Lh (And.intro hPS hL2)
       have HN:=Lh (tnext_at r s a p l 5 n wordTr hT hI.ha (by omega) m wr hI.hm hI.hr)
       have hI0:=Lh hI
       have hpl:=hT.2.2
       have hap:=tok_pos hT (by decide) hI.ha
       clear hPS hL2 hT H hI
       go_wp2_with fail
       refine HN.out.mono ?_
       rintro e w1 ⟨rfl,hr1,hs1⟩
       go_wp2
       go_meet
       case rel =>
         rw [HX.out.1]
         exact ⟨p + l,ps,(hI0.out.step hs1 hr1 hpl (by omega) hlt hrm).below bel hlt hrm,HX.out.2⟩
     · have HT:=Lh (And.intro T1 T2)
       have HES:=Lh (And.intro hE hS)
       have hap:=tok_pos T1 (by decide) hI.ha
       have hp1:=T1.2.2
       have hp2:=T2.2.2
       have hap2:=tok_pos T2 (by decide) T1.2.2
       have HPOS:=Lh hI.hr.pos
       have hI0:=Lh hI
       have HN1:=Lh (tnext_at r s a p1 l1 1 F x1 T1 hI.ha (by omega) m wr hI.hm hI.hr)
       obtain ⟨W0,rfl⟩ : ∃ W0,W0 = wr:=⟨_,rfl⟩
       clear T1 T2 hE hS H hI
       have hw : IntKind.i64.wrap ((F : Int) + (C : Int)) = (F : Int) + C:=IntWalk.i64_in _ (by omega)
       have hw2 : decide ((F : Int) + (C : Int) ≤ 8192) = true:=by rw [decide_eq_true_eq];omega
       go_wp2_with fail
       refine HN1.out.mono ?_
       rintro e w1 ⟨rfl,hr1,hs1⟩
       have I1:=(hI0.out.step hs1 hr1 hp1 (by omega) hlt hrm)
       have hz1:=hs1.size
       clear HN1 hr1 hs1
       go_wp2_with fail
       refine (twhole_good (F : Int) 8191 p1 (p1 + l1) _ (by omega) (by omega) _).mono ?_
       rintro e w2 ⟨rfl,hb2⟩
       have I2:=Lh (I1.below (show Below w1.heap.size w1 w2 from bel) hlt hrm)
       clear hb2
       go_wp2_with fail
       refine (tnext_at r s (p1 + l1) p2 l2 1 C x2 HT.out.2 hp1 (by omega) m _ I2.out.hm I2.out.hr).mono ?_
       rintro e w3 ⟨rfl,hr3,hs3⟩
       have I3:=I2.out.step hs3 hr3 hp2 (by omega) hlt hrm
       clear hr3 hs3
       go_wp2_with fail
       refine (twhole_good (C : Int) 8192 p2 (p2 + l2) _ (by omega) (by omega) _).mono ?_
       rintro e w4 ⟨rfl,hb4⟩
       have I4:=Lh (I3.below (show Below w3.heap.size w3 w4 from bel) hlt hrm)
       clear hb4 I3 I1
       go_wp2_with (go_at_call 71;refine (tmust_yes _).mono ?_;rintro e w9 ⟨rfl,rfl⟩)
       go_loopw [36] (fun i wr => ∃ (k b : Nat) (acc ps : List Sl),k ≤ C ∧ i = .int .i64 k ∧ TInv s m r w wr b acc ps ∧ p2 + l2 ≤ b ∧ Hid (entriesR (C - k) ((F : Int) + k) (s.data.toList.drop b) acc = some (acc1,l3))) (fun i _ => C - (intOf i).toNat)
       case atStart => exact ⟨0,p2 + l2,acc,ps,Nat.zero_le _,rfl,I4.out,Nat.le_refl _,Lh (by simpa using HES.out.1)⟩
       case round =>
         clear I4 I2
         obtain ⟨k,b,acc,ps,hk,rfl,hI,hpb,HE⟩:=hrel
         by_cases hlk : k < C
         · obtain ⟨x,lx,acc2,hx,hl,hrest⟩:=entries_step (n:=C - (k + 1)) (by have:=HE.out;rwa [show C - k = C - (k + 1) + 1 by omega] at this)
           have hnum:=entry_num hx
           obtain ⟨hinv,hfind⟩:=hI.inv.push hl (by rw [hnum];omega)
           have HX:=Lh (And.intro hinv hrest)
           have hw3 : IntKind.i64.wrap ((F : Int) + (k : Int)) = (F : Int) + k:=IntWalk.i64_in _ (by omega)
           have hwf : (Lit.int .i64 ((F : Int) + k)).wf = true:=wf_small (by omega) (by omega)
           obtain ⟨⟨y0,y1,y2,y3⟩,hlook,_⟩:=hI.map.lookW ((F : Int) + k) hwf
           rw [← hnum,hfind,hnum] at hlook
           simp only [slV,Option.isSome_none] at hlook
           have HEN:=Lh (fun W hb => tentry_good r s b ((F : Int) + k) x lx hx hI.ha (by omega) m W (hI.hm.below hb) (hI.hr.below hb) hrm)
           obtain ⟨x0,x1',x2',x3⟩:=x
           dsimp only at hnum
           subst hnum
           simp only [slV] at HEN
           have hI0:=Lh hI
           have HNO:=Lh hfind
           clear hx hl hrest hinv hfind HE hI
           go_wp2_with fail
           refine (HEN.out _ bel).mono ?_
           rintro e w5 ⟨rfl,⟨b5,hbb5,hb5,rfl,hr5⟩,hs5⟩
           have I5:=(hI0.out.below (show Below wr.heap.size wr (wr.alloc (.cells #[.int .i64 y0,.int .i64 y1,.int .i64 y2,.int .i64 y3] 28)) from bel) hlt hrm).step hs5 hr5 hb5 (by omega) hlt hrm
           have I6:=I5.below (show Below w5.heap.size w5 (w5.alloc (.cells #[.int .i64 ((F : Int) + k),.int .i64 x1',.int .i64 x2',.int .i64 x3] 28)) from bel) hlt hrm
           have hlen5 : ps.length < b5:=by have:=hI0.out.len;omega
           obtain ⟨D,hown,hD⟩:=I6.map
           have HPS:=Lh (hD.push ⟨(F : Int) + k,x1',x2',x3⟩ HNO.out)
           obtain ⟨w6,hrun6,hown6,hg6⟩:=hown.update (int_keyed Tryz.underlying3) Tryz.underlying48 (by unfold maxLen;omega) (keyOf_int_mk Tryz.underlying3 hwf) (slotR_slV ⟨(F : Int) + k,x1',x2',x3⟩)
           simp only [slV] at hrun6
           have I7:=Lh (I6.put (a:=b5) hg6 ⟨_,hown6,HPS.out⟩ HX.out.1 hlen5 hlt hrm)
           clear hown hD hown6 hg6 I5 I6 hr5 hs5 hlook
           go_wp2_with (go_at_call 71;refine (tmust_yes _).mono ?_;rintro e w9 ⟨rfl,h9⟩;obtain rfl:=h9.symm)
           go_roundw
           case rel => exact ⟨k + 1,b5,acc2,_,by omega,by go_num,I7.out,by omega,Lh (by have:=HX.out.2;rw [show ((k + 1 : Nat) : Int) = (k : Int) + 1 by omega,← Int.add_assoc];exact this)⟩
           case measure => simp [intOf];omega
         · have hkC : k = C:=by omega
           subst hkC
           have HE2:=HE.out
           rw [Nat.sub_self] at HE2
           obtain ⟨rfl,rfl⟩ : acc1 = acc ∧ l3 = s.data.toList.drop b:=by unfold entriesR at HE2;cases HE2;exact ⟨rfl,rfl⟩
           have HI:=Lh hI
           clear HE HE2 hI
           go_wp2
           go_roundw
           case rel => exact ⟨b,f',acc1,ps,HI.out,Lh HES.out.2⟩
           case measure => rw [HI.out.hr.pos,HPOS.out];have:=HI.out.ha;omega
 case rest =>
   obtain ⟨a,ps,hI,hL2⟩:=hcut
   obtain ⟨W1,rfl⟩ : ∃ W1,W1 = wc:=⟨_,rfl⟩
   have HL2:=Lh hL2
   have HI:=Lh hI
   obtain ⟨D,hown,hD⟩:=hI.map
   have HD:=Lh (And.intro hD hI.inv)
   have hsz:=hown.size_le
   have hpl : ps.length ≤ 100000000:=by have:=hI.len;have:=hI.ha;omega
   clear hI hL2 HH hmk hD
   go_wp2_with (at_range;refine wpList_range_own _ rfl _ 48 rfl 3 28 (int_keyed Tryz.underlying3) Tryz.underlying48 slotR w.heap.size ps.length D rfl hown ?_;intro w0 hrg0 hg0 hs0)
   go_frame
   go_loopw [11] (fun v wr => ∃ (left : Lit → Bool) (cnt : Nat) (xs : List Sl),wr.ranges Tryz.prog 3 slotR w.heap.size W1.heap.size ps.length D left cnt ∧ xs.length + cnt ≤ Maps.size D ∧ CollectedI D left (xs.map (·.num)) ∧ Hid (∀ x ∈ xs,x ∈ ps) ∧ rownS slE 28 wr W1.heap.size v xs ∧ Below W1.heap.size W1 wr) (fun _ wr => wr.rangeLeft w.heap.size W1.heap.size)
   case atStart => exact ⟨_,_,[],hrg0,by simp,CollectedI.start D,Lh (by simp),rownS_nil _ _,(Below.refl _ W1).grown hg0 (Nat.le_refl _) (fun k e => by cases e)⟩
   case round =>
     clear hrg0 hg0 hs0 hown
     obtain ⟨left,cnt,xs,hrg,hcs,hC,hV,hrow,hbr⟩:=hrel
     have hzr:=hbr.size
     obtain ⟨vp,vc,rfl⟩:=rown_slice hrow
     go_wp2_with (at_next;refine wpList_next_ranges _ rfl _ rfl 3 (int_keyed Tryz.underlying3) slotR encZ slV (fun key kl hk => by obtain ⟨x,hx,_⟩:=Maps.keyOf_i64 Tryz.underlying3 hk;exact ⟨x,hx⟩) (fun v y hv => by obtain ⟨x,rfl,_⟩:=slotR_inv hv;exact ⟨x,rfl⟩) w.heap.size W1.heap.size ps.length D left cnt rfl hrg ?_ ?_)
     · intro hc0 hl0
       have hperm:=perm_all HD.out.1 HD.out.2.nod hC hV.out hl0
       have hnum : ∀ x ∈ xs,0 ≤ x.num ∧ x.num ≤ 8191:=fun x hx => HD.out.2.num x (hV.out x hx)
       obtain ⟨xr,hxr⟩ : ∃ xr : List SlR,xr.map (·.1) = xs:=⟨xs.pmap (fun x h => ⟨x,h⟩) hnum,by rw [List.map_pmap];simp⟩
       have hlx : xr.length = xs.length:=by rw [← hxr];simp
       have HSO:=Lh (sort_slots encR rfl cmpT cmpT_swo 119 (enters_of Tryz.func119 (by kernel_rfl) rfl) cmpT_in W1.heap.size (.slice vp xs.length vc) xr wr (rowR.2 (by rw [hxr];exact hrow)) (by omega) hzr)
       have HPX:=Lh (And.intro hperm hxr)
       clear hrow hC hV hperm hnum hxr hrg hl0 hlx
       go_wp2_with fail
       refine HSO.out.mono ?_
       rintro e w6 ⟨rfl,ys,hp,hsd,hr6,hb6,_⟩
       have hys : ys.map (·.1) = PS:=by
         refine sorted_eq ((hp.map _).trans (by rw [HPX.out.2];exact HPX.out.1)) HD.out.2.perm HD.out.2.nod HD.out.2.up ?_
         rw [List.pairwise_map]
         exact hsd.imp fun {a b} h => by rw [cmpT_lt] at h;simpa using h
       have hr7 : rownS slE 28 w6 W1.heap.size (.slice vp xs.length vc) PS:=by rw [← hys];exact rowR.1 hr6
       have hbw : Below W1.heap.size W1 w6:=hbr.trans hb6
       have HR7:=Lh (hr7.low (show w.heap.size + 1 ≤ W1.heap.size from HI.out.lt))
       clear hr6 hr7 hb6 hys hp hsd HSO
       go_wp2
       go_ret
       exact ⟨⟨_,rfl,HR7.out⟩,⟨a,HI.out.ha,HL2.out,HI.out.hr.below hbw⟩,HI.out.bes.trans (Bes.of_below hbw)⟩
     · intro x c kl yd yp w2 cnt2 hkey hlk hv hat hrg2 hlt2 hg2 hs2 hen
       obtain ⟨x',ex,rfl,_⟩:=Maps.keyOf_i64 Tryz.underlying3 hkey
       obtain rfl : x = x':=encZ_inj ex
       have hz : yd = slD c:=by
         have h:=slotR_slV c
         rw [hv] at h
         exact congrArg (fun z : DataW Unit × List MemPlace => z.1) (Option.some.inj h)
       have hcp : c ∈ ps ∧ c.num = x:=by
         have hh:=has_true_of_atKey hat
         rw [HD.out.1.has x] at hh
         obtain ⟨z,hz2⟩:=Option.isSome_iff_exists.1 hh
         have h1:=HD.out.1.at' x z hz2 (slD z)
         rw [hat,hz] at h1
         obtain rfl:=slD_inj h1
         exact numF_some hz2
       obtain ⟨cn,ck,ca,cg⟩:=c
       obtain ⟨hcp,rfl⟩:=hcp
       dsimp only [slV] at hen
       have HV2:=Lh (show ∀ y ∈ xs ++ [(⟨cn,ck,ca,cg⟩ : Sl)],y ∈ ps from fun y hy => (List.mem_append.1 hy).elim (hV.out y) (fun e => by simp at e;subst e;exact hcp))
       have HC2:=Lh (show CollectedI D (fun z => left z && !z.sameKey (.int .i64 cn)) ((xs ++ [(⟨cn,ck,ca,cg⟩ : Sl)]).map (·.num)) by simpa using hC.step hlk hat)
       have HME:=Lh hrg.left_eq
       have hb2 : Below W1.heap.size W1 w2:=hbr.grown hg2 hzr (fun k e => by cases e;exact Nat.le_refl _)
       have hrow2 : rownS slE 28 w2 W1.heap.size (.slice vp xs.length vc) xs:=World.ownsRow.kept hrow hg2 (by
         rcases (show wr.ownsRow W1.heap.size 28 4 _ _ _ from hrow).2 with ⟨e,_⟩ | ⟨g,cap,cur,e,_,hgb,_⟩
         · exact .inl (by rw [e];rfl)
         · refine .inr fun e' => ?_
           obtain ⟨_,_,_,_,_,_,_,_,_,hit,_⟩:=hrg
           rw [e] at e'
           have : g = W1.heap.size:=by simpa [Value.ownBlock] using e'
           rw [this] at hgb
           rw [hgb] at hit
           cases hit)
       have hz2:=hb2.size
       have hxl : xs.length ≤ 1000000000:=by omega
       clear hs2 hv hz hkey ex hat hlk hcp hrow hrg
       go_upto_region 19 with fail
       obtain ⟨w3,hw3⟩ : ∃ w3,w2.alloc (.cells #[.int .i64 cn,.int .i64 ck,.int .i64 ca,.int .i64 cg] 28) = w3:=⟨_,rfl⟩
       have hb23 : Below w2.heap.size w2 w3:=by rw [← hw3];exact bel
       have hk23 : KeepsWalks w2 w3:=by rw [← hw3];exact KeepsWalks.alloc _ _
       have hX3 : w3.heap[w2.heap.size]? = some (.cells #[.int .i64 cn,.int .i64 ck,.int .i64 ca,.int .i64 cg] 28 (0,0)):=by rw [← hw3];exact heap_new_at _ _ _ rfl
       have hz3 : w2.heap.size < w3.heap.size:=by rw [← hw3];simp
       rw [hw3]
       clear hw3
       have hrow3:=hrow2.below hb23
       have hrg3:=hrg2.of_walks hk23
       have hzB3 : W1.heap.size ≤ w3.heap.size:=by omega
       obtain ⟨x0,x1,x2,x3⟩:=four_of' hX3
       clear hrow2 hX3
       go_wp2_with (at_builtin;(refine rappendL (E:=slE) rfl _ _ rfl Tryz.underlying25 Tryz.infoSlt rfl (by decide) (by decide) W1.heap.size _ xs ⟨cn,ck,ca,cg⟩ hrow3 rfl rfl (by omega) hzB3 ?_;intro g3 q3 w6 hr6 hb6 hz6 hg6 hor6))
       have hrg6:=hrg3.of_walks ((KeepsWalks.alloc _ _).trans (KeepsWalks.of_grownBy hg6 (row_not_walk (World.ownsRow.alloc hrow3 _))))
       go_roundw
       case rel => exact ⟨_,cnt2,xs ++ [⟨cn,ck,ca,cg⟩],hrg6,by simp;omega,HC2.out,HV2,by simpa using hr6,hb2.trans ((hb23.mono hz2).trans hb6)⟩
       case measure => rw [hrg6.left_eq,HME.out];exact hlt2
open Go.RowKit Fo Go.Maps
theorem wordT_short {r : L} {t : Tok} (h : wordT r = .good t) : t.s.length ≤ 32767:=by
 unfold wordT at h
 split at h
 · split at h
   · cases h
   · cases h;simp
 · split at h
   · split at h
     · cases h;simp
     · cases h
     · obtain ⟨rfl,h2⟩:=told_good h;show r.length ≤ _;omega
   · obtain ⟨rfl,h2⟩:=told_good h;show r.length ≤ _;omega
theorem tokT_short {l : L} {t : Tok} (h : tokT l = .good t) : t.s.length ≤ 32767:=by
 cases l with
 | nil => cases h
 | cons c l =>
   unfold tokT at h
   dsimp only at h
   split at h
   · cases h;simp
   · split at h
     · split at h
       · cases h;simp
       · obtain ⟨x,m,h1,rfl,h2⟩:=strOf_good h;exact h2
     · split at h
       · split at h
         · cases h;simp
         · cases h
       · split at h
         · obtain ⟨x,h1,rfl,h2⟩:=nameOf_good h;show x.length ≤ _;omega
         · split at h
           · obtain ⟨x,m,h1,rfl,h2⟩:=strOf_good h;exact h2
           · split at h
             · cases h
             · exact wordT_short h
theorem nextT_short {l : L} {t : Tok} (h : (nextT l).2 = .good t) : t.s.length ≤ 32767:=by
 unfold nextT at h
 simp only at h
 split at h
 · cases h;simp
 · exact tokT_short h
def obRL (v : Value) : List Value → Option (DataW Value × List MemPlace)
 | [.int .i64 _,.int .i64 _,.int .i64 _,.string _,.slice _ _ _,.slice _ _ _] => some (.held v,[])
 | _ => none
def obR : Value → Option (DataW Value × List MemPlace)
 | .agg cs => obRL (.agg cs) cs.toList
 | _ => none
structure Obv where
 k : Int
 n : Int
 g : Int
 s : L
 p1 : Option Addr
 n1 : Nat
 c1 : Nat
 p2 : Option Addr
 n2 : Nat
 c2 : Nat
def Obv.val (x : Obv) : Value:=.agg #[.int .i64 x.k,.int .i64 x.n,.int .i64 x.g,.string ⟨x.s.toArray⟩,.slice x.p1 x.n1 x.c1,.slice x.p2 x.n2 x.c2]
theorem obR_val (x : Obv) : obR x.val = some (.held x.val,[]):=rfl
theorem obRL_inv {v : Value} {cs : List Value} {y : DataW Value × List MemPlace} (h : obRL v cs = some y) : ∃ x : Obv,.agg cs.toArray = x.val ∧ y = (.held v,[]):=by
 unfold obRL at h
 split at h
 · rename_i k n g s p1 n1 c1 p2 n2 c2
   cases h
   exact ⟨⟨k,n,g,s.data.toList,p1,n1,c1,p2,n2,c2⟩,rfl,rfl⟩
 · cases h
theorem obR_inv {v : Value} {y : DataW Value × List MemPlace} (h : obR v = some y) : ∃ x : Obv,v = x.val ∧ y = (.held x.val,[]):=by
 cases v <;> simp only [obR] at h <;> try (cases h;done)
 obtain ⟨x,h1,h2⟩:=obRL_inv h
 rw [Array.toArray_toList] at h1
 exact ⟨x,h1,by rw [← h1];exact h2⟩
theorem Tryz.keyed : Keyed Tryz.prog 9:=string_keyed Tryz.underlying9
structure MapIs (D : DataW Value) (vals : List (L × Obv)) : Prop where
 tidy : Tidy D
 has : ∀ x,Maps.has D (.string x) = vals.any (fun p => p.1 == x)
 size : Maps.size D = vals.length
 at' : ∀ p ∈ vals,∀ z,D.atKey (.string p.1) z = .held p.2.val
 nodup : (vals.map (·.1)).Nodup
theorem MapIs.nil : MapIs (.map []) []:=⟨tidy_empty,fun x => rfl,rfl,fun p hp => by simp at hp,List.nodup_nil⟩
theorem MapIs.push {D : DataW Value} {vals : List (L × Obv)} (h : MapIs D vals) (x : L) (v : Obv) (hx : vals.any (fun p => p.1 == x) = false) (hk : WideAt.IsKeyLit (.string x)) :
   MapIs (D.put (.string x) (.held v.val)) (vals ++ [(x,v)]):=by
 have hne : ∀ p ∈ vals,p.1 ≠ x:=fun p hp he => by
   have : vals.any (fun p => p.1 == x) = true:=List.any_eq_true.2 ⟨p,hp,by simpa using he⟩
   rw [hx] at this;cases this
 refine ⟨h.tidy.put hk _,fun y => ?_,?_,fun p hp z => ?_,?_⟩
 · by_cases hy : y = x
   · subst hy
     rw [has_put_same h.tidy.isMap hk];simp
   · rw [has_put_other (by simpa using hy),h.has y,List.any_append]
     have : ¬ x = y:=fun h => hy h.symm
     simp [this]
 · rw [size_put h.tidy,h.has,hx];simp [h.size]
 · rw [List.mem_append] at hp
   rcases hp with hp | hp
   · rw [atKey_put_other (by simpa using hne p hp)];exact h.at' p hp z
   · simp only [List.mem_singleton] at hp;subst hp
     exact atKey_put_same h.tidy.isMap hk _ _
 · rw [List.map_append,List.nodup_append]
   refine ⟨h.nodup,by simp,fun a ha b hb => ?_⟩
   obtain ⟨p,hp,rfl⟩:=List.mem_map.1 ha
   simp only [List.map_cons,List.map_nil,List.mem_singleton] at hb
   subst hb;exact hne p hp
theorem isKey_str (x : L) : WideAt.IsKeyLit (.string x):=trivial
structure DInv (s : ByteArray) (m : Int) (d r : Nat) (w : World) (T : Res (List (L × Ob) × L)) (wr : World) (a fuel : Nat) (acc : List (L × Ob)) (vals : List (L × Obv)) (D : DataW Value) : Prop where
 ha : a ≤ s.size
 hr : RdAt wr r s a
 hB0 : wr.heap[w.heap.size]? = some (.cells #[.int .i64 0,.int .i64 0,.int .i64 0,.string ⟨#[]⟩,.slice none 0 0,.slice none 0 0] 36 (0,0))
 hown : wr.ownsMap Tryz.prog 9 obR (w.heap.size + 1) acc.length D
 hmi : MapIs D vals
 hkeys : vals.map (·.1) = acc.map (·.1)
 hkids : KidsAt (fun b => w.heap.size + 2 ≤ b) (d + 1) wr (vals.map fun p => objCells p.2.k p.2.n p.2.g p.2.s (.slice p.2.p1 p.2.n1 p.2.c1) (.slice p.2.p2 p.2.n2 p.2.c2)) (acc.map (·.2))
 hbes : Bes r w wr
 hm : MaxW wr m
 hlen : acc.length ≤ 8191
 hfu : s.size - a < fuel
 H : dictS (objS d) fuel (s.data.toList.drop a) acc = T
theorem ownMap_bes {w w' : World} {P : Program} {k : TypeId} {R : Value → Option (DataW Value × List MemPlace)} {b n r : Nat} {D : DataW Value} (h : w.ownsMap P k R b n D) (hs : Bes r w w') (hr : b ≠ r) : w'.ownsMap P k R b n D :=
 h.kept (row:=some r) ⟨hs.os,hs.tape,hs.output,hs.size,fun k h1 h2 => hs.block k h1 (by intro h;exact h2 (by rw [h]))⟩ (by simpa using hr)
structure DEnd (s : ByteArray) (m : Int) (d r : Nat) (w : World) (wr : World) (a : Nat) (acc : List (L × Ob)) (vals : List (L × Obv)) (D : DataW Value) : Prop where
 ha : a ≤ s.size
 hr : RdAt wr r s a
 hB0 : wr.heap[w.heap.size]? = some (.cells #[.int .i64 0,.int .i64 0,.int .i64 0,.string ⟨#[]⟩,.slice none 0 0,.slice none 0 0] 36 (0,0))
 hown : wr.ownsMap Tryz.prog 9 obR (w.heap.size + 1) acc.length D
 hmi : MapIs D vals
 hkeys : vals.map (·.1) = acc.map (·.1)
 hkids : KidsAt (fun b => w.heap.size + 2 ≤ b) (d + 1) wr (vals.map fun p => objCells p.2.k p.2.n p.2.g p.2.s (.slice p.2.p1 p.2.n1 p.2.c1) (.slice p.2.p2 p.2.n2 p.2.c2)) (acc.map (·.2))
 hbes : Bes r w wr
 hm : MaxW wr m
 hlen : acc.length ≤ 8191
theorem DInv.ended {s : ByteArray} {m : Int} {d r : Nat} {w : World} {T : Res (List (L × Ob) × L)} {wr : World} {a fuel : Nat} {acc : List (L × Ob)} {vals : List (L × Obv)} {D : DataW Value}
   (h : DInv s m d r w T wr a fuel acc vals D) (hrw : r < w.heap.size) {w1 : World} {q : Nat} (hs1 : Bes r wr w1) (hR : RdAt w1 r s q) (hq : q ≤ s.size) : DEnd s m d r w w1 q acc vals D:=by
 have l0:=h.hbes.size
 have lm:=h.hown.lt
 refine ⟨hq,hR,?_,ownMap_bes h.hown hs1 (by omega),h.hmi,h.hkeys,?_,h.hbes.trans hs1,h.hm.bes hs1 (h.hm.ne h.hr),h.hlen⟩
 · rw [hs1.block _ (by omega) (by omega)];exact h.hB0
 · exact h.hkids.grow (fun b h1 h2 => ⟨h1,hs1.block b h2 (by omega)⟩)
theorem any_keys {α β : Type} {l : List (L × α)} {l' : List (L × β)} (h : l.map (·.1) = l'.map (·.1)) (x : L) : l.any (fun p => p.1 == x) = l'.any (fun p => p.1 == x):=by
 have e1 : l.any (fun p => p.1 == x) = (l.map (·.1)).any (· == x):=by rw [List.any_map];rfl
 have e2 : l'.any (fun p => p.1 == x) = (l'.map (·.1)).any (· == x):=by rw [List.any_map];rfl
 rw [e1,e2,h]
section
variable {f : Tok → L → Res (Ob × L)} {n : Nat} {l r r2 r3 : L} {acc : List (L × Ob)} {t t2 : Tok} {k : Int} {o : Ob}
theorem dictS_bad (h : nextS l = .bad k) : dictS f (n + 1) l acc = .bad k:=by rw [dictS,h]
theorem dictS_end (h : nextS l = .good (t,r)) (hw : (t.kind == 6 && t.s == [62,62]) = true) : dictS f (n + 1) l acc = .good (acc,r):=by
 rw [dictS,h];simp only [Bool.and_eq_true,beq_iff_eq] at hw;simp [hw]
theorem dictS_past (h : nextS l = .good (t, r)) (hw : (t.kind == 6 && t.s == [62, 62]) = false) : dictS f (n + 1) l acc =
   (if t.kind ≠ 4 then .bad 3 else if (acc.any fun p => p.1 == t.s) = true then .bad 9 else if 8191 ≤ acc.length then .bad 6 else
       match nextS r with
       | .bad e => .bad e
       | .good (t2,r2) =>
         match f t2 r2 with
         | .bad e => .bad e
         | .good (o,r3) => dictS f n r3 (acc ++ [(t.s,o)])):=by
 rw [dictS,h]
 have : ¬ (t.kind = 6 ∧ t.s = [62,62]):=by rintro ⟨h1,h2⟩;simp [h1,h2] at hw
 dsimp only
 rw [if_neg this]
 rfl
theorem dictS_kind (h : nextS l = .good (t,r)) (hw : (t.kind == 6 && t.s == [62,62]) = false) (hk : t.kind ≠ 4) : dictS f (n + 1) l acc = .bad 3:=by rw [dictS_past h hw,if_pos hk]
theorem dictS_twice (h : nextS l = .good (t,r)) (hw : (t.kind == 6 && t.s == [62,62]) = false) (hk : t.kind = 4) (ha : (acc.any fun p => p.1 == t.s) = true) : dictS f (n + 1) l acc = .bad 9:=by
 rw [dictS_past h hw,if_neg (by omega),if_pos ha]
theorem dictS_many (h : nextS l = .good (t,r)) (hw : (t.kind == 6 && t.s == [62,62]) = false) (hk : t.kind = 4) (ha : (acc.any fun p => p.1 == t.s) = false) (hl : 8191 ≤ acc.length) : dictS f (n + 1) l acc = .bad 6:=by
 rw [dictS_past h hw,if_neg (by omega),if_neg (by simp [ha]),if_pos hl]
theorem dictS_nbad (h : nextS l = .good (t,r)) (hw : (t.kind == 6 && t.s == [62,62]) = false) (hk : t.kind = 4) (ha : (acc.any fun p => p.1 == t.s) = false) (hl : ¬ 8191 ≤ acc.length) (h2 : nextS r = .bad k) : dictS f (n + 1) l acc = .bad k:=by
 rw [dictS_past h hw,if_neg (by omega),if_neg (by simp [ha]),if_neg hl,h2]
theorem dictS_fbad (h : nextS l = .good (t,r)) (hw : (t.kind == 6 && t.s == [62,62]) = false) (hk : t.kind = 4) (ha : (acc.any fun p => p.1 == t.s) = false) (hl : ¬ 8191 ≤ acc.length) (h2 : nextS r = .good (t2,r2)) (h3 : f t2 r2 = .bad k) : dictS f (n + 1) l acc = .bad k:=by
 rw [dictS_past h hw,if_neg (by omega),if_neg (by simp [ha]),if_neg hl,h2]
 dsimp only;rw [h3]
theorem dictS_more (h : nextS l = .good (t, r)) (hw : (t.kind == 6 && t.s == [62, 62]) = false) (hk : t.kind = 4) (ha : (acc.any fun p => p.1 == t.s) = false) (hl : ¬ 8191 ≤ acc.length) (h2 : nextS r = .good (t2, r2)) (h3 : f t2 r2 = .good (o, r3)) :
   dictS f (n + 1) l acc = dictS f n r3 (acc ++ [(t.s,o)]):=by
 rw [dictS_past h hw,if_neg (by omega),if_neg (by simp [ha]),if_neg hl,h2]
 dsimp only;rw [h3]
end
def DElemPost (s : ByteArray) (d fuel r q : Nat) (x : L) (acc : List (L × Ob)) (T : Res (List (L × Ob) × L)) (w : World) (e : Ending) (w' : World) : Prop :=
 (∃ k,e = .panicked [{ v:=.iface 245 (.int .i64 k),recovered:=false }] ∧ Hid (T = .bad k) ∧ Bes r w w') ∨
 (∃ (o : Ob) (p1 : Option Addr) (n1 c1 : Nat) (p2 : Option Addr) (n2 c2 z : Nat),e = .returned (.agg #[.int .i64 o.kind,.int .i64 o.n,.int .i64 o.g,.string ⟨o.s.toArray⟩,.slice p1 n1 c1,.slice p2 n2 c2]) ∧ z ≤ s.size ∧ q ≤ z ∧
   Hid (dictS (objS d) fuel (s.data.toList.drop z) (acc ++ [(x,o)]) = T) ∧ ObjAt (fun b => w.heap.size ≤ b) (d + 1) w' (objCells o.kind o.n o.g o.s (.slice p1 n1 c1) (.slice p2 n2 c2)) o ∧ RdAt w' r s z ∧ Bes r w w')
theorem dict_elem (s : ByteArray) (m : Int) (d fuel r a p q q0 : Nat) (acc : List (L × Ob)) (T : Res (List (L × Ob) × L)) (HC : ObjC s m d) (t t2 : Tok) (hn : nextS (s.data.toList.drop a) = .good (t, s.data.toList.drop q0)) (hw : (t.kind == 6 && t.s == [62, 62]) = false)
   (hk4 : t.kind = 4) (hany : (acc.any fun p => p.1 == t.s) = false) (hl : ¬ 8191 ≤ acc.length) (h2 : nextS (s.data.toList.drop q0) = .good (t2,s.data.toList.drop q))
   (hT : Hid (dictS (objS d) (fuel + 1) (s.data.toList.drop a) acc = T)) (hq : q ≤ s.size) (hpq : p + t2.len = q) (hk : t2.kind ≠ 0) (h6 : t2.kind ≤ 6) (h0 : 0 ≤ t2.kind)
   (w : World) (hm : MaxW w m) (hr : RdAt w r s q) :
   Calls Tryz.prog 151 #[.pointer (some ⟨r,0,none⟩),.agg #[.int .i64 t2.kind,.int .i64 p,.int .i64 q,.int .i64 t2.n,.string ⟨t2.s.toArray⟩],.int .i64 (24 - (d : Int))] w (DElemPost s d fuel r q t.s acc T w):=by
 refine (HC r q p t2 w hq hm hr hpq hk h6 h0).mono ?_
 intro e w' h
 unfold RdPost at h
 cases hf : objS d t2 (s.data.toList.drop q) with
 | bad k =>
   rw [hf] at h
   exact .inl ⟨k,h.1,Lh (hT.out.symm.trans (dictS_fbad hn hw hk4 hany hl h2 hf)),h.2⟩
 | good R =>
   obtain ⟨o,rest⟩:=R
   rw [hf] at h
   obtain ⟨cs,z,rfl,hz1,rfl,hO,hR,hB⟩:=h
   obtain ⟨p1,n1,c1,p2,n2,c2,rfl⟩:=hO.shape
   have hsh:=objS_shorter _ _ _ _ _ hf
   simp only [List.length_drop,Array.length_toList,show s.data.size = s.size from rfl] at hsh
   exact .inr ⟨o,p1,n1,c1,p2,n2,c2,z,rfl,hz1,by omega,Lh ((dictS_more hn hw hk4 hany hl h2 hf).symm.trans hT.out),hO,hR,hB⟩
def DNextPost (s : ByteArray) (m : Int) (d fuel r q : Nat) (x : L) (acc : List (L × Ob)) (T : Res (List (L × Ob) × L)) (w : World) (e : Ending) (w' : World) : Prop :=
 (∃ k,e = .panicked [{ v:=.iface 245 (.int .i64 k),recovered:=false }] ∧ Hid (T = .bad k) ∧ Bes r w w') ∨
 (∃ (t2 : Tok) (p2 q2 : Nat),e = .returned (.agg #[.int .i64 t2.kind,.int .i64 p2,.int .i64 q2,.int .i64 t2.n,.string ⟨t2.s.toArray⟩]) ∧ q < q2 ∧ RdAt w' r s q2 ∧ Bes r w w' ∧
   Hid (∀ W,MaxW W m → RdAt W r s q2 → Calls Tryz.prog 151 #[.pointer (some ⟨r,0,none⟩),.agg #[.int .i64 t2.kind,.int .i64 p2,.int .i64 q2,.int .i64 t2.n,.string ⟨t2.s.toArray⟩],.int .i64 (24 - (d : Int))] W (DElemPost s d fuel r q2 x acc T W)))
theorem dict_next (s : ByteArray) (hs : s.size ≤ 140737488355327) (m : Int) (d fuel r a q : Nat) (acc : List (L × Ob)) (T : Res (List (L × Ob) × L)) (HC : ObjC s m d) (t : Tok) (hn : nextS (s.data.toList.drop a) = .good (t, s.data.toList.drop q)) (hw : (t.kind == 6 && t.s == [62, 62]) = false)
   (hk4 : t.kind = 4) (hany : (acc.any fun p => p.1 == t.s) = false) (hl : ¬ 8191 ≤ acc.length) (hT : Hid (dictS (objS d) (fuel + 1) (s.data.toList.drop a) acc = T)) (hq : q ≤ s.size)
   (w : World) (hm : MaxW w m) (hr : RdAt w r s q) :
   Calls Tryz.prog 152 #[.pointer (some ⟨r,0,none⟩)] w (DNextPost s m d fuel r q t.s acc T w):=by
 cases h2 : nextS (s.data.toList.drop q) with
 | bad k =>
   refine (rnext_bad r s q k hq hs m w hm hr h2).mono ?_
   rintro e w' ⟨h1,h3⟩
   exact .inl ⟨k,h1,Lh (hT.out.symm.trans (dictS_nbad hn hw hk4 hany hl h2)),h3⟩
 | good tr =>
   obtain ⟨t2,rest⟩:=tr
   obtain ⟨h1,hk,hrest⟩:=nextS_good h2
   obtain ⟨g1,g2,g3,_⟩:=nextT_good h1
   obtain ⟨g5,g6⟩:=nextS_shorter h2
   obtain ⟨p,hp⟩ : ∃ p,q + (nextT (s.data.toList.drop q)).1 = p:=⟨_,rfl⟩
   refine (rnext_good r s q p t2 hq hs m w hm hr h1 hk hp).mono ?_
   rintro e w' ⟨e1,e2,e3⟩
   simp only [List.length_drop,Array.length_toList,show s.data.size = s.size from rfl] at g1
   have hq2 : p + t2.len ≤ s.size:=by omega
   rw [List.drop_drop,← Nat.add_assoc,hp] at hrest
   subst hrest
   have hqa : q < p + t2.len:=by simp only [List.length_drop,Array.length_toList,show s.data.size = s.size from rfl] at g5;omega
   exact .inr ⟨t2,p,p + t2.len,e1,hqa,e2,e3,Lh (fun W hW hR => dict_elem s m d fuel r a p (p + t2.len) q acc T HC t t2 hn hw hk4 hany hl h2 hT hq2 rfl hk g3 g2 W hW hR)⟩
theorem DInv.step {s : ByteArray} {m : Int} {d r : Nat} {w : World} {T : Res (List (L × Ob) × L)} {wr : World} {a fuel : Nat} {acc : List (L × Ob)} {vals : List (L × Obv)} {D : DataW Value}
   (h : DInv s m d r w T wr a (fuel + 1) acc vals D) (hrw : r < w.heap.size) {w1 w4 w5 : World} {x : L} {o : Ob} {p1 : Option Addr} {n1 c1 : Nat} {p2 : Option Addr} {n2 c2 z : Nat}
   (hs1 : Bes r wr w1) (hs4 : Bes r w1 w4) (hO : ObjAt (fun b => w1.heap.size ≤ b) (d + 1) w4 (objCells o.kind o.n o.g o.s (.slice p1 n1 c1) (.slice p2 n2 c2)) o) (hR4 : RdAt w4 r s z) (hz : z ≤ s.size) (haz : a < z) (hl9 : ¬ 8191 ≤ acc.length)
   (hany : (acc.any fun p => p.1 == x) = false) (hown5 : w5.ownsMap Tryz.prog 9 obR (w.heap.size + 1) (acc.length + 1) (D.put (.string x) (.held (Obv.val ⟨o.kind,o.n,o.g,o.s,p1,n1,c1,p2,n2,c2⟩))))
   (hg : w4.grownBy w5 (some (w.heap.size + 1))) (HX : dictS (objS d) fuel (s.data.toList.drop z) (acc ++ [(x,o)]) = T) :
   DInv s m d r w T w5 z fuel (acc ++ [(x,o)]) (vals ++ [(x,⟨o.kind,o.n,o.g,o.s,p1,n1,c1,p2,n2,c2⟩)]) (D.put (.string x) (.held (Obv.val ⟨o.kind,o.n,o.g,o.s,p1,n1,c1,p2,n2,c2⟩))):=by
 have l0:=h.hbes.size
 have l1:=hs1.size
 have l4:=hs4.size
 have lm:=h.hown.lt
 have hne : r ≠ w.heap.size + 1:=by omega
 have keep : ∀ b,b < w4.heap.size → b ≠ w.heap.size + 1 → w5.heap[b]? = w4.heap[b]?:=fun b hb hb2 => hg.block b hb (by simpa using hb2)
 have hmx : MaxW w4 m:=(h.hm.bes hs1 (h.hm.ne h.hr)).bes hs4 (h.hm.ne h.hr)
 refine ⟨hz,?_,?_,by simpa using hown5,?_,?_,?_,?_,?_,by simp;omega,?_,HX⟩
 · show w5.heap[r]? = _
   rw [keep r (by omega) hne];exact hR4
 · rw [keep _ (by omega) (by omega),hs4.block _ (by omega) (by omega),hs1.block _ (by omega) (by omega)];exact h.hB0
 · exact h.hmi.push x _ ((any_keys h.hkeys x).trans hany) (isKey_str x)
 · simp [h.hkeys]
 · rw [List.map_append,List.map_append]
   refine KidsAt.push ?_ rfl ?_
   · refine h.hkids.grow (fun b h1 h2 => ⟨h1,?_⟩)
     rw [keep b (by omega) (by omega),hs4.block b (by omega) (by omega),hs1.block b h2 (by omega)]
   · exact hO.grow (fun b h1 h2 => ⟨by omega,keep b h2 (by omega)⟩)
 · have h4:=(h.hbes.trans hs1).trans hs4
   exact ⟨hg.os.trans h4.os,hg.tape.trans h4.tape,hg.output.trans h4.output,by have:=hg.size;omega,fun b h1 h2 => (keep b (by omega) (by omega)).trans (h4.block b h1 h2)⟩
 · have:=MaxW.lt hmx
   unfold MaxW at *
   rw [World.cell?_of_block (a:=⟨1,0,none⟩) (keep 1 this (by omega))];exact hmx
 · have:=h.hfu;omega
end Go.Proofs.YtinafodpgjbedaaGreatDoor
