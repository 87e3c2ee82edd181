/- Parts of the proof: GWr WfF WfG. -/
import Derived.Test.YtfgdhcemidlnfaaGreatDoorWqe
import Derived.Test.YtfgdhcemidlnfaaGreatDoorWqb
import Derived.RangeFuncNested
import Derived.RangeFuncBound
import Derived.RangeFuncCalls
import Derived.RangeFuncLeaves
import Derived.RangeFuncBox
import Derived.Shelf.Abstract
import Derived.Shelf.RegionOpen
import Derived.OwnWalkIn
import Derived.TacticsInMore
import Derived.LoopNIn
import Derived.LoopIn
import Derived.Maps.AppendAt
import Derived.Maps.OwnIn
import Derived.Test.YtfgdhcemidlnfaaGreatDoorWqc
import Derived.Test.YtfgdhcemidlnfaaGreatDoorWqg
import Derived.Test.YtfgdhcemidlnfaaGreatDoorWqf
import Derived.Test.YtfgdhcemidlnfaaGreatDoorWqh
import Derived.Deep.RegionHeld3
import Derived.Test.YtfgdhcemidlnfaaGreatDoorWqd
set_option linter.all false
set_option maxRecDepth 100000
set_option maxHeartbeats 8000000
namespace Go.Proofs.YtfgdhcemidlnfaaGreatDoor
open Go.RowKit Fo
def WordsOut (w : World) (l : List L) (e : Ending) (w' : World) : Prop :=
 ∃ g,e = .returned (.slice (some ⟨g,0,none⟩) l.length l.length) ∧ w.heap.size ≤ g ∧ w'.heap[g]? = some (.cells (l.map (fun x => Value.string ⟨x.toArray⟩)).toArray 9 (0,0)) ∧ Below w.heap.size w w'
theorem wnull_in (n g : Int) (s : L) (p1 p2 : Option Addr) (n1 c1 n2 c2 : Nat) (w : World) :
   Calls Tryz.prog 193 #[.agg #[.int .i64 0,.int .i64 n,.int .i64 g,.string ⟨s.toArray⟩,.slice p1 n1 c1,.slice p2 n2 c2]] w (WordsOut w [wNull]):=by
 go_enter Tryz.func193,Tryz.ntmps193
 go_wp2
 go_ret
 exact ⟨w.heap.size + 1,rfl,by omega,heap_new_at _ _ _ (by simp),bel⟩
theorem wint_in (n g : Int) (s : L) (p1 p2 : Option Addr) (n1 c1 n2 c2 : Nat) (h1 : -2147483647 ≤ n) (h2 : n ≤ 2147483647) (w : World) (hT : TabP w) :
   Calls Tryz.prog 193 #[.agg #[.int .i64 2,.int .i64 n,.int .i64 g,.string ⟨s.toArray⟩,.slice p1 n1 c1,.slice p2 n2 c2]] w (WordsOut w [digI n]):=by
 have HC:=Lh (fun W (hW : TabP W) => pInt_in n (by omega) (by omega) W hW)
 rw [show intV n = .tuple #[.string ⟨(digI n).toArray⟩,.int .i64 0] by unfold intV;rw [if_neg (by omega)]] at HC
 clear h1 h2
 go_enter Tryz.func193,Tryz.ntmps193
 go_wp2_with fail
 refine (HC.out _ (hT.below ((Below.refl _ w).alloc (Nat.le_refl _) _))).mono ?_
 rintro e w1 ⟨rfl,hb1⟩
 have hz1:=hb1.size
 simp at hz1
 go_wp2
 go_ret
 exact ⟨w1.heap.size,rfl,by omega,heap_new_at _ _ _ rfl,bel⟩
theorem wreal_in (n g : Int) (s : L) (p1 p2 : Option Addr) (n1 c1 n2 c2 : Nat) (h1 : -1073741824 ≤ n) (h2 : n ≤ 1073741824) (w : World) :
   Calls Tryz.prog 193 #[.agg #[.int .i64 3,.int .i64 n,.int .i64 g,.string ⟨s.toArray⟩,.slice p1 n1 c1,.slice p2 n2 c2]] w (WordsOut w [realT n]):=by
 have HC:=Lh (fun W => preal_in n h1 h2 W)
 clear h1 h2
 go_enter Tryz.func193,Tryz.ntmps193
 go_wp2_with fail
 refine (HC.out _).mono ?_
 rintro e w1 ⟨rfl,hb1⟩
 have hz1:=hb1.size
 simp at hz1
 go_wp2
 go_ret
 exact ⟨w1.heap.size,rfl,by omega,heap_new_at _ _ _ rfl,bel⟩
theorem wstring_in (n g : Int) (s : L) (p1 p2 : Option Addr) (n1 c1 n2 c2 : Nat) (h : s.length ≤ 32767) (w : World) :
   Calls Tryz.prog 193 #[.agg #[.int .i64 4,.int .i64 n,.int .i64 g,.string ⟨s.toArray⟩,.slice p1 n1 c1,.slice p2 n2 c2]] w (WordsOut w [strW s]):=by
 have HC:=Lh (fun W => pString_in s h W)
 clear h
 go_enter Tryz.func193,Tryz.ntmps193
 go_wp2_with fail
 refine (HC.out _).mono ?_
 rintro e w1 ⟨rfl,hb1⟩
 have hz1:=hb1.size
 simp at hz1
 go_wp2
 go_ret
 exact ⟨w1.heap.size,rfl,by omega,heap_new_at _ _ _ rfl,bel⟩
theorem wnam_in (n g : Int) (s : L) (p1 p2 : Option Addr) (n1 c1 n2 c2 : Nat) (h : nameB s = true) (w : World) :
   Calls Tryz.prog 193 #[.agg #[.int .i64 5,.int .i64 n,.int .i64 g,.string ⟨s.toArray⟩,.slice p1 n1 c1,.slice p2 n2 c2]] w (WordsOut w [nameW s]):=by
 have HC:=Lh (fun W => pName_in s h W)
 clear h
 go_enter Tryz.func193,Tryz.ntmps193
 go_wp2_with fail
 refine (HC.out _).mono ?_
 rintro e w1 ⟨rfl,hb1⟩
 have hz1:=hb1.size
 simp at hz1
 go_wp2
 go_ret
 exact ⟨w1.heap.size,rfl,by omega,heap_new_at _ _ _ rfl,bel⟩
theorem wref_in (n g : Int) (s : L) (p1 p2 : Option Addr) (n1 c1 n2 c2 : Nat) (h1 : -2147483647 ≤ n) (h2 : n ≤ 2147483647) (h3 : -2147483647 ≤ g) (h4 : g ≤ 2147483647) (w : World) (hT : TabP w) :
   Calls Tryz.prog 193 #[.agg #[.int .i64 8,.int .i64 n,.int .i64 g,.string ⟨s.toArray⟩,.slice p1 n1 c1,.slice p2 n2 c2]] w (WordsOut w [digI n,digI g,[82]]):=by
 have HC:=Lh (fun W (hW : TabP W) => pInt_in n (by omega) (by omega) W hW)
 have HD:=Lh (fun W (hW : TabP W) => pInt_in g (by omega) (by omega) W hW)
 rw [show intV n = .tuple #[.string ⟨(digI n).toArray⟩,.int .i64 0] by unfold intV;rw [if_neg (by omega)]] at HC
 rw [show intV g = .tuple #[.string ⟨(digI g).toArray⟩,.int .i64 0] by unfold intV;rw [if_neg (by omega)]] at HD
 clear h1 h2 h3 h4
 have X0:=heap_new_at w (.cells #[.int .i64 8,.int .i64 n,.int .i64 g,.string ⟨s.toArray⟩,.slice p1 n1 c1,.slice p2 n2 c2] 26) _ rfl
 go_enter Tryz.func193,Tryz.ntmps193
 go_wp2_with fail
 refine (HC.out _ (hT.below ((Below.refl _ w).alloc (Nat.le_refl _) _))).mono ?_
 rintro e w1 ⟨rfl,hb1⟩
 have hz1:=hb1.size
 simp at hz1
 obtain ⟨z0,z1,z2,z3,z4,z5,zf⟩:=six_of ((hb1.block _ (by simp)).trans X0)
 have hb01 : Below w.heap.size w w1:=((Below.refl _ w).alloc (Nat.le_refl _) _).trans (hb1.mono (by simp))
 have HT1:=Lh (hT.below hb01)
 clear X0 hb1
 go_wp2_with fail
 refine (HD.out _ HT1.out).mono ?_
 rintro e w2 ⟨rfl,hb2⟩
 have hb02:=hb01.trans (hb2.mono hb01.size)
 have hz2:=hb02.size
 clear hb2 hb01
 go_wp2
 go_ret
 exact ⟨w2.heap.size,rfl,by omega,heap_new_at _ _ _ rfl,hb02.alloc hb02.size _⟩
theorem wbool_in (n g : Int) (s : L) (p1 p2 : Option Addr) (n1 c1 n2 c2 : Nat) (h : n = 0 ∨ n = 1) (w : World) :
   Calls Tryz.prog 193 #[.agg #[.int .i64 1,.int .i64 n,.int .i64 g,.string ⟨s.toArray⟩,.slice p1 n1 c1,.slice p2 n2 c2]] w (WordsOut w [if n = 1 then wTrue else wFalse]):=by
 have hi0 : ∀ w : World,(Instr.index 203 (.agg #[.string ⟨#[102,97,108,115,101]⟩,.string ⟨#[116,114,117,101]⟩]) (.int .i64 0)).run Tryz.prog w = .ok (.string ⟨#[102,97,108,115,101]⟩) w:=fun _ => by kernel_rfl
 have hi1 : ∀ w : World,(Instr.index 203 (.agg #[.string ⟨#[102,97,108,115,101]⟩,.string ⟨#[116,114,117,101]⟩]) (.int .i64 1)).run Tryz.prog w = .ok (.string ⟨#[116,114,117,101]⟩) w:=fun _ => by kernel_rfl
 rcases h with rfl | rfl
 · clear hi1
   go_enter Tryz.func193,Tryz.ntmps193
   go_wp2
   go_ret
   exact ⟨w.heap.size + 1,rfl,by omega,heap_new_at _ _ _ (by simp),bel⟩
 · clear hi0
   go_enter Tryz.func193,Tryz.ntmps193
   go_wp2
   go_ret
   exact ⟨w.heap.size + 1,rfl,by omega,heap_new_at _ _ _ (by simp),bel⟩
theorem wsingle_in (o : Ob) (d : Nat) (hok : okO (d + 1) o) (h6 : o.kind ≠ 6) (h7 : o.kind ≠ 7) (p1 p2 : Option Addr) (n1 c1 n2 c2 : Nat) (w : World) (hT : TabP w) :
   Calls Tryz.prog 193 #[.agg #[.int .i64 o.kind,.int .i64 o.n,.int .i64 o.g,.string ⟨o.s.toArray⟩,.slice p1 n1 c1,.slice p2 n2 c2]] w (WordsOut w (leafW o)):=by
 obtain ⟨hu,h9,hf,hs,_,hk,_⟩:=hok
 unfold leafW
 by_cases k1 : o.kind = 1
 · rw [if_pos k1,k1]
   have : o.n = 0 ∨ o.n = 1:=by simpa [fitsB,k1] using hf
   exact wbool_in _ _ _ _ _ _ _ _ _ this w
 rw [if_neg k1]
 by_cases k2 : o.kind = 2
 · rw [if_pos k2,k2]
   have : -2147483647 ≤ o.n ∧ o.n ≤ 2147483647:=by simpa [fitsB,k2] using hf
   exact wint_in _ _ _ _ _ _ _ _ _ this.1 this.2 w hT
 rw [if_neg k2]
 by_cases k3 : o.kind = 3
 · rw [if_pos k3,k3]
   have : -1073741824 ≤ o.n ∧ o.n ≤ 1073741824:=by simpa [fitsB,k3] using hf
   exact wreal_in _ _ _ _ _ _ _ _ _ this.1 this.2 w
 rw [if_neg k3]
 by_cases k4 : o.kind = 4
 · rw [if_pos k4,k4]
   have : o.s.length ≤ 32767:=by simpa [longB,k4] using hs
   exact wstring_in _ _ _ _ _ _ _ _ _ this w
 rw [if_neg k4]
 by_cases k5 : o.kind = 5
 · rw [if_pos k5,k5]
   have : nameB o.s = true:=by simpa [keysB,k5] using hk
   exact wnam_in _ _ _ _ _ _ _ _ _ this w
 rw [if_neg k5]
 by_cases k8 : o.kind = 8
 · rw [if_pos k8,k8]
   have : ((1 ≤ o.n ∧ o.n ≤ 8191) ∧ 0 ≤ o.g) ∧ o.g ≤ 65535:=by simpa [fitsB,k8] using hf
   exact wref_in _ _ _ _ _ _ _ _ _ (by omega) (by omega) (by omega) (by omega) w hT
 rw [if_neg k8]
 have k0 : o.kind = 0:=by
   apply Classical.byContradiction
   intro k0
   simp [usesB,k0,k1,k2,k3,k4,k5,h6,h7,k8,h9] at hu
 rw [k0]
 exact wnull_in _ _ _ _ _ _ _ _ _ w
theorem wparts_in (k n g : Int) (s : L) (p1 p2 : Option Addr) (n1 c1 n2 c2 : Nat) (w : World) :
   Calls Tryz.prog 146 #[.agg #[.int .i64 k,.int .i64 n,.int .i64 g,.string ⟨s.toArray⟩,.slice p1 n1 c1,.slice p2 n2 c2]] w fun e w' =>
     e = .returned (.func (.func 191) #[] #[.pointer (some ⟨w.heap.size,0,none⟩)]) ∧ w' = w.alloc (.cells #[.int .i64 k,.int .i64 n,.int .i64 g,.string ⟨s.toArray⟩,.slice p1 n1 c1,.slice p2 n2 c2] 26):=by
 have hmf : ∀ (fn : Fn) (first cap : Array Value) (w : World),(Instr.makeFunc fn first cap).run Tryz.prog w = .ok (.func fn first cap) w:=fun _ _ _ _ => rfl
 go_enter Tryz.func146,Tryz.ntmps146
 go_wp2
 go_ret
 exact ⟨rfl,rfl⟩
theorem vint_in (n : Int) (w : World) :
   Calls Tryz.prog 49 #[.int .i64 n] w fun e w' => e = .returned (.agg #[.int .i64 2,.int .i64 n,.int .i64 0,.string ⟨#[]⟩,.slice none 0 0,.slice none 0 0]) ∧ Below w.heap.size w w':=by
 go_enter Tryz.func49,Tryz.ntmps49
 go_wp2
 have X:=heap_new_at w (.cells #[.int .i64 2,.int .i64 n,.int .i64 0,.string ⟨#[]⟩,.slice none 0 0,.slice none 0 0] 26) _ rfl
 obtain ⟨s0,s1,s2,s3,s4,s5,_⟩:=six_of X
 refine bodyPost_ret (v:=.agg #[.int .i64 2,.int .i64 n,.int .i64 0,.string ⟨#[]⟩,.slice none 0 0,.slice none 0 0]) (by simp [results,Tryz.results49,go_sem,s0,s1,s2,s3,s4,s5]) rfl ⟨rfl,bel⟩
open Go.RowKit Go.Shelf Fo
def OwnB (Bs : Nat) (W : World) (b : Nat) : Prop:=∃ v,W.cell? ⟨Bs,0,none⟩ = some v ∧ v.ownBlock = some b
def Safe (Bs : Nat) (W : World) : Prop:=∀ b,OwnB Bs W b → b < W.heap.size
theorem OwnB.iff {Bs : Nat} {W W' : World} (h : W'.heap[Bs]? = W.heap[Bs]?) (b : Nat) : OwnB Bs W' b ↔ OwnB Bs W b:=by
 unfold OwnB
 rw [World.cell?_of_block (a:=⟨Bs,0,none⟩) h]
theorem Safe.below {Bs : Nat} {W W' : World} (h : Safe Bs W) (hB : Bs < W.heap.size) (hb : Below W.heap.size W W') : Safe Bs W':=fun b hbb =>
 Nat.lt_of_lt_of_le (h b ((OwnB.iff (hb.block Bs hB) b).1 hbb)) hb.size
structure Prot (Bs : Nat) (W : World) (b : Nat) (cur : Array Value) (t : TypeId) : Prop where
 at' : W.heap[b]? = some (.cells cur t (0,0))
 ne : b ≠ Bs
 own : ¬ OwnB Bs W b
theorem Prot.below {Bs : Nat} {W W' : World} {b : Nat} {cur : Array Value} {t : TypeId} (h : Prot Bs W b cur t) (hB : Bs < W.heap.size) (hb : Below W.heap.size W W') : Prot Bs W' b cur t :=
 ⟨(hb.block b (lt_of_block h.at')).trans h.at',h.ne,fun x => h.own ((OwnB.iff (hb.block Bs hB) b).1 x)⟩
theorem Prot.new {Bs : Nat} {W W' : World} {b : Nat} {cur : Array Value} {t : TypeId} (hs : Safe Bs W) (hB : Bs < W.heap.size) (hb : Below W.heap.size W W') (hn : W.heap.size ≤ b) (h : W'.heap[b]? = some (.cells cur t (0,0))) : Prot Bs W' b cur t :=
 ⟨h,by omega,fun x => by have:=hs b ((OwnB.iff (hb.block Bs hB) b).1 x);omega⟩
structure KeepC (n₀ Bs : Nat) (W W' : World) : Prop where
 below : Below n₀ W W'
 other : ∀ (b : Nat) (cur : Array Value) (t : TypeId),Prot Bs W b cur t → Prot Bs W' b cur t
 safe : Safe Bs W → Safe Bs W'
theorem KeepC.trans {n₀ Bs : Nat} {A B C : World} (h : KeepC n₀ Bs A B) (k : KeepC n₀ Bs B C) : KeepC n₀ Bs A C :=
 ⟨h.below.trans k.below,fun b cur t x => k.other b cur t (h.other b cur t x),fun x => k.safe (h.safe x)⟩
theorem KeepC.of_below {n₀ Bs : Nat} {W W' : World} (hB : Bs < W.heap.size) (hn : n₀ ≤ W.heap.size) (hb : Below W.heap.size W W') : KeepC n₀ Bs W W' :=
 ⟨hb.mono hn,fun _ _ _ h => h.below hB hb,fun h => h.below hB hb⟩
theorem KeepC.putObj {n₀ Bs : Nat} {W : World} {l : Nat} {o o' : Obj} (hn : n₀ ≤ l) (hB : Bs < l) (h : W.heap[l]? = some o) (hc : o.isCells = false) : KeepC n₀ Bs W (W.putObj l o'):=by
 have hB' : (W.putObj l o').heap[Bs]? = W.heap[Bs]?:=World.putObj_heap_other (by omega)
 have hs : (W.putObj l o').heap.size = W.heap.size:=by simp
 refine ⟨(Below.refl n₀ W).grown (grownBy_putObj' W l o') (by have:=lt_of_block h;omega) (fun k e => by cases e;exact hn),fun b cur t x => ⟨?_,x.ne,fun y => x.own ((OwnB.iff hB' b).1 y)⟩,fun x b y => by rw [hs];exact x b ((OwnB.iff hB' b).1 y)⟩
 refine (World.putObj_heap_other (fun e => ?_)).trans x.at'
 subst e
 have:=x.at'
 rw [h] at this
 cases this
 cases hc
theorem ownB_box {Bs : Nat} {W : World} {t : TypeId} {v : Value} (h : Boxed W Bs t v) (b : Nat) : OwnB Bs W b ↔ v.ownBlock = some b:=by
 unfold OwnB
 rw [h.cell]
 constructor
 · rintro ⟨u,e,hu⟩;cases e;exact hu
 · exact fun e => ⟨v,rfl,e⟩
theorem keepC_round {n₀ Bs : Nat} {W w1 : World} {v v' : Value} {tmp : Obj} {t : TypeId} (hv : Boxed W Bs t v) (hv2 : Boxed (w1.setCell ⟨Bs, 0, none⟩ v') Bs t v') (hg : (W.alloc tmp).grownBy w1 v.ownBlock)
   (ho : v'.ownBlock = v.ownBlock ∨ v'.ownBlock = some (W.heap.size + 1)) (hlt : ∀ b,v'.ownBlock = some b → b < w1.heap.size) (hb : Below n₀ W (w1.setCell ⟨Bs,0,none⟩ v')) : KeepC n₀ Bs W (w1.setCell ⟨Bs,0,none⟩ v'):=by
 have hs : (w1.setCell ⟨Bs,0,none⟩ v').heap.size = w1.heap.size:=by simp
 refine ⟨hb,fun b cur ty x => ?_,fun _ b hbb => ?_⟩
 · have hx:=x.at'
   have hl:=lt_of_block hx
   have hn : v.ownBlock ≠ some b:=fun e => x.own ((ownB_box hv b).2 e)
   refine ⟨?_,x.ne,fun y => ?_⟩
   · rw [Below.heap_setCell _ _ _ b (fun e => x.ne e),hg.block b (by simp;omega) (fun e => hn e.symm),Below.heap_alloc _ _ b hl]
     exact hx
   · rcases ho with e | e
     · exact hn (e ▸ (ownB_box hv2 b).1 y)
     · have:=(ownB_box hv2 b).1 y
       rw [e] at this
       cases this
       omega
 · rw [hs];exact hlt b ((ownB_box hv2 b).1 hbb)
open Go.RowKit Go.Shelf Fo
def headT (k : Int) : L:=if k = 7 then [60,60] else [91]
def endT (k : Int) : L:=if k = 7 then [62,62] else [93]
def keyK (o : Ob) (i : Nat) : List L:=if o.kind = 7 then [nameW (o.keys.getD i [])] else []
def memK (d : Nat) (o : Ob) : Nat → List L
 | 0 => []
 | i + 1 => memK d o i ++ (keyK o i ++ toksW d (o.kids.getD i .zero))
theorem memK_six {d : Nat} {o : Ob} (h : o.kind = 6) : ∀ n,n ≤ o.kids.length → memK d o n = (o.kids.take n).flatMap (toksW d)
 | 0,_ => by simp [memK]
 | n + 1,hn => by
   have hlt : n < o.kids.length:=by omega
   rw [memK,memK_six h n (by omega),List.take_succ,List.flatMap_append]
   simp [keyK,h,hlt]
theorem memK_seven {d : Nat} {o : Ob} (h : o.kind = 7) (hl : o.keys.length = o.kids.length) : ∀ n,n ≤ o.kids.length → memK d o n = ((o.keys.zip o.kids).take n).flatMap (fun p => nameW p.1 :: toksW d p.2)
 | 0,_ => by simp [memK]
 | n + 1,hn => by
   have hlt : n < o.kids.length:=by omega
   have hlt' : n < o.keys.length:=by omega
   rw [memK,memK_seven h hl n (by omega),List.take_succ,List.flatMap_append]
   simp [keyK,h,hlt,hlt',List.getElem?_zip_eq_some]
   have e : (o.keys.zip o.kids)[n]? = some (o.keys[n],o.kids[n]):=by simp [List.getElem?_zip_eq_some,hlt,hlt']
   rw [e];simp
theorem toksW_mem {d : Nat} {o : Ob} (h : o.kind = 6 ∨ o.kind = 7) (hl : o.kind = 7 → o.keys.length = o.kids.length) :
   toksW (d + 1) o = headT o.kind :: (memK d o o.kids.length ++ [endT o.kind]):=by
 rcases h with h | h
 · rw [memK_six h _ (Nat.le_refl _),List.take_length]
   simp [toksW,h,headT,endT]
 · rw [memK_seven h (hl h) _ (Nat.le_refl _),List.take_of_length_le (by simp [hl h])]
   simp [toksW,h,headT,endT]
theorem memK_pre (d : Nat) (o : Ob) : ∀ n i,i ≤ n → memK d o i <+: memK d o n
 | 0,i,h => by rw [show i = 0 by omega];exact List.prefix_refl _
 | n + 1,i,h => by
   by_cases hi : i = n + 1
   · rw [hi];exact List.prefix_refl _
   · exact (memK_pre d o n i (by omega)).trans (List.prefix_append _ _)
theorem mem_prefix {d : Nat} {o : Ob} {i : Nat} {q : List L} (hi : i < o.kids.length) (hq : q <+: keyK o i ++ toksW d (o.kids.getD i .zero)) (ts : List L) (ht : ts = headT o.kind :: (memK d o o.kids.length ++ [endT o.kind])) :
   headT o.kind :: (memK d o i ++ q) <+: ts:=by
 rw [ht]
 refine (List.cons_prefix_cons.2 ⟨rfl,?_⟩)
 have h1 : memK d o i ++ q <+: memK d o (i + 1):=by
   rw [memK];exact (List.prefix_append_right_inj _).2 hq
 exact (h1.trans (memK_pre d o _ _ hi)).trans (List.prefix_append _ _)
theorem lt_of_pre {pre r ts : List L} {x : L} {N : Nat} (h : r ++ [x] <+: ts) (hN : pre.length + ts.length ≤ N) : (pre ++ r).length < N:=by
 have:=h.length_le
 simp at this ⊢
 omega
def encW (x : L) : Array Value:=#[.string ⟨x.toArray⟩]
open Go.RowKit Go.Shelf Fo
attribute [local go_sem] Oper.semAt_some
def strV (x : L) : Value:=.string ⟨x.toArray⟩
theorem Tryz.infoStr : (Tryz.prog.info? 9).map (fun i => (i.zero,i.size,i.bytes)) = some (some (.string ⟨#[]⟩),1,16):=by kernel_rfl
theorem appendSeq_in (gf : Nat) (lb : Array Value) (eg : ∀ args w, (callFunc gf args).run Tryz.prog w = .ok (.enter gf args) w) (ts : List L) (hN : ts.length ≤ 100000000) (w : World)
   (hseq : ∀ W0 : World,Below w.heap.size w W0 → W0.heap[w.heap.size]? = some (.cells #[.slice none 0 0] 23 (0,0)) →
     SeqStopsK Fence.wide 5 Tryz.prog gf lb encW (KeepC w.heap.size w.heap.size) (fun ys => ys = ts) (fun _ => True) ts.length W0) :
   CallsIn Fence.wide 6 Tryz.prog 190 #[.slice none 0 0,.func (.func gf) #[] lb] w fun e w' =>
     ∃ v,e = .returned v ∧ w'.ownsRow w.heap.size 9 1 v ts.length (ts.map strV) ∧ Below w.heap.size w w':=by
 have hro : Fence.wide.round = none:=rfl
 obtain ⟨i0,hi,hz0,hz1,hz2⟩:=info_parts Tryz.infoStr
 refine callsIn_of_wp_marks Tryz.func190 rfl trivial ?_ hro
 simp only [Tryz.ntmps190,List.size_toArray,List.length_cons,List.length_nil,Nat.reduceAdd,Nat.reduceSub,Array.replicate_succ,Array.replicate_zero,List.push_toArray,List.append_toArray,List.nil_append,List.cons_append]
 have HQ:=Lh hseq
 clear hseq
 gi_wp2
 have bO:=Boxed.new w 23 (.slice none 0 0)
 have hB0 : Below w.heap.size w (w.alloc (.cells #[.slice none 0 0] 23)):=(Below.refl _ w).alloc (Nat.le_refl _) _
 refine wpIn_rangeFunc_ownG hro (by omega) (gf:=gf) (lb:=lb) rfl trivial eg
   (HQ.out _ hB0 bO) (fun h k => h.trans k) (fun W l o o' hl ho h1 h2 => KeepC.putObj (by simp at hl;omega) (by simp at hl;omega) ho h1) (Below.refl _ _) (fun _ => rfl)
   (fun pre W => (∃ v,Boxed W w.heap.size 23 v ∧ W.ownsRow w.heap.size 9 1 v pre.length (pre.map strV) ∧ True) ∧ Below w.heap.size w W)
   (fun _ _ _ => False)
   (OwnFrom.and (Own.from (holdsRow_own w.heap.size w.heap.size 23 9 1 (fun pre : List L => pre.length) (fun pre => pre.map strV) (fun _ _ => True)) _) (ownFrom_below (Nat.le_refl _) (by simp)))
   (fun _ _ _ _ _ hs _ _ => hs)
   ⟨⟨_,bO,World.ownsRow_nil _ _ _ _,trivial⟩,hB0⟩
   (fun x => { tmps:=#[.slice none 0 0,.func (.func gf) #[] lb,.pointer (some ⟨w.heap.size,0,none⟩),undef,.slice none 0 0,.string ⟨x.toArray⟩,.func (.func gf) #[] lb,.string ⟨x.toArray⟩,undef,undef,undef,undef,undef],defers:=[] }) ?assign ?body ?done ?stop
 case assign =>
   intro l x W K hK
   unfold encW
   gi_wp2
   exact hK
 case body =>
   rintro l pre x W ⟨⟨v,hv,hrow,_⟩,hB⟩ hlt
   have hc:=hv.cell
   gi_wp2_with (gi_at_builtin;refine wpListIn_append_own_at _ rfl _ _ 23 rfl w.heap.size 9 i0 (.string ⟨#[]⟩) 1 16 Tryz.underlying23 hi hz0 hz1 hz2 rfl (by decide) _ _ _ rfl (hrow.alloc _) ⟨W.heap.size,0,none⟩ 1 1 [strV x] rfl rfl (cell_one_new _ _ _) (by simp [Value.oneCell',strV]) (by unfold maxLen;omega) (by omega) (by have:=hB.size;simp;omega) ?_;intro v' w1 hown' hgrow _ hob;obtain ⟨g',cap',rfl⟩:=ownsRow_succ hown';obtain ⟨hv1,hv2,hr2,hk2,hb2⟩:=hv.appended (by decide) hrow hB.size (Nat.le_refl _) hown' hgrow;have hc1:=hv1.cell;have hf1:=hv1.frozen)
   have hlt1 : ∀ b,(Value.slice (some ⟨g',0,none⟩) (pre.length + 1) cap').ownBlock = some b → b < w1.heap.size:=by
     intro b e
     rcases hown'.2 with ⟨h,_⟩ | ⟨g,cap,cur,h,_,hgb,_⟩
     · cases h
     · cases h;cases e;exact lt_of_block hgb
   refine ⟨hk2.from _,keepC_round hv hv2 hgrow (by rw [World.size_alloc] at hob;exact hob) hlt1 hb2,⟨_,hv2,?_,trivial⟩,hB.trans hb2⟩
   simpa using hr2
 case done =>
   rintro D ys W hD rfl ⟨⟨v,hv,hrow,_⟩,hB⟩ hK
   have hc:=hv.cell
   gi_wp2
   refine ⟨by simp,.inl ⟨_,_,rfl,run_takeDeferred hK,?_⟩⟩
   exact ⟨_,results_tmp rfl _ _ _,v,rfl,ownsRow_putObj hrow _ hK rfl,hB.trans (belowK_b (w:=w) (Nat.le_refl _) W D _ _ (by simp at hD;omega) hK rfl rfl)⟩
 case stop =>
   rintro D c pre W _ _ h _
   exact h.elim
theorem collect_in (gf : Nat) (lb : Array Value) (eg : ∀ args w, (callFunc gf args).run Tryz.prog w = .ok (.enter gf args) w) (ts : List L) (hN : ts.length ≤ 100000000) (w : World)
   (hseq : ∀ W0 : World,Below w.heap.size w W0 → W0.heap[w.heap.size]? = some (.cells #[.slice none 0 0] 23 (0,0)) →
     SeqStopsK Fence.wide 5 Tryz.prog gf lb encW (KeepC w.heap.size w.heap.size) (fun ys => ys = ts) (fun _ => True) ts.length W0) :
   Calls Tryz.prog 145 #[.func (.func gf) #[] lb] w fun e w' =>
     ∃ v,e = .returned v ∧ w'.ownsRow w.heap.size 9 1 v ts.length (ts.map strV) ∧ Below w.heap.size w w':=by
 have HA:=Lh (appendSeq_in gf lb eg ts hN w hseq)
 clear hseq eg
 refine (callsIn_wide (n:=7)).1 ?_
 have hro : Fence.wide.round = none:=rfl
 refine callsIn_of_wp Tryz.func145 rfl trivial ?_ hro
 simp only [Tryz.ntmps145,List.size_toArray,List.length_cons,List.length_nil,Nat.reduceAdd,Nat.reduceSub,Array.replicate_succ,Array.replicate_zero,List.push_toArray,List.append_toArray,List.nil_append,List.cons_append]
 gi_wp2_with fail
 refine ⟨trivial,?_⟩
 refine HA.out.mono ?_
 rintro e w' ⟨v,rfl,hrow,hb⟩
 gi_wp2
 go_ret
 exact ⟨v,rfl,hrow,hb⟩
open Go.RowKit Go.Shelf Fo
attribute [local go_sem] Oper.semAt_some
structure TW (w0 : World) (l Bs By Bt : Nat) (W : World) : Prop where
 base : Below w0.heap.size w0 W
 safe : Safe Bs W
 lt : Bs < W.heap.size
 le : w0.heap.size ≤ Bs
 y : Prot Bs W By #[.func (.yield l) #[] #[]] 179
 t : Prot Bs W Bt #[.func (.func 192) #[] #[.pointer (some ⟨By,0,none⟩),.pointer (some ⟨Bt,0,none⟩)]] 132
theorem TW.keep {w0 : World} {l Bs By Bt : Nat} {W W' : World} (h : TW w0 l Bs By Bt W) (k : KeepC w0.heap.size Bs W W') : TW w0 l Bs By Bt W' :=
 ⟨h.base.trans k.below,k.safe h.safe,Nat.lt_of_lt_of_le h.lt k.below.size,h.le,k.other _ _ _ h.y,k.other _ _ _ h.t⟩
theorem TW.below {w0 : World} {l Bs By Bt : Nat} {W W' : World} (h : TW w0 l Bs By Bt W) (k : Below W.heap.size W W') : TW w0 l Bs By Bt W' :=
 h.keep (KeepC.of_below h.lt h.base.size k)
theorem prot_cell {Bs : Nat} {W : World} {b : Nat} {v : Value} {t : TypeId} (h : Prot Bs W b #[v] t) : W.cell? ⟨b,0,none⟩ = some v:=by simp [World.cell?,h.at']
theorem tell_leaf (l Bs N By Bt n : Nat) (w0 : World) (hT : TabP w0) (J Jx : List L → World → Prop) (hJ : ∀ pre W W', J pre W → Below W.heap.size W W' → J pre W') (hY : ∀ (m : Nat) pre x W, J pre W → pre.length < N → YieldAt Fence.wide m Tryz.prog l (encW x) W fun e W' => (e = .returned (.bool true) ∧ J (pre ++ [x]) W' ∧ KeepC w0.heap.size Bs W W') ∨ (e = .returned (.bool false) ∧ ∃ q, Jx q W'))
   (d : Nat) (o : Ob) (cs : List Value) (p1 p2 : Option Addr) (n1 c1 n2 c2 : Nat) (hcs : cs = objCells o.kind o.n o.g o.s (.slice p1 n1 c1) (.slice p2 n2 c2)) (hok : okO (d + 1) o) (h6 : o.kind ≠ 6) (h7 : o.kind ≠ 7)
   (pre : List L) (W : World) (hW : TW w0 l Bs By Bt W) (h0 : J pre W) (hN : pre.length + (leafW o).length ≤ N) :
   CallsIn Fence.wide n Tryz.prog 192 #[.agg cs.toArray,.pointer (some ⟨By,0,none⟩),.pointer (some ⟨Bt,0,none⟩)] W fun e W' =>
     (e = .returned (.bool true) ∧ J (pre ++ leafW o) W' ∧ KeepC w0.heap.size Bs W W') ∨ (e = .returned (.bool false) ∧ ∃ q,Jx q W'):=by
 have hro : Fence.wide.round = none:=rfl
 have HS:=Lh (fun (w : World) (h : TabP w) => wsingle_in o d hok h6 h7 p1 p2 n1 c1 n2 c2 w h)
 have k6 : (o.kind == 6) = false:=by simpa using h6
 have k7 : (o.kind == 7) = false:=by simpa using h7
 have HY:=Lh hY
 have HJ:=Lh hJ
 have HT:=Lh hT
 have HW:=Lh hW
 have HN:=Lh hN
 have HL : ∃ ws,leafW o = ws:=⟨_,rfl⟩
 obtain ⟨ws,hws⟩:=HL
 rw [hws] at HN
 have hy0:=prot_cell hW.y
 rw [hws]
 clear hok h6 h7 hY hJ hT hN
 subst hcs
 unfold objCells
 generalize o.kind = K at *
 generalize o.n = NN at *
 generalize o.g = G at *
 generalize o.s = s at *
 refine callsIn_of_wp Tryz.func192 rfl trivial ?_ hro
 simp only [Tryz.ntmps192,List.size_toArray,List.length_cons,List.length_nil,Nat.reduceAdd,Nat.reduceSub,Array.replicate_succ,Array.replicate_zero,List.push_toArray,List.append_toArray,List.nil_append,List.cons_append]
 gi_wp2_with fail
 obtain ⟨W1,hW1⟩ : ∃ W1,((W.alloc (.cells #[.int .i64 K,.int .i64 NN,.int .i64 G,.string ⟨s.toArray⟩,.slice p1 n1 c1,.slice p2 n2 c2] 26)).alloc (.cells #[.string ⟨#[91]⟩,.string ⟨#[93]⟩] 203)) = W1:=⟨_,rfl⟩
 rw [hW1]
 have hb1 : Below W.heap.size W W1:=by rw [← hW1];exact bel
 clear hW1
 refine ⟨trivial,fun h => (by simp [Fence.wide] at h),?_⟩
 refine (callsIn_wide.2 (HS.out W1 ((HT.out.below HW.out.base).below hb1))).mono ?_
 rintro e W2 ⟨g,rfl,hg,hgc,hb2⟩
 rw [hws] at hgc
 rw [hws]
 have hb12 : Below W.heap.size W W2:=hb1.trans (hb2.mono hb1.size)
 have hTW2:=HW.out.below hb12
 have hP2 : Prot Bs W2 g (ws.map (fun x => Value.string ⟨x.toArray⟩)).toArray 9:=Prot.new HW.out.safe HW.out.lt hb12 (Nat.le_trans hb1.size hg) hgc
 have hK2 : KeepC w0.heap.size Bs W W2:=KeepC.of_below HW.out.lt HW.out.base.size hb12
 have hJ2:=HJ.out _ _ _ h0 hb12
 have H2:=Lh (And.intro hTW2 (And.intro hP2 hK2))
 clear hTW2 hP2 hK2 hgc hb1 hb2 hb12 hW
 obtain ⟨nw,hnw⟩ : ∃ nw,ws.length = nw:=⟨_,rfl⟩
 rw [hnw]
 rw [hnw] at HN
 have hnb : nw ≤ 3:=by
   rw [← hnw,← hws]
   unfold leafW
   repeat' split
   all_goals simp
 gi_wp2
 gi_loopw [18] (fun i wr => ∃ (k : Nat),k ≤ nw ∧ i = .int .i64 k ∧ Hid (TW w0 l Bs By Bt wr ∧ Prot Bs wr g (ws.map (fun x => Value.string ⟨x.toArray⟩)).toArray 9 ∧ KeepC w0.heap.size Bs W wr) ∧ J (pre ++ ws.take k) wr) (fun i _ => nw - (intOf i).toNat)
 case atStart => exact ⟨0,Nat.zero_le _,rfl,H2,by simpa using hJ2⟩
 case round =>
   obtain ⟨k,hk,rfl,HR,hJk⟩:=hrel
   have hyr:=prot_cell HR.out.1.y
   by_cases hlt : k < nw
   · have hlt' : k < ws.length:=by omega
     obtain ⟨x,hx⟩ : ∃ x,ws[k] = x:=⟨_,rfl⟩
     have c0 : wr.cell? ⟨g,k,none⟩ = some (.string ⟨x.toArray⟩):=by
       simp [World.cell?,HR.out.2.1.at',hlt',hx]
     have hd : decide ((k : Int) < (nw : Int)) = true:=by simp;omega
     have htk : ws.take (k + 1) = ws.take k ++ [x]:=by rw [List.take_succ,List.getElem?_eq_getElem hlt',hx];rfl
     obtain ⟨fn,tmps,assign,body,hy,hR⟩:=HY.out (n - 1) _ x wr hJk (by have:=HN.out;simp;omega)
     unfold encW at hy
     have HRR:=Lh hR
     clear hR
     gi_wp2
     first
       | (refine HRR.out.mono ?_)
       | (refine ⟨fun h => (by simp [Fence.wide] at h),?_⟩;refine HRR.out.mono ?_)
     rintro e W3 (⟨rfl,hJ3,hk3⟩ | ⟨rfl,q,hq⟩)
     · have HJ3:=Lh hJ3
       clear hJ3
       gi_wp2
       go_roundw
       case rel => exact ⟨k + 1,by omega,by go_num,Lh ⟨HR.out.1.keep hk3,hk3.other _ _ _ HR.out.2.1,HR.out.2.2.trans hk3⟩,by rw [htk,← List.append_assoc];exact HJ3.out⟩
       case measure => simp [intOf];omega
     · gi_wp2
       go_ret
       exact .inr ⟨rfl,q,hq⟩
   · have hd : decide ((k : Int) < (nw : Int)) = false:=by simp;omega
     obtain rfl : k = nw:=by omega
     gi_wp2
     go_ret
     exact .inl ⟨rfl,by rw [← hnw,List.take_length] at hJk;exact hJk,HR.out.2.2⟩
def TellC (w0 : World) (l Bs By Bt N : Nat) (J Jx : List L → World → Prop) (S : Nat → Prop) (d : Nat) : Prop :=
 ∀ (x : Ob) (ks : List Value) (n : Nat) (pre : List L) (W : World),ObjAt S d w0 ks x → okO d x → TW w0 l Bs By Bt W → J pre W → pre.length + (toksW d x).length ≤ N →
   CallsIn Fence.wide n Tryz.prog 192 #[.agg ks.toArray,.pointer (some ⟨By,0,none⟩),.pointer (some ⟨Bt,0,none⟩)] W fun e W' =>
     (e = .returned (.bool true) ∧ J (pre ++ toksW d x) W' ∧ KeepC w0.heap.size Bs W W') ∨ (e = .returned (.bool false) ∧ ∃ q,Jx q W')
theorem prot_two {Bs : Nat} {W : World} {b : Nat} {u v : Value} {t : TypeId} (h : Prot Bs W b #[u,v] t) : W.cell? ⟨b,0,none⟩ = some u ∧ W.cell? ⟨b,1,none⟩ = some v:=by
 constructor <;> simp [World.cell?,h.at']
theorem tell_arr (l Bs N By Bt n : Nat) (w0 : World) (S : Nat → Prop) (hS : ∀ b, S b → b < w0.heap.size) (J Jx : List L → World → Prop) (hJ : ∀ pre W W', J pre W → Below W.heap.size W W' → J pre W') (hY : ∀ (m : Nat) pre x W, J pre W → pre.length < N → YieldAt Fence.wide m Tryz.prog l (encW x) W fun e W' => (e = .returned (.bool true) ∧ J (pre ++ [x]) W' ∧ KeepC w0.heap.size Bs W W') ∨ (e = .returned (.bool false) ∧ ∃ q, Jx q W'))
   (d : Nat) (IH : TellC w0 l Bs By Bt N J Jx S d) (o : Ob) (p1 p2 : Option Addr) (n1 c1 c2 : Nat) (hR : RowAt S d w0 (.slice p2 o.kids.length c2) o.kids) (hok : okO (d + 1) o) (h6 : o.kind = 6)
   (pre : List L) (W : World) (hW : TW w0 l Bs By Bt W) (h0 : J pre W) (hN : pre.length + (toksW (d + 1) o).length ≤ N) :
   CallsIn Fence.wide n Tryz.prog 192 #[.agg #[.int .i64 o.kind,.int .i64 o.n,.int .i64 o.g,.string ⟨o.s.toArray⟩,.slice p1 n1 c1,.slice p2 o.kids.length c2],.pointer (some ⟨By,0,none⟩),.pointer (some ⟨Bt,0,none⟩)] W fun e W' =>
     (e = .returned (.bool true) ∧ J (pre ++ toksW (d + 1) o) W' ∧ KeepC w0.heap.size Bs W W') ∨ (e = .returned (.bool false) ∧ ∃ q,Jx q W'):=by
 have hro : Fence.wide.round = none:=rfl
 have htk : toksW (d + 1) o = [91] :: (memK d o o.kids.length ++ [[93]]):=by
   rw [toksW_mem (.inl h6) (by omega)];simp [headT,endT,h6]
 have hpfx : ∀ i (hi : i < o.kids.length) q,q <+: toksW d (o.kids.getD i .zero) → [91] :: (memK d o i ++ q) <+: toksW (d + 1) o:=fun i hi q hq => by
   have:=mem_prefix (q:=q) hi (by simpa [keyK,h6] using hq) (toksW (d + 1) o) (toksW_mem (.inl h6) (by omega))
   simpa [headT,h6] using this
 have hstep : ∀ i,memK d o (i + 1) = memK d o i ++ toksW d (o.kids.getD i .zero):=fun i => by simp [memK,keyK,h6]
 have hko : ∀ x ∈ o.kids,okO d x:=hok.2.2.2.2.2.2
 have hk8 : o.kids.length ≤ 8191:=hok.2.2.2.2.1
 obtain ⟨ts,hts⟩ : ∃ ts,toksW (d + 1) o = ts:=⟨_,rfl⟩
 rw [hts] at hN htk
 have HP:=Lh hpfx
 have HM:=Lh hstep
 have HKO:=Lh hko
 have HS:=Lh hS
 have HI:=Lh IH
 have HR:=Lh hR
 have HY:=Lh hY
 have HJ:=Lh hJ
 have HW:=Lh hW
 have HN:=Lh hN
 have HT:=Lh htk
 have HE:=Lh hts
 clear hok hY hJ hN IH hR hS hko hpfx hstep htk hts
 rw [HE.out]
 obtain ⟨nk,hnk⟩ : ∃ nk,o.kids.length = nk:=⟨_,rfl⟩
 rw [hnk] at HR hk8 HT HP ⊢
 rw [h6]
 obtain ⟨K,hK⟩ : ∃ K : Int,(6 : Int) = K:=⟨_,rfl⟩
 rw [hK]
 have k6 : (K == 6) = true:=by rw [← hK];rfl
 have k7 : (K == 7) = false:=by rw [← hK];rfl
 clear hK h6
 generalize o.n = NN at *
 generalize o.g = G at *
 generalize o.s = s at *
 obtain ⟨W1,hW1⟩ : ∃ W1,((W.alloc (.cells #[.int .i64 K,.int .i64 NN,.int .i64 G,.string ⟨s.toArray⟩,.slice p1 n1 c1,.slice p2 nk c2] 26)).alloc (.cells #[.string ⟨#[91]⟩,.string ⟨#[93]⟩] 203)) = W1:=⟨_,rfl⟩
 have hb1 : Below W.heap.size W W1:=by rw [← hW1];exact bel
 have hTW1:=hW.below hb1
 have hO1 : Prot Bs W1 W.heap.size #[.int .i64 K,.int .i64 NN,.int .i64 G,.string ⟨s.toArray⟩,.slice p1 n1 c1,.slice p2 nk c2] 26 :=
   Prot.new hW.safe hW.lt hb1 (Nat.le_refl _) (by rw [← hW1,Below.heap_alloc _ _ _ (by simp)];exact heap_new_at _ _ _ rfl)
 have hE1 : Prot Bs W1 (W.heap.size + 1) #[.string ⟨#[91]⟩,.string ⟨#[93]⟩] 203 :=
   Prot.new hW.safe hW.lt hb1 (by omega) (by rw [← hW1];exact heap_new_at _ _ _ (by simp))
 have hJ1:=HJ.out _ _ _ h0 hb1
 have hK1 : KeepC w0.heap.size Bs W W1:=KeepC.of_below hW.lt hW.base.size hb1
 obtain ⟨fn,tmps,assign,body,hy,hR1⟩:=HY.out (n - 1) pre [91] W1 hJ1 (by have:=HN.out;rw [HT.out] at this;simp at this;omega)
 have HRR:=Lh hR1
 have hyc:=prot_cell hTW1.y
 obtain ⟨e0,e1⟩:=prot_two hE1
 have H1:=Lh (And.intro hTW1 (And.intro hO1 (And.intro hE1 hK1)))
 unfold encW at hy
 obtain ⟨q0,q1,q2,q3,q4,q5,qf⟩:=six_of hO1.at'
 clear hR1 hTW1 hO1 hE1 hK1 hJ1 hW q1 q2 q3 q4 q5 qf
 refine callsIn_of_wp Tryz.func192 rfl trivial ?_ hro
 simp only [Tryz.ntmps192,List.size_toArray,List.length_cons,List.length_nil,Nat.reduceAdd,Nat.reduceSub,Array.replicate_succ,Array.replicate_zero,List.push_toArray,List.append_toArray,List.nil_append,List.cons_append]
 gi_wp2
 first | (refine HRR.out.mono ?_) | (refine ⟨fun h => (by simp [Fence.wide] at h),?_⟩;refine HRR.out.mono ?_)
 rintro e W2 (⟨rfl,hJ2,hk2⟩ | ⟨rfl,q,hq⟩)
 rotate_left
 · gi_wp2
   go_ret
   exact .inr ⟨rfl,q,hq⟩
 have H2:=Lh (show TW w0 l Bs By Bt W2 ∧ Prot Bs W2 W.heap.size #[.int .i64 K,.int .i64 NN,.int .i64 G,.string ⟨s.toArray⟩,.slice p1 n1 c1,.slice p2 nk c2] 26 ∧ Prot Bs W2 (W.heap.size + 1) #[.string ⟨#[91]⟩,.string ⟨#[93]⟩] 203 ∧ KeepC w0.heap.size Bs W W2 from
   ⟨H1.out.1.keep hk2,hk2.other _ _ _ H1.out.2.1,hk2.other _ _ _ H1.out.2.2.1,H1.out.2.2.2.trans hk2⟩)
 clear hk2 H1 HRR hy hyc e0 e1 hb1 q0 hW1
 obtain ⟨_,_,_,_,_,q5,_⟩:=six_of H2.out.2.1.at'
 have HJ2:=Lh (show J (pre ++ [91] :: memK d o 0) W2 from hJ2)
 clear hJ2
 gi_wp2
 gi_loopw [40] (fun i wr => ∃ (k : Nat),k ≤ nk ∧ i = .int .i64 k ∧ Hid (TW w0 l Bs By Bt wr ∧ Prot Bs wr W.heap.size #[.int .i64 K,.int .i64 NN,.int .i64 G,.string ⟨s.toArray⟩,.slice p1 n1 c1,.slice p2 nk c2] 26 ∧ Prot Bs wr (W.heap.size + 1) #[.string ⟨#[91]⟩,.string ⟨#[93]⟩] 203 ∧ KeepC w0.heap.size Bs W wr) ∧ Hid (J (pre ++ [91] :: memK d o k) wr)) (fun i _ => nk - (intOf i).toNat)
 case atStart => exact ⟨0,Nat.zero_le _,rfl,H2,HJ2⟩
 case round =>
   obtain ⟨k,hk,rfl,HQ,HJk⟩:=hrel
   by_cases hlt : k < nk
   · have hd : decide ((k : Int) < (nk : Int)) = true:=by simp;omega
     have hp2 : ∃ b off,p2 = some ⟨b,off,none⟩:=by
       rcases HR.out with ⟨e,_⟩ | ⟨b,off,c,e,_⟩
       · rw [e] at hnk;simp at hnk;omega
       · cases e;exact ⟨_,_,rfl⟩
     obtain ⟨b,off,rfl⟩:=hp2
     obtain ⟨x,xp1,xn1,xc1,xp2,xn2,xc2,hx,hxm,hSb,hXO,y0,y1,y2,y3,y4,y5⟩:=row_kid (HR.out) hnk k hlt
     have hbl:=HS.out b hSb
     have hbase:=HQ.out.1.base
     have c0:=(hbase.cell (p:=⟨b,off + k * 6,none⟩) hbl).trans y0
     have c1':=(hbase.cell (p:=⟨b,off + k * 6 + 1,none⟩) hbl).trans y1
     have c2':=(hbase.cell (p:=⟨b,off + k * 6 + 2,none⟩) hbl).trans y2
     have c3':=(hbase.cell (p:=⟨b,off + k * 6 + 3,none⟩) hbl).trans y3
     have c4':=(hbase.cell (p:=⟨b,off + k * 6 + 4,none⟩) hbl).trans y4
     have c5':=(hbase.cell (p:=⟨b,off + k * 6 + 5,none⟩) hbl).trans y5
     unfold objCells at hXO
     obtain ⟨wx,hwx⟩ : ∃ wx,wr.alloc (.cells #[.int .i64 x.kind,.int .i64 x.n,.int .i64 x.g,.string ⟨x.s.toArray⟩,.slice xp1 xn1 xc1,.slice xp2 xn2 xc2] 26) = wx:=⟨_,rfl⟩
     have hbx : Below wr.heap.size wr wx:=by rw [← hwx];exact bel
     have hTX:=HQ.out.1.below hbx
     have hOX:=HQ.out.2.1.below HQ.out.1.lt hbx
     have hEX:=HQ.out.2.2.1.below HQ.out.1.lt hbx
     have hKX:=HQ.out.2.2.2.trans (KeepC.of_below HQ.out.1.lt hbase.size hbx)
     have hJX:=HJ.out _ _ _ HJk.out hbx
     obtain ⟨x0,x1,x2,x3,x4,x5,_⟩:=six_of (show wx.heap[wr.heap.size]? = some _ by rw [← hwx];exact heap_new_at _ _ _ rfl)
     have hCall:=Lh (HI.out x _ (n - 1) _ wx hXO (HKO.out x hxm) hTX hJX (by
       have h1:=(HP.out k hlt (toksW d x) (by rw [hx];exact List.prefix_refl _)).length_le
       rw [HE.out] at h1
       have:=HN.out
       simp at h1 ⊢
       omega))
     obtain ⟨z0,_,_,_,_,_,_⟩:=six_of hOX.at'
     have tc:=prot_cell hTX.t
     have yc:=prot_cell hTX.y
     have HX:=Lh (And.intro hTX (And.intro hOX (And.intro hEX hKX)))
     have HMk:=Lh (show memK d o k ++ toksW d x = memK d o (k + 1) by rw [HM.out,hx])
     clear hTX hOX hEX hKX hJX hbx y0 y1 y2 y3 y4 y5 hXO hx hxm hbase
     gi_wp2
     refine ⟨trivial,fun h => (by simp [Fence.wide] at h),?_⟩
     refine hCall.out.mono ?_
     rintro e W3 (⟨rfl,hJ3,hk3⟩ | ⟨rfl,q,hq⟩)
     · have HJ3:=Lh (show J (pre ++ [91] :: memK d o (k + 1)) W3 by rw [← HMk.out];simpa using hJ3)
       clear hJ3 c0 c1' c2' c3' c4' c5' x0 x1 x2 x3 x4 x5 z0 tc yc hCall
       gi_wp2
       go_roundw
       case rel => exact ⟨k + 1,by omega,by go_num,Lh ⟨HX.out.1.keep hk3,hk3.other _ _ _ HX.out.2.1,hk3.other _ _ _ HX.out.2.2.1,HX.out.2.2.2.trans hk3⟩,HJ3⟩
       case measure => simp [intOf];omega
     · clear c0 c1' c2' c3' c4' c5' x0 x1 x2 x3 x4 x5 z0 tc yc hCall
       gi_wp2
       go_ret
       exact .inr ⟨rfl,q,hq⟩
   · have hd : decide ((k : Int) < (nk : Int)) = false:=by simp;omega
     obtain rfl : k = nk:=by omega
     have yc:=prot_cell HQ.out.1.y
     obtain ⟨_,e1⟩:=prot_two HQ.out.2.2.1
     obtain ⟨fn,tmps,assign,body,hy,hR1⟩:=HY.out (n - 1) _ [93] wr HJk.out (by have:=HN.out;rw [HT.out] at this;simp at this ⊢;omega)
     have HRR:=Lh hR1
     unfold encW at hy
     clear hR1
     gi_wp2
     first | (refine HRR.out.mono ?_) | (refine ⟨fun h => (by simp [Fence.wide] at h),?_⟩;refine HRR.out.mono ?_)
     rintro e W3 (⟨rfl,hJ3,hk3⟩ | ⟨rfl,q,hq⟩)
     · have HJ3:=Lh (show J (pre ++ ts) W3 by rw [HT.out];simpa using hJ3)
       clear hJ3
       gi_wp2
       go_ret
       exact .inl ⟨rfl,HJ3.out,HQ.out.2.2.2.trans hk3⟩
     · gi_wp2
       go_ret
       exact .inr ⟨rfl,q,hq⟩
open Go.RowKit Go.Shelf Fo
attribute [local go_sem] Oper.semAt_some
theorem tell_dict (l Bs N By Bt n : Nat) (w0 : World) (S : Nat → Prop) (hS : ∀ b, S b → b < w0.heap.size) (J Jx : List L → World → Prop) (hJ : ∀ pre W W', J pre W → Below W.heap.size W W' → J pre W') (hY : ∀ (m : Nat) pre x W, J pre W → pre.length < N → YieldAt Fence.wide m Tryz.prog l (encW x) W fun e W' => (e = .returned (.bool true) ∧ J (pre ++ [x]) W' ∧ KeepC w0.heap.size Bs W W') ∨ (e = .returned (.bool false) ∧ ∃ q, Jx q W'))
   (d : Nat) (IH : TellC w0 l Bs By Bt N J Jx S d) (o : Ob) (p1 p2 : Option Addr) (c1 c2 : Nat) (hKy : KeysAt S w0 (.slice p1 o.keys.length c1) o.keys) (hR : RowAt S d w0 (.slice p2 o.kids.length c2) o.kids) (hok : okO (d + 1) o) (h6 : o.kind = 7)
   (pre : List L) (W : World) (hW : TW w0 l Bs By Bt W) (h0 : J pre W) (hN : pre.length + (toksW (d + 1) o).length ≤ N) :
   CallsIn Fence.wide n Tryz.prog 192 #[.agg #[.int .i64 o.kind,.int .i64 o.n,.int .i64 o.g,.string ⟨o.s.toArray⟩,.slice p1 o.keys.length c1,.slice p2 o.kids.length c2],.pointer (some ⟨By,0,none⟩),.pointer (some ⟨Bt,0,none⟩)] W fun e W' =>
     (e = .returned (.bool true) ∧ J (pre ++ toksW (d + 1) o) W' ∧ KeepC w0.heap.size Bs W W') ∨ (e = .returned (.bool false) ∧ ∃ q,Jx q W'):=by
 have hro : Fence.wide.round = none:=rfl
 have hkl : o.keys.length = o.kids.length:=((keysB_iff o (.inl h6)).1 hok.2.2.2.2.2.1).len
 have hnm:=((keysB_iff o (.inl h6)).1 hok.2.2.2.2.2.1).name
 have htk : toksW (d + 1) o = [60,60] :: (memK d o o.kids.length ++ [[62,62]]):=by
   rw [toksW_mem (.inr h6) (fun _ => hkl)];simp [headT,endT,h6]
 have hpfx : ∀ i (hi : i < o.kids.length) q,q <+: nameW (o.keys.getD i []) :: toksW d (o.kids.getD i .zero) → [60,60] :: (memK d o i ++ q) <+: toksW (d + 1) o:=fun i hi q hq => by
   have:=mem_prefix (q:=q) hi (by simpa [keyK,h6] using hq) (toksW (d + 1) o) (toksW_mem (.inr h6) (fun _ => hkl))
   simpa [headT,h6] using this
 have hstep : ∀ i,memK d o (i + 1) = memK d o i ++ nameW (o.keys.getD i []) :: toksW d (o.kids.getD i .zero):=fun i => by simp [memK,keyK,h6]
 have hko : ∀ x ∈ o.kids,okO d x:=hok.2.2.2.2.2.2
 have hk8 : o.kids.length ≤ 8191:=hok.2.2.2.2.1
 obtain ⟨ts,hts⟩ : ∃ ts,toksW (d + 1) o = ts:=⟨_,rfl⟩
 rw [hts] at hN htk
 rw [hkl] at hKy
 have HKy:=Lh hKy
 have HNm:=Lh hnm
 have HP:=Lh hpfx
 have HM:=Lh hstep
 have HKO:=Lh hko
 have HS:=Lh hS
 have HI:=Lh IH
 have HR:=Lh hR
 have HY:=Lh hY
 have HJ:=Lh hJ
 have HW:=Lh hW
 have HN:=Lh hN
 have HT:=Lh htk
 have HE:=Lh hts
 clear hok hY hJ hN IH hR hS hko hpfx hstep htk hts hKy hnm
 rw [HE.out,hkl]
 obtain ⟨nk,hnk⟩ : ∃ nk,o.kids.length = nk:=⟨_,rfl⟩
 rw [hnk] at HR hk8 HT HP HKy hkl ⊢
 rw [h6]
 obtain ⟨K,hK⟩ : ∃ K : Int,(7 : Int) = K:=⟨_,rfl⟩
 rw [hK]
 have k7 : (K == 7) = true:=by rw [← hK];rfl
 have k6 : (K == 6) = false:=by rw [← hK];rfl
 clear hK h6
 generalize o.n = NN at *
 generalize o.g = G at *
 generalize o.s = s at *
 obtain ⟨W1,hW1⟩ : ∃ W1,((W.alloc (.cells #[.int .i64 K,.int .i64 NN,.int .i64 G,.string ⟨s.toArray⟩,.slice p1 nk c1,.slice p2 nk c2] 26)).alloc (.cells #[.string ⟨#[60,60]⟩,.string ⟨#[62,62]⟩] 203)) = W1:=⟨_,rfl⟩
 have hb1 : Below W.heap.size W W1:=by rw [← hW1];exact bel
 have hTW1:=hW.below hb1
 have hO1 : Prot Bs W1 W.heap.size #[.int .i64 K,.int .i64 NN,.int .i64 G,.string ⟨s.toArray⟩,.slice p1 nk c1,.slice p2 nk c2] 26 :=
   Prot.new hW.safe hW.lt hb1 (Nat.le_refl _) (by rw [← hW1,Below.heap_alloc _ _ _ (by simp)];exact heap_new_at _ _ _ rfl)
 have hE1 : Prot Bs W1 (W.heap.size + 1) #[.string ⟨#[60,60]⟩,.string ⟨#[62,62]⟩] 203 :=
   Prot.new hW.safe hW.lt hb1 (by omega) (by rw [← hW1];exact heap_new_at _ _ _ (by simp))
 have hJ1:=HJ.out _ _ _ h0 hb1
 have hK1 : KeepC w0.heap.size Bs W W1:=KeepC.of_below hW.lt hW.base.size hb1
 obtain ⟨fn,tmps,assign,body,hy,hR1⟩:=HY.out (n - 1) pre [60,60] W1 hJ1 (by have:=HN.out;rw [HT.out] at this;simp at this;omega)
 have HRR:=Lh hR1
 have hyc:=prot_cell hTW1.y
 obtain ⟨e0,e1⟩:=prot_two hE1
 have H1:=Lh (And.intro hTW1 (And.intro hO1 (And.intro hE1 hK1)))
 unfold encW at hy
 obtain ⟨q0,q1,q2,q3,q4,q5,qf⟩:=six_of hO1.at'
 clear hR1 hTW1 hO1 hE1 hK1 hJ1 hW q1 q2 q3 q4 q5 qf
 refine callsIn_of_wp Tryz.func192 rfl trivial ?_ hro
 simp only [Tryz.ntmps192,List.size_toArray,List.length_cons,List.length_nil,Nat.reduceAdd,Nat.reduceSub,Array.replicate_succ,Array.replicate_zero,List.push_toArray,List.append_toArray,List.nil_append,List.cons_append]
 gi_wp2
 first | (refine HRR.out.mono ?_) | (refine ⟨fun h => (by simp [Fence.wide] at h),?_⟩;refine HRR.out.mono ?_)
 rintro e W2 (⟨rfl,hJ2,hk2⟩ | ⟨rfl,q,hq⟩)
 rotate_left
 · gi_wp2
   go_ret
   exact .inr ⟨rfl,q,hq⟩
 have H2:=Lh (show TW w0 l Bs By Bt W2 ∧ Prot Bs W2 W.heap.size #[.int .i64 K,.int .i64 NN,.int .i64 G,.string ⟨s.toArray⟩,.slice p1 nk c1,.slice p2 nk c2] 26 ∧ Prot Bs W2 (W.heap.size + 1) #[.string ⟨#[60,60]⟩,.string ⟨#[62,62]⟩] 203 ∧ KeepC w0.heap.size Bs W W2 from
   ⟨H1.out.1.keep hk2,hk2.other _ _ _ H1.out.2.1,hk2.other _ _ _ H1.out.2.2.1,H1.out.2.2.2.trans hk2⟩)
 clear hk2 H1 HRR hy hyc e0 e1 hb1 q0 hW1
 obtain ⟨_,_,_,_,_,q5,_⟩:=six_of H2.out.2.1.at'
 have HJ2:=Lh (show J (pre ++ [60,60] :: memK d o 0) W2 from hJ2)
 clear hJ2
 gi_wp2
 gi_loopw [40] (fun i wr => ∃ (k : Nat),k ≤ nk ∧ i = .int .i64 k ∧ Hid (TW w0 l Bs By Bt wr ∧ Prot Bs wr W.heap.size #[.int .i64 K,.int .i64 NN,.int .i64 G,.string ⟨s.toArray⟩,.slice p1 nk c1,.slice p2 nk c2] 26 ∧ Prot Bs wr (W.heap.size + 1) #[.string ⟨#[60,60]⟩,.string ⟨#[62,62]⟩] 203 ∧ KeepC w0.heap.size Bs W wr) ∧ Hid (J (pre ++ [60,60] :: memK d o k) wr)) (fun i _ => nk - (intOf i).toNat)
 case atStart => exact ⟨0,Nat.zero_le _,rfl,H2,HJ2⟩
 case round =>
   obtain ⟨k,hk,rfl,HQ,HJk⟩:=hrel
   by_cases hlt : k < nk
   · have hd : decide ((k : Int) < (nk : Int)) = true:=by simp;omega
     have hp2 : ∃ b off,p2 = some ⟨b,off,none⟩:=by
       rcases HR.out with ⟨e,_⟩ | ⟨b,off,c,e,_⟩
       · rw [e] at hnk;simp at hnk;omega
       · cases e;exact ⟨_,_,rfl⟩
     obtain ⟨b,off,rfl⟩:=hp2
     have hp1 : ∃ kb ko,p1 = some ⟨kb,ko,none⟩ ∧ S kb ∧ w0.cell? ⟨kb,ko + k,none⟩ = some (.string ⟨(o.keys.getD k []).toArray⟩):=by
       rcases HKy.out with ⟨e,_⟩ | ⟨kb,ko,kc,e,hSk,hcell⟩
       · rw [e] at hkl;simp at hkl;omega
       · cases e;refine ⟨_,_,rfl,hSk,?_⟩
         rw [hcell k (by omega)];simp [List.getD,show k < o.keys.length by omega]
     obtain ⟨kb,ko,rfl,hSk,hkc⟩:=hp1
     obtain ⟨key,hkey⟩ : ∃ key,o.keys.getD k [] = key:=⟨_,rfl⟩
     have hkn : nameB key = true:=HNm.out key (by rw [← hkey,List.getD_eq_getElem?_getD,List.getElem?_eq_getElem (show k < o.keys.length by omega)];exact List.getElem_mem _)
     rw [hkey] at hkc
     obtain ⟨x,xp1,xn1,xc1,xp2,xn2,xc2,hx,hxm,hSb,hXO,y0,y1,y2,y3,y4,y5⟩:=row_kid (HR.out) hnk k hlt
     have hbl:=HS.out b hSb
     have hbase:=HQ.out.1.base
     have c0:=(hbase.cell (p:=⟨b,off + k * 6,none⟩) hbl).trans y0
     have c1':=(hbase.cell (p:=⟨b,off + k * 6 + 1,none⟩) hbl).trans y1
     have c2':=(hbase.cell (p:=⟨b,off + k * 6 + 2,none⟩) hbl).trans y2
     have c3':=(hbase.cell (p:=⟨b,off + k * 6 + 3,none⟩) hbl).trans y3
     have c4':=(hbase.cell (p:=⟨b,off + k * 6 + 4,none⟩) hbl).trans y4
     have c5':=(hbase.cell (p:=⟨b,off + k * 6 + 5,none⟩) hbl).trans y5
     unfold objCells at hXO
     obtain ⟨wx,hwx⟩ : ∃ wx,wr.alloc (.cells #[.int .i64 x.kind,.int .i64 x.n,.int .i64 x.g,.string ⟨x.s.toArray⟩,.slice xp1 xn1 xc1,.slice xp2 xn2 xc2] 26) = wx:=⟨_,rfl⟩
     have hbx : Below wr.heap.size wr wx:=by rw [← hwx];exact bel
     have hTX:=HQ.out.1.below hbx
     have hOX:=HQ.out.2.1.below HQ.out.1.lt hbx
     have hEX:=HQ.out.2.2.1.below HQ.out.1.lt hbx
     have hKX:=HQ.out.2.2.2.trans (KeepC.of_below HQ.out.1.lt hbase.size hbx)
     have hJX:=HJ.out _ _ _ HJk.out hbx
     obtain ⟨x0,x1,x2,x3,x4,x5,_⟩:=six_of (show wx.heap[wr.heap.size]? = some _ by rw [← hwx];exact heap_new_at _ _ _ rfl)
     obtain ⟨z0,_,_,_,_,_,_⟩:=six_of hOX.at'
     obtain ⟨_,_,_,_,z4,_,_⟩:=six_of hOX.at'
     have hPX : Prot Bs wx wr.heap.size #[.int .i64 x.kind,.int .i64 x.n,.int .i64 x.g,.string ⟨x.s.toArray⟩,.slice xp1 xn1 xc1,.slice xp2 xn2 xc2] 26 :=
       Prot.new HQ.out.1.safe HQ.out.1.lt hbx (Nat.le_refl _) (by rw [← hwx];exact heap_new_at _ _ _ rfl)
     have kc:=(hTX.base.cell (p:=⟨kb,ko + k,none⟩) (HS.out kb hSk)).trans hkc
     have HX:=Lh (And.intro hTX (And.intro hOX (And.intro hEX (And.intro hKX (And.intro hPX hJX)))))
     have HMk:=Lh (show memK d o k ++ nameW key :: toksW d x = memK d o (k + 1) by rw [HM.out,hx,hkey])
     have HXO:=Lh hXO
     have HPk:=Lh (show ∀ q,q <+: nameW key :: toksW d x → [60,60] :: (memK d o k ++ q) <+: ts by rw [← hkey,← hx,← HE.out];exact HP.out k hlt)
     clear hTX hOX hEX hKX hJX hbx y0 y1 y2 y3 y4 y5 hXO hx hbase hkc hkey hPX
     gi_wp2
     refine ⟨trivial,fun h => (by simp [Fence.wide] at h),?_⟩
     refine (callsIn_wide.2 (pName_in key hkn wx)).mono ?_
     rintro e w4 ⟨rfl,hb4⟩
     have hT4:=HX.out.1.below hb4
     have yc:=prot_cell hT4.y
     have hJ4:=HJ.out _ _ _ HX.out.2.2.2.2.2 hb4
     have H4:=Lh (And.intro hT4 (And.intro (HX.out.2.1.below HX.out.1.lt hb4) (And.intro (HX.out.2.2.1.below HX.out.1.lt hb4) (And.intro (HX.out.2.2.2.1.trans (KeepC.of_below HX.out.1.lt HX.out.1.base.size hb4)) (HX.out.2.2.2.2.1.below HX.out.1.lt hb4)))))
     obtain ⟨fn,tmps,assign,body,hy,hR1⟩:=HY.out (n - 1) _ (nameW key) w4 hJ4 (lt_of_pre (HPk.out [nameW key] (List.cons_prefix_cons.2 ⟨rfl,List.nil_prefix⟩)) HN.out)
     have HRR:=Lh hR1
     unfold encW at hy
     clear hR1 hT4 hJ4 hb4 c0 c1' c2' c3' c4' c5' x0 x1 x2 x3 x4 x5 z0 z4 kc HX hkn
     gi_wp2
     first | (refine HRR.out.mono ?_) | (refine ⟨fun h => (by simp [Fence.wide] at h),?_⟩;refine HRR.out.mono ?_)
     rintro e W5 (⟨rfl,hJ5,hk5⟩ | ⟨rfl,q,hq⟩)
     rotate_left
     · gi_wp2
       go_ret
       exact .inr ⟨rfl,q,hq⟩
     have HX:=Lh (And.intro (H4.out.1.keep hk5) (And.intro (hk5.other _ _ _ H4.out.2.1) (And.intro (hk5.other _ _ _ H4.out.2.2.1) (H4.out.2.2.2.1.trans hk5))))
     have tc:=prot_cell HX.out.1.t
     obtain ⟨x0,x1,x2,x3,x4,x5,_⟩:=six_of (hk5.other _ _ _ H4.out.2.2.2.2).at'
     have hCall:=Lh (HI.out x _ (n - 1) _ W5 HXO.out (HKO.out x hxm) HX.out.1 hJ5 (by
       have h1:=(HPk.out (nameW key :: toksW d x) (List.prefix_refl _)).length_le
       have:=HN.out
       simp at h1 ⊢
       omega))
     clear hJ5 hk5 H4 HRR hy yc
     gi_wp2
     refine ⟨trivial,fun h => (by simp [Fence.wide] at h),?_⟩
     refine hCall.out.mono ?_
     rintro e W3 (⟨rfl,hJ3,hk3⟩ | ⟨rfl,q,hq⟩)
     · have HJ3:=Lh (show J (pre ++ [60,60] :: memK d o (k + 1)) W3 by rw [← HMk.out];simpa using hJ3)
       clear hJ3 x0 x1 x2 x3 x4 x5 tc hCall
       gi_wp2
       go_roundw
       case rel => exact ⟨k + 1,by omega,by go_num,Lh ⟨HX.out.1.keep hk3,hk3.other _ _ _ HX.out.2.1,hk3.other _ _ _ HX.out.2.2.1,HX.out.2.2.2.trans hk3⟩,HJ3⟩
       case measure => simp [intOf];omega
     · clear x0 x1 x2 x3 x4 x5 tc hCall
       gi_wp2
       go_ret
       exact .inr ⟨rfl,q,hq⟩
   · have hd : decide ((k : Int) < (nk : Int)) = false:=by simp;omega
     obtain rfl : k = nk:=by omega
     have yc:=prot_cell HQ.out.1.y
     obtain ⟨_,e1⟩:=prot_two HQ.out.2.2.1
     obtain ⟨fn,tmps,assign,body,hy,hR1⟩:=HY.out (n - 1) _ [62,62] wr HJk.out (by have:=HN.out;rw [HT.out] at this;simp at this ⊢;omega)
     have HRR:=Lh hR1
     unfold encW at hy
     clear hR1
     gi_wp2
     first | (refine HRR.out.mono ?_) | (refine ⟨fun h => (by simp [Fence.wide] at h),?_⟩;refine HRR.out.mono ?_)
     rintro e W3 (⟨rfl,hJ3,hk3⟩ | ⟨rfl,q,hq⟩)
     · have HJ3:=Lh (show J (pre ++ ts) W3 by rw [HT.out];simpa using hJ3)
       clear hJ3
       gi_wp2
       go_ret
       exact .inl ⟨rfl,HJ3.out,HQ.out.2.2.2.trans hk3⟩
     · gi_wp2
       go_ret
       exact .inr ⟨rfl,q,hq⟩
open Go.RowKit Go.Shelf Fo
attribute [local go_sem] Oper.semAt_some
theorem tell_in (l Bs N By Bt : Nat) (w0 : World) (hT : TabP w0) (S : Nat → Prop) (hS : ∀ b, S b → b < w0.heap.size) (J Jx : List L → World → Prop) (hJ : ∀ pre W W', J pre W → Below W.heap.size W W' → J pre W') (hY : ∀ (m : Nat) pre x W, J pre W → pre.length < N → YieldAt Fence.wide m Tryz.prog l (encW x) W fun e W' => (e = .returned (.bool true) ∧ J (pre ++ [x]) W' ∧ KeepC w0.heap.size Bs W W') ∨ (e = .returned (.bool false) ∧ ∃ q, Jx q W')) :
   ∀ d,TellC w0 l Bs By Bt N J Jx S d
 | 0 => fun x ks n pre W hx _ _ _ _ => hx.elim
 | d + 1 => fun x ks n pre W hx hok hW h0 hN => by
   have IH:=tell_in l Bs N By Bt w0 hT S hS J Jx hJ hY d
   obtain ⟨p1,c1,p2,c2,e⟩:=hx.form2
   obtain ⟨kv,dv,e2,hK,hR0⟩:=hx
   have hR : RowAt S d w0 dv x.kids:=hR0
   clear hR0
   have e3 : kv = .slice p1 x.keys.length c1 ∧ dv = .slice p2 x.kids.length c2:=by
     rw [e] at e2
     unfold objCells at e2
     simp at e2
     exact ⟨by simpa using e2.1.symm,by simpa using e2.2.symm⟩
   obtain ⟨rfl,rfl⟩:=e3
   by_cases h6 : x.kind = 6
   · rw [e];exact tell_arr l Bs N By Bt n w0 S hS J Jx hJ hY d IH x p1 p2 _ c1 c2 hR hok h6 pre W hW h0 hN
   by_cases h7 : x.kind = 7
   · rw [e];exact tell_dict l Bs N By Bt n w0 S hS J Jx hJ hY d IH x p1 p2 c1 c2 hK hR hok h7 pre W hW h0 hN
   have ht : toksW (d + 1) x = leafW x:=by unfold toksW;rw [if_neg h6,if_neg h7]
   rw [ht] at hN ⊢
   exact tell_leaf l Bs N By Bt n w0 hT J Jx hJ hY d x ks p1 p2 _ c1 _ c2 e hok h6 h7 pre W hW h0 hN
theorem round_wide {m m' : Nat} {P : Program} {l : Nat} {f : FuncId} {tmps : Array Value} {assign body : Code} {w : World} {R : Ending → World → Prop}
   (h : RoundIn Fence.wide m P l f tmps assign body w R) : RoundIn Fence.wide m' P l f tmps assign body w R:=⟨h.1,fun c cs _ => h.2 c cs (room_wide _)⟩
theorem yield_wide {m m' : Nat} {P : Program} {l : Nat} {args : Array Value} {w : World} {R : Ending → World → Prop} (h : YieldAt Fence.wide m P l args w R) : YieldAt Fence.wide m' P l args w R:=by
 obtain ⟨fn,tmps,assign,body,hy,hR⟩:=h
 exact ⟨fn,tmps,assign,body,hy,round_wide hR⟩
theorem parts1_stops (w0 W0 : World) (Bo : Nat) (S : Nat → Prop) (d : Nat) (o : Ob) (cs : List Value) (hT : TabP w0) (hS : ∀ b, S b → b < w0.heap.size) (ho : ObjAt S d w0 cs o) (hok : okO d o) (hBo : w0.heap[Bo]? = some (.cells cs.toArray 26 (0, 0)))
   (hb0 : Below w0.heap.size w0 W0) (hnil : W0.heap[w0.heap.size]? = some (.cells #[.slice none 0 0] 23 (0,0))) :
   SeqStopsK Fence.wide 5 Tryz.prog 191 #[.pointer (some ⟨Bo,0,none⟩)] encW (KeepC w0.heap.size w0.heap.size) (fun ys => ys = toksW d o) (fun _ => True) (toksW d o).length W0:=by
 intro l J Jx W hW hAJ hAJx hY h0
 have hmf : ∀ (fn : Fn) (first cap : Array Value) (w : World),(Instr.makeFunc fn first cap).run Tryz.prog w = .ok (.func fn first cap) w:=fun _ _ _ _ => rfl
 have hro : Fence.wide.round = none:=rfl
 have hJ : ∀ pre W W',J pre W → Below W.heap.size W W' → J pre W':=fun pre A B h hb => hAJ pre A B none h ⟨hb.os,hb.tape,hb.output,hb.size,fun k hk _ => hb.block k hk⟩ (fun r e => by cases e)
 have hBsW : w0.heap.size < W0.heap.size:=lt_of_block hnil
 have hnilW : W.heap[w0.heap.size]? = some (.cells #[.slice none 0 0] 23 (0,0)):=(hW.block _ hBsW).trans hnil
 have hbase : Below w0.heap.size w0 W:=hb0.trans (hW.mono hb0.size)
 have hsafe : Safe w0.heap.size W:=fun b hb => by
   obtain ⟨v,hv,hvb⟩:=hb
   simp [World.cell?,hnilW] at hv
   subst hv
   cases hvb
 have hlt : w0.heap.size < W.heap.size:=lt_of_block hnilW
 obtain ⟨V,hV⟩ : ∃ V,((W.alloc (.cells #[.func (.yield l) #[] #[]] 179)).alloc (.cells #[.nilFunc] 132)) = V:=⟨_,rfl⟩
 have hbV : Below W.heap.size W V:=by rw [← hV];exact bel
 have V0 : V.heap[W.heap.size]? = some (.cells #[.func (.yield l) #[] #[]] 179 (0,0)):=by rw [← hV,Below.heap_alloc _ _ _ (by simp)];exact heap_new_at _ _ _ rfl
 have V1 : Boxed V (W.heap.size + 1) 132 .nilFunc:=by rw [← hV];exact heap_new_at _ _ _ (by simp)
 obtain ⟨W1,hW1⟩ : ∃ W1,V.setCell ⟨W.heap.size + 1,0,none⟩ (.func (.func 192) #[] #[.pointer (some ⟨W.heap.size,0,none⟩),.pointer (some ⟨W.heap.size + 1,0,none⟩)]) = W1:=⟨_,rfl⟩
 have hb1 : Below W.heap.size W W1:=by rw [← hW1];exact hbV.setCell (by show W.heap.size ≤ W.heap.size + 1;omega) _
 have A1 : Boxed W1 (W.heap.size + 1) 132 (.func (.func 192) #[] #[.pointer (some ⟨W.heap.size,0,none⟩),.pointer (some ⟨W.heap.size + 1,0,none⟩)]):=by rw [← hW1];exact V1.set _
 have A0 : W1.heap[W.heap.size]? = some (.cells #[.func (.yield l) #[] #[]] 179 (0,0)):=by rw [← hW1,Below.heap_setCell _ _ _ _ (by show W.heap.size ≠ W.heap.size + 1;omega)];exact V0
 have v1:=V1.cell
 have vf:=V1.frozen
 have hst : (store ⟨W.heap.size + 1,0,none⟩ (.func (.func 192) #[] #[.pointer (some ⟨W.heap.size,0,none⟩),.pointer (some ⟨W.heap.size + 1,0,none⟩)])).run Tryz.prog V = .ok () W1:=by
   rw [run_store _ _ _ _ _ rfl]
   simp [stored,v1,vf,hW1]
 clear v1 vf
 have hTW : TW w0 l w0.heap.size W.heap.size (W.heap.size + 1) W1:=⟨hbase.trans (hb1.mono hbase.size),hsafe.below hlt hb1,Nat.lt_of_lt_of_le hlt hb1.size,Nat.le_refl _,
   Prot.new hsafe hlt hb1 (Nat.le_refl _) A0,Prot.new hsafe hlt hb1 (by omega) A1⟩
 have HC:=Lh (tell_in l w0.heap.size (toksW d o).length W.heap.size (W.heap.size + 1) w0 hT S hS J Jx hJ (fun m pre x W1 hj hl => yield_wide (YieldAt.mono (hY pre x W1 hj hl) fun e W2 h => h.elim .inl (fun ⟨h1,h2⟩ => .inr ⟨h1,_,h2⟩)))
   d o cs 4 [] W1 ho hok hTW (hJ _ _ _ h0 hb1) (by simp))
 have tc:=prot_cell hTW.t
 have hBo1:=(hTW.base.block Bo (lt_of_block hBo)).trans hBo
 obtain ⟨p1,c1,p2,c2,rfl⟩:=ho.form2
 unfold objCells at HC hBo1
 obtain ⟨x0,x1,x2,x3,x4,x5,_⟩:=six_of hBo1
 clear hY h0 hJ hAJ hAJx hT ho hok hBo hb0 hnil hTW hb1 hsafe hbase hnilW hBo1 hW hbV V0 V1 A0 A1
 refine callsIn_of_wp Tryz.func191 rfl trivial ?_ hro
 simp only [Tryz.ntmps191,List.size_toArray,List.length_cons,List.length_nil,Nat.reduceAdd,Nat.reduceSub,Array.replicate_succ,Array.replicate_zero,List.push_toArray,List.append_toArray,List.nil_append,List.cons_append]
 gi_wp2
 refine ⟨trivial,?_⟩
 refine HC.out.mono ?_
 rintro e W3 (⟨rfl,hJ3,_⟩ | ⟨rfl,q,hq⟩)
 · gi_wp2
   go_end0
   exact ⟨⟨_,rfl⟩,.inl ⟨_,rfl,by simpa using hJ3⟩⟩
 · gi_wp2
   go_end0
   exact ⟨⟨_,rfl⟩,.inr ⟨_,trivial,hq⟩⟩
theorem words_in (Bo : Nat) (w : World) (S : Nat → Prop) (d : Nat) (o : Ob) (cs : List Value) (hT : TabP w) (hS : ∀ b, S b → b < w.heap.size) (ho : ObjAt S d w cs o) (hok : okO d o) (hl : (toksW d o).length ≤ 100000000)
   (hBo : w.heap[Bo]? = some (.cells cs.toArray 26 (0,0))) :
   Calls Tryz.prog 145 #[.func (.func 191) #[] #[.pointer (some ⟨Bo,0,none⟩)]] w fun e w' =>
     ∃ v,e = .returned v ∧ KeysAt (fun b => b < w'.heap.size) w' v (toksW d o) ∧ Below w.heap.size w w':=by
 refine (collect_in 191 _ (enters_of Tryz.func191 (by kernel_rfl) rfl) (toksW d o) hl w (fun W0 h1 h2 => parts1_stops w W0 Bo S d o cs hT hS ho hok hBo h1 h2)).mono ?_
 rintro e w' ⟨v,rfl,hr,hb⟩
 refine ⟨v,rfl,?_,hb⟩
 rcases hr.2 with ⟨rfl,h0⟩ | ⟨g,cap,cur,rfl,_,hgb,_,_,_,h4⟩
 · exact .inl ⟨List.length_eq_zero_iff.1 h0,none,0,rfl⟩
 · refine .inr ⟨g,0,cap,rfl,lt_of_block hgb,fun i hi => ?_⟩
   have h5 : cur[i]? = some (strV (toksW d o)[i]):=by
     have : (cur.toList.take ((toksW d o).length * 1))[i]? = some (strV (toksW d o)[i]):=by rw [h4];simp [hi]
     rw [List.getElem?_take_of_lt (by omega)] at this
     simpa using this
   simp [World.cell?,hgb,h5,strV]
theorem obj_at_ok {S : Nat → Prop} {w : World} : ∀ (e d : Nat) {cs : List Value} {o : Ob},ObjAt S d w cs o → okO e o → ObjAt S e w cs o
 | 0,_,_,_,_,h => h.elim
 | e + 1,0,_,_,h,_ => h.elim
 | e + 1,d + 1,cs,o,h,hk => by
   obtain ⟨kv,dv,h1,h2,h3⟩:=h
   have hko : ∀ x ∈ o.kids,okO e x:=hk.2.2.2.2.2.2
   refine ⟨kv,dv,h1,h2,?_⟩
   rcases h3 with h3 | ⟨b,off,c,h4,h5,h6⟩
   · exact .inl h3
   · refine .inr ⟨b,off,c,h4,h5,fun i hi => ?_⟩
     obtain ⟨ks,g1,g2,g3⟩:=h6 i hi
     exact ⟨ks,g1,g2,obj_at_ok e d g3 (hko _ (List.getElem_mem hi))⟩
def TextOut (r : Res L) (e : Ending) : Prop:=match r with
 | .good t => e = .returned (.tuple #[.string ⟨t.toArray⟩,.int .i64 0])
 | .bad k => e = .returned (.tuple #[.string ⟨#[]⟩,.int .i64 k])
theorem wText_in (S : Nat → Prop) (d : Nat) (w : World) (cs : List Value) (o : Ob) (h : ObjAt S d w cs o) (hsm : smallO d o) (hS : ∀ b, S b → b < w.heap.size) (hT : TabP w) (hbk : okO 24 o → bulkO 24 o ≤ 2000000) :
   Calls Tryz.prog 89 #[.agg cs.toArray] w fun e w' => TextOut (writeW o) e ∧ Below w.heap.size w w':=by
 have HC:=Lh (fun (W : World) (hW : Below w.heap.size w W) => vCheck_in S d W cs o (h.kept (fun b h => hW.block b (hS b h)) d) hsm (fun b h => Nat.lt_of_lt_of_le (hS b h) hW.size))
 have HW:=Lh (fun (hok : okO 24 o) (W : World) (hW : Below w.heap.size w W) (Bo : Nat) (hBo : W.heap[Bo]? = some (.cells cs.toArray 26 (0,0))) =>
   words_in Bo W S 24 o cs (hT.below hW) (fun b h => Nat.lt_of_lt_of_le (hS b h) hW.size) (obj_at_ok 24 d (h.kept (fun b h => hW.block b (hS b h)) d) hok) hok (by
     have h1:=toksW_le 24 o hok
     have h2:=lenK_len (toksW 24 o)
     have:=hbk hok
     omega) hBo)
 have HJ := Lib.hid (fun (hok : okO 24 o) (W : World) (v : Value) (hK : KeysAt (fun b => b < W.heap.size) W v (toksW 24 o)) => join_in (fun b => b < W.heap.size) v (toksW 24 o) W hK (fun b h => h) (by
     have h1:=toksW_le 24 o hok
     have h2:=lenK_len (toksW 24 o)
     have:=hbk hok
     omega) (by
     have h1:=textW_le hok
     unfold textW at h1
     have:=hbk hok
     omega) (fun x hx => by
     have h1:=toksW_le 24 o hok
     have h2:=lenK_mem hx
     have:=hbk hok
     omega))
 obtain ⟨p1,c1,p2,c2,rfl⟩:=h.form2
 unfold objCells at HC HW ⊢
 clear h hsm hS hT hbk
 obtain ⟨C,hC⟩ : ∃ C,checkB 24 o = C:=⟨_,rfl⟩
 have HR:=Lh (show writeW o = if C ≠ 0 then .bad C else if o.kind = 9 then .bad 10 else .good (textW o) by rw [← hC];rfl)
 have HOK:=Lh (fun (h0 : C = 0) (h9 : o.kind ≠ 9) => okO_of_check (o:=o) (by rw [hC,h0]) h9)
 rw [hC] at HC
 clear hC
 obtain ⟨w1,hw1⟩ : ∃ w1,w.alloc (.cells #[.int .i64 o.kind,.int .i64 o.n,.int .i64 o.g,.string ⟨o.s.toArray⟩,.slice p1 o.keys.length c1,.slice p2 o.kids.length c2] 26) = w1:=⟨_,rfl⟩
 have hb1 : Below w.heap.size w w1:=by rw [← hw1];exact bel
 have A1 : w1.heap[w.heap.size]? = some (.cells #[.int .i64 o.kind,.int .i64 o.n,.int .i64 o.g,.string ⟨o.s.toArray⟩,.slice p1 o.keys.length c1,.slice p2 o.kids.length c2] 26 (0,0)):=by rw [← hw1];exact heap_new_at _ _ _ rfl
 obtain ⟨s0,s1,s2,s3,s4,s5,_⟩:=six_of A1
 go_enter Tryz.func89,Tryz.ntmps89
 go_wp2_with fail
 refine (HC.out w1 hb1).mono ?_
 rintro e w2 ⟨rfl,hb2⟩
 have A2:=(hb2.block _ (lt_of_block A1)).trans A1
 have hbw2:=hb1.trans (hb2.mono hb1.size)
 clear s0 s1 s2 s3 s4 s5 A1 hw1 HC
 obtain ⟨s0,s1,s2,s3,s4,s5,_⟩:=six_of A2
 by_cases hC0 : C = 0
 · subst hC0
   by_cases h9 : o.kind = 9
   · have k9 : decide (o.kind = 9) = true:=by simp [h9]
     have k9' : (o.kind == 9) = true:=by simp [h9]
     have HR2:=Lh (show writeW o = .bad 10 by rw [HR.out];simp [h9])
     clear h9 HR HOK
     go_wp2
     go_ret2
     exact ⟨by rw [HR2.out];rfl,hbw2⟩
   · have k9 : decide (o.kind = 9) = false:=by simpa using h9
     have k9' : (o.kind == 9) = false:=by simpa using h9
     have HR2:=Lh (show writeW o = .good (textW o) by rw [HR.out];simp [h9])
     have HO:=Lh (HOK.out rfl h9)
     clear h9 HR HOK
     go_wp2_with fail
     refine (wparts_in _ _ _ _ _ _ _ _ _ _ w2).mono ?_
     rintro e w3 ⟨rfl,hw3⟩
     have hb3 : Below w2.heap.size w2 w3:=by rw [hw3];exact bel
     have A3 : w3.heap[w2.heap.size]? = some (.cells #[.int .i64 o.kind,.int .i64 o.n,.int .i64 o.g,.string ⟨o.s.toArray⟩,.slice p1 o.keys.length c1,.slice p2 o.kids.length c2] 26 (0,0)):=by rw [hw3];exact heap_new_at _ _ _ rfl
     have hbw3:=hbw2.trans (hb3.mono hbw2.size)
     clear s0 s1 s2 s3 s4 s5 A2 hw3
     go_wp2_with fail
     refine (HW.out HO.out w3 hbw3 _ A3).mono ?_
     rintro e w4 ⟨v,rfl,hK,hb4⟩
     have hbw4:=hbw3.trans (hb4.mono hbw3.size)
     have HJ4:=Lh (HJ.out HO.out w4 v hK)
     clear hK A3
     go_wp2_with fail
     refine HJ4.out.mono ?_
     rintro e w5 ⟨rfl,hb5⟩
     have hbw5:=hbw4.trans (hb5.mono hbw4.size)
     go_wp2
     go_ret2
     exact ⟨by rw [HR2.out];rfl,hbw5⟩
 · have kc : (C != 0) = true:=by simpa using hC0
   have HR2:=Lh (show writeW o = .bad C by rw [HR.out,if_pos hC0])
   clear hC0 HR HOK
   go_wp2
   go_ret2
   exact ⟨by rw [HR2.out];rfl,hbw2⟩
def PartsOut (w : World) (l : List L) (e : Ending) (w' : World) : Prop:=∃ p q,e = .returned (.slice p l.length q) ∧ rownS encK 9 w' w.heap.size (.slice p l.length q) l ∧ Below w.heap.size w w'
def PartsC (S : Nat → Prop) (d : Nat) : Prop:=∀ (w : World) (cs : List Value) (o : Ob),ObjAt S d w cs o → okO d o → (∀ b,S b → b < w.heap.size) → (toksW d o).length ≤ 100000000 → Calls Tryz.prog 97 #[.agg cs.toArray] w (PartsOut w (toksW d o))
theorem row_lit (w : World) (l : List L) (B : Nat) (hB : B ≤ w.heap.size) (h : 0 < l.length) (hl : l.length ≤ 1000) : rownS encK 9 (w.alloc (.cells (l.map fun x => Value.string ⟨x.toArray⟩).toArray 9)) B (.slice (some ⟨w.heap.size,0,none⟩) l.length l.length) l:=by
 have e : encK.row l = l.map fun x => Value.string ⟨x.toArray⟩:=by
   clear h hl
   induction l with
   | nil => rfl
   | cons c l ih => show _ :: encK.row l = _;rw [ih];rfl
 have:=World.ownsRow_lit (e:=9) (size:=1) (base:=B) w (l.map fun x => Value.string ⟨x.toArray⟩).toArray l.length hB (by unfold maxLen;omega) (by simp)
 unfold rownS
 rw [e]
 have h2:=by simpa using this
 exact h2
theorem parts_leaf (o : Ob) (d : Nat) (hok : okO (d + 1) o) (h6 : o.kind ≠ 6) (h7 : o.kind ≠ 7) (h8 : o.kind ≠ 8) (p1 p2 : Option Addr) (n1 c1 n2 c2 : Nat) (w : World) :
   Calls Tryz.prog 97 #[.agg #[.int .i64 o.kind,.int .i64 o.n,.int .i64 o.g,.string ⟨o.s.toArray⟩,.slice p1 n1 c1,.slice p2 n2 c2]] w (PartsOut w (leafW o)):=by
 have HC:=Lh (fun W => r7leaf o d hok h6 h7 h8 p1 p2 n1 c1 n2 c2 W)
 have e6 : (o.kind == 6) = false:=by simpa using h6
 have e7 : (o.kind == 7) = false:=by simpa using h7
 have e8 : (o.kind == 8) = false:=by simpa using h8
 obtain ⟨LW,hLW⟩ : ∃ LW,leafW o = LW:=⟨_,rfl⟩
 rw [hLW] at HC ⊢
 clear hLW hok
 go_enter Tryz.func97,Tryz.ntmps97
 go_wp2_with fail
 refine (HC.out _).mono ?_
 rintro e w1 ⟨t,rfl,rfl,hb1⟩
 have hb01 : Below w.heap.size w w1:=((Below.refl _ w).alloc (Nat.le_refl _) _).trans (hb1.mono (by simp))
 have hz1:=hb01.size
 have hrow:=row_lit w1 [t] w.heap.size hz1 (by simp) (by simp)
 have HRW:=Lh hrow
 clear hrow hb1
 go_wp2
 go_ret
 exact ⟨_,_,rfl,HRW.out,hb01.alloc hz1 _⟩
theorem parts_ref (o : Ob) (d : Nat) (hok : okO (d + 1) o) (h8 : o.kind = 8) (p1 p2 : Option Addr) (n1 c1 n2 c2 : Nat) (w : World) :
   Calls Tryz.prog 97 #[.agg #[.int .i64 o.kind,.int .i64 o.n,.int .i64 o.g,.string ⟨o.s.toArray⟩,.slice p1 n1 c1,.slice p2 n2 c2]] w (PartsOut w (leafW o)):=by
 have hb : ((1 ≤ o.n ∧ o.n ≤ 8191) ∧ 0 ≤ o.g) ∧ o.g ≤ 65535:=by
   obtain ⟨hu,h9,hf,hs,_,hk,_⟩:=hok
   simpa [fitsB,h8] using hf
 have HC:=Lh (fun W => r7number o.n (by omega) (by omega) W)
 have HD:=Lh (fun W => r7number o.g (by omega) (by omega) W)
 have hLW : leafW o = [digI o.n,digI o.g,[82]]:=by simp [leafW,h8]
 rw [hLW,h8]
 clear hLW hok hb h8
 obtain ⟨n,hn⟩ : ∃ n,o.n = n:=⟨_,rfl⟩
 obtain ⟨g,hg⟩ : ∃ g,o.g = g:=⟨_,rfl⟩
 rw [hn] at HC ⊢
 rw [hg] at HD ⊢
 clear hn hg
 go_enter Tryz.func97,Tryz.ntmps97
 go_upto_region 4 with fail
 obtain ⟨w0,hw0⟩ : ∃ w0,w.alloc (.cells #[.int .i64 8,.int .i64 n,.int .i64 g,.string ⟨o.s.toArray⟩,.slice p1 n1 c1,.slice p2 n2 c2] 26) = w0:=⟨_,rfl⟩
 have hx : w0.heap[w.heap.size]? = some (.cells #[.int .i64 8,.int .i64 n,.int .i64 g,.string ⟨o.s.toArray⟩,.slice p1 n1 c1,.slice p2 n2 c2] 26 (0,0)):=by rw [← hw0];exact heap_new_at w _ _ rfl
 have hb0 : Below w.heap.size w w0:=by rw [← hw0];exact (Below.refl _ w).alloc (Nat.le_refl _) _
 rw [hw0]
 clear hw0
 obtain ⟨z0,z1,z2,z3,z4,z5,zf⟩:=six_of hx
 go_region_held3 (fun w' => w'.cell? ⟨w.heap.size,1,none⟩ = some (.int .i64 n) ∧ w'.cell? ⟨w.heap.size,2,none⟩ = some (.int .i64 g)) (go_keep)
   (first
     | (go_at_call 153;(with_reducible refine (HC.out _).mono ?_);rintro e w2 ⟨rfl,rfl⟩)
     | (go_at_call 153;(with_reducible refine (HD.out _).mono ?_);rintro e w2 ⟨rfl,rfl⟩))
 all_goals go_wp2
 all_goals go_ret
 all_goals exact ⟨_,_,rfl,(row_lit w0 [digI n,digI g,[82]] w.heap.size hb0.size (by simp) (by simp)).below ((Below.refl _ _).drew),(hb0.alloc hb0.size _).drew⟩
theorem memK_le {d : Nat} {o : Ob} {i : Nat} (hi : i ≤ o.kids.length) : (memK d o i).length ≤ (memK d o o.kids.length).length:=(memK_pre d o _ _ hi).length_le
theorem memK_kid {d : Nat} {o : Ob} {i : Nat} (hi : i < o.kids.length) : (memK d o i).length + (keyK o i).length + (toksW d (o.kids.getD i .zero)).length ≤ (memK d o o.kids.length).length:=by
 have h:=memK_le (d:=d) (o:=o) (i:=i + 1) hi
 rw [memK] at h
 simp only [List.length_append] at h
 omega
theorem toksW_pos {d : Nat} {o : Ob} (h : okO d o) : 0 < (toksW d o).length:=by
 cases d with
 | zero => exact h.elim
 | succ d =>
   unfold toksW
   split
   · simp
   · split
     · simp
     · unfold leafW
       repeat' split
       all_goals simp
theorem encK_nc {w : World} {B : Nat} {t : TypeId} {v : Value} {xs : List L} (h : rownS encK t w B v xs) : ∀ c,v = .slice none xs.length c → c = 0:=by
 intro c e
 rcases h.2 with ⟨h1,_⟩ | ⟨g,cap,cur,h1,_⟩
 · exact (Value.slice.inj (e.symm.trans h1)).2.2
 · exact absurd (Value.slice.inj (e.symm.trans h1)).1 (by simp)
theorem lit1 (w : World) (H : Nat) (h : w.heap.size = H) (t : L) : RArg encK (w.alloc (.cells #[.string ⟨t.toArray⟩] 9)) (.slice (some ⟨H,0,none⟩) 1 1) [t]:=by
 subst h
 exact (row_lit w [t] w.heap.size (Nat.le_refl _) (by simp) (by simp)).arg
theorem keyK_six {o : Ob} {i : Nat} (h : o.kind = 6) : keyK o i = []:=by unfold keyK;rw [if_neg (by rw [h];decide)]
theorem keyK_seven {o : Ob} {i : Nat} (h : o.kind = 7) : keyK o i = [nameW (o.keys.getD i [])]:=by unfold keyK;rw [if_pos h]
theorem parts_arr (S : Nat → Prop) (d : Nat) (IH : PartsC S d) (o : Ob) (hok : okO (d + 1) o) (h6 : o.kind = 6) (p1 p2 : Option Addr) (n1 c1 n2 c2 : Nat) (w : World) (hO : ObjAt S (d + 1) w (objCells o.kind o.n o.g o.s (.slice p1 n1 c1) (.slice p2 n2 c2)) o) (hS : ∀ b, S b → b < w.heap.size) (hl : (toksW (d + 1) o).length ≤ 100000000) :
   Calls Tryz.prog 97 #[.agg #[.int .i64 o.kind,.int .i64 o.n,.int .i64 o.g,.string ⟨o.s.toArray⟩,.slice p1 n1 c1,.slice p2 n2 c2]] w (PartsOut w (toksW (d + 1) o)):=by
 have hT:=toksW_mem (d:=d) (o:=o) (.inl h6) (fun h => by rw [h6] at h;cases h)
 rw [h6] at hT
 obtain ⟨T,hTT⟩ : ∃ T,toksW (d + 1) o = T:=⟨_,rfl⟩
 rw [hTT] at hT hl ⊢
 have hml : (memK d o o.kids.length).length + 2 ≤ 100000000:=by rw [hT] at hl;simp at hl;omega
 obtain ⟨kv,dv,hcs,hK0,hR0⟩:=hO
 have hR : RowAt S d w (.slice p2 n2 c2) o.kids:=by
   simp [objCells] at hcs;rw [hcs.2];exact hR0
 obtain ⟨m,hm⟩ : ∃ m,o.kids.length = m:=⟨_,rfl⟩
 obtain rfl : n2 = m:=by
   rcases hR with ⟨e,p,c,h1⟩ | ⟨b,off,c,h1,_⟩
   · cases h1;rw [e] at hm;simpa using hm
   · cases h1;exact hm
 have HH:=Lh (And.intro hR (And.intro hS (And.intro hm (fun k hk => hok.2.2.2.2.2.2 k hk : ∀ k ∈ o.kids,okO d k))))
 have HT:=Lh hT
 have hm8 : n2 ≤ 8191:=by have:=hok.2.2.2.2.1;omega
 have HML:=Lh hml
 clear hcs hK0 hR0 hR hS hm hok hT hTT hml hl
 have H6:=Lh h6
 rw [h6]
 clear h6
 go_enter Tryz.func97,Tryz.ntmps97
 go_upto_region 6 with fail
 obtain ⟨w0,hw0⟩ : ∃ w0,w.alloc (.cells #[.int .i64 6,.int .i64 o.n,.int .i64 o.g,.string ⟨o.s.toArray⟩,.slice p1 n1 c1,.slice p2 n2 c2] 26) = w0:=⟨_,rfl⟩
 have hx : w0.heap[w.heap.size]? = some (.cells #[.int .i64 6,.int .i64 o.n,.int .i64 o.g,.string ⟨o.s.toArray⟩,.slice p1 n1 c1,.slice p2 n2 c2] 26 (0,0)):=by rw [← hw0];exact heap_new_at w _ _ rfl
 have hb0 : Below w.heap.size w w0:=by rw [← hw0];exact (Below.refl _ w).alloc (Nat.le_refl _) _
 have hz0 : w0.heap.size = w.heap.size + 1:=by rw [← hw0];simp
 rw [hw0]
 clear hw0
 have HX:=Lh hx
 have HL1:=Lh (lit1 w0 _ hz0 [91])
 have hr0 : rownS encK 9 (w0.alloc (.cells #[.string ⟨#[91]⟩] 9)) (w.heap.size + 1) (.slice none 0 0) []:=rownS_nil _ _
 clear hx
 go_wp2_with (at_builtin;go_must (refine rappendR (E:=encK) rfl _ _ rfl Tryz.underlying23 Tryz.infoKs rfl (by decide) (by decide) (w.heap.size + 1) _ _ [] [[91]] hr0 rfl rfl HL1.out (by intro c e;cases e) (by simp) (by simp;omega) ?_);intro p3 q3 w3 hr3 hb3 hg3)
 have hb03 : Below (w.heap.size + 1) w0 w3:=((Below.refl _ w0).alloc (by omega) _).trans hb3
 have HX3:=Lh ((hb03.block _ (by omega)).trans HX.out)
 clear hr0 HL1 hg3 hb3
 obtain ⟨z0,z1,z2,z3,z4,z5,zf⟩:=six_of HX3.out
 go_wp2
 go_loopw [3,4] (fun ov iv wr => ∃ (k : Nat) (acc : List L),k ≤ n2 ∧ iv = .int .i64 k ∧ rownS encK 9 wr (w.heap.size + 1) ov acc ∧ Below (w.heap.size + 1) w0 wr ∧ Hid (acc = [91] :: memK d o k)) (fun _ iv _ => n2 - (intOf iv).toNat)
 case atStart => exact ⟨0,_,Nat.zero_le _,rfl,hr3,hb03,Lh rfl⟩
 case round =>
   obtain ⟨k,acc,hk,rfl,hr,hbr,HA⟩:=hrel
   clear hr3 z0 z1 z2 z3 z4 z5 zf HX3
   obtain ⟨z0,z1,z2,z3,z4,z5,zf⟩:=six_of ((hbr.block _ (by omega)).trans HX.out)
   have hbw : Below w.heap.size w wr:=hb0.trans (hbr.mono (by omega))
   have hzr:=hbr.size
   have hal : acc.length ≤ 100000000:=by
     rw [HA.out]
     have h1:=memK_le (d:=d) (o:=o) (i:=k) (by rw [HH.out.2.2.1];exact hk)
     have h2:=HML.out
     simp;omega
   by_cases hlk : k < n2
   · have hRw : RowAt S d wr (.slice p2 n2 c2) o.kids:=HH.out.1.kept (fun b h => hbw.block b (HH.out.2.1 b h))
     obtain ⟨b2,f2,rfl⟩ : ∃ b off,p2 = some ⟨b,off,none⟩:=by
       rcases hRw with ⟨e,_⟩ | ⟨b,off,c,e,_⟩
       · have:=HH.out.2.2.1;rw [e] at this;simp at this;omega
       · cases e;exact ⟨_,_,rfl⟩
     obtain ⟨y,y1,t1,u1,y2,t2,u2,hy,hym,s2,O1,r0,r1,r2,r3,r4,r5⟩:=row_kid hRw HH.out.2.2.1 k hlk
     have hkl:=memK_kid (d:=d) (o:=o) (i:=k) (by rw [HH.out.2.2.1];exact hlk)
     rw [hy] at hkl
     have hml2:=HML.out
     have HPC:=Lh (IH wr _ y O1 (HH.out.2.2.2 y hym) (fun b h => Nat.lt_of_lt_of_le (HH.out.2.1 b h) hbw.size) (by omega))
     have HA2:=Lh (show acc ++ toksW d y = [91] :: memK d o (k + 1) by
       rw [HA.out,memK,hy,keyK_six H6.out];simp)
     obtain ⟨ts,hts⟩ : ∃ ts,toksW d y = ts:=⟨_,rfl⟩
     rw [hts] at hkl HPC HA2
     clear hRw hy hym O1 hts
     have v1 : (0 : Int) ≤ k:=by omega
     have v2 : (k : Int) < n2:=by omega
     go_wp2_with fail
     refine (HPC.out).mono ?_
     rintro e w4 ⟨p4,q4,rfl,hr4,hb4⟩
     have hr5:=hr.below hb4
     have hz4:=hb4.size
     have HA4:=Lh hr4.arg
     have HN4:=Lh (encK_nc hr4)
     have hbr4 : Below (w.heap.size + 1) w0 w4:=hbr.trans (hb4.mono (by omega))
     clear HPC hr4 hb4
     go_wp2_with (at_builtin;go_must (refine rappendR (E:=encK) rfl _ _ rfl Tryz.underlying23 Tryz.infoKs rfl (by decide) (by decide) (w.heap.size + 1) _ _ acc ts hr5 rfl rfl HA4.out HN4.out (by omega) (by omega) ?_);intro p5 q5 w5 hr6 hb5 hg5)
     go_roundw
     case rel => exact ⟨k + 1,_,by omega,by go_num,hr6,hbr4.trans hb5,HA2⟩
     case measure => simp [intOf];omega
   · have hkn : k = n2:=by omega
     subst hkn
     have HE:=Lh (show acc ++ [[93]] = T by rw [HA.out,HT.out,HH.out.2.2.1];rfl)
     have HL1:=Lh (lit1 wr _ rfl [93])
     have hr2:=hr.below ((Below.refl _ wr).alloc (Nat.le_refl _) (.cells #[.string ⟨#[93]⟩] 9))
     clear HA HT hr
     go_wp2_with (at_builtin;go_must (refine rappendR (E:=encK) rfl _ _ rfl Tryz.underlying23 Tryz.infoKs rfl (by decide) (by decide) (w.heap.size + 1) _ _ acc [[93]] hr2 rfl rfl HL1.out (by intro c e;cases e) (by simp;omega) (by simp;omega) ?_);intro p5 q5 w5 hr6 hb5 hg5)
     go_ret
     have hbE : Below w.heap.size w w5:=(hbw.alloc hbw.size _).trans (hb5.mono (by omega))
     refine ⟨p5,q5,?_,?_,hbE⟩
     · rw [← HE.out];simp
     · rw [← HE.out];rw [← List.length_append] at hr6;exact hr6.low (by omega)
def KidK (w : World) (v u : Value) (ts : List L) : Prop:=∃ B,rownS encK 9 w B v ts ∧ ∀ k,u.ownBlock = some k → k < B
theorem KidK.mk {w W : World} {B : Nat} {v u : Value} {ts acc : List L} (h : rownS encK 9 w W.heap.size v ts) (ho : rownS encK 9 W B u acc) : KidK w v u ts:=⟨_,h,fun k hk => (World.ownsRow.lt ho k hk).2⟩
theorem KidK.grown {w w' : World} {v u : Value} {ts : List L} (h : KidK w v u ts) (hg : w.grownBy w' u.ownBlock) : RArg encK w' v ts:=by
 obtain ⟨B,h1,h2⟩:=h
 exact (row_apart h1 h2 hg).arg
theorem KidK.arg {w : World} {v u : Value} {ts : List L} (h : KidK w v u ts) : RArg encK w v ts:=by
 obtain ⟨B,h1,h2⟩:=h
 exact h1.arg
theorem parts_dict (S : Nat → Prop) (d : Nat) (IH : PartsC S d) (o : Ob) (hok : okO (d + 1) o) (h7 : o.kind = 7) (p1 p2 : Option Addr) (n1 c1 n2 c2 : Nat) (w : World) (hO : ObjAt S (d + 1) w (objCells o.kind o.n o.g o.s (.slice p1 n1 c1) (.slice p2 n2 c2)) o) (hS : ∀ b, S b → b < w.heap.size) (hl : (toksW (d + 1) o).length ≤ 100000000) :
   Calls Tryz.prog 97 #[.agg #[.int .i64 o.kind,.int .i64 o.n,.int .i64 o.g,.string ⟨o.s.toArray⟩,.slice p1 n1 c1,.slice p2 n2 c2]] w (PartsOut w (toksW (d + 1) o)):=by
 have hKO:=(keysB_iff o (.inl h7)).1 hok.2.2.2.2.2.1
 have hT:=toksW_mem (d:=d) (o:=o) (.inr h7) (fun _ => hKO.len)
 rw [h7] at hT
 obtain ⟨T,hTT⟩ : ∃ T,toksW (d + 1) o = T:=⟨_,rfl⟩
 rw [hTT] at hT hl ⊢
 have hml : (memK d o o.kids.length).length + 2 ≤ 100000000:=by rw [hT] at hl;simp at hl;omega
 obtain ⟨kv,dv,hcs,hK0,hR0⟩:=hO
 have hR : RowAt S d w (.slice p2 n2 c2) o.kids:=by
   simp [objCells] at hcs;rw [hcs.2];exact hR0
 have hK : KeysAt S w (.slice p1 n1 c1) o.keys:=by
   simp [objCells] at hcs;rw [hcs.1];exact hK0
 obtain ⟨m,hm⟩ : ∃ m,o.kids.length = m:=⟨_,rfl⟩
 obtain rfl : n2 = m:=by
   rcases hR with ⟨e,p,c,h1⟩ | ⟨b,off,c,h1,_⟩
   · cases h1;rw [e] at hm;simpa using hm
   · cases h1;exact hm
 have hkn : o.keys.length = n2:=by rw [hKO.len];exact hm
 obtain rfl : n2 = n1:=by
   rcases hK with ⟨e,p,c,h1⟩ | ⟨b,off,c,h1,_⟩
   · cases h1;rw [e] at hkn;simpa using hkn.symm
   · cases h1;exact hkn.symm
 have HK:=Lh (And.intro hK (And.intro hkn hKO.name))
 have HH:=Lh (And.intro hR (And.intro hS (And.intro hm (fun k hk => hok.2.2.2.2.2.2 k hk : ∀ k ∈ o.kids,okO d k))))
 have HT:=Lh hT
 have hm8 : n2 ≤ 8191:=by have:=hok.2.2.2.2.1;omega
 have HML:=Lh hml
 clear hcs hK0 hR0 hR hS hm hok hT hTT hml hl hK hkn hKO
 have H7:=Lh h7
 rw [h7]
 clear h7
 go_enter Tryz.func97,Tryz.ntmps97
 go_upto_region 13 with fail
 obtain ⟨w0,hw0⟩ : ∃ w0,w.alloc (.cells #[.int .i64 7,.int .i64 o.n,.int .i64 o.g,.string ⟨o.s.toArray⟩,.slice p1 n2 c1,.slice p2 n2 c2] 26) = w0:=⟨_,rfl⟩
 have hx : w0.heap[w.heap.size]? = some (.cells #[.int .i64 7,.int .i64 o.n,.int .i64 o.g,.string ⟨o.s.toArray⟩,.slice p1 n2 c1,.slice p2 n2 c2] 26 (0,0)):=by rw [← hw0];exact heap_new_at w _ _ rfl
 have hb0 : Below w.heap.size w w0:=by rw [← hw0];exact (Below.refl _ w).alloc (Nat.le_refl _) _
 have hz0 : w0.heap.size = w.heap.size + 1:=by rw [← hw0];simp
 rw [hw0]
 clear hw0
 have HX:=Lh hx
 have HL1:=Lh (lit1 w0 _ hz0 [60,60])
 have hr0 : rownS encK 9 (w0.alloc (.cells #[.string ⟨#[60,60]⟩] 9)) (w.heap.size + 1) (.slice none 0 0) []:=rownS_nil _ _
 clear hx
 go_wp2_with (at_builtin;go_must (refine rappendR (E:=encK) rfl _ _ rfl Tryz.underlying23 Tryz.infoKs rfl (by decide) (by decide) (w.heap.size + 1) _ _ [] [[60,60]] hr0 rfl rfl HL1.out (by intro c e;cases e) (by simp) (by simp;omega) ?_);intro p3 q3 w3 hr3 hb3 hg3)
 have hb03 : Below (w.heap.size + 1) w0 w3:=((Below.refl _ w0).alloc (by omega) _).trans hb3
 have HX3:=Lh ((hb03.block _ (by omega)).trans HX.out)
 clear hr0 HL1 hg3 hb3
 obtain ⟨z0,z1,z2,z3,z4,z5,zf⟩:=six_of HX3.out
 go_wp2
 go_loopw [3,5] (fun ov iv wr => ∃ (k : Nat) (acc : List L),k ≤ n2 ∧ iv = .int .i64 k ∧ rownS encK 9 wr (w.heap.size + 1) ov acc ∧ Below (w.heap.size + 1) w0 wr ∧ Hid (acc = [60,60] :: memK d o k)) (fun _ iv _ => n2 - (intOf iv).toNat)
 case atStart => exact ⟨0,_,Nat.zero_le _,rfl,hr3,hb03,Lh rfl⟩
 case round =>
   obtain ⟨k,acc,hk,rfl,hr,hbr,HA⟩:=hrel
   clear hr3 z0 z1 z2 z3 z4 z5 zf HX3
   obtain ⟨ap,ac,rfl⟩:=rown_slice hr
   obtain ⟨z0,z1,z2,z3,z4,z5,zf⟩:=six_of ((hbr.block _ (by omega)).trans HX.out)
   have hbw : Below w.heap.size w wr:=hb0.trans (hbr.mono (by omega))
   have hzr:=hbr.size
   have hal : acc.length ≤ 100000000:=by
     rw [HA.out]
     have h1:=memK_le (d:=d) (o:=o) (i:=k) (by rw [HH.out.2.2.1];exact hk)
     have h2:=HML.out
     simp;omega
   by_cases hlk : k < n2
   · have hRw : RowAt S d wr (.slice p2 n2 c2) o.kids:=HH.out.1.kept (fun b h => hbw.block b (HH.out.2.1 b h))
     obtain ⟨b2,f2,rfl⟩ : ∃ b off,p2 = some ⟨b,off,none⟩:=by
       rcases hRw with ⟨e,_⟩ | ⟨b,off,c,e,_⟩
       · have:=HH.out.2.2.1;rw [e] at this;simp at this;omega
       · cases e;exact ⟨_,_,rfl⟩
     have hKw : KeysAt S wr (.slice p1 n2 c1) o.keys:=HK.out.1.kept (fun b h => hbw.block b (HH.out.2.1 b h))
     obtain ⟨b1,f1,rfl⟩ : ∃ b off,p1 = some ⟨b,off,none⟩:=by
       rcases hKw with ⟨e,_⟩ | ⟨b,off,c,e,_⟩
       · have:=HK.out.2.1;rw [e] at this;simp at this;omega
       · cases e;exact ⟨_,_,rfl⟩
     obtain ⟨s1,g1⟩:=key_at hKw HK.out.2.1 k hlk
     obtain ⟨x,hx⟩ : ∃ x,o.keys.getD k [] = x:=⟨_,rfl⟩
     have hxn : nameB x = true:=by
       have hkl : k < o.keys.length:=by rw [HK.out.2.1];exact hlk
       have : o.keys.getD k [] = o.keys[k]:=by simp [List.getD,hkl]
       rw [← hx,this]
       exact HK.out.2.2 _ (List.getElem_mem hkl)
     rw [hx] at g1
     obtain ⟨y,y1,t1,u1,y2,t2,u2,hy,hym,s2,O1,r0,r1,r2,r3,r4,r5⟩:=row_kid hRw HH.out.2.2.1 k hlk
     have hkl:=memK_kid (d:=d) (o:=o) (i:=k) (by rw [HH.out.2.2.1];exact hlk)
     rw [hy] at hkl
     have hml2:=HML.out
     have hok:=HH.out.2.2.2 y hym
     have HPC:=Lh (fun (W : World) (hW : Below (w.heap.size + 1) wr W) => IH W _ y (O1.kept (fun b h => hW.block b (by have:=HH.out.2.1 b h;omega)) d) hok (fun b h => by have h1:=HH.out.2.1 b h;have h2:=hbw.size;have h3:=hW.size;omega) (by omega))
     unfold objCells at HPC
     have HNM:=Lh (fun W => r4name x hxn W)
     have HA2:=Lh (show acc ++ [nameW x] ++ toksW d y = [60,60] :: memK d o (k + 1) by
       rw [HA.out,memK,hy,keyK_seven H7.out,hx];simp)
     have htp:=toksW_pos hok
     obtain ⟨ts,hts⟩ : ∃ ts,toksW d y = ts:=⟨_,rfl⟩
     obtain ⟨nx,hnx⟩ : ∃ nx,nameW x = nx:=⟨_,rfl⟩
     rw [hts] at hkl HPC HA2 htp
     rw [hnx] at HNM HA2
     have hb1l:=HH.out.2.1 b1 s1
     have hb2l:=HH.out.2.1 b2 s2
     clear hRw hKw hy hym O1 hts hnx hx hxn hok
     have v1 : (0 : Int) ≤ k:=by omega
     have v2 : (k : Int) < n2:=by omega
     go_wp2_with fail
     refine (HNM.out _).mono ?_
     rintro e w4 ⟨rfl,hb4⟩
     have hz4:=hb4.size
     have hr4:=hr.below hb4
     have hbr4 : Below (w.heap.size + 1) wr w4:=hb4.mono (by omega)
     have kl:=fun o => World.cell?_of_block (a:=⟨b2,o,none⟩) (hb4.block b2 (by omega))
     have q0:=(kl _).trans r0
     have q1:=(kl _).trans r1
     have q2:=(kl _).trans r2
     have q3':=(kl _).trans r3
     have q4:=(kl _).trans r4
     have q5:=(kl _).trans r5
     have hbx:=(hb4.block w.heap.size (by omega)).trans ((hbr.block _ (by omega)).trans HX.out)
     have HBX:=Lh hbx
     clear kl r0 r1 r2 r3 r4 r5 z0 z1 z2 z3 z4 z5 zf g1
     obtain ⟨z0,z1,z2,z3,z4,z5,zf⟩:=six_of hbx
     clear hbx
     go_upto_region 18 with fail
     have HQ:=Lh (And.intro q0 (And.intro q1 (And.intro q2 (And.intro q3' (And.intro q4 q5)))))
     have HB4:=Lh hbr4
     have HB5:=Lh (Below.refl (w.heap.size + 1) w4)
     have HRO1:=Lh hr4
     clear hr hr4 hbr4 hb4 HNM
     go_region_held3 (fun w' => w'.cell? ⟨w.heap.size,5,none⟩ = some (.slice (some ⟨b2,f2,none⟩) n2 c2) ∧ w'.cell? ⟨b2,f2 + k * 6,none⟩ = some (.int .i64 y.kind) ∧ w'.cell? ⟨b2,f2 + k * 6 + 1,none⟩ = some (.int .i64 y.n) ∧ w'.cell? ⟨b2,f2 + k * 6 + 2,none⟩ = some (.int .i64 y.g) ∧ w'.cell? ⟨b2,f2 + k * 6 + 3,none⟩ = some (.string ⟨y.s.toArray⟩) ∧ w'.cell? ⟨b2,f2 + k * 6 + 4,none⟩ = some (.slice y1 t1 u1) ∧ w'.cell? ⟨b2,f2 + k * 6 + 5,none⟩ = some (.slice y2 t2 u2)) (go_keep)
       (first
         | (go_at_call 97;go_must ((with_reducible refine (HPC.out _ (HB4.out.trans (HB5.out.trans (by repeat' (first | exact Below.refl _ _ | refine Below.drew ?_ | refine Below.alloc ?_ ?_ _ | (show _ ≤ _;simp;done) | (show _ ≤ _;simp;omega) | omega))))).mono ?_);rintro e w5 ⟨p5,q5x,rfl,hr5,hb5⟩;(have HB5n:=Lh (HB5.out.trans (Below.trans (by repeat' (first | exact Below.refl _ _ | refine Below.drew ?_ | refine Below.alloc ?_ ?_ _ | (show _ ≤ _;simp;done) | (show _ ≤ _;simp;omega) | omega)) (hb5.mono (by (try simp);omega)))));(first | (have HKR:=Lh (KidK.mk hr5 (HRO2.out.below (by repeat' (first | exact Below.refl _ _ | refine Below.drew ?_ | refine Below.alloc ?_ ?_ _ | (show _ ≤ _;simp;done) | (show _ ≤ _;simp;omega) | omega))));have HRO2n:=Lh (rownS.below (HRO2.out.below (by repeat' (first | exact Below.refl _ _ | refine Below.drew ?_ | refine Below.alloc ?_ ?_ _ | (show _ ≤ _;simp;done) | (show _ ≤ _;simp;omega) | omega))) hb5);clear HRO2;have HRO2:=HRO2n;clear HRO2n) | (have HKR:=Lh (KidK.mk hr5 (HRO1.out.below (by repeat' (first | exact Below.refl _ _ | refine Below.drew ?_ | refine Below.alloc ?_ ?_ _ | (show _ ≤ _;simp;done) | (show _ ≤ _;simp;omega) | omega))));(try have HKB:=Lh (RArg.below ((lit1 _ _ rfl nx).below (by repeat' (first | exact Below.refl _ _ | refine Below.drew ?_ | refine Below.alloc ?_ ?_ _ | (show _ ≤ _;simp;done) | (show _ ≤ _;simp;omega) | omega))) hb5));have HRO1n:=Lh (rownS.below (HRO1.out.below (by repeat' (first | exact Below.refl _ _ | refine Below.drew ?_ | refine Below.alloc ?_ ?_ _ | (show _ ≤ _;simp;done) | (show _ ≤ _;simp;omega) | omega))) hb5);clear HRO1;have HRO1:=HRO1n;clear HRO1n));clear HB5;have HB5:=HB5n;clear HB5n;have hz5:=HB5.out.size;clear hr5 hb5;((have kl:=fun o => World.cell?_of_block (a:=⟨b2,o,none⟩) (HB5.out.block b2 (by omega)));(have q0:=(kl _).trans HQ.out.1);(have q1:=(kl _).trans HQ.out.2.1);(have q2:=(kl _).trans HQ.out.2.2.1);(have q3':=(kl _).trans HQ.out.2.2.2.1);(have q4:=(kl _).trans HQ.out.2.2.2.2.1);(have q5:=(kl _).trans HQ.out.2.2.2.2.2);(obtain ⟨z0,z1,z2,z3,z4,z5,zf⟩:=six_of ((HB5.out.block w.heap.size (by omega)).trans HBX.out));clear kl)))
         | ((refine rappendT (E:=encK) rfl _ _ rfl Tryz.underlying23 Tryz.infoKs rfl (by decide) (by decide) (w.heap.size + 1) _ _ acc [nx] (HRO1.out.below (by repeat' (first | exact Below.refl _ _ | refine Below.drew ?_ | refine Below.alloc ?_ ?_ _ | (show _ ≤ _;simp;done) | (show _ ≤ _;simp;omega) | omega))) rfl rfl (by first | exact HKB.out | exact (lit1 _ _ rfl nx).below (by repeat' (first | exact Below.refl _ _ | refine Below.drew ?_ | refine Below.alloc ?_ ?_ _ | (show _ ≤ _;simp;done) | (show _ ≤ _;simp;omega) | omega))) (by simp) (by simp;omega) (by (try simp);omega) ?_);intro p6 q6 w6 hr6 hb6 hg6;(have HRO2:=Lh hr6);(try have HKA:=Lh (KidK.grown (HKR.out.below (by repeat' (first | exact Below.refl _ _ | refine Below.drew ?_ | refine Below.alloc ?_ ?_ _ | (show _ ≤ _;simp;done) | (show _ ≤ _;simp;omega) | omega))) hg6));(have HB5n:=Lh (HB5.out.trans (Below.trans (by repeat' (first | exact Below.refl _ _ | refine Below.drew ?_ | refine Below.alloc ?_ ?_ _ | (show _ ≤ _;simp;done) | (show _ ≤ _;simp;omega) | omega)) hb6)));clear HB5;have HB5:=HB5n;clear HB5n;have hz6:=HB5.out.size;clear hr6 hb6 hg6;((have kl:=fun o => World.cell?_of_block (a:=⟨b2,o,none⟩) (HB5.out.block b2 (by omega)));(have q0:=(kl _).trans HQ.out.1);(have q1:=(kl _).trans HQ.out.2.1);(have q2:=(kl _).trans HQ.out.2.2.1);(have q3':=(kl _).trans HQ.out.2.2.2.1);(have q4:=(kl _).trans HQ.out.2.2.2.2.1);(have q5:=(kl _).trans HQ.out.2.2.2.2.2);(obtain ⟨z0,z1,z2,z3,z4,z5,zf⟩:=six_of ((HB5.out.block w.heap.size (by omega)).trans HBX.out));clear kl))
         | ((refine rappendT (E:=encK) rfl _ _ rfl Tryz.underlying23 Tryz.infoKs rfl (by decide) (by decide) (w.heap.size + 1) _ _ (acc ++ [nx]) ts (HRO2.out.below (by repeat' (first | exact Below.refl _ _ | refine Below.drew ?_ | refine Below.alloc ?_ ?_ _ | (show _ ≤ _;simp;done) | (show _ ≤ _;simp;omega) | omega))) rfl rfl (by first | exact HKA.out.below (by repeat' (first | exact Below.refl _ _ | refine Below.drew ?_ | refine Below.alloc ?_ ?_ _ | (show _ ≤ _;simp;done) | (show _ ≤ _;simp;omega) | omega)) | exact HKR.out.arg.below (by repeat' (first | exact Below.refl _ _ | refine Below.drew ?_ | refine Below.alloc ?_ ?_ _ | (show _ ≤ _;simp;done) | (show _ ≤ _;simp;omega) | omega))) htp (by simp;omega) (by (try simp);omega) ?_);intro p7 q7 w7 hr7 hb7 hg7;(have HRO3:=Lh hr7);(have HB6:=Lh (HB5.out.trans (Below.trans (by repeat' (first | exact Below.refl _ _ | refine Below.drew ?_ | refine Below.alloc ?_ ?_ _ | (show _ ≤ _;simp;done) | (show _ ≤ _;simp;omega) | omega)) hb7)));clear hr7 hb7 hg7;(have HB5:=HB6);((have kl:=fun o => World.cell?_of_block (a:=⟨b2,o,none⟩) (HB5.out.block b2 (by omega)));(have q0:=(kl _).trans HQ.out.1);(have q1:=(kl _).trans HQ.out.2.1);(have q2:=(kl _).trans HQ.out.2.2.1);(have q3':=(kl _).trans HQ.out.2.2.2.1);(have q4:=(kl _).trans HQ.out.2.2.2.2.1);(have q5:=(kl _).trans HQ.out.2.2.2.2.2);(obtain ⟨z0,z1,z2,z3,z4,z5,zf⟩:=six_of ((HB5.out.block w.heap.size (by omega)).trans HBX.out));clear kl)))
     clear z0 z1 z2 z3 z4 z5 zf q0 q1 q2 q3' q4 q5 HQ HBX
     have hr8:=HRO3.out
     rw [List.length_append] at hr8
     go_wp2
     go_roundw
     case rel => exact ⟨k + 1,_,by omega,by go_num,hr8,hbr.trans (HB4.out.trans HB6.out),HA2⟩
     case measure => simp [intOf];omega
   · have hkn : k = n2:=by omega
     subst hkn
     have HE:=Lh (show acc ++ [[62,62]] = T by rw [HA.out,HT.out,HH.out.2.2.1];rfl)
     have HL1:=Lh (lit1 wr _ rfl [62,62])
     have hr2:=hr.below ((Below.refl _ wr).alloc (Nat.le_refl _) (.cells #[.string ⟨#[62,62]⟩] 9))
     clear HA HT hr
     go_wp2_with (at_builtin;go_must (refine rappendR (E:=encK) rfl _ _ rfl Tryz.underlying23 Tryz.infoKs rfl (by decide) (by decide) (w.heap.size + 1) _ _ acc [[62,62]] hr2 rfl rfl HL1.out (by intro c e;cases e) (by simp;omega) (by simp;omega) ?_);intro p5 q5 w5 hr6 hb5 hg5)
     go_ret
     have hbE : Below w.heap.size w w5:=(hbw.alloc hbw.size _).trans (hb5.mono (by omega))
     refine ⟨p5,q5,?_,?_,hbE⟩
     · rw [← HE.out];simp
     · rw [← HE.out];rw [← List.length_append] at hr6;exact hr6.low (by omega)
end Go.Proofs.YtfgdhcemidlnfaaGreatDoor
