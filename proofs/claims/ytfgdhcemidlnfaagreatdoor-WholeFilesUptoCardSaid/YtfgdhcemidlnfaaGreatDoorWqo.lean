/- Parts of the proof: WlA WlB SzA WlD WhM WlE WfS WfT WfU WfV WfW WfX. -/
import Derived.Test.YtfgdhcemidlnfaaGreatDoorWqn
import Derived.Test.YtfgdhcemidlnfaaGreatDoorWqc
import Derived.Test.YtfgdhcemidlnfaaGreatDoorWqd
import Derived.Test.YtfgdhcemidlnfaaGreatDoorWqb
import Derived.Test.YtfgdhcemidlnfaaGreatDoorWqh
import Derived.Test.YtfgdhcemidlnfaaGreatDoorWqj
import Derived.Shelf.Spec.SlicesInsert
import Derived.Deep.DeepCutAuto
import Derived.Test.YtfgdhcemidlnfaaGreatDoorWqa
import Derived.Deep.QuietTactic
import Derived.BigQuiet
import Derived.Test.YtfgdhcemidlnfaaGreatDoorWqk
import Derived.Lib.AppendStr
import Derived.Deep.RegionHeld3
import Derived.Test.YtfgdhcemidlnfaaGreatDoorWqm
import Derived.Test.YtfgdhcemidlnfaaGreatDoorWqWfR
import Derived.Test.YtfgdhcemidlnfaaGreatDoorWql
import Derived.Deep.OwnRows
import Derived.Deep.CutRange
set_option linter.all false
set_option maxRecDepth 100000
set_option maxHeartbeats 8000000
namespace Fo
def wholeD : Dc:=⟨[⟨2,0,.mk 7 0 0 [] [] []⟩],.mk 7 0 0 [] [wRoot] [.mk 8 2 0 [] [] []]⟩
def wholeF : L:=[37,80,68,70,45,49,46,55,10,37,226,227,207,211,10,50,32,48,32,111,98,106,10,60,60,62,62,10,101,110,100,111,98,106,10,120,114,101,102,10,48,32,51,10,48,48,48,48,48,48,48,48,48,49,32,54,53,53,51,53,32,102,32,10,48,48,48,48,48,48,48,48,48,48,32,48,48,48,48,48,32,102,32,10,48,48,48,48,48,48,48,48,49,53,32,48,48,48,48,48,32,110,32,10,116,114,97,105,108,101,114,10,60,60,47,82,111,111,116,32,50,32,48,32,82,47,83,105,122,101,32,51,62,62,10,115,116,97,114,116,120,114,101,102,10,51,53,10,37,37,69,79,70,10]
def wholeS : List Sl:=[⟨0,0,1,65535⟩,⟨1,0,0,0⟩,⟨2,1,15,0⟩]
def zeroD : Dc:=⟨[],.mk 0 0 0 [] [] []⟩
theorem wholeD_file : fileW wholeD = .good (wholeF,wholeS):=by kernel_rfl
theorem zeroD_file : fileW zeroD = .bad 10:=by kernel_rfl
theorem wholeD_fit : DocFit wholeD:=⟨by decide,by decide,by decide⟩
theorem zeroD_fit : DocFit zeroD:=⟨by decide,by decide,by decide⟩
end Fo
namespace Go.Proofs.YtfgdhcemidlnfaaGreatDoor
open Go.RowKit Fo
theorem wholeD_s : fileS wholeD = ⟨wholeF.toArray⟩:=by unfold fileS;rw [wholeD_file]
theorem wholeD_e : fileE wholeD = 0:=by unfold fileE;rw [wholeD_file]
theorem wholeD_l : fileSl wholeD = wholeS:=by unfold fileSl;rw [wholeD_file]
theorem zeroD_s : fileS zeroD = ⟨#[]⟩:=by unfold fileS;rw [zeroD_file]
theorem zeroD_e : fileE zeroD = 10:=by unfold fileE;rw [zeroD_file]
theorem zero_at (S : Nat → Prop) (d : Nat) (w : World) : DocAt S d w [.slice none 0 0,.int .i64 0,.int .i64 0,.int .i64 0,.string ⟨#[]⟩,.slice none 0 0,.slice none 0 0] zeroD :=
 ⟨_,_,rfl,.inl ⟨rfl,_,_,rfl⟩,by decide,by simp [zeroD],⟨_,_,rfl,.inl ⟨rfl,_,_,rfl⟩,.inl ⟨rfl,_,_,rfl⟩⟩,⟨by decide,by decide,by decide,by simp [zeroD,Ob.keys],by simp [zeroD,Ob.kids]⟩⟩
theorem whole_at {w : World} {a b c : Nat} (h1 : w.heap[a]? = some (.cells #[.int .i64 2, .int .i64 0, .int .i64 7, .int .i64 0, .int .i64 0, .string ⟨#[]⟩, .slice none 0 0, .slice none 0 0] 50 (0, 0)))
   (h2 : w.heap[b]? = some (.cells #[.string ⟨#[82,111,111,116]⟩] 9 (0,0))) (h3 : w.heap[c]? = some (.cells #[.int .i64 8,.int .i64 2,.int .i64 0,.string ⟨#[]⟩,.slice none 0 0,.slice none 0 0] 26 (0,0))) :
   DocAt (fun b => b < w.heap.size) 2 w [.slice (some ⟨a,0,none⟩) 1 1,.int .i64 7,.int .i64 0,.int .i64 0,.string ⟨#[]⟩,.slice (some ⟨b,0,none⟩) 1 1,.slice (some ⟨c,0,none⟩) 1 1] wholeD:=by
 refine ⟨_,_,rfl,.inr ⟨a,0,1,rfl,lt_of_block h1,fun j hj => ?_⟩,by decide,?_,?_,?_⟩
 · obtain rfl : j = 0:=by simp [wholeD] at hj;omega
   refine ⟨_,_,_,_,_,_,by simp [World.cell?,h1,wholeD],by simp [World.cell?,h1,wholeD],by simp [World.cell?,h1];rfl,by simp [World.cell?,h1];rfl,by simp [World.cell?,h1];rfl,by simp [World.cell?,h1];rfl,by simp [World.cell?,h1];rfl,by simp [World.cell?,h1];rfl,?_⟩
   exact ⟨_,_,rfl,.inl ⟨rfl,_,_,rfl⟩,.inl ⟨rfl,_,_,rfl⟩⟩
 · intro i hi
   simp [wholeD] at hi
   subst hi
   exact ⟨by decide,by decide,by decide,by simp [Ob.keys],by simp [Ob.kids]⟩
 · refine ⟨_,_,rfl,.inr ⟨b,0,1,rfl,lt_of_block h2,fun i hi => ?_⟩,.inr ⟨c,0,1,rfl,lt_of_block h3,fun i hi => ?_⟩⟩
   · obtain rfl : i = 0:=by simp [wholeD,Ob.keys] at hi;omega
     simp [World.cell?,h2,wholeD,Ob.keys,wRoot]
   · obtain rfl : i = 0:=by simp [wholeD,Ob.kids] at hi;omega
     refine ⟨[.int .i64 8,.int .i64 2,.int .i64 0,.string ⟨#[]⟩,.slice none 0 0,.slice none 0 0],rfl,fun j hj => ?_,⟨_,_,rfl,.inl ⟨rfl,_,_,rfl⟩,.inl ⟨rfl,_,_,rfl⟩⟩⟩
     have : j = 0 ∨ j = 1 ∨ j = 2 ∨ j = 3 ∨ j = 4 ∨ j = 5:=by simp at hj;omega
     rcases this with rfl | rfl | rfl | rfl | rfl | rfl <;> simp [World.cell?,h3]
 · refine ⟨by decide,by decide,by decide,?_,?_⟩
   · intro x hx
     simp [wholeD,Ob.keys] at hx
     subst hx
     decide
   · intro k hk
     simp [wholeD,Ob.kids] at hk
     subst hk
     exact ⟨by decide,by decide,by decide,by simp [Ob.keys],by simp [Ob.kids]⟩
theorem wdoc_in (w : World) :
   Calls Tryz.prog 20 #[] w fun e w' => e = .returned (.agg #[.slice (some ⟨w.heap.size + 1,0,none⟩) 1 1,.int .i64 7,.int .i64 0,.int .i64 0,.string ⟨#[]⟩,.slice (some ⟨w.heap.size + 2,0,none⟩) 1 1,.slice (some ⟨w.heap.size + 3,0,none⟩) 1 1]) ∧
     DocAt (fun b => b < w'.heap.size) 2 w' [.slice (some ⟨w.heap.size + 1,0,none⟩) 1 1,.int .i64 7,.int .i64 0,.int .i64 0,.string ⟨#[]⟩,.slice (some ⟨w.heap.size + 2,0,none⟩) 1 1,.slice (some ⟨w.heap.size + 3,0,none⟩) 1 1] wholeD ∧ Below w.heap.size w w':=by
 go_enter Tryz.func20,Tryz.ntmps20
 go_wp2
 obtain ⟨w1,hw1⟩ : ∃ w1,(((w.alloc (.cells #[.slice (some ⟨w.heap.size + 1,0,none⟩) 1 1,.int .i64 7,.int .i64 0,.int .i64 0,.string ⟨#[]⟩,.slice (some ⟨w.heap.size + 1 + 1,0,none⟩) 1 1,.slice (some ⟨w.heap.size + 1 + 1 + 1,0,none⟩) 1 1] 28)).alloc
   (.cells #[.int .i64 2,.int .i64 0,.int .i64 7,.int .i64 0,.int .i64 0,.string ⟨#[]⟩,.slice none 0 0,.slice none 0 0] 50)).alloc (.cells #[.string ⟨#[82,111,111,116]⟩] 9)).alloc (.cells #[.int .i64 8,.int .i64 2,.int .i64 0,.string ⟨#[]⟩,.slice none 0 0,.slice none 0 0] 26) = w1:=⟨_,rfl⟩
 rw [hw1]
 have h1 : w1.heap[w.heap.size + 1]? = some (.cells #[.int .i64 2,.int .i64 0,.int .i64 7,.int .i64 0,.int .i64 0,.string ⟨#[]⟩,.slice none 0 0,.slice none 0 0] 50 (0,0)):=by
   rw [← hw1,Below.heap_alloc _ _ _ (by simp),Below.heap_alloc _ _ _ (by simp)];exact heap_new_at _ _ _ (by simp)
 have h2 : w1.heap[w.heap.size + 2]? = some (.cells #[.string ⟨#[82,111,111,116]⟩] 9 (0,0)):=by
   rw [← hw1,Below.heap_alloc _ _ _ (by simp)];exact heap_new_at _ _ _ (by simp)
 have h3 : w1.heap[w.heap.size + 3]? = some (.cells #[.int .i64 8,.int .i64 2,.int .i64 0,.string ⟨#[]⟩,.slice none 0 0,.slice none 0 0] 26 (0,0)):=by
   rw [← hw1];exact heap_new_at _ _ _ (by simp)
 have h0 : w1.heap[w.heap.size]? = some (.cells #[.slice (some ⟨w.heap.size + 1,0,none⟩) 1 1,.int .i64 7,.int .i64 0,.int .i64 0,.string ⟨#[]⟩,.slice (some ⟨w.heap.size + 1 + 1,0,none⟩) 1 1,.slice (some ⟨w.heap.size + 1 + 1 + 1,0,none⟩) 1 1] 28 (0,0)):=by
   rw [← hw1,Below.heap_alloc _ _ _ (by simp;omega),Below.heap_alloc _ _ _ (by simp;omega),Below.heap_alloc _ _ _ (by simp)];exact heap_new_at _ _ _ rfl
 have hb : Below w.heap.size w w1:=by rw [← hw1];exact bel
 clear hw1
 obtain ⟨k0,k1,k2,k3,k4,k5,k6⟩:=seven_of h0
 refine bodyPost_ret (v:=.agg #[.slice (some ⟨w.heap.size + 1,0,none⟩) 1 1,.int .i64 7,.int .i64 0,.int .i64 0,.string ⟨#[]⟩,.slice (some ⟨w.heap.size + 2,0,none⟩) 1 1,.slice (some ⟨w.heap.size + 3,0,none⟩) 1 1]) (by simp [results,Tryz.results20,go_sem,k0,k1,k2,k3,k4,k5,k6]) rfl ⟨rfl,whole_at h1 h2 h3,hb⟩
theorem lives_in (w : World) (hT : TabP w) :
   Calls Tryz.prog 7 #[] w fun e w' => e = .returned (.bool true) ∧ Below w.heap.size w w':=by
 have HTW:=Lh hT
 have HF1:=Lh (fun (W : World) (cs : List Value) (h : DocAt (fun b => b < W.heap.size) 2 W cs wholeD) (hT : TabP W) => show Calls Tryz.prog 8 #[.agg cs.toArray] W (fun e w' => e = .returned (.tuple #[.string ⟨wholeF.toArray⟩,.int .i64 0]) ∧ Below W.heap.size W w') from by
   have:=file_in (fun b => b < W.heap.size) 2 W cs wholeD h (fun b h => h) wholeD_fit hT
   rw [wholeD_s,wholeD_e] at this;exact this)
 have HF2:=Lh (fun (W : World) (cs : List Value) (h : DocAt (fun b => b < W.heap.size) 2 W cs wholeD) (hT : TabP W) => show Calls Tryz.prog 10 #[.agg cs.toArray] W (fun e w' => (∃ p c,e = .returned (.tuple #[.slice p 3 c,.int .i64 0]) ∧ RArg slE w' (.slice p 3 c) wholeS) ∧ Below W.heap.size W w') from by
   have:=places_in (fun b => b < W.heap.size) 2 W cs wholeD h (fun b h => h) wholeD_fit hT
   rw [wholeD_l,wholeD_e] at this;exact this)
 have HF3:=Lh (fun (W : World) (hT : TabP W) => show Calls Tryz.prog 8 #[.agg #[.slice none 0 0,.int .i64 0,.int .i64 0,.int .i64 0,.string ⟨#[]⟩,.slice none 0 0,.slice none 0 0]] W (fun e w' => e = .returned (.tuple #[.string ⟨#[]⟩,.int .i64 10]) ∧ Below W.heap.size W w') from by
   have:=file_in (fun _ => False) 2 W _ zeroD (zero_at _ _ W) (fun b h => h.elim) zeroD_fit hT
   rw [zeroD_s,zeroD_e] at this;exact this)
 clear hT
 go_enter Tryz.func7,Tryz.ntmps7
 go_wp2_with fail
 refine (wdoc_in _).mono ?_
 rintro e w1 ⟨rfl,hD1,hb1⟩
 go_wp2_with fail
 refine (HF1.out _ _ hD1 (HTW.out.below hb1)).mono ?_
 rintro e w2 ⟨rfl,hb2⟩
 have hbw2:=hb1.trans (hb2.mono hb1.size)
 clear hD1 hb1 hb2 HF1
 go_wp2_with fail
 refine (wdoc_in _).mono ?_
 rintro e w3 ⟨rfl,hD3,hb3⟩
 have hbw3:=hbw2.trans (hb3.mono hbw2.size)
 go_wp2_with fail
 refine (HF2.out _ _ hD3 (HTW.out.below hbw3)).mono ?_
 rintro e w4 ⟨⟨p,c,rfl,hA⟩,hb4⟩
 have hbw4:=hbw3.trans (hb4.mono hbw3.size)
 clear hD3 hb3 hb4 hbw2 hbw3 HF2
 obtain ⟨g,off,rfl,hgl,q0,q1,q2,q3⟩:=slot_at hA 2 (by decide)
 clear hA
 go_wp2_with fail
 refine (HF3.out _ (HTW.out.below hbw4)).mono ?_
 rintro e w5 ⟨rfl,hb5⟩
 have k:=fun o => World.cell?_of_block (a:=⟨g,o,none⟩) (hb5.block g hgl)
 have r0:=(k _).trans q0
 have r1:=(k _).trans q1
 have r2:=(k _).trans q2
 have r3:=(k _).trans q3
 have hbw5:=hbw4.trans (hb5.mono hbw4.size)
 clear q0 q1 q2 q3 k hb5 hbw4 HF3
 simp only [wholeS,List.getElem_cons_succ,List.getElem_cons_zero] at r0 r1 r2 r3
 go_wp2
 go_ret
 exact ⟨rfl,hbw5⟩
def SizeX (S : Nat → Prop) (d : Nat) : Prop:=∀ (w : World) (cs : List Value) (o : Ob),ObjAt S d w cs o → smallO d o → (∀ b,S b → b < w.heap.size) → bulkO d o ≤ 1048576 →
 Calls Tryz.prog 19 #[.agg cs.toArray] w fun e w' => e = .returned (.int .i64 (sizeO d o)) ∧ Below w.heap.size w w'
theorem sizeX_step (S : Nat → Prop) (d : Nat) (IH : SizeX S d) : SizeX S (d + 1):=by
 intro w cs o hO hsm hS hbk
 obtain ⟨p1,c1,p2,c2,rfl⟩:=hO.form2
 have HB:=Lh hbk
 have HSL:=Lh (show o.s.length ≤ 1048576 from Nat.le_trans (bulk_s d o) hbk)
 obtain ⟨kv,dv,hcs,hK0,hR0⟩:=hO
 have hR : RowAt S d w (.slice p2 o.kids.length c2) o.kids:=by
   simp [objCells] at hcs;rw [hcs.2];exact hR0
 have hK : KeysAt S w (.slice p1 o.keys.length c1) o.keys:=by
   simp [objCells] at hcs;rw [hcs.1];exact hK0
 clear hR0 hcs hK0
 obtain ⟨m1,m2,m3,m4,m5⟩:=hsm
 have HRW:=Lh (And.intro hR (And.intro m5 hS))
 have HKW:=Lh (And.intro hK m4)
 obtain ⟨nk,hnk⟩ : ∃ nk,o.kids.length = nk:=⟨_,rfl⟩
 obtain ⟨nq,hnq⟩ : ∃ nq,o.keys.length = nq:=⟨_,rfl⟩
 have HNK:=Lh hnk
 have HNQ:=Lh hnq
 rw [hnk] at HRW m2
 rw [hnq] at HKW m1
 unfold objCells
 rw [hnk,hnq]
 have m3' : o.s.length < 9223372036854775807:=by omega
 clear hR hK hS m4 m5 hnk hnq hbk
 go_enter Tryz.func19,Tryz.ntmps19
 go_wp2
 go_loopw [3,16] (fun v i wr => ∃ (k : Nat),k ≤ nq ∧ i = .int .i64 k ∧ v = .int .i64 ((1 + o.s.length / 50 + ((o.keys.take k).map fun k => k.length / 50).sum : Nat) : Int) ∧ Below (w.heap.size + 1) (w.alloc (.cells #[.int .i64 o.kind,.int .i64 o.n,.int .i64 o.g,.string ⟨o.s.toArray⟩,.slice p1 nq c1,.slice p2 nk c2] 26)) wr) (fun _ i _ => nq - (intOf i).toNat)
 case atStart =>
   have:=HSL.out
   exact ⟨0,Nat.zero_le _,rfl,by simp,bel⟩
 case round =>
   obtain ⟨k,hk,rfl,rfl,hb⟩:=hrel
   by_cases hlt : k < nq
   ·
     have hbw : Below w.heap.size w wr:=(show Below w.heap.size w (w.alloc (.cells #[.int .i64 o.kind,.int .i64 o.n,.int .i64 o.g,.string ⟨o.s.toArray⟩,.slice p1 nq c1,.slice p2 nk c2] 26)) from bel).trans (hb.mono (by omega))
     have hKw : KeysAt S wr (.slice p1 nq c1) o.keys:=HKW.out.1.kept (fun b h => hbw.block b (HRW.out.2.2 b h))
     obtain ⟨b1,f1,rfl⟩ : ∃ b off,p1 = some ⟨b,off,none⟩:=by
       rcases hKw with ⟨e,_⟩ | ⟨b,off,c,e,_⟩
       · have:=HNQ.out;rw [e] at this;simp at this;omega
       · cases e;exact ⟨_,_,rfl⟩
     obtain ⟨s1,g1⟩:=key_at hKw HNQ.out k hlt
     have hkl : k < o.keys.length:=by rw [HNQ.out];exact hlt
     have hsum:=take_sum_succ (fun k => k.length / 50) o.keys k hkl
     have hbnd:=take_sum_le (fun k => k.length / 50) o.keys (k + 1)
     rw [show o.keys[k] = o.keys.getD k [] by simp [List.getD,hkl]] at hsum
     have hxb : (o.keys.getD k []).length ≤ 1048576:=Nat.le_trans (bulk_key (d:=d) (by simp [List.getD,hkl])) HB.out
     obtain ⟨x,hx⟩ : ∃ x,o.keys.getD k [] = x:=⟨_,rfl⟩
     rw [hx] at g1 hsum hxb
     have HSU:=Lh hsum
     have hsz:=size_bulk (d + 1) o
     unfold sizeO at hsz
     have hall : 1 + o.s.length / 50 + ((o.keys.take k).map fun k => k.length / 50).sum + x.length / 50 ≤ 1048576:=by have:=HB.out;omega
     obtain ⟨q,hq⟩ : ∃ q,1 + o.s.length / 50 + ((o.keys.take k).map fun k => k.length / 50).sum = q:=⟨_,rfl⟩
     have HQ:=Lh hq
     rw [hq] at hall ⊢
     clear hKw hx hkl hsum hbnd hsz hq
     obtain ⟨b0,b1',b2,b3,b4,b5,bf⟩:=six_of ((hb.block w.heap.size (by omega)).trans (heap_new_at w _ _ rfl))
     go_wp2
     go_roundw
     case rel =>
       refine ⟨k + 1,by omega,by go_num,?_,bel⟩
       rw [HSU.out,← Nat.add_assoc,HQ.out]
       go_num
     case measure => simp [intOf];omega
   · have hszr:=hb.size
     simp at hszr
     obtain ⟨b0,b1',b2,b3,b4,b5,bf⟩:=six_of ((hb.block w.heap.size (by omega)).trans (heap_new_at w _ _ rfl))
     have hb1:=hb
     clear hb
     have HKE:=Lh (show o.keys.take k = o.keys by rw [show k = o.keys.length by rw [HNQ.out];omega,List.take_length])
     go_wp2
     clear b0 b1' b2 b3 b4 b5 bf
     go_loopw [3,29] (fun v i wr => ∃ (k : Nat),k ≤ nk ∧ i = .int .i64 k ∧ v = .int .i64 ((1 + o.s.length / 50 + (o.keys.map fun k => k.length / 50).sum + ((o.kids.take k).map (sizeO d)).sum : Nat) : Int) ∧ Below (w.heap.size + 1) (w.alloc (.cells #[.int .i64 o.kind,.int .i64 o.n,.int .i64 o.g,.string ⟨o.s.toArray⟩,.slice p1 nq c1,.slice p2 nk c2] 26)) wr) (fun _ i _ => nk - (intOf i).toNat)
     case atStart => exact ⟨0,Nat.zero_le _,rfl,by rw [HKE.out];rfl,hb1⟩
     case round =>
       obtain ⟨k,hk,rfl,rfl,hb⟩:=hrel
       by_cases hlt : k < nk
       ·
         have hbw : Below w.heap.size w wr:=(show Below w.heap.size w (w.alloc (.cells #[.int .i64 o.kind,.int .i64 o.n,.int .i64 o.g,.string ⟨o.s.toArray⟩,.slice p1 nq c1,.slice p2 nk c2] 26)) from bel).trans (hb.mono (by omega))
         have hRw : RowAt S d wr (.slice p2 nk c2) o.kids:=HRW.out.1.kept (fun b h => hbw.block b (HRW.out.2.2 b h))
         obtain ⟨b,off,rfl⟩ : ∃ b off,p2 = some ⟨b,off,none⟩:=by
           rcases hRw with ⟨e,_⟩ | ⟨b,off,c,e,_⟩
           · have:=HNK.out;rw [e] at this;simp at this;omega
           · cases e;exact ⟨_,_,rfl⟩
         obtain ⟨x,p3,n3,e3,p4,n4,e4,hx,hxm,s1,O1,f0,f1,f2,f3,f4,f5⟩:=row_kid hRw HNK.out k hlt
         have hS2 : ∀ b,S b → b < wr.heap.size:=fun b h => Nat.lt_of_lt_of_le (HRW.out.2.2 b h) hbw.size
         have HI:=Lh (fun (W : World) (hW : Below wr.heap.size wr W) => IH W _ x (O1.kept (fun b h => hW.block b (hS2 b h)) d) (HRW.out.2.1 x hxm) (fun b h => Nat.lt_of_lt_of_le (hS2 b h) hW.size) (Nat.le_trans (bulk_kid hxm) HB.out))
         unfold objCells at HI
         have hkl : k < o.kids.length:=by rw [HNK.out];exact hlt
         have hsum:=take_sum_succ (sizeO d) o.kids k hkl
         have hbnd:=take_sum_le (sizeO d) o.kids (k + 1)
         have hxk : o.kids[k] = x:=by rw [← hx];simp [List.getD,hkl]
         rw [hxk] at hsum
         have HSU:=Lh hsum
         have hsz:=size_bulk (d + 1) o
         unfold sizeO at hsz
         have hall : 1 + o.s.length / 50 + (o.keys.map fun k => k.length / 50).sum + ((o.kids.take k).map (sizeO d)).sum + sizeO d x ≤ 1048576:=by have:=HB.out;omega
         obtain ⟨q,hq⟩ : ∃ q,1 + o.s.length / 50 + (o.keys.map fun k => k.length / 50).sum + ((o.kids.take k).map (sizeO d)).sum = q:=⟨_,rfl⟩
         have HQ:=Lh hq
         rw [hq] at hall ⊢
         obtain ⟨z,hz⟩ : ∃ z,sizeO d x = z:=⟨_,rfl⟩
         have HZ:=Lh hz
         rw [hz] at HI hall
         have L1:=hS2 b s1
         have hszr:=hb.size
         simp at hszr
         obtain ⟨b0,b1',b2,b3,b4,b5,bf⟩:=six_of ((hb.block w.heap.size (by omega)).trans (heap_new_at w _ _ rfl))
         clear hRw hx hxm O1 hS2 hkl hsum hbnd hxk hsz hq hz
         go_wp2_with fail
         refine (HI.out _ bel).mono ?_
         rintro e w4 ⟨rfl,hb4⟩
         go_wp2
         go_roundw
         case rel =>
           refine ⟨k + 1,by omega,by go_num,?_,bel⟩
           rw [HSU.out,← Nat.add_assoc,HQ.out,HZ.out]
           go_num
         case measure => simp [intOf];omega
       · have HKE2:=Lh (show o.kids.take k = o.kids by rw [show k = o.kids.length by rw [HNK.out];omega,List.take_length])
         go_wp2
         go_ret
         exact ⟨by rw [HKE2.out];rfl,bel⟩
theorem sizeX_in (S : Nat → Prop) : ∀ d,SizeX S d
 | 0 => fun _ _ _ h => h.elim
 | d + 1 => sizeX_step S d (sizeX_in S d)
theorem kids_size {S : Nat → Prop} {d : Nat} {w : World} {cs : List Value} {o : Ob} (h : ObjAt S (d + 1) w cs o) : o.kids.length ≤ sizeO (d + 1) o:=by
 obtain ⟨kv,dv,_,_,h3⟩:=h
 have hk : ∀ k ∈ o.kids,1 ≤ sizeO d k:=by
   intro k hk
   rcases h3 with ⟨h3,_⟩ | ⟨b,off,c,_,_,h6⟩
   · rw [h3] at hk;cases hk
   · obtain ⟨i,hi,rfl⟩:=List.mem_iff_getElem.1 hk
     obtain ⟨ks,_,_,g3⟩:=h6 i hi
     cases d with
     | zero => exact g3.elim
     | succ d => unfold sizeO;omega
 have:=len_sum hk
 unfold sizeO;omega
theorem sizeD_in (S : Nat → Prop) (d : Nat) (w : World) (D : Dc) (ip p1 p2 : Option Addr) (n ic n1 c1 n2 c2 : Nat) (hI : ItemsAt S d w (.slice ip n ic) D.items) (hn : D.items.length = n) (hl : n ≤ 1000000) (hsI : ∀ i ∈ D.items, smallO d i.ob)
   (hO : ObjAt S d w (objCells D.trail.kind D.trail.n D.trail.g D.trail.s (.slice p1 n1 c1) (.slice p2 n2 c2)) D.trail) (hsT : smallO d D.trail) (hS : ∀ b,S b → b < w.heap.size) (hbk : bulkD d D ≤ 1048576) :
   Calls Tryz.prog 6 #[.agg #[.slice ip n ic,.int .i64 D.trail.kind,.int .i64 D.trail.n,.int .i64 D.trail.g,.string ⟨D.trail.s.toArray⟩,.slice p1 n1 c1,.slice p2 n2 c2]] w fun e w' => e = .returned (.int .i64 (sizeD d D)) ∧ Below w.heap.size w w':=by
 have hbT : bulkO d D.trail ≤ 1048576:=by unfold bulkD at hbk;omega
 have hszT:=size_bulk d D.trail
 have hszI:=map_sum_le (l:=D.items) (f:=fun i => sizeO d i.ob) (g:=fun i => bulkO d i.ob) (fun i _ => size_bulk d i.ob)
 have hall : sizeD d D ≤ 1048576:=by unfold bulkD at hbk;unfold sizeD;omega
 have HBK:=Lh (fun i (hi : i ∈ D.items) => show bulkO d i.ob ≤ 1048576 from by have:=mem_sum_le (fun i : It => bulkO d i.ob) hi;unfold bulkD at hbk;omega)
 have HZ0:=Lh (fun (W : World) (hW : Below w.heap.size w W) => sizeX_in S d W _ D.trail (hO.kept (fun b h => hW.block b (hS b h)) d) hsT (fun b h => Nat.lt_of_lt_of_le (hS b h) hW.size) hbT)
 unfold objCells at HZ0
 obtain ⟨T,hT⟩ : ∃ T,sizeO d D.trail = T:=⟨_,rfl⟩
 have HT:=Lh hT
 rw [hT] at HZ0
 have HI:=Lh (And.intro hI hn)
 have HS:=Lh (And.intro hS hsI)
 have HA:=Lh hall
 clear hbk hbT hszT hszI hall hI hn hS hsI hO hsT hT
 go_enter Tryz.func6,Tryz.ntmps6
 go_wp2_with fail
 refine (HZ0.out _ bel).mono ?_
 rintro e w1 ⟨rfl,hb1⟩
 have hz1:=hb1.size
 simp at hz1
 have A1:=(hb1.block _ (by simp)).trans (heap_new_at w (.cells #[.slice ip n ic,.int .i64 D.trail.kind,.int .i64 D.trail.n,.int .i64 D.trail.g,.string ⟨D.trail.s.toArray⟩,.slice p1 n1 c1,.slice p2 n2 c2] 28) _ rfl)
 have hbw1 : Below w.heap.size w w1:=bel
 have s0 : w1.cell? ⟨w.heap.size,0,none⟩ = some (.slice ip n ic):=by simp [World.cell?,A1]
 clear hb1 A1 HZ0
 go_wp2
 clear s0
 go_loopw [3,12] (fun v i wr => ∃ (k : Nat),k ≤ n ∧ i = .int .i64 k ∧ v = .int .i64 ((T + ((D.items.take k).map fun i => sizeO d i.ob).sum : Nat) : Int) ∧ Below w.heap.size w wr) (fun _ i _ => n - (intOf i).toNat)
 case atStart => exact ⟨0,Nat.zero_le _,rfl,by simp,hbw1⟩
 case round =>
   obtain ⟨k,hk,rfl,rfl,hbr⟩:=hrel
   have hzr:=hbr.size
   by_cases hlk : k < n
   · have hvr : ItemsAt S d wr (.slice ip n ic) D.items:=HI.out.1.kept (fun b h => hbr.block b (HS.out.1 b h))
     obtain ⟨b,off,rfl⟩:=hvr.addr HI.out.2 k hlk
     obtain ⟨i,y1,t1,x1,y2,t2,x2,hi,hsb,O1,e0,e1,e2,e3,e4,e5,e6,e7⟩:=item_kid hvr HI.out.2 k hlk
     have him:=List.mem_of_getElem? hi
     have hblt : b < wr.heap.size:=Nat.lt_of_lt_of_le (HS.out.1 b hsb) hzr
     have hbne : ¬ b = wr.heap.size:=by omega
     have HC:=Lh (fun (W : World) (hW : Below wr.heap.size wr W) => sizeX_in S d W _ i.ob (O1.kept (fun b h => hW.block b (Nat.lt_of_lt_of_le (HS.out.1 b h) hzr)) d) (HS.out.2 i him) (fun b h => Nat.lt_of_lt_of_le (HS.out.1 b h) (Nat.le_trans hzr hW.size)) (HBK.out i him))
     unfold objCells at HC
     have hkl : k < D.items.length:=by rw [HI.out.2];exact hlk
     have hsum:=take_sum_succ (fun i : It => sizeO d i.ob) D.items k hkl
     have hbnd:=take_sum_le (fun i : It => sizeO d i.ob) D.items (k + 1)
     have hxk : D.items[k] = i:=by have:=List.getElem?_eq_getElem hkl;rw [hi] at this;exact (Option.some.inj this).symm
     rw [hxk] at hsum
     have HSU:=Lh hsum
     have hall : T + ((D.items.take k).map fun i => sizeO d i.ob).sum + sizeO d i.ob ≤ 1048576:=by
       have:=HA.out
       unfold sizeD at this
       rw [HT.out] at this
       omega
     obtain ⟨q,hq⟩ : ∃ q,T + ((D.items.take k).map fun i => sizeO d i.ob).sum = q:=⟨_,rfl⟩
     have HQ:=Lh hq
     rw [hq] at hall ⊢
     obtain ⟨z,hz⟩ : ∃ z,sizeO d i.ob = z:=⟨_,rfl⟩
     have HZ:=Lh hz
     rw [hz] at HC hall
     clear hvr hi hsb O1 him hkl hsum hbnd hxk hq hz
     go_wp2_with fail
     refine (HC.out _ bel).mono ?_
     rintro e w4 ⟨rfl,hb4⟩
     have hbw4 : Below w.heap.size w w4:=hbr.trans ((((Below.refl _ wr).alloc (Nat.le_refl _) (.cells #[.int .i64 i.num,.int .i64 i.gen,.int .i64 i.ob.kind,.int .i64 i.ob.n,.int .i64 i.ob.g,.string ⟨i.ob.s.toArray⟩,.slice y1 t1 x1,.slice y2 t2 x2] 50)).trans (hb4.mono (by simp))).mono hbr.size)
     go_wp2
     go_roundw
     case rel =>
       refine ⟨k + 1,by omega,by go_num,?_,hbw4⟩
       rw [HSU.out,← Nat.add_assoc,HQ.out,HZ.out]
       go_num
     case measure => simp [intOf];omega
   · have HKE:=Lh (show T + ((D.items.take k).map fun i => sizeO d i.ob).sum = sizeD d D by rw [show k = D.items.length by rw [HI.out.2];omega,List.take_length,← HT.out];rfl)
     rw [HKE.out]
     go_wp2
     go_ret
     exact ⟨rfl,hbr⟩
theorem ItemsAt.up {S : Nat → Prop} {d : Nat} {w : World} {v : Value} {l : List It} (h : ItemsAt S d w v l) : ItemsAt S (d + 1) w v l:=by
 rcases h with h | ⟨b,off,c,h1,h2,h3⟩
 · exact .inl h
 · refine .inr ⟨b,off,c,h1,h2,fun j hj => ?_⟩
   obtain ⟨v0,v1,v2,v3,v4,v5,a0,a1,a2,a3,a4,a5,a6,a7,a8⟩:=h3 j hj
   exact ⟨v0,v1,v2,v3,v4,v5,a0,a1,a2,a3,a4,a5,a6,a7,a8.up⟩
theorem fit_small {S : Nat → Prop} {d : Nat} {w : World} {v : Value} {D : Dc} (hI : ItemsAt S (d + 1) w v D.items) (hl : D.items.length ≤ 1000000) (hb : bulkD 24 D ≤ 1048576) (hs : sizeD (d + 1) D ≤ 600) : DocFit D:=by
 refine ⟨hl,hb,fun i hi => ?_⟩
 obtain ⟨k,hk,rfl⟩:=List.mem_iff_getElem.1 hi
 rcases hI with ⟨h,_⟩ | ⟨b,off,c,_,_,h3⟩
 · rw [h] at hk;exact absurd hk (Nat.not_lt_zero _)
 · obtain ⟨v0,v1,v2,v3,v4,v5,_,_,_,_,_,_,_,_,a8⟩:=h3 k hk
   have h1:=kids_size a8
   have h2:=mem_sum_le (fun i : It => sizeO (d + 1) i.ob) (List.getElem_mem hk)
   unfold sizeD at hs
   omega
end Go.Proofs.YtfgdhcemidlnfaaGreatDoor
namespace Fo
structure PsOk (D : Dc) (f : L) (ps : List Sl) : Prop where
 up : ps.Pairwise (fun a b => a.num < b.num)
 len : ps.length = D.items.length
 at_ : ∀ k (h1 : k < D.items.length) (h2 : k < ps.length),∃ t rest,itemW D.items[k] = .good t ∧ f.drop ps[k].a.toNat = t ++ rest ∧ 0 ≤ ps[k].a ∧ ps[k].a ≤ f.length ∧ ps[k].num = D.items[k].num ∧ ps[k].b = D.items[k].gen ∧ ps[k].kind = 1
 one : ∀ k (h : k < ps.length),1 ≤ ps[k].num
 most : ∀ k (h : k < ps.length),ps[k].num ≤ mostW D.items
theorem most_last {l : List It} (hp : l.Pairwise fun a b => a.num < b.num) (h0 : ∀ i ∈ l,0 ≤ i.num) : ∀ k (h : k < l.length),l[k].num ≤ mostW l:=by
 intro k h
 have hne : l ≠ []:=fun e => by rw [e] at h;simp at h
 have hl : l.getLast? = some (l[l.length - 1]'(by omega)):=by rw [List.getLast?_eq_getElem?,List.getElem?_eq_getElem (by omega)]
 unfold mostW
 rw [hl]
 have hz:=h0 _ (List.getElem_mem (l:=l) (n:=l.length - 1) (by omega))
 by_cases e : k = l.length - 1
 · subst e;dsimp only;omega
 · have:=(List.pairwise_iff_getElem.1 hp) k (l.length - 1) h (by omega) (by omega)
   dsimp only;omega
theorem ps_ok {D : Dc} {f : L} {l : List Sl} (h : fileW D = .good (f,l)) : ∃ ps,l = slotsW ps (mostW D.items) ∧ mostW D.items ≤ 8191 ∧ PsOk D f ps:=by
 obtain ⟨hd,_⟩:=fileW_good h
 obtain ⟨hI,_⟩:=(docB_iff D).1 hd
 obtain ⟨ps,h1,h2,h3,h4⟩:=(fileW_ok h).items
 have hn : ∀ k (h : k < D.items.length),1 ≤ D.items[k].num:=fun k h => ((numsB_iff _).1 (hI.all _ (List.getElem_mem h)).1).1
 refine ⟨ps,h1,mostW_le hI,h2,h3,h4,fun k h => ?_,fun k h => ?_⟩
 · obtain ⟨t,rest,_,_,_,_,e,_⟩:=h4 k (by omega) h
   rw [e];exact hn k _
 · obtain ⟨t,rest,_,_,_,_,e,_⟩:=h4 k (by omega) h
   rw [e]
   exact most_last (ItemsOk.up hI).2 (fun i hi => by have:=((numsB_iff i).1 (hI.all i hi).1).1;omega) k (by omega)
end Fo
namespace Go.Proofs.YtfgdhcemidlnfaaGreatDoor
open Go.RowKit Fo
theorem file_bad {D : Dc} (hf : DocFit D) {k : Int} (h : fileW D = .bad k) : k ≠ 0:=by
 unfold fileW at h
 by_cases h1 : docB D ≠ 0
 · rw [if_pos h1] at h
   cases h
   exact h1
 · rw [if_neg h1] at h
   obtain ⟨r,ps,hM⟩:=made_ok (by omega) hf
   rw [hM.parts] at h
   dsimp only at h
   by_cases h2 : 1048576 < (r ++ (tableW (slotsW ps (mostW D.items)) (sizeT D) ++ tailW r.length)).length
   · rw [if_pos h2] at h
     cases h
     decide
   · rw [if_neg h2] at h
     cases h
theorem item_at {S : Nat → Prop} {d : Nat} {w : World} {b off n c : Nat} {l : List It} (h : ItemsAt S d w (.slice (some ⟨b, off, none⟩) n c) l) (k : Nat) (hk : k < l.length) :
   ∃ q1 m1 e1 q2 m2 e2,S b ∧ w.cell? ⟨b,off + k * 8,none⟩ = some (.int .i64 l[k].num) ∧ w.cell? ⟨b,off + k * 8 + 1,none⟩ = some (.int .i64 l[k].gen) ∧ w.cell? ⟨b,off + k * 8 + 2,none⟩ = some (.int .i64 l[k].ob.kind) ∧ w.cell? ⟨b,off + k * 8 + 3,none⟩ = some (.int .i64 l[k].ob.n) ∧
     w.cell? ⟨b,off + k * 8 + 4,none⟩ = some (.int .i64 l[k].ob.g) ∧ w.cell? ⟨b,off + k * 8 + 5,none⟩ = some (.string ⟨l[k].ob.s.toArray⟩) ∧ w.cell? ⟨b,off + k * 8 + 6,none⟩ = some (.slice q1 m1 e1) ∧ w.cell? ⟨b,off + k * 8 + 7,none⟩ = some (.slice q2 m2 e2) ∧
     ObjAt S d w (objCells l[k].ob.kind l[k].ob.n l[k].ob.g l[k].ob.s (.slice q1 m1 e1) (.slice q2 m2 e2)) l[k].ob:=by
 rcases h with ⟨rfl,_⟩ | ⟨b',off',c',e,hS,h3⟩
 · exact absurd hk (Nat.not_lt_zero _)
 · cases e
   obtain ⟨v0,v1,v2,v3,v4,v5,a0,a1,a2,a3,a4,a5,a6,a7,a8⟩:=h3 k hk
   obtain ⟨q1,m1,e1,q2,m2,e2,e⟩:=a8.shape
   have e':=e
   unfold objCells at e
   simp only [List.cons.injEq,and_true] at e
   obtain ⟨rfl,rfl,rfl,rfl,rfl,rfl⟩:=e
   exact ⟨q1,m1,e1,q2,m2,e2,hS,a0,a1,a2,a3,a4,a5,a6,a7,a8⟩
def slG (x : Sl) (j : Nat) : Int:=match j with | 0 => x.num | 1 => x.kind | 2 => x.a | _ => x.b
def slP (x : Sl) (j : Nat) (v : Int) : Sl:=match j with | 0 => { x with num:=v } | 1 => { x with kind:=v } | 2 => { x with a:=v } | _ => { x with b:=v }
theorem slG_put (x : Sl) (j i : Nat) (v : Int) (hj : j < 4) (hi : i < 4) : slG (slP x j v) i = if i = j then v else slG x i:=by
 have h1 : j = 0 ∨ j = 1 ∨ j = 2 ∨ j = 3:=by omega
 have h2 : i = 0 ∨ i = 1 ∨ i = 2 ∨ i = 3:=by omega
 rcases h1 with rfl | rfl | rfl | rfl <;> rcases h2 with rfl | rfl | rfl | rfl <;> rfl
def TabF (w : World) (g N : Nat) (f : Nat → Sl) : Prop:=w.rowIs g 48 (N * 4) fun i => .int .i64 (slG (f (i / 4)) (i % 4))
theorem TabF.put {w : World} {g N : Nat} {f : Nat → Sl} (h : TabF w g N f) (k j : Nat) (hj : j < 4) (v : Int) : TabF (w.setCell ⟨g,k * 4 + j,none⟩ (.int .i64 v)) g N (fun m => if m = k then slP (f k) j v else f m):=by
 refine (h.set (k * 4 + j) (.int .i64 v)).congr fun i _ => ?_
 dsimp only
 by_cases hk : i / 4 = k
 · subst hk
   rw [if_pos rfl,slG_put _ _ _ _ hj (Nat.mod_lt _ (by decide))]
   by_cases hij : i % 4 = j
   · rw [if_pos hij,if_pos (by omega)]
   · rw [if_neg hij,if_neg (by omega)]
 · rw [if_neg hk,if_neg (by omega)]
theorem TabF.at {w : World} {g N : Nat} {f : Nat → Sl} (h : TabF w g N f) (k : Nat) (hk : k < N) (j : Nat) (hj : j < 4) : w.cell? ⟨g,k * 4 + j,none⟩ = some (.int .i64 (slG (f k) j)):=by
 have:=h.cell (i:=k * 4 + j) (by omega)
 rw [this,show (k * 4 + j) / 4 = k by omega,show (k * 4 + j) % 4 = j by omega]
theorem TabF.four {w : World} {g N : Nat} {f : Nat → Sl} (h : TabF w g N f) (k : Nat) (hk : k < N) :
   w.cell? ⟨g,k * 4,none⟩ = some (.int .i64 (f k).num) ∧ w.cell? ⟨g,k * 4 + 1,none⟩ = some (.int .i64 (f k).kind) ∧ w.cell? ⟨g,k * 4 + 2,none⟩ = some (.int .i64 (f k).a) ∧ w.cell? ⟨g,k * 4 + 3,none⟩ = some (.int .i64 (f k).b) ∧
   w.frozen? ⟨g,k * 4,none⟩ = false ∧ w.frozen? ⟨g,k * 4 + 1,none⟩ = false ∧ w.frozen? ⟨g,k * 4 + 2,none⟩ = false ∧ w.frozen? ⟨g,k * 4 + 3,none⟩ = false :=
 ⟨h.at k hk 0 (by decide),h.at k hk 1 (by decide),h.at k hk 2 (by decide),h.at k hk 3 (by decide),h.frozen _,h.frozen _,h.frozen _,h.frozen _⟩
theorem TabF.same {w : World} {g N : Nat} {f f' : Nat → Sl} (h : TabF w g N f) (e : ∀ k,k < N → f k = f' k) : TabF w g N f' :=
 h.congr fun i hi => by rw [e (i / 4) (by omega)]
theorem TabF.below {w w' : World} {g N : Nat} {f : Nat → Sl} (h : TabF w g N f) (hb : Below w.heap.size w w') : TabF w' g N f:=h.of_block (hb.block g (World.rowIs.lt h))
theorem TabF.lt {w : World} {g N : Nat} {f : Nat → Sl} (h : TabF w g N f) : g < w.heap.size:=World.rowIs.lt h
theorem TabF.made (w : World) (N : Nat) : TabF (w.alloc (.cells (madeCells #[.int .i64 0,.int .i64 0,.int .i64 0,.int .i64 0] (N * 4)) 48)) w.heap.size N fun _ => ⟨0,0,0,0⟩:=by
 refine ⟨_,heap_alloc_new _ _,size_madeCells _ _,fun i hi => ?_⟩
 have h4 : i % 4 = 0 ∨ i % 4 = 1 ∨ i % 4 = 2 ∨ i % 4 = 3:=by omega
 rcases h4 with h | h | h | h <;> simp [madeCells,hi,h,slG]
theorem TabF.row {w : World} {g N : Nat} {f : Nat → Sl} (h : TabF w g N f) : RArg slE w (.slice (some ⟨g,0,none⟩) N N) ((List.range N).map f):=by
 refine ⟨some ⟨g,0,none⟩,N,by simp,fun k hk => ?_⟩
 have hk' : k < N:=by simpa using hk
 refine ⟨g,0,rfl,h.lt,?_⟩
 intro j v hv
 have e : ((List.range N).map f)[k] = f k:=by simp
 rw [e] at hv
 have hv' : [Value.int .i64 (f k).num,.int .i64 (f k).kind,.int .i64 (f k).a,.int .i64 (f k).b][j]? = some v:=hv
 have hj : j < 4:=(List.getElem?_eq_some_iff.1 hv').1
 have h4 : j = 0 ∨ j = 1 ∨ j = 2 ∨ j = 3:=by omega
 show w.cell? ⟨g,0 + k * 4 + j,none⟩ = some v
 rw [Nat.zero_add,h.at k hk' j hj]
 rcases h4 with rfl | rfl | rfl | rfl <;> exact hv'
theorem Tryz.infoSx : (Tryz.prog.info? 48).map (fun i => (i.zero,i.size,i.bytes)) = some (some (.agg #[.int .i64 0,.int .i64 0,.int .i64 0,.int .i64 0]),4,32):=by kernel_rfl
theorem make_slots (N : Nat) (hN : N ≤ 8192) (w : World) : (Instr.makeSlice 34 (.int .i64 (N : Int)) (.int .i64 (N : Int))).run Tryz.prog w = .ok (.slice (some ⟨w.heap.size,0,none⟩) N N) (w.alloc (.cells (madeCells #[.int .i64 0,.int .i64 0,.int .i64 0,.int .i64 0] (N * 4)) 48)):=by
 obtain ⟨i,hi,h⟩:=Option.map_eq_some_iff.1 Tryz.infoSx
 simp only [Prod.mk.injEq] at h
 obtain ⟨hz,hs,hb⟩:=h
 have hr:=run_make (P:=Tryz.prog) w 34 48 i _ Tryz.underlying34 hi hz .i64 .i64 N N (by omega) (Int.le_refl _) (by rw [hb];omega) (by omega)
 simp only [Int.toNat_natCast,hs] at hr
 exact hr
def ItemsCap (w : World) (v : Value) : Prop:=∀ b off n c,v = .slice (some ⟨b,off,none⟩) n c → (0 < n → b < w.heap.size) ∧ ∀ j,j < n → ∀ p m c',(w.cell? ⟨b,off + j * 8 + 6,none⟩ = some (.slice p m c') ∨ w.cell? ⟨b,off + j * 8 + 7,none⟩ = some (.slice p m c')) → m ≤ c' ∧ (p = none → c' = 0)
theorem ItemsCap.below {w w' : World} {v : Value} (h : ItemsCap w v) (hb : Below w.heap.size w w') : ItemsCap w' v:=by
 intro b off n c e
 obtain ⟨h1,h2⟩:=h b off n c e
 refine ⟨fun h0 => Nat.lt_of_lt_of_le (h1 h0) hb.size,fun j hj p m c' hc => h2 j hj p m c' ?_⟩
 have h1:=h1 (Nat.lt_of_le_of_lt (Nat.zero_le _) hj)
 rwa [World.cell?_of_block (a:=⟨b,off + j * 8 + 6,none⟩) (hb.block b h1),World.cell?_of_block (a:=⟨b,off + j * 8 + 7,none⟩) (hb.block b h1)] at hc
structure ItR (w : World) (b o : Nat) (i : It) : Prop where
 nums : 1 ≤ i.num ∧ i.num ≤ 8191 ∧ 0 ≤ i.gen ∧ i.gen ≤ 65535
 cells : ∃ y1 m1 e1 y2 m2 e2,w.cell? ⟨b,o,none⟩ = some (.int .i64 i.num) ∧ w.cell? ⟨b,o + 1,none⟩ = some (.int .i64 i.gen) ∧ w.cell? ⟨b,o + 2,none⟩ = some (.int .i64 i.ob.kind) ∧ w.cell? ⟨b,o + 3,none⟩ = some (.int .i64 i.ob.n) ∧
   w.cell? ⟨b,o + 4,none⟩ = some (.int .i64 i.ob.g) ∧ w.cell? ⟨b,o + 5,none⟩ = some (.string ⟨i.ob.s.toArray⟩) ∧ w.cell? ⟨b,o + 6,none⟩ = some (.slice y1 m1 e1) ∧ w.cell? ⟨b,o + 7,none⟩ = some (.slice y2 m2 e2) ∧
   ∀ W,Below w.heap.size w W → Calls Tryz.prog 23 #[.agg #[.int .i64 i.num,.int .i64 i.gen,.int .i64 i.ob.kind,.int .i64 i.ob.n,.int .i64 i.ob.g,.string ⟨i.ob.s.toArray⟩,.slice y1 m1 e1,.slice y2 m2 e2]] W fun e w' =>
     ∃ t,itemW i = .good t ∧ e = .returned (.tuple #[.string ⟨t.toArray⟩,.int .i64 0]) ∧ Below W.heap.size W w'
theorem item_r {S : Nat → Prop} {d b off n c : Nat} {l : List It} {w : World} (h : ItemsAt S (d + 1) w (.slice (some ⟨b, off, none⟩) n c) l) (hn : l.length = n) (hcap : ItemsCap w (.slice (some ⟨b, off, none⟩) n c)) (hS : ∀ b, S b → b < w.heap.size)
   (hsm : ∀ i ∈ l,smallO (d + 1) i.ob) (hf : ∀ i ∈ l,Fit i) (k : Nat) (hk : k < n) : ∃ i,l[k]? = some i ∧ b < w.heap.size ∧ ItR w b (off + k * 8) i:=by
 have hk' : k < l.length:=by omega
 obtain ⟨y1,m1,e1,y2,m2,e2,hSb,a0,a1,a2,a3,a4,a5,a6,a7,a8⟩:=item_at h k hk'
 obtain ⟨i,hi⟩ : ∃ i,l[k] = i:=⟨_,rfl⟩
 have hmem : i ∈ l:=by rw [← hi];exact List.getElem_mem hk'
 rw [hi] at a0 a1 a2 a3 a4 a5 a8
 have hfit:=hf i hmem
 have hg:=(numsB_iff i).1 hfit.nums
 refine ⟨i,by rw [List.getElem?_eq_getElem hk',hi],hS b hSb,⟨by omega,by omega,by omega,by omega⟩,y1,m1,e1,y2,m2,e2,a0,a1,a2,a3,a4,a5,a6,a7,fun W hW => ?_⟩
 obtain ⟨_,hc⟩:=hcap b off n c rfl
 have c1:=hc k hk y1 m1 e1 (.inl a6)
 have c2:=hc k hk y2 m2 e2 (.inr a7)
 obtain ⟨num,hnum⟩:=Int.eq_ofNat_of_zero_le (show 0 ≤ i.num by omega)
 obtain ⟨gen,hgen⟩:=Int.eq_ofNat_of_zero_le (show 0 ≤ i.gen by omega)
 have hie : i = ⟨(num : Int),(gen : Int),i.ob⟩:=by rw [← hnum,← hgen]
 have:=r8text S d num gen i.ob.kind i.ob.n i.ob.g i.ob.s y1 y2 m1 e1 m2 e2 i.ob W (by omega) (by omega) (by omega) hfit.kind
   (a8.kept (fun b h => hW.block b (hS b h)) (d + 1)) (hsm i hmem) (fun b h => Nat.lt_of_lt_of_le (hS b h) hW.size) hfit.chk rfl (fun _ => Nat.le_trans hfit.bulk (by decide)) hfit.len rfl rfl rfl ⟨c1.1,c2.1,c1.2,c2.2⟩
 rw [← hie] at this
 rw [hnum,hgen]
 exact this
def slot0 (ps : List Sl) (n : Nat) : Sl:=match ps.find? (fun x => x.num == (n : Int)) with | some x => x | none => ⟨n,0,0,if n = 0 then 65535 else 0⟩
theorem slot0_snoc {ps : List Sl} {x : Sl} {k : Nat} (hx : x.num = (k : Int)) (hf : ps.find? (fun y => y.num == x.num) = none) (m : Nat) : slot0 (ps ++ [x]) m = if m = k then x else slot0 ps m:=by
 unfold slot0
 rw [List.find?_append]
 by_cases h : m = k
 · subst h
   rw [hx] at hf
   rw [hf,if_pos rfl]
   simp [hx]
 · have : (x.num == (m : Int)) = false:=by rw [hx];simp;omega
   rw [if_neg h]
   simp [this]
theorem slot0_new {ps : List Sl} {n : Nat} (h : ps.find? (fun y => y.num == (n : Int)) = none) : slot0 ps n = ⟨n,0,0,if n = 0 then 65535 else 0⟩:=by unfold slot0;rw [h]
theorem r26top (kt nt gt : Int) (st : ByteArray) (ip p1 p2 : Option Addr) (n ic n1 c1 n2 c2 : Nat) (l : List It) (S : Nat → Prop) (d : Nat) (w : World)
   (hI : ItemsAt S (d + 1) w (.slice ip n ic) l) (hn : l.length = n) (hn0 : 0 < n) (hS : ∀ b,S b → b < w.heap.size) (hm : n ≤ 1000000) (h0 : ∀ i ∈ l,0 ≤ i.num) :
   Calls Tryz.prog 27 #[.agg #[.slice ip n ic,.int .i64 kt,.int .i64 nt,.int .i64 gt,.string st,.slice p1 n1 c1,.slice p2 n2 c2]] w fun e w' => e = .returned (.int .i64 (mostW l)) ∧ Below w.heap.size w w':=by
 obtain ⟨m,rfl⟩ : ∃ m,n = m + 1:=⟨n - 1,by omega⟩
 obtain ⟨b,off,rfl⟩:=hI.addr hn m (by omega)
 have hk' : m < l.length:=by omega
 obtain ⟨y1,m1,e1,y2,m2,e2,hSb,a0,_⟩:=item_at hI m hk'
 have hM : ((mostW l : Nat) : Int) = l[m].num:=by
   rw [mostW_last hn (List.getElem?_eq_getElem hk')]
   exact Int.toNat_of_nonneg (h0 _ (List.getElem_mem hk'))
 have HM:=Lh hM
 obtain ⟨q,hq⟩ : ∃ q,l[m].num = q:=⟨_,rfl⟩
 rw [hq] at a0 HM
 have hblt:=hS b hSb
 have hbne : ¬ b = w.heap.size:=by omega
 have v1 : (0 : Int) ≤ m:=by omega
 clear hI hn hS h0 hM hSb hq
 go_enter Tryz.func27,Tryz.ntmps27
 go_wp2
 go_ret
 exact ⟨ret_int HM.out.symm,bel⟩
theorem r26parts (kt nt gt : Int) (st : ByteArray) (ip p1 p2 : Option Addr) (n ic n1 c1 n2 c2 : Nat) (l : List It) (r : L) (ps : List Sl) (S : Nat → Prop) (d : Nat) (w : World)
   (hI : ItemsAt S (d + 1) w (.slice ip n ic) l) (hn : l.length = n) (hn0 : 0 < n) (hS : ∀ b,S b → b < w.heap.size) (hm : n ≤ 1000000) (hsm : ∀ i ∈ l,smallO (d + 1) i.ob) (hcap : ItemsCap w (.slice ip n ic))
   (hf : ∀ i ∈ l,Fit i) (hup : ItemsOk none l) (hp : partsW headW l = .good (r,ps)) (hr : r.length ≤ 140737488355328) (hmost : mostW l ≤ 8191) (hz : ps.find? (fun x => x.num == 0) = none) :
   Calls Tryz.prog 24 #[.agg #[.slice ip n ic,.int .i64 kt,.int .i64 nt,.int .i64 gt,.string st,.slice p1 n1 c1,.slice p2 n2 c2]] w fun e w' => ∃ g,e = .returned (.tuple #[.string ⟨r.toArray⟩,.slice (some ⟨g,0,none⟩) (mostW l + 1) (mostW l + 1)]) ∧ w.heap.size ≤ g ∧
     RArg slE w' (.slice (some ⟨g,0,none⟩) (mostW l + 1) (mostW l + 1)) (slotsW ps (mostW l)) ∧ Below w.heap.size w w':=by
 obtain ⟨b,off,rfl⟩:=hI.addr hn 0 hn0
 have HTOP:=Lh (fun (W : World) (hW : Below w.heap.size w W) => r26top kt nt gt st (some ⟨b,off,none⟩) p1 p2 n ic n1 c1 n2 c2 l S d W (hI.kept (fun b h => hW.block b (hS b h))) hn hn0 (fun b h => Nat.lt_of_lt_of_le (hS b h) hW.size) hm (fun i hi => by have:=((numsB_iff i).1 (hf i hi).nums).1;omega))
 have HIT:=Lh (fun (W : World) (hW : Below w.heap.size w W) (k : Nat) (hk : k < n) => item_r (hI.kept (fun b h => hW.block b (hS b h))) hn (hcap.below hW) (fun b h => Nat.lt_of_lt_of_le (hS b h) hW.size) hsm hf k hk)
 have HPU:=Lh (parts_up hp hup)
 have HPK:=Lh (partsW_ok hp).1.kind
 have HNM:=Lh (fun (i : It) (hi : i ∈ l) => (show i.num ≤ (mostW l : Int) from by
   obtain ⟨k,hk,rfl⟩:=List.mem_iff_getElem.1 hi
   exact most_last hup.up.2 (fun i hi => by have:=((numsB_iff i).1 (hf i hi).nums).1;omega) k hk))
 obtain ⟨M,hM⟩ : ∃ M,mostW l = M:=⟨_,rfl⟩
 have HP0:=Lh hp
 have HR:=Lh hr
 have HZ:=Lh hz
 have HN:=Lh hn
 have hblt:=(hcap b off n ic rfl).1 hn0
 rw [hM] at HTOP HNM hmost ⊢
 clear hI hn hS hsm hcap hf hup hp hr hz hM
 go_enter Tryz.func24,Tryz.ntmps24
 go_upto_region 1 with fail
 obtain ⟨w0,hw0⟩ : ∃ w0,w.alloc (.cells #[.slice (some ⟨b,off,none⟩) n ic,.int .i64 kt,.int .i64 nt,.int .i64 gt,.string st,.slice p1 n1 c1,.slice p2 n2 c2] 28) = w0:=⟨_,rfl⟩
 have hx0 : w0.heap[w.heap.size]? = some (.cells #[.slice (some ⟨b,off,none⟩) n ic,.int .i64 kt,.int .i64 nt,.int .i64 gt,.string st,.slice p1 n1 c1,.slice p2 n2 c2] 28 (0,0)):=by rw [← hw0];exact heap_new_at _ _ _ rfl
 have hb0 : Below w.heap.size w w0:=by rw [← hw0];exact bel
 have hz0 : w0.heap.size = w.heap.size + 1:=by rw [← hw0];simp
 rw [hw0]
 clear hw0
 go_wp2_with fail
 refine (Lh (fun W => r17text W)).out _ |>.mono ?_
 rintro e w1 ⟨rfl,h1⟩
 subst h1
 obtain ⟨z0,z1,z2,z3,z4,z5,z6⟩:=seven_of hx0
 go_wp2_with fail
 refine (HTOP.out _ hb0).mono ?_
 rintro e w2 ⟨rfl,hb2⟩
 have hz2:=hb2.size
 have hbw2:=hb0.trans (hb2.mono hb0.size)
 have hx2:=(hb2.block _ (by omega)).trans hx0
 have hmk:=Lh (fun W => show (Instr.makeSlice 34 (.int .i64 ((M : Int) + 1)) (.int .i64 ((M : Int) + 1))).run Tryz.prog W = .ok (.slice (some ⟨W.heap.size,0,none⟩) (M + 1) (M + 1)) (W.alloc (.cells (madeCells #[.int .i64 0,.int .i64 0,.int .i64 0,.int .i64 0] ((M + 1) * 4)) 48)) from make_slots (M + 1) (by omega) W)
 have hmk2:=hmk.out w2
 clear z0 z1 z2 z3 z4 z5 z6 hx0 hb0 hb2 hmk
 go_upto_region 3 with fail
 obtain ⟨w3,hw3⟩ : ∃ w3,w2.alloc (.cells (madeCells #[.int .i64 0,.int .i64 0,.int .i64 0,.int .i64 0] ((M + 1) * 4)) 48) = w3:=⟨_,rfl⟩
 have hT3 : TabF w3 w2.heap.size (M + 1) fun _ => ⟨0,0,0,0⟩:=by rw [← hw3];exact TabF.made w2 (M + 1)
 have hbw3 : Below w.heap.size w w3:=by rw [← hw3];exact hbw2.alloc hbw2.size _
 have hx3 : w3.heap[w.heap.size]? = some (.cells #[.slice (some ⟨b,off,none⟩) n ic,.int .i64 kt,.int .i64 nt,.int .i64 gt,.string st,.slice p1 n1 c1,.slice p2 n2 c2] 28 (0,0)):=by rw [← hw3];exact (Below.heap_alloc _ _ _ (by omega)).trans hx2
 rw [hw3]
 obtain ⟨G,hG⟩ : ∃ G,w2.heap.size = G:=⟨_,rfl⟩
 rw [hG] at hT3 ⊢
 have hGw : w.heap.size < G:=by omega
 clear hw3 hmk2 hx2 hbw2
 go_wp2
 go_loopw [7] (fun i wr => ∃ k : Nat,k ≤ M + 1 ∧ i = .int .i64 k ∧ Below w.heap.size w wr ∧ TabF wr G (M + 1) (fun m => ⟨if m < k then (m : Int) else 0,0,0,0⟩) ∧ wr.heap[w.heap.size]? = some (.cells #[.slice (some ⟨b,off,none⟩) n ic,.int .i64 kt,.int .i64 nt,.int .i64 gt,.string st,.slice p1 n1 c1,.slice p2 n2 c2] 28 (0,0))) (fun i _ => M + 1 - (intOf i).toNat)
 case atStart => exact ⟨0,Nat.zero_le _,rfl,hbw3,hT3.same (fun k _ => by simp),hx3⟩
 case round =>
   obtain ⟨k,hk,rfl,hbr,hT,hx⟩:=hrel
   by_cases hlk : k < M + 1
   · obtain ⟨a0,a1,a2,a3,f0,f1,f2,f3⟩:=hT.four k hlk
     have v1 : (0 : Int) ≤ k:=by omega
     have v2 : (k : Int) < (M : Int) + 1:=by omega
     clear a1 a2 a3 f1 f2 f3
     go_wp2
     go_roundw
     case rel => exact ⟨k + 1,by omega,by go_num,hbr.setCell (Nat.le_of_lt hGw) _,(hT.put k 0 (by decide) k).same (fun m hm => by
       by_cases h : m = k
       · subst h;simp [slP]
       · rw [if_neg h]
         by_cases h2 : m < k
         · rw [if_pos h2,if_pos (by omega)]
         · rw [if_neg h2,if_neg (by omega)]),(Below.heap_setCell _ _ _ _ (by show w.heap.size ≠ G;omega)).trans hx⟩
     case measure => simp [intOf];omega
   · have hT' : TabF wr G (M + 1) fun m => ⟨(m : Int),0,0,0⟩:=hT.same fun m hm => by rw [if_pos (by omega)]
     obtain ⟨a0,a1,a2,a3,f0,f1,f2,f3⟩:=hT'.four 0 (by omega)
     simp only [Nat.zero_mul,Nat.zero_add] at a3 f3
     have hT7 : TabF (wr.setCell ⟨G,3,none⟩ (.int .i64 65535)) G (M + 1) (slot0 []):=(hT'.put 0 3 (by decide) 65535).same fun m hm => by
       by_cases h : m = 0
       · subst h;rfl
       · rw [if_neg h,slot0_new rfl,if_neg h]
     have hb7 : Below w.heap.size w (wr.setCell ⟨G,3,none⟩ (.int .i64 65535)):=hbr.setCell (Nat.le_of_lt hGw) _
     have hx7 : (wr.setCell ⟨G,3,none⟩ (.int .i64 65535)).heap[w.heap.size]? = some (.cells #[.slice (some ⟨b,off,none⟩) n ic,.int .i64 kt,.int .i64 nt,.int .i64 gt,.string st,.slice p1 n1 c1,.slice p2 n2 c2] 28 (0,0)):=(Below.heap_setCell _ _ _ _ (by show w.heap.size ≠ G;omega)).trans hx
     have v1 : ¬ (k : Int) < (M : Int) + 1:=by omega
     have v2 : (0 : Int) < (M : Int) + 1:=by omega
     clear a0 a1 a2 f0 f1 f2 hT hT'
     go_upto_region 8 with fail
     obtain ⟨w7,hw7⟩ : ∃ w7,wr.setCell ⟨G,3,none⟩ (.int .i64 65535) = w7:=⟨_,rfl⟩
     rw [hw7] at hT7 hb7 hx7 ⊢
     clear hw7 a3 f3 hbr hx
     go_wp2
     go_loopw [4,8] (fun sv i wr => ∃ (k : Nat) (acc : L) (ps1 ps2 : List Sl),k ≤ n ∧ i = .int .i64 k ∧ sv = .string ⟨acc.toArray⟩ ∧ Below w.heap.size w wr ∧ Hid (partsW acc (l.drop k) = .good (r,ps2)) ∧ Hid (ps1 ++ ps2 = ps) ∧ TabF wr G (M + 1) (slot0 ps1) ∧ wr.heap[w.heap.size]? = some (.cells #[.slice (some ⟨b,off,none⟩) n ic,.int .i64 kt,.int .i64 nt,.int .i64 gt,.string st,.slice p1 n1 c1,.slice p2 n2 c2] 28 (0,0))) (fun _ i _ => n - (intOf i).toNat)
     case atStart => exact ⟨0,headW,[],ps,Nat.zero_le _,rfl,rfl,hb7,HP0,Lh rfl,hT7,hx7⟩
     case round =>
       clear hT7 hb7 hx7
       obtain ⟨k,acc,ps1,ps2,hk,rfl,rfl,hbr,HP,HQ,hT,hx⟩:=hrel
       obtain ⟨z0,z1,z2,z3,z4,z5,z6⟩:=seven_of hx
       by_cases hlk : k < n
       · obtain ⟨i,hi,_,hnum,y1,m1,e1,y2,m2,e2,a0,a1,a2,a3,a4,a5,a6,a7,HT⟩:=HIT.out w (Below.refl _ _) k hlk
         obtain ⟨t,ps3,ht,hrest,rfl⟩:=partsW_step HP.out hi
         have hfr:=find_fresh HQ.out HPU.out
         have hle:=HNM.out i (List.mem_of_getElem? hi)
         have kl:=fun o => World.cell?_of_block (a:=⟨b,o,none⟩) (hbr.block b hblt)
         have q0:=(kl _).trans a0
         have q1:=(kl _).trans a1
         have q2:=(kl _).trans a2
         have q3:=(kl _).trans a3
         have q4:=(kl _).trans a4
         have q5:=(kl _).trans a5
         have q6:=(kl _).trans a6
         have q7:=(kl _).trans a7
         clear a0 a1 a2 a3 a4 a5 a6 a7 kl
         obtain ⟨inum,ig,ob⟩:=i
         obtain ⟨num,rfl⟩:=Int.eq_ofNat_of_zero_le (show 0 ≤ inum by have:=hnum.1;dsimp only at this;omega)
         dsimp only at hnum HT hfr hle q0 q1 q2 q3 q4 q5 hrest HQ
         have hacc : (acc ++ t).length ≤ 140737488355328:=Nat.le_trans (parts_mono hrest) HR.out
         rw [List.length_append] at hacc
         have HT1:=Lh HT
         have HIW:=Lh (And.intro ht (And.intro hrest hfr))
         have v1 : (0 : Int) ≤ k:=by omega
         have v2 : (k : Int) < n:=by omega
         have v3 : (0 : Int) ≤ num:=by omega
         have v4 : (num : Int) < (M : Int) + 1:=by omega
         have hGl:=hT.lt
         have hzr:=hbr.size
         have hbne : ¬ b = wr.heap.size:=by omega
         have hgne : ¬ w.heap.size = wr.heap.size:=by omega
         clear HT ht hrest hfr hnum hle hi HP z1 z2 z3 z4 z5 z6
         go_upto_region 12 with fail
         obtain ⟨w8,hw8⟩ : ∃ w8,wr.alloc (.cells #[.int .i64 (num : Nat),.int .i64 ig,.int .i64 ob.kind,.int .i64 ob.n,.int .i64 ob.g,.string ⟨ob.s.toArray⟩,.slice y1 m1 e1,.slice y2 m2 e2] 50) = w8:=⟨_,rfl⟩
         have X8 : w8.heap[wr.heap.size]? = some ((.cells #[.int .i64 (num : Nat),.int .i64 ig,.int .i64 ob.kind,.int .i64 ob.n,.int .i64 ob.g,.string ⟨ob.s.toArray⟩,.slice y1 m1 e1,.slice y2 m2 e2] 50)):=by rw [← hw8];exact heap_new_at _ _ _ rfl
         have hb8 : Below wr.heap.size wr w8:=by rw [← hw8];exact (Below.refl _ wr).alloc (Nat.le_refl _) _
         rw [hw8]
         have T8:=hT.below hb8
         have hbw8:=hbr.trans (hb8.mono hzr)
         have hx8:=(hb8.block _ (by omega)).trans hx
         clear hw8 hT q0 q1 q2 q3 q4 q5 q6 q7 hx z0
         obtain ⟨y0_,y1_,y2_,y3_,y4_,y5_,y6_,y7_⟩:=eight_of X8
         obtain ⟨a0,a1,a2,a3,f0,f1,f2,f3⟩:=T8.four num (by omega)
         go_upto_region 13 with fail
         obtain ⟨w9,hw9⟩ : ∃ W,w8.setCell ⟨G,num * 4 + 1,none⟩ (.int .i64 1) = W:=⟨_,rfl⟩
         rw [hw9]
         have T9:=T8.put num 1 (by decide) 1
         have X9:=(Below.heap_setCell w8 ⟨G,num * 4 + 1,none⟩ (.int .i64 1) wr.heap.size (by show wr.heap.size ≠ G;omega)).trans X8
         have hx9:=(Below.heap_setCell w8 ⟨G,num * 4 + 1,none⟩ (.int .i64 1) w.heap.size (by show w.heap.size ≠ G;omega)).trans hx8
         have hbw9:=hbw8.setCell (p:=⟨G,num * 4 + 1,none⟩) (Nat.le_of_lt hGw) (.int .i64 1)
         rw [hw9] at T9 X9 hx9 hbw9
         clear hw9 T8 X8 hx8 hbw8 y0_ y1_ y2_ y3_ y4_ y5_ y6_ y7_ a0 a1 a2 a3 f0 f1 f2 f3
         obtain ⟨y0_,y1_,y2_,y3_,y4_,y5_,y6_,y7_⟩:=eight_of X9
         obtain ⟨a0,a1,a2,a3,f0,f1,f2,f3⟩:=T9.four num (by omega)
         go_upto_region 14 with fail
         obtain ⟨w10,hw10⟩ : ∃ W,w9.setCell ⟨G,num * 4 + 2,none⟩ (.int .i64 acc.length) = W:=⟨_,rfl⟩
         rw [hw10]
         have T10:=T9.put num 2 (by decide) acc.length
         have X10:=(Below.heap_setCell w9 ⟨G,num * 4 + 2,none⟩ (.int .i64 acc.length) wr.heap.size (by show wr.heap.size ≠ G;omega)).trans X9
         have hx10:=(Below.heap_setCell w9 ⟨G,num * 4 + 2,none⟩ (.int .i64 acc.length) w.heap.size (by show w.heap.size ≠ G;omega)).trans hx9
         have hbw10:=hbw9.setCell (p:=⟨G,num * 4 + 2,none⟩) (Nat.le_of_lt hGw) (.int .i64 acc.length)
         rw [hw10] at T10 X10 hx10 hbw10
         clear hw10 T9 X9 hx9 hbw9 y0_ y1_ y2_ y3_ y4_ y5_ y6_ y7_ a0 a1 a2 a3 f0 f1 f2 f3
         obtain ⟨y0_,y1_,y2_,y3_,y4_,y5_,y6_,y7_⟩:=eight_of X10
         obtain ⟨a0,a1,a2,a3,f0,f1,f2,f3⟩:=T10.four num (by omega)
         go_upto_region 15 with fail
         obtain ⟨w11,hw11⟩ : ∃ W,w10.setCell ⟨G,num * 4 + 3,none⟩ (.int .i64 ig) = W:=⟨_,rfl⟩
         rw [hw11]
         have T11:=T10.put num 3 (by decide) ig
         have X11:=(Below.heap_setCell w10 ⟨G,num * 4 + 3,none⟩ (.int .i64 ig) wr.heap.size (by show wr.heap.size ≠ G;omega)).trans X10
         have hx11:=(Below.heap_setCell w10 ⟨G,num * 4 + 3,none⟩ (.int .i64 ig) w.heap.size (by show w.heap.size ≠ G;omega)).trans hx10
         have hbw11:=hbw10.setCell (p:=⟨G,num * 4 + 3,none⟩) (Nat.le_of_lt hGw) (.int .i64 ig)
         rw [hw11] at T11 X11 hx11 hbw11
         clear hw11 T10 X10 hx10 hbw10 y0_ y1_ y2_ y3_ y4_ y5_ y6_ y7_ a0 a1 a2 a3 f0 f1 f2 f3
         obtain ⟨y0_,y1_,y2_,y3_,y4_,y5_,y6_,y7_⟩:=eight_of X11
         go_wp2_with fail
         refine (HT1.out _ hbw11).mono ?_
         rintro e w12 ⟨t',ht',rfl,hb12⟩
         obtain rfl : t' = t:=by have h:=ht'.symm.trans HIW.out.1;injection h
         have T12:=T11.below hb12
         have hx12:=(hb12.block _ (by have:=lt_of_block hx11;omega)).trans hx11
         have hbw12:=hbw11.trans (hb12.mono hbw11.size)
         have hsa : ¬ 9223372036854775807 < acc.length + t'.length:=by omega
         have TS:=T12.same (f':=slot0 (ps1 ++ [⟨num,1,acc.length,ig⟩])) (fun m hm => by
           rw [slot0_snoc rfl HIW.out.2.2]
           by_cases h : m = num
           · subst h
             simp only [if_true]
             have : slot0 ps1 m = ⟨m,0,0,if m = 0 then 65535 else 0⟩:=slot0_new HIW.out.2.2
             rw [this]
             rfl
           · rw [if_neg h,if_neg h,if_neg h,if_neg h])
         have HTS:=Lh TS
         clear T11 X11 hx11 hbw11 T12 TS ht' hb12 y0_ y1_ y2_ y3_ y4_ y5_ y6_ y7_ HT1
         go_wp2
         go_roundw
         case rel => exact ⟨k + 1,acc ++ t',ps1 ++ [⟨num,1,acc.length,ig⟩],ps3,by omega,by go_num,by simp [ByteArray.mk_append_mk],hbw12,Lh HIW.out.2.1,Lh (by rw [List.append_assoc];exact HQ.out),HTS.out,hx12⟩
         case measure => simp [intOf];omega
       · have hkn : l.drop k = []:=List.drop_eq_nil_of_le (by rw [HN.out];omega)
         have hP:=HP.out
         rw [hkn] at hP
         obtain ⟨hra,hps⟩ : acc = r ∧ ([] : List Sl) = ps2:=by rw [partsW] at hP;cases hP;exact ⟨rfl,rfl⟩
         have hpp : ps1 = ps:=by have:=HQ.out;rw [← hps,List.append_nil] at this;exact this
         rw [hra]
         rw [hpp] at hT
         clear hkn hP hra hps hpp HP HQ z1 z2 z3 z4 z5 z6
         have v1 : ¬ (k : Int) < n:=by omega
         go_wp2
         go_loopw [12,13] (fun fv jv wr => ∃ (c : Nat) (q : Int),c ≤ M + 1 ∧ jv = .int .i64 ((M : Int) - c) ∧ fv = .int .i64 q ∧ Below w.heap.size w wr ∧ Hid (c ≤ M → q = freeA ps M (M - c)) ∧ TabF wr G (M + 1) (fun m => if M < m + c then slotW ps M m else slot0 ps m)) (fun _ jv _ => (intOf jv + 1).toNat)
         case atStart => exact ⟨0,0,by omega,by simp,rfl,hbr,Lh (fun _ => by rw [Nat.sub_zero,freeA_most];rfl),hT.same (fun m hm => by rw [if_neg (by omega)])⟩
         case round =>
           clear hT hbr hx z0
           obtain ⟨c,q,hc,rfl,rfl,hbr,HQ,hT⟩:=hrel
           by_cases hcM : c ≤ M
           · obtain ⟨j,hj⟩ : ∃ j,M = j + c:=⟨M - c,by omega⟩
             have ej : (M : Int) - c = (j : Int):=by omega
             have hq:=HQ.out hcM
             rw [show M - c = j by omega] at hq
             obtain ⟨a0,a1,a2,a3,f0,f1,f2,f3⟩:=hT.four j (by omega)
             rw [if_neg (by omega)] at a1 a2
             have v1 : (0 : Int) ≤ j:=by omega
             have v2 : (j : Int) < (M : Int) + 1:=by omega
             have hpr : ∀ h : 0 < j,freeA ps M (j - 1) = if ps.all (fun x => x.num != (j : Int)) then j else freeA ps M j:=fun h => by
               have:=freeA_pred ps M (j - 1) (by omega)
               rw [show j - 1 + 1 = j by omega] at this
               exact this
             rw [ej]
             clear a0 a3 f0 f1 f3 HQ
             cases hfd : ps.find? (fun x => x.num == (j : Int)) with
             | none =>
               rw [slot0_new hfd] at a1 a2
               have hT':=Lh (show TabF (wr.setCell ⟨G,j * 4 + 2,none⟩ (.int .i64 q)) G (M + 1) (fun m => if M < m + (c + 1) then slotW ps M m else slot0 ps m) from (hT.put j 2 (by decide) q).same (fun m hm => by
                 by_cases h : m = j
                 · subst h
                   rw [if_pos rfl,if_neg (by omega),if_pos (by omega),slot0_new hfd,hq]
                   unfold slotW
                   rw [hfd]
                   rfl
                 · rw [if_neg h]
                   by_cases h2 : M < m + c
                   · rw [if_pos h2,if_pos (by omega)]
                   · rw [if_neg h2,if_neg (by omega)]))
               have hq':=Lh (show c + 1 ≤ M → (j : Int) = freeA ps M (M - (c + 1)) from fun h => by
                 rw [show M - (c + 1) = j - 1 by omega,hpr (by omega),if_pos (find_none_all.1 hfd)])
               clear hq hpr hfd hT
               go_wp2
               go_roundw
               case rel => exact ⟨c + 1,j,by omega,by congr 1;omega,rfl,hbr.setCell (Nat.le_of_lt hGw) _,hq',hT'.out⟩
               case measure => simp [intOf]
             | some x =>
               have hs0 : slot0 ps j = x:=by unfold slot0;rw [hfd]
               have hk1:=HPK.out x (List.mem_of_find?_eq_some hfd)
               rw [hs0,hk1] at a1
               have hT':=Lh (show TabF wr G (M + 1) (fun m => if M < m + (c + 1) then slotW ps M m else slot0 ps m) from hT.same (fun m hm => by
                 by_cases h : m = j
                 · subst h
                   rw [if_neg (by omega),if_pos (by omega),hs0]
                   unfold slotW
                   rw [hfd]
                 · by_cases h2 : M < m + c
                   · rw [if_pos h2,if_pos (by omega)]
                   · rw [if_neg h2,if_neg (by omega)]))
               have hq':=Lh (show c + 1 ≤ M → q = freeA ps M (M - (c + 1)) from fun h => by
                 rw [show M - (c + 1) = j - 1 by omega,hpr (by omega),if_neg (fun h => by rw [find_none_all.2 h] at hfd;cases hfd)]
                 exact hq)
               clear hq hpr hfd hT hs0 hk1 a2
               go_wp2
               go_roundw
               case rel => exact ⟨c + 1,q,by omega,by congr 1;omega,rfl,hbr,hq',hT'.out⟩
               case measure => simp [intOf]
           · obtain rfl : c = M + 1:=by omega
             have ej : (M : Int) - ((M + 1 : Nat) : Int) = -1:=by omega
             rw [ej]
             have hrow:=hT.row
             rw [show (List.range (M + 1)).map (fun m => if M < m + (M + 1) then slotW ps M m else slot0 ps m) = slotsW ps M from List.map_congr_left (fun m _ => if_pos (by omega))] at hrow
             have HROW:=Lh hrow
             clear hT hrow HQ
             go_wp2
             go_ret2
             exact ⟨G,rfl,Nat.le_of_lt hGw,HROW.out,hbr⟩
theorem r5int (n : Int) (w : World) :
   Calls Tryz.prog 26 #[.int .i64 n] w fun e w' => e = .returned (.agg #[.int .i64 2,.int .i64 n,.int .i64 0,.string ⟨#[]⟩,.slice none 0 0,.slice none 0 0]) ∧ Below w.heap.size w w':=by
 go_enter Tryz.func26,Tryz.ntmps26
 go_wp2
 have X:=heap_new_at w (.cells #[.int .i64 2,.int .i64 n,.int .i64 0,.string ⟨#[]⟩,.slice none 0 0,.slice none 0 0] 26) _ rfl
 obtain ⟨x0,x1,x2,x3,x4,x5,_⟩:=six_of X
 refine bodyPost_ret (v:=.agg #[.int .i64 2,.int .i64 n,.int .i64 0,.string ⟨#[]⟩,.slice none 0 0,.slice none 0 0]) (by simp [results,Tryz.results26,go_sem]) rfl ⟨rfl,bel⟩
def CapD (w : World) (cs : List Value) : Prop:=∃ iv kt nt gt st p1 n1 c1 p2 n2 c2,cs = [iv,kt,nt,gt,st,.slice p1 n1 c1,.slice p2 n2 c2] ∧ ItemsCap w iv ∧ n1 ≤ c1 ∧ n2 ≤ c2 ∧ (p1 = none → c1 = 0) ∧ (p2 = none → c2 = 0)
structure FileR (D : Dc) (r : L) (ps : List Sl) (w : World) (cs : Array Value) (tc : Array Value) : Prop where
 check : ∀ W,Below w.heap.size w W → Calls Tryz.prog 22 #[.agg cs] W fun e w' => e = .returned (.int .i64 0) ∧ Below W.heap.size W w'
 top : ∀ W,Below w.heap.size w W → Calls Tryz.prog 27 #[.agg cs] W fun e w' => e = .returned (.int .i64 (mostW D.items)) ∧ Below W.heap.size W w'
 parts : ∀ W, Below w.heap.size w W → Calls Tryz.prog 24 #[.agg cs] W fun e w' => ∃ g, e = .returned (.tuple #[.string ⟨r.toArray⟩, .slice (some ⟨g, 0, none⟩) (mostW D.items + 1) (mostW D.items + 1)]) ∧ W.heap.size ≤ g ∧
     RArg slE w' (.slice (some ⟨g,0,none⟩) (mostW D.items + 1) (mostW D.items + 1)) (slotsW ps (mostW D.items)) ∧ Below W.heap.size W w'
 set : ∀ W, Below w.heap.size w W → Calls Tryz.prog 25 #[.agg tc, .string ⟨#[83, 105, 122, 101]⟩, .agg #[.int .i64 2, .int .i64 ((mostW D.items : Nat) + 1), .int .i64 0, .string ⟨#[]⟩, .slice none 0 0, .slice none 0 0]] W fun e w' => ∃ q1 a1 m1 q2 a2 m2, e = .returned (.tuple #[.agg #[.int .i64 7, .int .i64 (sizeT D).n, .int .i64 (sizeT D).g, .string ⟨(sizeT D).s.toArray⟩, .slice q1 a1 m1, .slice q2 a2 m2], .int .i64 0]) ∧
     ObjAt (fun b => W.heap.size ≤ b ∨ b < w.heap.size) 24 w' (objCells 7 (sizeT D).n (sizeT D).g (sizeT D).s (.slice q1 a1 m1) (.slice q2 a2 m2)) (sizeT D) ∧ Below W.heap.size W w'
 text : ∀ W p (q1 : Option Addr) (a1 m1 : Nat) (q2 : Option Addr) (a2 m2 : Nat), RArg slE W (.slice p (mostW D.items + 1) (mostW D.items + 1)) (slotsW ps (mostW D.items)) → ObjAt (fun b => b < W.heap.size) 24 W (objCells 7 (sizeT D).n (sizeT D).g (sizeT D).s (.slice q1 a1 m1) (.slice q2 a2 m2)) (sizeT D) →
     Calls Tryz.prog 28 #[.agg #[.int .i64 0,.slice p (mostW D.items + 1) (mostW D.items + 1),.int .i64 7,.int .i64 (sizeT D).n,.int .i64 (sizeT D).g,.string ⟨(sizeT D).s.toArray⟩,.slice q1 a1 m1,.slice q2 a2 m2,.int .i64 0,.int .i64 0,.int .i64 0]] W fun e w' =>
       e = .returned (.tuple #[.string ⟨(tableW (slotsW ps (mostW D.items)) (sizeT D)).toArray⟩,.int .i64 0]) ∧ Below W.heap.size W w'
theorem file_r {S : Nat → Prop} {d : Nat} {w : World} {D : Dc} {iv : Value} {n1 c1 n2 c2 : Nat} {p1 p2 : Option Addr} (hI : ItemsAt S (d + 1) w iv D.items) (hl : D.items.length ≤ 1000000) (hsI : ∀ i ∈ D.items, smallO (d + 1) i.ob)
   (hO : ObjAt S (d + 1) w (objCells D.trail.kind D.trail.n D.trail.g D.trail.s (.slice p1 n1 c1) (.slice p2 n2 c2)) D.trail) (hsT : smallO (d + 1) D.trail) (hS : ∀ b,S b → b < w.heap.size) (hfit : DocFit D) (h0 : docB D = 0)
   (hcap : ItemsCap w iv) (hc1 : n1 ≤ c1) (hc2 : n2 ≤ c2) (hp1 : p1 = none → c1 = 0) (hp2 : p2 = none → c2 = 0) :
   ∃ r ps b off ic,MadeOk D r ps ∧ D.trail.kind = 7 ∧ iv = .slice (some ⟨b,off,none⟩) D.items.length ic ∧ FileR D r ps w #[iv,.int .i64 7,.int .i64 D.trail.n,.int .i64 D.trail.g,.string ⟨D.trail.s.toArray⟩,.slice p1 n1 c1,.slice p2 n2 c2] #[.int .i64 7,.int .i64 D.trail.n,.int .i64 D.trail.g,.string ⟨D.trail.s.toArray⟩,.slice p1 n1 c1,.slice p2 n2 c2] ∧
     ∀ k,k < D.items.length → ∃ i,D.items[k]? = some i ∧ b < w.heap.size ∧ ItR w b (off + k * 8) i:=by
 obtain ⟨r,ps,hM⟩:=made_ok h0 hfit
 have hne:=valid_items h0
 have hn0 : 0 < D.items.length:=by
   cases hd : D.items with
   | nil => exact absurd hd hne
   | cons _ _ => simp
 obtain ⟨ip,ic,rfl⟩:=hI.slice
 obtain ⟨b,off,rfl⟩:=hI.addr rfl 0 hn0
 have hk:=hM.trail.kind
 have keptI:=fun (W : World) (hW : Below w.heap.size w W) => hI.kept (fun b h => hW.block b (hS b h))
 have keptO:=fun (W : World) (hW : Below w.heap.size w W) => hO.kept (fun b h => hW.block b (hS b h)) (d + 1)
 have hS2:=fun (W : World) (hW : Below w.heap.size w W) b (h : S b) => Nat.lt_of_lt_of_le (hS b h) hW.size
 have hz : ((sizeT D).n = D.trail.n ∧ (sizeT D).g = D.trail.g ∧ (sizeT D).s = D.trail.s):=⟨rfl,rfl,rfl⟩
 have hsk:=hM.kind
 have hok:=okO_of_check hM.trail.chk (by rw [hk];decide)
 have hokT:=okO_of_check hM.chk (by rw [hsk];decide)
 refine ⟨r,ps,b,off,ic,hM,hk,rfl,⟨fun W hW => ?_,fun W hW => ?_,fun W hW => ?_,fun W hW => ?_,fun W p q1 a1 m1 q2 a2 m2 hR hT => ?_⟩,fun k hk => item_r hI rfl hcap hS hsI hM.fit k hk⟩
 · have:=r19check S d W _ D ⟨_,_,rfl,keptI W hW,hl,hsI,keptO W hW,hsT⟩ (hS2 W hW)
   rw [h0] at this
   unfold objCells at this
   rw [hk] at this
   exact this
 · exact r26top _ _ _ _ _ _ _ _ _ _ _ _ _ D.items S d W (keptI W hW) rfl hn0 (hS2 W hW) hl (fun i hi => by have:=((numsB_iff i).1 (hM.fit i hi).nums).1;omega)
 · exact r26parts _ _ _ _ _ _ _ _ _ _ _ _ _ D.items r ps S d W (keptI W hW) rfl hn0 (hS2 W hW) hl hsI (hcap.below hW) hM.fit hM.items hM.parts (by have:=hM.rlen;omega) hM.most hM.zero
 · have:=r5set S 23 W D.trail (.int (mostW D.items + 1)) p1 p2 none none n1 c1 n2 c2 0 0 0 0 wSize (obj_at_ok 24 (d + 1) (keptO W hW) hok) (int_at S 22 W _) (hS2 W hW) hk hM.trail.chk hM.chk hM.trail.no_size (show (2 : Int) ≠ 0 by decide) (okO_small _ _ hok) (okO_small _ _ hokT) (((checkB_iff 23 _).1 hM.trail.chk).many) hc1 hc2 hp1 hp2
   unfold objCells at this
   rw [hk] at this
   refine this.mono ?_
   rintro e w' ⟨q1,a1,m1,q2,a2,m2,rfl,hO',hb⟩
   have e7 : (putO D.trail wSize (.int (mostW D.items + 1))).kind = 7:=hsk
   rw [e7] at hO'
   exact ⟨q1,a1,m1,q2,a2,m2,by rw [e7];rfl,hO'.weaken (fun b h _ => h.elim (fun h => .inl (by omega)) (fun h => .inr (hS b h))) 24,hb⟩
 · have hlen:=slotsW_len ps (mostW D.items)
   have:=r18text (fun b => b < W.heap.size) 24 0 7 (sizeT D).n (sizeT D).g 0 0 0 (sizeT D).s q1 q2 p a1 m1 a2 m2 (mostW D.items + 1) (slotsW ps (mostW D.items)) (sizeT D) W (by rw [hlen];exact hR) ⟨by have:=hM.most;omega,slots_ok hM⟩ (by omega) hT (okO_small _ _ hokT) (fun b h => h) hM.chk rfl hsk hM.bulk
   rw [hlen] at this
   exact this
theorem set_done {V : Nat → Prop} {W3 W w7 : World} {g : Nat} {t : TypeId} {a0 a1 a2 a3 a4 a5 v4 v5 : Value} {k n c : Int} {s : L} {o : Ob} (hZ : W.heap[g]? = some (.cells #[a0, a1, a2, a3, a4, a5] t (0, 0))) (hO : ObjAt V 24 w7 (objCells k n c s v4 v5) o)
   (hV : ∀ b,V b → W.heap[b]? = w7.heap[b]? ∧ b ≠ g ∧ b < W.heap.size) (hb : Below W3.heap.size W3 W) (hg : W3.heap.size ≤ g) :
   ((((((W.setCell ⟨g,0,none⟩ (.int .i64 k)).setCell ⟨g,1,none⟩ (.int .i64 n)).setCell ⟨g,2,none⟩ (.int .i64 c)).setCell ⟨g,3,none⟩ (.string ⟨s.toArray⟩)).setCell ⟨g,4,none⟩ v4).setCell ⟨g,5,none⟩ v5).heap[g]? = some (.cells #[.int .i64 k,.int .i64 n,.int .i64 c,.string ⟨s.toArray⟩,v4,v5] t (0,0)) ∧
   ObjAt (fun b => b < ((((((W.setCell ⟨g,0,none⟩ (.int .i64 k)).setCell ⟨g,1,none⟩ (.int .i64 n)).setCell ⟨g,2,none⟩ (.int .i64 c)).setCell ⟨g,3,none⟩ (.string ⟨s.toArray⟩)).setCell ⟨g,4,none⟩ v4).setCell ⟨g,5,none⟩ v5).heap.size) 24 ((((((W.setCell ⟨g,0,none⟩ (.int .i64 k)).setCell ⟨g,1,none⟩ (.int .i64 n)).setCell ⟨g,2,none⟩ (.int .i64 c)).setCell ⟨g,3,none⟩ (.string ⟨s.toArray⟩)).setCell ⟨g,4,none⟩ v4).setCell ⟨g,5,none⟩ v5) (objCells k n c s v4 v5) o ∧
   Below W3.heap.size W3 ((((((W.setCell ⟨g,0,none⟩ (.int .i64 k)).setCell ⟨g,1,none⟩ (.int .i64 n)).setCell ⟨g,2,none⟩ (.int .i64 c)).setCell ⟨g,3,none⟩ (.string ⟨s.toArray⟩)).setCell ⟨g,4,none⟩ v4).setCell ⟨g,5,none⟩ v5):=by
 refine ⟨set_six hZ,?_,?_⟩
 · have hgr:=set6_grown W g 0 1 2 3 4 5 (.int .i64 k) (.int .i64 n) (.int .i64 c) (.string ⟨s.toArray⟩) v4 v5
   refine ((hO.kept (fun b h => (hgr.block b (hV b h).2.2 (by have:=(hV b h).2.1;simp;omega)).trans (hV b h).1) 24).weaken (fun b h _ => Nat.lt_of_lt_of_le (hV b h).2.2 hgr.size) 24)
 · exact hb.grown (set6_grown _ _ 0 1 2 3 4 5 _ _ _ _ _ _) hb.size (fun k h => by cases h;exact hg)
theorem r26bad (S : Nat → Prop) (d : Nat) (w : World) (cs : List Value) (D : Dc) (h : DocAt S d w cs D) (hS : ∀ b, S b → b < w.heap.size) (h0 : docB D ≠ 0) :
   Calls Tryz.prog 9 #[.agg cs.toArray] w fun e w' => e = .returned (.tuple #[.string (fileS D),.int .i64 (fileE D)]) ∧ Below w.heap.size w w':=by
 have HC:=Lh (fun (W : World) (hW : Below w.heap.size w W) => r19check S d W cs D (by
   obtain ⟨iv,tc,rfl,hI,hl,hsI,hO,hsT⟩:=h
   exact ⟨iv,tc,rfl,hI.kept (fun b h => hW.block b (hS b h)),hl,hsI,hO.kept (fun b h => hW.block b (hS b h)) _,hsT⟩) (fun b h => Nat.lt_of_lt_of_le (hS b h) hW.size))
 obtain ⟨iv,tc,rfl,hI,hl,hsI,hO,hsT⟩:=h
 obtain ⟨p1,n1,c1,p2,n2,c2,rfl⟩:=hO.shape
 unfold objCells at HC ⊢
 have e1 : fileS D = ⟨#[]⟩:=by unfold fileS;rw [fileW_bad h0]
 have e2 : fileE D = docB D:=by unfold fileE;rw [fileW_bad h0]
 rw [e1,e2]
 obtain ⟨C,hC⟩ : ∃ C,docB D = C:=⟨_,rfl⟩
 rw [hC] at h0 HC ⊢
 have hC1 : (C != 0) = true:=by simpa using h0
 clear hI hl hsI hO hsT hS e1 e2 hC
 go_enter Tryz.func9,Tryz.ntmps9
 go_wp2_with fail
 refine (HC.out _ bel).mono ?_
 rintro e w1 ⟨rfl,hb1⟩
 have hbw1 : Below w.heap.size w w1:=bel
 go_wp2
 go_ret2
 exact ⟨rfl,hbw1⟩
theorem r26good (D : Dc) (r : L) (ps : List Sl) (w : World) (tn tg : Int) (ts : ByteArray) (b off n ic n1 c1 n2 c2 : Nat) (p1 p2 : Option Addr) (h0 : docB D = 0) (hM : MadeOk D r ps) (hn : D.items.length = n) (hl : n ≤ 1000000)
   (hF : FileR D r ps w #[.slice (some ⟨b,off,none⟩) n ic,.int .i64 7,.int .i64 tn,.int .i64 tg,.string ts,.slice p1 n1 c1,.slice p2 n2 c2] #[.int .i64 7,.int .i64 tn,.int .i64 tg,.string ts,.slice p1 n1 c1,.slice p2 n2 c2]) (hIt : ∀ k,k < n → ∃ i,D.items[k]? = some i ∧ b < w.heap.size ∧ ItR w b (off + k * 8) i) :
   Calls Tryz.prog 9 #[.agg #[.slice (some ⟨b,off,none⟩) n ic,.int .i64 7,.int .i64 tn,.int .i64 tg,.string ts,.slice p1 n1 c1,.slice p2 n2 c2]] w fun e w' => e = .returned (.tuple #[.string (fileS D),.int .i64 (fileE D)]) ∧ Below w.heap.size w w':=by
 have HCK:=Lh hF.check
 have HTOP:=Lh hF.top
 have HPA:=Lh hF.parts
 have HSET:=Lh hF.set
 have HTX:=Lh hF.text
 have HIT:=Lh hIt
 have hFW:=fileW_of h0 hM
 have htl:=tableW_le hM
 have htt:=tailW_le (n:=r.length) (by have:=hM.rlen;omega)
 have hrl:=hM.rlen
 have hn1 : n ≤ 1000000:=hl
 obtain ⟨TB,hTB⟩ : ∃ T,tableW (slotsW ps (mostW D.items)) (sizeT D) = T:=⟨_,rfl⟩
 obtain ⟨TT,hTT⟩ : ∃ T,tailW r.length = T:=⟨_,rfl⟩
 have HTT:=Lh (fun W => r17tail r.length (by omega) W)
 rw [hTB] at hFW htl HTX
 rw [hTT] at hFW htt HTT
 have HFW:=Lh hFW
 obtain ⟨M,hMe⟩ : ∃ M,mostW D.items = M:=⟨_,rfl⟩
 rw [hMe] at HTOP HPA HSET HTX
 have hM1 : M ≤ 8191:=by rw [← hMe];exact hM.most
 obtain ⟨sl,hsl⟩ : ∃ s,slotsW ps M = s:=⟨_,rfl⟩
 rw [hMe,hsl] at HFW
 rw [hsl] at HPA HTX
 clear h0 hM hn hF hIt hFW hTB hTT hMe hsl
 go_enter Tryz.func9,Tryz.ntmps9
 go_upto_region 1 with fail
 obtain ⟨w0,hw0⟩ : ∃ w0,w.alloc (.cells #[.slice (some ⟨b,off,none⟩) n ic,.int .i64 7,.int .i64 tn,.int .i64 tg,.string ts,.slice p1 n1 c1,.slice p2 n2 c2] 28) = w0:=⟨_,rfl⟩
 have hx0 : w0.heap[w.heap.size]? = some (.cells #[.slice (some ⟨b,off,none⟩) n ic,.int .i64 7,.int .i64 tn,.int .i64 tg,.string ts,.slice p1 n1 c1,.slice p2 n2 c2] 28 (0,0)):=by rw [← hw0];exact heap_new_at _ _ _ rfl
 have hb0 : Below w.heap.size w w0:=by rw [← hw0];exact bel
 have hz0 : w0.heap.size = w.heap.size + 1:=by rw [← hw0];simp
 rw [hw0]
 clear hw0
 obtain ⟨z0,z1,z2,z3,z4,z5,z6⟩:=seven_of hx0
 go_wp2_with fail
 refine (HCK.out _ hb0).mono ?_
 rintro e w1 ⟨rfl,hb1⟩
 have hbw1:=hb0.trans (hb1.mono hb0.size)
 have hx1:=(hb1.block _ (by omega)).trans hx0
 clear hx0 hb0 hb1 HCK z0 z1 z2 z3 z4 z5 z6 hz0
 go_wp2
 go_loopw [5] (fun i wr => ∃ k : Nat,k ≤ n ∧ i = .int .i64 k ∧ Below w.heap.size w wr ∧ wr.heap[w.heap.size]? = some (.cells #[.slice (some ⟨b,off,none⟩) n ic,.int .i64 7,.int .i64 tn,.int .i64 tg,.string ts,.slice p1 n1 c1,.slice p2 n2 c2] 28 (0,0))) (fun i _ => n - (intOf i).toNat)
 case atStart => exact ⟨0,Nat.zero_le _,rfl,hbw1,hx1⟩
 case round =>
   clear hbw1 hx1
   obtain ⟨k,hk,rfl,hbr,hx⟩:=hrel
   obtain ⟨z0,z1,z2,z3,z4,z5,z6⟩:=seven_of hx
   by_cases hlk : k < n
   · obtain ⟨i,hi,hblt,_,y1,m1,e1,y2,m2,e2,a0,a1,a2,a3,a4,a5,a6,a7,HT⟩:=HIT.out k hlk
     have kl:=fun o => World.cell?_of_block (a:=⟨b,o,none⟩) (hbr.block b hblt)
     have q0:=(kl _).trans a0
     have q1:=(kl _).trans a1
     have q2:=(kl _).trans a2
     have q3:=(kl _).trans a3
     have q4:=(kl _).trans a4
     have q5:=(kl _).trans a5
     have q6:=(kl _).trans a6
     have q7:=(kl _).trans a7
     have HT1:=Lh (HT wr hbr)
     have v1 : (0 : Int) ≤ k:=by omega
     have v2 : (k : Int) < n:=by omega
     clear a0 a1 a2 a3 a4 a5 a6 a7 kl HT z1 z2 z3 z4 z5 z6
     go_wp2_with fail
     refine HT1.out.mono ?_
     rintro e w2 ⟨t,_,rfl,hb2⟩
     have hbw2:=hbr.trans (hb2.mono hbr.size)
     have hx2:=(hb2.block _ (lt_of_block hx)).trans hx
     clear z0 q0 q1 q2 q3 q4 q5 q6 q7 hx hbr hb2 HT1
     go_wp2
     go_roundw
     case rel => exact ⟨k + 1,by omega,by go_num,hbw2,hx2⟩
     case measure => simp [intOf];omega
   · have v1 : ¬ (k : Int) < n:=by omega
     clear HIT
     go_wp2_with fail
     refine (HPA.out _ hbr).mono ?_
     rintro e w3 ⟨g,rfl,hg,hR3,hb3⟩
     have hbw3:=hbr.trans (hb3.mono hbr.size)
     have hx3:=(hb3.block _ (lt_of_block hx)).trans hx
     clear z0 z1 z2 z3 z4 z5 z6 hx hbr hb3 HPA
     have hwz3:=lt_of_block hx3
     have HR3:=Lh hR3
     clear hR3
     go_upto_region 11 with fail
     go_cut [10,11] from 45 to 53 (fun pv ev wx => ∃ g q1 a1 m1 q2 a2 m2,pv = .pointer (some ⟨g,0,none⟩) ∧ ev = .int .i64 0 ∧ wx.heap[g]? = some (.cells #[.int .i64 7,.int .i64 (sizeT D).n,.int .i64 (sizeT D).g,.string ⟨(sizeT D).s.toArray⟩,.slice q1 a1 m1,.slice q2 a2 m2] 26 (0,0)) ∧ ObjAt (fun b => b < wx.heap.size) 24 wx (objCells 7 (sizeT D).n (sizeT D).g (sizeT D).s (.slice q1 a1 m1) (.slice q2 a2 m2)) (sizeT D) ∧ Below w3.heap.size w3 wx)
     case first =>
       obtain ⟨z0,z1,z2,z3,z4,z5,z6⟩:=seven_of hx3
       have HB5:=Lh (Below.refl w3.heap.size w3)
       have hne3:=Nat.ne_of_gt hwz3
       have v3 : IntKind.i64.wrap ((M : Int) + 1) = (M : Int) + 1:=by rw [IntKind.wrap_i64];omega
       go_region_held3 (fun w' => w'.cell? ⟨w.heap.size,0,none⟩ = some (.slice (some ⟨b,off,none⟩) n ic) ∧ w'.cell? ⟨w.heap.size,1,none⟩ = some (.int .i64 7) ∧ w'.cell? ⟨w.heap.size,2,none⟩ = some (.int .i64 tn) ∧ w'.cell? ⟨w.heap.size,3,none⟩ = some (.int .i64 tg) ∧ w'.cell? ⟨w.heap.size,4,none⟩ = some (.string ts) ∧ w'.cell? ⟨w.heap.size,5,none⟩ = some (.slice p1 n1 c1) ∧ w'.cell? ⟨w.heap.size,6,none⟩ = some (.slice p2 n2 c2)) (go_keep)
         (first
           | (go_at_call 27;go_must ((with_reducible refine (HTOP.out _ (hbw3.trans ((HB5.out.trans (by repeat' (first | exact Below.refl _ _ | refine Below.drew ?_ | refine Below.alloc ?_ ?_ _ | (show _ ≤ _;simp;done) | (show _ ≤ _;simp;omega) | omega))).mono hbw3.size))).mono ?_);rintro e w5 ⟨rfl,hb⟩;((first | (have Zn:=Lh ((hb.block _ (by simp)).trans (heap_alloc_new _ _))) | (have Zn:=Lh ((hb.block _ (lt_of_block Z.out)).trans Z.out)) | skip);(try clear Z);(try (have Z:=Zn;clear Zn;(try clear y0 y1 y2 y3 y4 y5 yf);obtain ⟨y0,y1,y2,y3,y4,y5,yf⟩:=six_of Z.out;have hgl:=lt_of_block Z.out)));(have HB5n:=Lh ((HB5.out.trans (by repeat' (first | exact Below.refl _ _ | refine Below.drew ?_ | refine Below.alloc ?_ ?_ _ | (show _ ≤ _;simp;done) | (show _ ≤ _;simp;omega) | omega))).trans (hb.mono (by have:=HB5.out.size;first | omega | (simp;done) | (simp;omega)))));clear HB5;(have HB5:=HB5n);clear HB5n;(obtain ⟨z0,z1,z2,z3,z4,z5,z6⟩:=seven_of ((HB5.out.block _ hwz3).trans hx3));(have hz5:=HB5.out.size);(have hne5:=Nat.ne_of_gt (Nat.lt_of_lt_of_le hwz3 HB5.out.size));clear hb))
           | (go_at_call 26;go_must ((with_reducible refine (r5int _ _).mono ?_);rintro e w6 ⟨rfl,hb⟩;((first | (have Zn:=Lh ((hb.block _ (by simp)).trans (heap_alloc_new _ _))) | (have Zn:=Lh ((hb.block _ (lt_of_block Z.out)).trans Z.out)) | skip);(try clear Z);(try (have Z:=Zn;clear Zn;(try clear y0 y1 y2 y3 y4 y5 yf);obtain ⟨y0,y1,y2,y3,y4,y5,yf⟩:=six_of Z.out;have hgl:=lt_of_block Z.out)));(have HB5n:=Lh ((HB5.out.trans (by repeat' (first | exact Below.refl _ _ | refine Below.drew ?_ | refine Below.alloc ?_ ?_ _ | (show _ ≤ _;simp;done) | (show _ ≤ _;simp;omega) | omega))).trans (hb.mono (by have:=HB5.out.size;first | omega | (simp;done) | (simp;omega)))));clear HB5;(have HB5:=HB5n);clear HB5n;(obtain ⟨z0,z1,z2,z3,z4,z5,z6⟩:=seven_of ((HB5.out.block _ hwz3).trans hx3));(have hz5:=HB5.out.size);(have hne5:=Nat.ne_of_gt (Nat.lt_of_lt_of_le hwz3 HB5.out.size));clear hb))
           | (go_at_call 25;go_must ((with_reducible refine (HSET.out _ (hbw3.trans ((HB5.out.trans (by repeat' (first | exact Below.refl _ _ | refine Below.drew ?_ | refine Below.alloc ?_ ?_ _ | (show _ ≤ _;simp;done) | (show _ ≤ _;simp;omega) | omega))).mono hbw3.size))).mono ?_);rintro e w7 ⟨q1,a1,m1,q2,a2,m2,rfl,hO7,hb⟩;((first | (have Zn:=Lh ((hb.block _ (by simp)).trans (heap_alloc_new _ _))) | (have Zn:=Lh ((hb.block _ (lt_of_block Z.out)).trans Z.out)) | skip);(try clear Z);(try (have Z:=Zn;clear Zn;(try clear y0 y1 y2 y3 y4 y5 yf);obtain ⟨y0,y1,y2,y3,y4,y5,yf⟩:=six_of Z.out;have hgl:=lt_of_block Z.out)));(have HO7:=Lh (hO7.weaken (S':=fun b' => (_ ∨ b' < w.heap.size) ∧ b' < w7.heap.size) (fun b h hl => ⟨h,hl⟩) 24));(have HB5n:=Lh ((HB5.out.trans (by repeat' (first | exact Below.refl _ _ | refine Below.drew ?_ | refine Below.alloc ?_ ?_ _ | (show _ ≤ _;simp;done) | (show _ ≤ _;simp;omega) | omega))).trans (hb.mono (by have:=HB5.out.size;first | omega | (simp;done) | (simp;omega)))));clear HB5;(have HB5:=HB5n);clear HB5n;(obtain ⟨z0,z1,z2,z3,z4,z5,z6⟩:=seven_of ((HB5.out.block _ hwz3).trans hx3));(have hz5:=HB5.out.size);(have hne5:=Nat.ne_of_gt (Nat.lt_of_lt_of_le hwz3 HB5.out.size));clear hb hO7)))
       all_goals go_wp2_with fail
       all_goals go_meet
       all_goals refine ⟨_,q1,a1,m1,q2,a2,m2,rfl,rfl,?_⟩
       · exact ⟨heap_alloc_new w7 _,(HO7.out.kept (fun b h => Below.heap_alloc _ _ _ h.2) 24).weaken (fun b h _ => by have:=h.2;simp;omega) 24,HB5.out.alloc HB5.out.size _⟩
       all_goals refine set_done Z.out HO7.out ?_ HB5.out (by omega)
       all_goals intro b' h
       all_goals obtain ⟨h1,h2⟩:=h
       all_goals (try simp only [World.size_alloc] at h1)
       all_goals exact ⟨rfl,by omega,by omega⟩
     case rest =>
       obtain ⟨gb,q1,a1,m1,q2,a2,m2,rfl,rfl,hX,hO,hbc⟩:=hcut
       have hbwc:=hbw3.trans (hbc.mono hbw3.size)
       have HTW:=Lh (HTX.out wc (some ⟨g,0,none⟩) q1 a1 m1 q2 a2 m2 (HR3.out.below hbc) hO)
       obtain ⟨y0,y1,y2,y3,y4,y5,yf⟩:=six_of hX
       clear HTX HSET HTOP HR3 hO hX hbc hx3
       go_wp2_with fail
       refine HTW.out.mono ?_
       rintro e w5 ⟨rfl,hb5⟩
       have hbw5:=hbwc.trans (hb5.mono hbwc.size)
       clear HTW y0 y1 y2 y3 y4 y5 yf hb5
       have g1 : ¬ 9223372036854775807 < r.length + TB.length:=by omega
       have g2 : ¬ 9223372036854775807 < r.length + TB.length + TT.length:=by omega
       go_wp2_with fail
       refine (HTT.out _).mono ?_
       rintro e w6 ⟨rfl,h6⟩
       subst h6
       have hlen : (r ++ (TB ++ TT)).length = r.length + TB.length + TT.length:=by simp;omega
       by_cases hbig : 1048576 < r.length + TB.length + TT.length
       · have hFW:=HFW.out
         rw [if_pos (by rw [hlen];exact hbig)] at hFW
         have e1 : fileS D = ⟨#[]⟩:=by unfold fileS;rw [hFW]
         have e2 : fileE D = 5:=by unfold fileE;rw [hFW]
         have d1 : (1048576 : Int) < (r.length : Int) + TB.length + TT.length:=by omega
         clear hFW hlen
         go_wp2
         go_ret2
         exact ⟨by rw [e1,e2];rfl,hbw5⟩
       · have hFW:=HFW.out
         rw [if_neg (by rw [hlen];exact hbig)] at hFW
         have e1 : fileS D = ⟨(r ++ (TB ++ TT)).toArray⟩:=by unfold fileS;rw [hFW]
         have e2 : fileE D = 0:=by unfold fileE;rw [hFW]
         have d1 : ¬ (1048576 : Int) < (r.length : Int) + TB.length + TT.length:=by omega
         clear hFW hlen
         go_wp2
         go_ret2
         exact ⟨by rw [e1,e2];simp [ByteArray.mk_append_mk],hbw5⟩
theorem r26file (S : Nat → Prop) (d : Nat) (w : World) (cs : List Value) (D : Dc) (h : DocAt S d w cs D) (hS : ∀ b, S b → b < w.heap.size) (hfit : DocFit D) (hcap : CapD w cs) :
   Calls Tryz.prog 9 #[.agg cs.toArray] w fun e w' => e = .returned (.tuple #[.string (fileS D),.int .i64 (fileE D)]) ∧ Below w.heap.size w w':=by
 by_cases h0 : docB D = 0
 · obtain ⟨iv,tc,rfl,hI,hl,hsI,hO,hsT⟩:=h
   obtain ⟨p1,n1,c1,p2,n2,c2,rfl⟩:=hO.shape
   obtain ⟨iv',kt,nt,gt,st,q1,m1,e1,q2,m2,e2,he,hcI,k1,k2,k3,k4⟩:=hcap
   unfold objCells at he
   cases he
   obtain ⟨r,ps,b,off,ic,hM,hk,rfl,hF,hIt⟩:=file_r hI hl hsI hO hsT hS hfit h0 hcI k1 k2 k3 k4
   have:=r26good D r ps w D.trail.n D.trail.g ⟨D.trail.s.toArray⟩ b off D.items.length ic n1 c1 n2 c2 p1 p2 h0 hM rfl hl hF hIt
   unfold objCells
   rw [hk]
   exact this
 · exact r26bad S d w cs D h hS h0
theorem CapD.below {w w' : World} {cs : List Value} (h : CapD w cs) (hb : Below w.heap.size w w') : CapD w' cs:=by
 obtain ⟨iv,kt,nt,gt,st,p1,n1,c1,p2,n2,c2,e,hI,h1⟩:=h
 exact ⟨iv,kt,nt,gt,st,p1,n1,c1,p2,n2,c2,e,hI.below hb,h1⟩
theorem DocAt.below {S : Nat → Prop} {d : Nat} {w w' : World} {cs : List Value} {D : Dc} (h : DocAt S d w cs D) (hS : ∀ b,S b → b < w.heap.size) (hb : Below w.heap.size w w') : DocAt S d w' cs D:=by
 obtain ⟨iv,tc,rfl,hI,hl,hsI,hO,hsT⟩:=h
 exact ⟨iv,tc,rfl,hI.kept (fun b h => hb.block b (hS b h)),hl,hsI,hO.kept (fun b h => hb.block b (hS b h)) _,hsT⟩
theorem r26places (S : Nat → Prop) (d : Nat) (w : World) (cs : List Value) (D : Dc) (h : DocAt S d w cs D) (hS : ∀ b, S b → b < w.heap.size) (hfit : DocFit D) (hcap : CapD w cs) :
   Calls Tryz.prog 11 #[.agg cs.toArray] w fun e w' => (∃ p c,e = .returned (.tuple #[.slice p (fileSl D).length c,.int .i64 (fileE D)]) ∧ RArg slE w' (.slice p (fileSl D).length c) (fileSl D)) ∧ Below w.heap.size w w':=by
 have HFI:=Lh (fun (W : World) (hW : Below w.heap.size w W) => r26file S d W cs D (h.below hS hW) (fun b h => Nat.lt_of_lt_of_le (hS b h) hW.size) hfit (hcap.below hW))
 cases hfw : fileW D with
 | bad k =>
   have e1 : fileS D = ⟨#[]⟩:=by unfold fileS;rw [hfw]
   have e2 : fileE D = k:=by unfold fileE;rw [hfw]
   have e3 : fileSl D = []:=by unfold fileSl;rw [hfw]
   rw [e1,e2] at HFI
   rw [e3,e2]
   have hk1 : (k != 0) = true:=by simpa using file_bad hfit hfw
   obtain ⟨iv,tc,rfl,_,_,_,hO,_⟩:=h
   obtain ⟨p1,n1,c1,p2,n2,c2,rfl⟩:=hO.shape
   unfold objCells at HFI ⊢
   clear hO hS hfit hcap e1 e2 e3 hfw
   go_enter Tryz.func11,Tryz.ntmps11
   go_wp2_with fail
   refine (HFI.out _ bel).mono ?_
   rintro e w1 ⟨rfl,hb1⟩
   have hbw1 : Below w.heap.size w w1:=bel
   go_wp2
   go_ret2
   exact ⟨⟨none,0,rfl,none,0,rfl,fun k hk => absurd hk (Nat.not_lt_zero k)⟩,hbw1⟩
 | good fl =>
   obtain ⟨f,l⟩:=fl
   have h0:=(fileW_good hfw).1
   have e1 : fileS D = ⟨f.toArray⟩:=by unfold fileS;rw [hfw]
   have e2 : fileE D = 0:=by unfold fileE;rw [hfw]
   have e3 : fileSl D = l:=by unfold fileSl;rw [hfw]
   rw [e1,e2] at HFI
   rw [e3,e2]
   obtain ⟨iv,tc,rfl,hI,hl,hsI,hO,hsT⟩:=h
   obtain ⟨p1,n1,c1,p2,n2,c2,rfl⟩:=hO.shape
   obtain ⟨iv',kt,nt,gt,st,q1,m1,k1,q2,m2,k2,he,hcI,j1,j2,j3,j4⟩:=hcap
   unfold objCells at he
   cases he
   obtain ⟨r,ps,b,off,ic,hM,hk,rfl,hF,_⟩:=file_r hI hl hsI hO hsT hS hfit h0 hcI j1 j2 j3 j4
   have hlE : slotsW ps (mostW D.items) = l:=by
     have h1:=hfw
     rw [fileW_of h0 hM] at h1
     by_cases hb : 1048576 < (r ++ (tableW (slotsW ps (mostW D.items)) (sizeT D) ++ tailW r.length)).length
     · rw [if_pos hb] at h1;cases h1
     · rw [if_neg hb] at h1;injection h1 with h1;injection h1
   have hlen:=slotsW_len ps (mostW D.items)
   rw [hlE] at hlen
   have HPA:=Lh hF.parts
   unfold objCells at HFI ⊢
   rw [hk] at HFI ⊢
   rw [hlE,← hlen] at HPA
   clear hI hl hsI hO hsT hS hfit hcI hM hk hF hfw e1 e2 e3 h0 hlE hlen
   go_enter Tryz.func11,Tryz.ntmps11
   go_wp2_with fail
   refine (HFI.out _ bel).mono ?_
   rintro e w1 ⟨rfl,hb1⟩
   have hbw1 : Below w.heap.size w w1:=bel
   obtain ⟨z0,z1,z2,z3,z4,z5,z6⟩:=seven_of ((hb1.block w.heap.size (by simp)).trans (heap_new_at w (.cells #[.slice (some ⟨b,off,none⟩) D.items.length ic,.int .i64 7,.int .i64 D.trail.n,.int .i64 D.trail.g,.string ⟨D.trail.s.toArray⟩,.slice p1 n1 c1,.slice p2 n2 c2] 28) _ rfl))
   go_wp2_with fail
   refine (HPA.out _ hbw1).mono ?_
   rintro e w2 ⟨g,rfl,_,hR,hb2⟩
   have hbw2:=hbw1.trans (hb2.mono hbw1.size)
   have HR:=Lh hR
   clear z0 z1 z2 z3 z4 z5 z6 hR
   go_wp2
   go_ret2
   exact ⟨⟨_,_,rfl,HR.out⟩,hbw2⟩
theorem wfiles_in (S : Nat → Prop) (d : Nat) (D : Dc) (iv : Value) (tc : List Value) (w : World) (hI : ItemsAt S (d + 1) w iv D.items) (hO : ObjAt S (d + 1) w tc D.trail) (hS : ∀ b, S b → b < w.heap.size) (hbk : ∀ e, bulkD e D ≤ 1048576)
   (hl : D.items.length ≤ 1000000) (hsI : ∀ i ∈ D.items,smallO (d + 1) i.ob) (hsT : smallO (d + 1) D.trail) (hT : TabP w) (hcap : CapD w (iv :: tc)) :
   Calls Tryz.prog 3 #[.agg (iv :: tc).toArray] w fun e w' => e = .returned (.bool true) ∧ Below w.heap.size w w':=by
 obtain ⟨p1,n1,c1,p2,n2,c2,rfl⟩:=hO.shape
 obtain ⟨ip,ic,rfl⟩:=hI.slice
 obtain ⟨n,hn⟩ : ∃ n,D.items.length = n:=⟨_,rfl⟩
 rw [hn] at hI hl hcap ⊢
 have keptI:=fun (W : World) (hW : Below w.heap.size w W) => hI.kept (fun b h => hW.block b (hS b h))
 have keptO:=fun (W : World) (hW : Below w.heap.size w W) => hO.kept (fun b h => hW.block b (hS b h)) (d + 1)
 have hS2:=fun (W : World) (hW : Below w.heap.size w W) b (h : S b) => Nat.lt_of_lt_of_le (hS b h) hW.size
 have HSZ:=Lh (fun (W : World) (hW : Below w.heap.size w W) => sizeD_in S (d + 1) W D ip p1 p2 n ic n1 c1 n2 c2 (keptI W hW) hn hl hsI (keptO W hW) hsT (hS2 W hW) (hbk _))
 have HLV:=Lh (fun (W : World) (hW : Below w.heap.size w W) => lives_in W (hT.below hW))
 have hsz : sizeD (d + 1) D ≤ 1048576:=by
   have h1:=size_bulk (d + 1) D.trail
   have h2:=map_sum_le (l:=D.items) (f:=fun i => sizeO (d + 1) i.ob) (g:=fun i => bulkO (d + 1) i.ob) (fun i _ => size_bulk (d + 1) i.ob)
   have:=hbk (d + 1)
   unfold bulkD at this
   unfold sizeD
   omega
 have hfs : sizeD (d + 1) D ≤ 600 → DocFit D:=fun hs => fit_small hI (by omega) (hbk 24) hs
 have HFI:=Lh (fun (hs : sizeD (d + 1) D ≤ 600) (W : World) (hW : Below w.heap.size w W) => file_in S d W _ D ⟨_,_,rfl,keptI W hW,by omega,hsI,keptO W hW,hsT⟩ (hS2 W hW) (hfs hs) (hT.below hW))
 have HPL:=Lh (fun (hs : sizeD (d + 1) D ≤ 600) (W : World) (hW : Below w.heap.size w W) => places_in S d W _ D ⟨_,_,rfl,keptI W hW,by omega,hsI,keptO W hW,hsT⟩ (hS2 W hW) (hfs hs) (hT.below hW))
 have HRF:=Lh (fun (hs : sizeD (d + 1) D ≤ 600) (W : World) (hW : Below w.heap.size w W) => r26file S d W _ D ⟨_,_,rfl,keptI W hW,by omega,hsI,keptO W hW,hsT⟩ (hS2 W hW) (hfs hs) (hcap.below hW))
 have HRP:=Lh (fun (hs : sizeD (d + 1) D ≤ 600) (W : World) (hW : Below w.heap.size w W) => r26places S d W _ D ⟨_,_,rfl,keptI W hW,by omega,hsI,keptO W hW,hsT⟩ (hS2 W hW) (hfs hs) (hcap.below hW))
 have hfl : sizeD (d + 1) D ≤ 600 → (fileSl D).length ≤ 100000:=fun _ => by
   cases hfw : fileW D with
   | bad k => unfold fileSl;rw [hfw];simp
   | good fl =>
     obtain ⟨f,l⟩:=fl
     obtain ⟨ps,hl,hm,_⟩:=ps_ok hfw
     have e3 : fileSl D = l:=by unfold fileSl;rw [hfw]
     rw [e3,hl,slotsW_len];omega
 unfold objCells at HFI HPL HRF HRP ⊢
 obtain ⟨z,hz⟩ : ∃ z,sizeD (d + 1) D = z:=⟨_,rfl⟩
 rw [hz] at HSZ HFI HPL HRF HRP hfl hsz
 clear hT hI hO hS hbk hn hsI hsT keptI keptO hS2 hz hfs hcap
 by_cases h40 : 40 < n
 · have g40 : decide ((n : Int) > 40) = true:=by simp;omega
   go_enter Tryz.func3,Tryz.ntmps3
   go_wp2_with fail
   refine (HLV.out _ bel).mono ?_
   rintro e w1 ⟨rfl,hb1⟩
   go_wp2
   go_ret
   exact ⟨rfl,bel⟩
 have g40 : decide ((n : Int) > 40) = false:=by simp;omega
 by_cases h600 : 600 < z
 · have g600 : decide ((z : Int) > 600) = true:=by simp;omega
   go_enter Tryz.func3,Tryz.ntmps3
   go_wp2_with fail
   refine (HSZ.out _ bel).mono ?_
   rintro e w1 ⟨rfl,hb1⟩
   have hbw1 : Below w.heap.size w w1:=bel
   go_wp2_with fail
   refine (HLV.out _ hbw1).mono ?_
   rintro e w2 ⟨rfl,hb2⟩
   go_wp2
   go_ret
   exact ⟨rfl,hbw1.trans (hb2.mono hbw1.size)⟩
 have g600 : decide ((z : Int) > 600) = false:=by simp;omega
 have HFI2:=Lh (HFI.out (by omega))
 have HPL2:=Lh (HPL.out (by omega))
 have HRF2:=Lh (HRF.out (by omega))
 have HRP2:=Lh (HRP.out (by omega))
 have hll:=hfl (by omega)
 obtain ⟨fs,hfs⟩ : ∃ s,fileS D = s:=⟨_,rfl⟩
 obtain ⟨fe,hfe⟩ : ∃ s,fileE D = s:=⟨_,rfl⟩
 obtain ⟨l,hl'⟩ : ∃ s,fileSl D = s:=⟨_,rfl⟩
 rw [hfs,hfe] at HFI2 HRF2
 rw [hl',hfe] at HPL2 HRP2
 rw [hl'] at hll
 clear HFI HPL HRF HRP hfl hfs hfe hl'
 go_enter Tryz.func3,Tryz.ntmps3
 go_wp2_with fail
 refine (HSZ.out _ bel).mono ?_
 rintro e w1 ⟨rfl,hb1⟩
 have hbw1 : Below w.heap.size w w1:=bel
 have A1:=(hb1.block _ (by simp)).trans (heap_new_at w (.cells #[.slice ip n ic,.int .i64 D.trail.kind,.int .i64 D.trail.n,.int .i64 D.trail.g,.string ⟨D.trail.s.toArray⟩,.slice p1 n1 c1,.slice p2 n2 c2] 28) _ rfl)
 obtain ⟨a0,a1,a2,a3,a4,a5,a6⟩:=seven_of A1
 go_wp2_with fail
 refine (HFI2.out _ hbw1).mono ?_
 rintro e w2 ⟨rfl,hb2⟩
 have A2:=(hb2.block _ (lt_of_block A1)).trans A1
 have hbw2:=hbw1.trans (hb2.mono hbw1.size)
 clear a0 a1 a2 a3 a4 a5 a6 A1 hb1 hb2 hbw1 HSZ HFI2
 obtain ⟨a0,a1,a2,a3,a4,a5,a6⟩:=seven_of A2
 go_wp2_with fail
 refine (HRF2.out _ hbw2).mono ?_
 rintro e w3 ⟨rfl,hb3⟩
 have A3:=(hb3.block _ (lt_of_block A2)).trans A2
 have hbw3:=hbw2.trans (hb3.mono hbw2.size)
 clear a0 a1 a2 a3 a4 a5 a6 A2 hb3 hbw2 HRF2
 obtain ⟨a0,a1,a2,a3,a4,a5,a6⟩:=seven_of A3
 go_wp2_with fail
 refine (HPL2.out _ hbw3).mono ?_
 rintro e w4 ⟨⟨lp,lc,rfl,hL4⟩,hb4⟩
 have A4:=(hb4.block _ (lt_of_block A3)).trans A3
 have hbw4:=hbw3.trans (hb4.mono hbw3.size)
 have HL4:=Lh hL4
 clear a0 a1 a2 a3 a4 a5 a6 A3 hb4 hbw3 HPL2 hL4
 obtain ⟨a0,a1,a2,a3,a4,a5,a6⟩:=seven_of A4
 go_wp2_with fail
 refine (HRP2.out _ hbw4).mono ?_
 rintro e w5 ⟨⟨rp,rc,rfl,hL5⟩,hb5⟩
 have hbw5:=hbw4.trans (hb5.mono hbw4.size)
 have HK2:=Lh (kslots (.slice lp l.length lc) (.slice rp l.length rc) l w5 (HL4.out.below hb5) hL5 hll)
 have ee : (fe == fe) = true:=by simp
 clear a0 a1 a2 a3 a4 a5 a6 A4 hb5 hbw4 HRP2 HL4 hL5
 go_wp2_with fail
 refine HK2.out.mono ?_
 rintro e w6 ⟨rfl,hb6⟩
 have hbw6:=hbw5.trans (hb6.mono hbw5.size)
 clear HK2 hb6
 go_wp2_with fail
 refine (HLV.out _ hbw6).mono ?_
 rintro e w7 ⟨rfl,hb7⟩
 have hbw7:=hbw6.trans (hb7.mono hbw6.size)
 go_wp2
 go_ret
 exact ⟨rfl,hbw7⟩
end Go.Proofs.YtfgdhcemidlnfaaGreatDoor
