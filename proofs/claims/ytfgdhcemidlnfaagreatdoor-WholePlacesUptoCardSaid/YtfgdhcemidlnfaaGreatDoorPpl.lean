/- Parts of the proof: WlA WlB SzA WlD RkP WhM RefA RefB RefC RefD. -/
import Derived.Test.YtfgdhcemidlnfaaGreatDoorPpk
import Derived.Test.YtfgdhcemidlnfaaGreatDoorPpb
import Derived.Test.YtfgdhcemidlnfaaGreatDoorPpd
import Derived.Test.YtfgdhcemidlnfaaGreatDoorPpc
import Derived.Test.YtfgdhcemidlnfaaGreatDoorPpj
import Derived.Test.YtfgdhcemidlnfaaGreatDoorPpi
import Derived.Shelf.Spec.SlicesInsert
set_option linter.all false
set_option maxRecDepth 100000
set_option maxHeartbeats 8000000
namespace Fo
def wholeD : Dc:=⟨[⟨2,0,.mk 7 0 0 [] [] []⟩],.mk 7 0 0 [] [wRoot] [.mk 8 2 0 [] [] []]⟩
def wholeF : L:=[37,80,68,70,45,49,46,55,10,37,226,227,207,211,10,50,32,48,32,111,98,106,10,60,60,62,62,10,101,110,100,111,98,106,10,120,114,101,102,10,48,32,51,10,48,48,48,48,48,48,48,48,48,49,32,54,53,53,51,53,32,102,32,10,48,48,48,48,48,48,48,48,48,48,32,48,48,48,48,48,32,102,32,10,48,48,48,48,48,48,48,48,49,53,32,48,48,48,48,48,32,110,32,10,116,114,97,105,108,101,114,10,60,60,47,82,111,111,116,32,50,32,48,32,82,47,83,105,122,101,32,51,62,62,10,115,116,97,114,116,120,114,101,102,10,51,53,10,37,37,69,79,70,10]
def wholeS : List Sl:=[⟨0,0,1,65535⟩,⟨1,0,0,0⟩,⟨2,1,15,0⟩]
def zeroD : Dc:=⟨[],.mk 0 0 0 [] [] []⟩
theorem wholeD_file : fileW wholeD = .good (wholeF,wholeS):=by kernel_rfl
theorem zeroD_file : fileW zeroD = .bad 10:=by kernel_rfl
theorem wholeD_fit : DocFit wholeD:=⟨by decide,by decide,by decide⟩
theorem zeroD_fit : DocFit zeroD:=⟨by decide,by decide,by decide⟩
end Fo
namespace Go.Proofs.YtfgdhcemidlnfaaGreatDoor
open Go.RowKit Fo
theorem wholeD_s : fileS wholeD = ⟨wholeF.toArray⟩:=by unfold fileS;rw [wholeD_file]
theorem wholeD_e : fileE wholeD = 0:=by unfold fileE;rw [wholeD_file]
theorem wholeD_l : fileSl wholeD = wholeS:=by unfold fileSl;rw [wholeD_file]
theorem zeroD_s : fileS zeroD = ⟨#[]⟩:=by unfold fileS;rw [zeroD_file]
theorem zeroD_e : fileE zeroD = 10:=by unfold fileE;rw [zeroD_file]
theorem zero_at (S : Nat → Prop) (d : Nat) (w : World) : DocAt S d w [.slice none 0 0,.int .i64 0,.int .i64 0,.int .i64 0,.string ⟨#[]⟩,.slice none 0 0,.slice none 0 0] zeroD :=
 ⟨_,_,rfl,.inl ⟨rfl,_,_,rfl⟩,by decide,by simp [zeroD],⟨_,_,rfl,.inl ⟨rfl,_,_,rfl⟩,.inl ⟨rfl,_,_,rfl⟩⟩,⟨by decide,by decide,by decide,by simp [zeroD,Ob.keys],by simp [zeroD,Ob.kids]⟩⟩
theorem whole_at {w : World} {a b c : Nat} (h1 : w.heap[a]? = some (.cells #[.int .i64 2, .int .i64 0, .int .i64 7, .int .i64 0, .int .i64 0, .string ⟨#[]⟩, .slice none 0 0, .slice none 0 0] 50 (0, 0)))
   (h2 : w.heap[b]? = some (.cells #[.string ⟨#[82,111,111,116]⟩] 9 (0,0))) (h3 : w.heap[c]? = some (.cells #[.int .i64 8,.int .i64 2,.int .i64 0,.string ⟨#[]⟩,.slice none 0 0,.slice none 0 0] 26 (0,0))) :
   DocAt (fun b => b < w.heap.size) 2 w [.slice (some ⟨a,0,none⟩) 1 1,.int .i64 7,.int .i64 0,.int .i64 0,.string ⟨#[]⟩,.slice (some ⟨b,0,none⟩) 1 1,.slice (some ⟨c,0,none⟩) 1 1] wholeD:=by
 refine ⟨_,_,rfl,.inr ⟨a,0,1,rfl,lt_of_block h1,fun j hj => ?_⟩,by decide,?_,?_,?_⟩
 · obtain rfl : j = 0:=by simp [wholeD] at hj;omega
   refine ⟨_,_,_,_,_,_,by simp [World.cell?,h1,wholeD],by simp [World.cell?,h1,wholeD],by simp [World.cell?,h1];rfl,by simp [World.cell?,h1];rfl,by simp [World.cell?,h1];rfl,by simp [World.cell?,h1];rfl,by simp [World.cell?,h1];rfl,by simp [World.cell?,h1];rfl,?_⟩
   exact ⟨_,_,rfl,.inl ⟨rfl,_,_,rfl⟩,.inl ⟨rfl,_,_,rfl⟩⟩
 · intro i hi
   simp [wholeD] at hi
   subst hi
   exact ⟨by decide,by decide,by decide,by simp [Ob.keys],by simp [Ob.kids]⟩
 · refine ⟨_,_,rfl,.inr ⟨b,0,1,rfl,lt_of_block h2,fun i hi => ?_⟩,.inr ⟨c,0,1,rfl,lt_of_block h3,fun i hi => ?_⟩⟩
   · obtain rfl : i = 0:=by simp [wholeD,Ob.keys] at hi;omega
     simp [World.cell?,h2,wholeD,Ob.keys,wRoot]
   · obtain rfl : i = 0:=by simp [wholeD,Ob.kids] at hi;omega
     refine ⟨[.int .i64 8,.int .i64 2,.int .i64 0,.string ⟨#[]⟩,.slice none 0 0,.slice none 0 0],rfl,fun j hj => ?_,⟨_,_,rfl,.inl ⟨rfl,_,_,rfl⟩,.inl ⟨rfl,_,_,rfl⟩⟩⟩
     have : j = 0 ∨ j = 1 ∨ j = 2 ∨ j = 3 ∨ j = 4 ∨ j = 5:=by simp at hj;omega
     rcases this with rfl | rfl | rfl | rfl | rfl | rfl <;> simp [World.cell?,h3]
 · refine ⟨by decide,by decide,by decide,?_,?_⟩
   · intro x hx
     simp [wholeD,Ob.keys] at hx
     subst hx
     decide
   · intro k hk
     simp [wholeD,Ob.kids] at hk
     subst hk
     exact ⟨by decide,by decide,by decide,by simp [Ob.keys],by simp [Ob.kids]⟩
theorem wdoc_in (w : World) :
   Calls Tryz.prog 20 #[] w fun e w' => e = .returned (.agg #[.slice (some ⟨w.heap.size + 1,0,none⟩) 1 1,.int .i64 7,.int .i64 0,.int .i64 0,.string ⟨#[]⟩,.slice (some ⟨w.heap.size + 2,0,none⟩) 1 1,.slice (some ⟨w.heap.size + 3,0,none⟩) 1 1]) ∧
     DocAt (fun b => b < w'.heap.size) 2 w' [.slice (some ⟨w.heap.size + 1,0,none⟩) 1 1,.int .i64 7,.int .i64 0,.int .i64 0,.string ⟨#[]⟩,.slice (some ⟨w.heap.size + 2,0,none⟩) 1 1,.slice (some ⟨w.heap.size + 3,0,none⟩) 1 1] wholeD ∧ Below w.heap.size w w':=by
 go_enter Tryz.func20,Tryz.ntmps20
 go_wp2
 obtain ⟨w1,hw1⟩ : ∃ w1,(((w.alloc (.cells #[.slice (some ⟨w.heap.size + 1,0,none⟩) 1 1,.int .i64 7,.int .i64 0,.int .i64 0,.string ⟨#[]⟩,.slice (some ⟨w.heap.size + 1 + 1,0,none⟩) 1 1,.slice (some ⟨w.heap.size + 1 + 1 + 1,0,none⟩) 1 1] 28)).alloc
   (.cells #[.int .i64 2,.int .i64 0,.int .i64 7,.int .i64 0,.int .i64 0,.string ⟨#[]⟩,.slice none 0 0,.slice none 0 0] 50)).alloc (.cells #[.string ⟨#[82,111,111,116]⟩] 9)).alloc (.cells #[.int .i64 8,.int .i64 2,.int .i64 0,.string ⟨#[]⟩,.slice none 0 0,.slice none 0 0] 26) = w1:=⟨_,rfl⟩
 rw [hw1]
 have h1 : w1.heap[w.heap.size + 1]? = some (.cells #[.int .i64 2,.int .i64 0,.int .i64 7,.int .i64 0,.int .i64 0,.string ⟨#[]⟩,.slice none 0 0,.slice none 0 0] 50 (0,0)):=by
   rw [← hw1,Below.heap_alloc _ _ _ (by simp),Below.heap_alloc _ _ _ (by simp)];exact heap_new_at _ _ _ (by simp)
 have h2 : w1.heap[w.heap.size + 2]? = some (.cells #[.string ⟨#[82,111,111,116]⟩] 9 (0,0)):=by
   rw [← hw1,Below.heap_alloc _ _ _ (by simp)];exact heap_new_at _ _ _ (by simp)
 have h3 : w1.heap[w.heap.size + 3]? = some (.cells #[.int .i64 8,.int .i64 2,.int .i64 0,.string ⟨#[]⟩,.slice none 0 0,.slice none 0 0] 26 (0,0)):=by
   rw [← hw1];exact heap_new_at _ _ _ (by simp)
 have h0 : w1.heap[w.heap.size]? = some (.cells #[.slice (some ⟨w.heap.size + 1,0,none⟩) 1 1,.int .i64 7,.int .i64 0,.int .i64 0,.string ⟨#[]⟩,.slice (some ⟨w.heap.size + 1 + 1,0,none⟩) 1 1,.slice (some ⟨w.heap.size + 1 + 1 + 1,0,none⟩) 1 1] 28 (0,0)):=by
   rw [← hw1,Below.heap_alloc _ _ _ (by simp;omega),Below.heap_alloc _ _ _ (by simp;omega),Below.heap_alloc _ _ _ (by simp)];exact heap_new_at _ _ _ rfl
 have hb : Below w.heap.size w w1:=by rw [← hw1];exact bel
 clear hw1
 obtain ⟨k0,k1,k2,k3,k4,k5,k6⟩:=seven_of h0
 refine bodyPost_ret (v:=.agg #[.slice (some ⟨w.heap.size + 1,0,none⟩) 1 1,.int .i64 7,.int .i64 0,.int .i64 0,.string ⟨#[]⟩,.slice (some ⟨w.heap.size + 2,0,none⟩) 1 1,.slice (some ⟨w.heap.size + 3,0,none⟩) 1 1]) (by simp [results,Tryz.results20,go_sem,k0,k1,k2,k3,k4,k5,k6]) rfl ⟨rfl,whole_at h1 h2 h3,hb⟩
theorem lives_in (w : World) (hT : TabP w) :
   Calls Tryz.prog 7 #[] w fun e w' => e = .returned (.bool true) ∧ Below w.heap.size w w':=by
 have HTW:=Lh hT
 have HF1:=Lh (fun (W : World) (cs : List Value) (h : DocAt (fun b => b < W.heap.size) 2 W cs wholeD) (hT : TabP W) => show Calls Tryz.prog 8 #[.agg cs.toArray] W (fun e w' => e = .returned (.tuple #[.string ⟨wholeF.toArray⟩,.int .i64 0]) ∧ Below W.heap.size W w') from by
   have:=file_in (fun b => b < W.heap.size) 2 W cs wholeD h (fun b h => h) wholeD_fit hT
   rw [wholeD_s,wholeD_e] at this;exact this)
 have HF2:=Lh (fun (W : World) (cs : List Value) (h : DocAt (fun b => b < W.heap.size) 2 W cs wholeD) (hT : TabP W) => show Calls Tryz.prog 10 #[.agg cs.toArray] W (fun e w' => (∃ p c,e = .returned (.tuple #[.slice p 3 c,.int .i64 0]) ∧ RArg slE w' (.slice p 3 c) wholeS) ∧ Below W.heap.size W w') from by
   have:=places_in (fun b => b < W.heap.size) 2 W cs wholeD h (fun b h => h) wholeD_fit hT
   rw [wholeD_l,wholeD_e] at this;exact this)
 have HF3:=Lh (fun (W : World) (hT : TabP W) => show Calls Tryz.prog 8 #[.agg #[.slice none 0 0,.int .i64 0,.int .i64 0,.int .i64 0,.string ⟨#[]⟩,.slice none 0 0,.slice none 0 0]] W (fun e w' => e = .returned (.tuple #[.string ⟨#[]⟩,.int .i64 10]) ∧ Below W.heap.size W w') from by
   have:=file_in (fun _ => False) 2 W _ zeroD (zero_at _ _ W) (fun b h => h.elim) zeroD_fit hT
   rw [zeroD_s,zeroD_e] at this;exact this)
 clear hT
 go_enter Tryz.func7,Tryz.ntmps7
 go_wp2_with fail
 refine (wdoc_in _).mono ?_
 rintro e w1 ⟨rfl,hD1,hb1⟩
 go_wp2_with fail
 refine (HF1.out _ _ hD1 (HTW.out.below hb1)).mono ?_
 rintro e w2 ⟨rfl,hb2⟩
 have hbw2:=hb1.trans (hb2.mono hb1.size)
 clear hD1 hb1 hb2 HF1
 go_wp2_with fail
 refine (wdoc_in _).mono ?_
 rintro e w3 ⟨rfl,hD3,hb3⟩
 have hbw3:=hbw2.trans (hb3.mono hbw2.size)
 go_wp2_with fail
 refine (HF2.out _ _ hD3 (HTW.out.below hbw3)).mono ?_
 rintro e w4 ⟨⟨p,c,rfl,hA⟩,hb4⟩
 have hbw4:=hbw3.trans (hb4.mono hbw3.size)
 clear hD3 hb3 hb4 hbw2 hbw3 HF2
 obtain ⟨g,off,rfl,hgl,q0,q1,q2,q3⟩:=slot_at hA 2 (by decide)
 clear hA
 go_wp2_with fail
 refine (HF3.out _ (HTW.out.below hbw4)).mono ?_
 rintro e w5 ⟨rfl,hb5⟩
 have k:=fun o => World.cell?_of_block (a:=⟨g,o,none⟩) (hb5.block g hgl)
 have r0:=(k _).trans q0
 have r1:=(k _).trans q1
 have r2:=(k _).trans q2
 have r3:=(k _).trans q3
 have hbw5:=hbw4.trans (hb5.mono hbw4.size)
 clear q0 q1 q2 q3 k hb5 hbw4 HF3
 simp only [wholeS,List.getElem_cons_succ,List.getElem_cons_zero] at r0 r1 r2 r3
 go_wp2
 go_ret
 exact ⟨rfl,hbw5⟩
def SizeX (S : Nat → Prop) (d : Nat) : Prop:=∀ (w : World) (cs : List Value) (o : Ob),ObjAt S d w cs o → smallO d o → (∀ b,S b → b < w.heap.size) → bulkO d o ≤ 1048576 →
 Calls Tryz.prog 19 #[.agg cs.toArray] w fun e w' => e = .returned (.int .i64 (sizeO d o)) ∧ Below w.heap.size w w'
theorem sizeX_step (S : Nat → Prop) (d : Nat) (IH : SizeX S d) : SizeX S (d + 1):=by
 intro w cs o hO hsm hS hbk
 obtain ⟨p1,c1,p2,c2,rfl⟩:=hO.form2
 have HB:=Lh hbk
 have HSL:=Lh (show o.s.length ≤ 1048576 from Nat.le_trans (bulk_s d o) hbk)
 obtain ⟨kv,dv,hcs,hK0,hR0⟩:=hO
 have hR : RowAt S d w (.slice p2 o.kids.length c2) o.kids:=by
   simp [objCells] at hcs;rw [hcs.2];exact hR0
 have hK : KeysAt S w (.slice p1 o.keys.length c1) o.keys:=by
   simp [objCells] at hcs;rw [hcs.1];exact hK0
 clear hR0 hcs hK0
 obtain ⟨m1,m2,m3,m4,m5⟩:=hsm
 have HRW:=Lh (And.intro hR (And.intro m5 hS))
 have HKW:=Lh (And.intro hK m4)
 obtain ⟨nk,hnk⟩ : ∃ nk,o.kids.length = nk:=⟨_,rfl⟩
 obtain ⟨nq,hnq⟩ : ∃ nq,o.keys.length = nq:=⟨_,rfl⟩
 have HNK:=Lh hnk
 have HNQ:=Lh hnq
 rw [hnk] at HRW m2
 rw [hnq] at HKW m1
 unfold objCells
 rw [hnk,hnq]
 have m3' : o.s.length < 9223372036854775807:=by omega
 clear hR hK hS m4 m5 hnk hnq hbk
 go_enter Tryz.func19,Tryz.ntmps19
 go_wp2
 go_loopw [3,16] (fun v i wr => ∃ (k : Nat),k ≤ nq ∧ i = .int .i64 k ∧ v = .int .i64 ((1 + o.s.length / 50 + ((o.keys.take k).map fun k => k.length / 50).sum : Nat) : Int) ∧ Below (w.heap.size + 1) (w.alloc (.cells #[.int .i64 o.kind,.int .i64 o.n,.int .i64 o.g,.string ⟨o.s.toArray⟩,.slice p1 nq c1,.slice p2 nk c2] 26)) wr) (fun _ i _ => nq - (intOf i).toNat)
 case atStart =>
   have:=HSL.out
   exact ⟨0,Nat.zero_le _,rfl,by simp,bel⟩
 case round =>
   obtain ⟨k,hk,rfl,rfl,hb⟩:=hrel
   by_cases hlt : k < nq
   ·
     have hbw : Below w.heap.size w wr:=(show Below w.heap.size w (w.alloc (.cells #[.int .i64 o.kind,.int .i64 o.n,.int .i64 o.g,.string ⟨o.s.toArray⟩,.slice p1 nq c1,.slice p2 nk c2] 26)) from bel).trans (hb.mono (by omega))
     have hKw : KeysAt S wr (.slice p1 nq c1) o.keys:=HKW.out.1.kept (fun b h => hbw.block b (HRW.out.2.2 b h))
     obtain ⟨b1,f1,rfl⟩ : ∃ b off,p1 = some ⟨b,off,none⟩:=by
       rcases hKw with ⟨e,_⟩ | ⟨b,off,c,e,_⟩
       · have:=HNQ.out;rw [e] at this;simp at this;omega
       · cases e;exact ⟨_,_,rfl⟩
     obtain ⟨s1,g1⟩:=key_at hKw HNQ.out k hlt
     have hkl : k < o.keys.length:=by rw [HNQ.out];exact hlt
     have hsum:=take_sum_succ (fun k => k.length / 50) o.keys k hkl
     have hbnd:=take_sum_le (fun k => k.length / 50) o.keys (k + 1)
     rw [show o.keys[k] = o.keys.getD k [] by simp [List.getD,hkl]] at hsum
     have hxb : (o.keys.getD k []).length ≤ 1048576:=Nat.le_trans (bulk_key (d:=d) (by simp [List.getD,hkl])) HB.out
     obtain ⟨x,hx⟩ : ∃ x,o.keys.getD k [] = x:=⟨_,rfl⟩
     rw [hx] at g1 hsum hxb
     have HSU:=Lh hsum
     have hsz:=size_bulk (d + 1) o
     unfold sizeO at hsz
     have hall : 1 + o.s.length / 50 + ((o.keys.take k).map fun k => k.length / 50).sum + x.length / 50 ≤ 1048576:=by have:=HB.out;omega
     obtain ⟨q,hq⟩ : ∃ q,1 + o.s.length / 50 + ((o.keys.take k).map fun k => k.length / 50).sum = q:=⟨_,rfl⟩
     have HQ:=Lh hq
     rw [hq] at hall ⊢
     clear hKw hx hkl hsum hbnd hsz hq
     obtain ⟨b0,b1',b2,b3,b4,b5,bf⟩:=six_of ((hb.block w.heap.size (by omega)).trans (heap_new_at w _ _ rfl))
     go_wp2
     go_roundw
     case rel =>
       refine ⟨k + 1,by omega,by go_num,?_,bel⟩
       rw [HSU.out,← Nat.add_assoc,HQ.out]
       go_num
     case measure => simp [intOf];omega
   · have hszr:=hb.size
     simp at hszr
     obtain ⟨b0,b1',b2,b3,b4,b5,bf⟩:=six_of ((hb.block w.heap.size (by omega)).trans (heap_new_at w _ _ rfl))
     have hb1:=hb
     clear hb
     have HKE:=Lh (show o.keys.take k = o.keys by rw [show k = o.keys.length by rw [HNQ.out];omega,List.take_length])
     go_wp2
     clear b0 b1' b2 b3 b4 b5 bf
     go_loopw [3,29] (fun v i wr => ∃ (k : Nat),k ≤ nk ∧ i = .int .i64 k ∧ v = .int .i64 ((1 + o.s.length / 50 + (o.keys.map fun k => k.length / 50).sum + ((o.kids.take k).map (sizeO d)).sum : Nat) : Int) ∧ Below (w.heap.size + 1) (w.alloc (.cells #[.int .i64 o.kind,.int .i64 o.n,.int .i64 o.g,.string ⟨o.s.toArray⟩,.slice p1 nq c1,.slice p2 nk c2] 26)) wr) (fun _ i _ => nk - (intOf i).toNat)
     case atStart => exact ⟨0,Nat.zero_le _,rfl,by rw [HKE.out];rfl,hb1⟩
     case round =>
       obtain ⟨k,hk,rfl,rfl,hb⟩:=hrel
       by_cases hlt : k < nk
       ·
         have hbw : Below w.heap.size w wr:=(show Below w.heap.size w (w.alloc (.cells #[.int .i64 o.kind,.int .i64 o.n,.int .i64 o.g,.string ⟨o.s.toArray⟩,.slice p1 nq c1,.slice p2 nk c2] 26)) from bel).trans (hb.mono (by omega))
         have hRw : RowAt S d wr (.slice p2 nk c2) o.kids:=HRW.out.1.kept (fun b h => hbw.block b (HRW.out.2.2 b h))
         obtain ⟨b,off,rfl⟩ : ∃ b off,p2 = some ⟨b,off,none⟩:=by
           rcases hRw with ⟨e,_⟩ | ⟨b,off,c,e,_⟩
           · have:=HNK.out;rw [e] at this;simp at this;omega
           · cases e;exact ⟨_,_,rfl⟩
         obtain ⟨x,p3,n3,e3,p4,n4,e4,hx,hxm,s1,O1,f0,f1,f2,f3,f4,f5⟩:=row_kid hRw HNK.out k hlt
         have hS2 : ∀ b,S b → b < wr.heap.size:=fun b h => Nat.lt_of_lt_of_le (HRW.out.2.2 b h) hbw.size
         have HI:=Lh (fun (W : World) (hW : Below wr.heap.size wr W) => IH W _ x (O1.kept (fun b h => hW.block b (hS2 b h)) d) (HRW.out.2.1 x hxm) (fun b h => Nat.lt_of_lt_of_le (hS2 b h) hW.size) (Nat.le_trans (bulk_kid hxm) HB.out))
         unfold objCells at HI
         have hkl : k < o.kids.length:=by rw [HNK.out];exact hlt
         have hsum:=take_sum_succ (sizeO d) o.kids k hkl
         have hbnd:=take_sum_le (sizeO d) o.kids (k + 1)
         have hxk : o.kids[k] = x:=by rw [← hx];simp [List.getD,hkl]
         rw [hxk] at hsum
         have HSU:=Lh hsum
         have hsz:=size_bulk (d + 1) o
         unfold sizeO at hsz
         have hall : 1 + o.s.length / 50 + (o.keys.map fun k => k.length / 50).sum + ((o.kids.take k).map (sizeO d)).sum + sizeO d x ≤ 1048576:=by have:=HB.out;omega
         obtain ⟨q,hq⟩ : ∃ q,1 + o.s.length / 50 + (o.keys.map fun k => k.length / 50).sum + ((o.kids.take k).map (sizeO d)).sum = q:=⟨_,rfl⟩
         have HQ:=Lh hq
         rw [hq] at hall ⊢
         obtain ⟨z,hz⟩ : ∃ z,sizeO d x = z:=⟨_,rfl⟩
         have HZ:=Lh hz
         rw [hz] at HI hall
         have L1:=hS2 b s1
         have hszr:=hb.size
         simp at hszr
         obtain ⟨b0,b1',b2,b3,b4,b5,bf⟩:=six_of ((hb.block w.heap.size (by omega)).trans (heap_new_at w _ _ rfl))
         clear hRw hx hxm O1 hS2 hkl hsum hbnd hxk hsz hq hz
         go_wp2_with fail
         refine (HI.out _ bel).mono ?_
         rintro e w4 ⟨rfl,hb4⟩
         go_wp2
         go_roundw
         case rel =>
           refine ⟨k + 1,by omega,by go_num,?_,bel⟩
           rw [HSU.out,← Nat.add_assoc,HQ.out,HZ.out]
           go_num
         case measure => simp [intOf];omega
       · have HKE2:=Lh (show o.kids.take k = o.kids by rw [show k = o.kids.length by rw [HNK.out];omega,List.take_length])
         go_wp2
         go_ret
         exact ⟨by rw [HKE2.out];rfl,bel⟩
theorem sizeX_in (S : Nat → Prop) : ∀ d,SizeX S d
 | 0 => fun _ _ _ h => h.elim
 | d + 1 => sizeX_step S d (sizeX_in S d)
theorem kids_size {S : Nat → Prop} {d : Nat} {w : World} {cs : List Value} {o : Ob} (h : ObjAt S (d + 1) w cs o) : o.kids.length ≤ sizeO (d + 1) o:=by
 obtain ⟨kv,dv,_,_,h3⟩:=h
 have hk : ∀ k ∈ o.kids,1 ≤ sizeO d k:=by
   intro k hk
   rcases h3 with ⟨h3,_⟩ | ⟨b,off,c,_,_,h6⟩
   · rw [h3] at hk;cases hk
   · obtain ⟨i,hi,rfl⟩:=List.mem_iff_getElem.1 hk
     obtain ⟨ks,_,_,g3⟩:=h6 i hi
     cases d with
     | zero => exact g3.elim
     | succ d => unfold sizeO;omega
 have:=len_sum hk
 unfold sizeO;omega
theorem sizeD_in (S : Nat → Prop) (d : Nat) (w : World) (D : Dc) (ip p1 p2 : Option Addr) (n ic n1 c1 n2 c2 : Nat) (hI : ItemsAt S d w (.slice ip n ic) D.items) (hn : D.items.length = n) (hl : n ≤ 1000000) (hsI : ∀ i ∈ D.items, smallO d i.ob)
   (hO : ObjAt S d w (objCells D.trail.kind D.trail.n D.trail.g D.trail.s (.slice p1 n1 c1) (.slice p2 n2 c2)) D.trail) (hsT : smallO d D.trail) (hS : ∀ b,S b → b < w.heap.size) (hbk : bulkD d D ≤ 1048576) :
   Calls Tryz.prog 6 #[.agg #[.slice ip n ic,.int .i64 D.trail.kind,.int .i64 D.trail.n,.int .i64 D.trail.g,.string ⟨D.trail.s.toArray⟩,.slice p1 n1 c1,.slice p2 n2 c2]] w fun e w' => e = .returned (.int .i64 (sizeD d D)) ∧ Below w.heap.size w w':=by
 have hbT : bulkO d D.trail ≤ 1048576:=by unfold bulkD at hbk;omega
 have hszT:=size_bulk d D.trail
 have hszI:=map_sum_le (l:=D.items) (f:=fun i => sizeO d i.ob) (g:=fun i => bulkO d i.ob) (fun i _ => size_bulk d i.ob)
 have hall : sizeD d D ≤ 1048576:=by unfold bulkD at hbk;unfold sizeD;omega
 have HBK:=Lh (fun i (hi : i ∈ D.items) => show bulkO d i.ob ≤ 1048576 from by have:=mem_sum_le (fun i : It => bulkO d i.ob) hi;unfold bulkD at hbk;omega)
 have HZ0:=Lh (fun (W : World) (hW : Below w.heap.size w W) => sizeX_in S d W _ D.trail (hO.kept (fun b h => hW.block b (hS b h)) d) hsT (fun b h => Nat.lt_of_lt_of_le (hS b h) hW.size) hbT)
 unfold objCells at HZ0
 obtain ⟨T,hT⟩ : ∃ T,sizeO d D.trail = T:=⟨_,rfl⟩
 have HT:=Lh hT
 rw [hT] at HZ0
 have HI:=Lh (And.intro hI hn)
 have HS:=Lh (And.intro hS hsI)
 have HA:=Lh hall
 clear hbk hbT hszT hszI hall hI hn hS hsI hO hsT hT
 go_enter Tryz.func6,Tryz.ntmps6
 go_wp2_with fail
 refine (HZ0.out _ bel).mono ?_
 rintro e w1 ⟨rfl,hb1⟩
 have hz1:=hb1.size
 simp at hz1
 have A1:=(hb1.block _ (by simp)).trans (heap_new_at w (.cells #[.slice ip n ic,.int .i64 D.trail.kind,.int .i64 D.trail.n,.int .i64 D.trail.g,.string ⟨D.trail.s.toArray⟩,.slice p1 n1 c1,.slice p2 n2 c2] 28) _ rfl)
 have hbw1 : Below w.heap.size w w1:=bel
 have s0 : w1.cell? ⟨w.heap.size,0,none⟩ = some (.slice ip n ic):=by simp [World.cell?,A1]
 clear hb1 A1 HZ0
 go_wp2
 clear s0
 go_loopw [3,12] (fun v i wr => ∃ (k : Nat),k ≤ n ∧ i = .int .i64 k ∧ v = .int .i64 ((T + ((D.items.take k).map fun i => sizeO d i.ob).sum : Nat) : Int) ∧ Below w.heap.size w wr) (fun _ i _ => n - (intOf i).toNat)
 case atStart => exact ⟨0,Nat.zero_le _,rfl,by simp,hbw1⟩
 case round =>
   obtain ⟨k,hk,rfl,rfl,hbr⟩:=hrel
   have hzr:=hbr.size
   by_cases hlk : k < n
   · have hvr : ItemsAt S d wr (.slice ip n ic) D.items:=HI.out.1.kept (fun b h => hbr.block b (HS.out.1 b h))
     obtain ⟨b,off,rfl⟩:=hvr.addr HI.out.2 k hlk
     obtain ⟨i,y1,t1,x1,y2,t2,x2,hi,hsb,O1,e0,e1,e2,e3,e4,e5,e6,e7⟩:=item_kid hvr HI.out.2 k hlk
     have him:=List.mem_of_getElem? hi
     have hblt : b < wr.heap.size:=Nat.lt_of_lt_of_le (HS.out.1 b hsb) hzr
     have hbne : ¬ b = wr.heap.size:=by omega
     have HC:=Lh (fun (W : World) (hW : Below wr.heap.size wr W) => sizeX_in S d W _ i.ob (O1.kept (fun b h => hW.block b (Nat.lt_of_lt_of_le (HS.out.1 b h) hzr)) d) (HS.out.2 i him) (fun b h => Nat.lt_of_lt_of_le (HS.out.1 b h) (Nat.le_trans hzr hW.size)) (HBK.out i him))
     unfold objCells at HC
     have hkl : k < D.items.length:=by rw [HI.out.2];exact hlk
     have hsum:=take_sum_succ (fun i : It => sizeO d i.ob) D.items k hkl
     have hbnd:=take_sum_le (fun i : It => sizeO d i.ob) D.items (k + 1)
     have hxk : D.items[k] = i:=by have:=List.getElem?_eq_getElem hkl;rw [hi] at this;exact (Option.some.inj this).symm
     rw [hxk] at hsum
     have HSU:=Lh hsum
     have hall : T + ((D.items.take k).map fun i => sizeO d i.ob).sum + sizeO d i.ob ≤ 1048576:=by
       have:=HA.out
       unfold sizeD at this
       rw [HT.out] at this
       omega
     obtain ⟨q,hq⟩ : ∃ q,T + ((D.items.take k).map fun i => sizeO d i.ob).sum = q:=⟨_,rfl⟩
     have HQ:=Lh hq
     rw [hq] at hall ⊢
     obtain ⟨z,hz⟩ : ∃ z,sizeO d i.ob = z:=⟨_,rfl⟩
     have HZ:=Lh hz
     rw [hz] at HC hall
     clear hvr hi hsb O1 him hkl hsum hbnd hxk hq hz
     go_wp2_with fail
     refine (HC.out _ bel).mono ?_
     rintro e w4 ⟨rfl,hb4⟩
     have hbw4 : Below w.heap.size w w4:=hbr.trans ((((Below.refl _ wr).alloc (Nat.le_refl _) (.cells #[.int .i64 i.num,.int .i64 i.gen,.int .i64 i.ob.kind,.int .i64 i.ob.n,.int .i64 i.ob.g,.string ⟨i.ob.s.toArray⟩,.slice y1 t1 x1,.slice y2 t2 x2] 50)).trans (hb4.mono (by simp))).mono hbr.size)
     go_wp2
     go_roundw
     case rel =>
       refine ⟨k + 1,by omega,by go_num,?_,hbw4⟩
       rw [HSU.out,← Nat.add_assoc,HQ.out,HZ.out]
       go_num
     case measure => simp [intOf];omega
   · have HKE:=Lh (show T + ((D.items.take k).map fun i => sizeO d i.ob).sum = sizeD d D by rw [show k = D.items.length by rw [HI.out.2];omega,List.take_length,← HT.out];rfl)
     rw [HKE.out]
     go_wp2
     go_ret
     exact ⟨rfl,hbr⟩
theorem ItemsAt.up {S : Nat → Prop} {d : Nat} {w : World} {v : Value} {l : List It} (h : ItemsAt S d w v l) : ItemsAt S (d + 1) w v l:=by
 rcases h with h | ⟨b,off,c,h1,h2,h3⟩
 · exact .inl h
 · refine .inr ⟨b,off,c,h1,h2,fun j hj => ?_⟩
   obtain ⟨v0,v1,v2,v3,v4,v5,a0,a1,a2,a3,a4,a5,a6,a7,a8⟩:=h3 j hj
   exact ⟨v0,v1,v2,v3,v4,v5,a0,a1,a2,a3,a4,a5,a6,a7,a8.up⟩
theorem fit_small {S : Nat → Prop} {d : Nat} {w : World} {v : Value} {D : Dc} (hI : ItemsAt S (d + 1) w v D.items) (hl : D.items.length ≤ 1000000) (hb : bulkD 24 D ≤ 1048576) (hs : sizeD (d + 1) D ≤ 600) : DocFit D:=by
 refine ⟨hl,hb,fun i hi => ?_⟩
 obtain ⟨k,hk,rfl⟩:=List.mem_iff_getElem.1 hi
 rcases hI with ⟨h,_⟩ | ⟨b,off,c,_,_,h3⟩
 · rw [h] at hk;exact absurd hk (Nat.not_lt_zero _)
 · obtain ⟨v0,v1,v2,v3,v4,v5,_,_,_,_,_,_,_,_,a8⟩:=h3 k hk
   have h1:=kids_size a8
   have h2:=mem_sum_le (fun i : It => sizeO (d + 1) i.ob) (List.getElem_mem hk)
   unfold sizeD at hs
   omega
end Go.Proofs.YtfgdhcemidlnfaaGreatDoor
namespace Fo
structure TableAt (l0 : L) (l : List Sl) (t : Ob) (r : L) (l1 l2 l3 l4 l5 : L) : Prop where
 head : l0.take 4 = wordX
 xref : wordR l0 wordX = some l1
 more : wordR l1 wordTr = none
 first : numR l1 0 8191 = some (0,l2)
 count : numR l2 0 8192 = some ((l.length : Int),l3)
 slots : entriesR l.length 0 l3 [] = some (l,l4)
 trail : wordR l4 wordTr = some l5
 dict : readS l5 = .good (t,r)
theorem table_parts {l : List Sl} {t : Ob} (r : L) (hl : l ≠ []) (hn : l.length ≤ 8192) (hs : ∀ i (h : i < l.length), SlotOk i l[i]) (ht : checkB 24 t = 0) (hk : t.kind = 7) :
   ∃ l1 l2 l3 l4 l5,TableAt (tableW l t ++ r) l t (10 :: r) l1 l2 l3 l4 l5:=by
 have e : tableW l t ++ r = wordX ++ 10 :: (48 :: 32 :: (digU l.length ++ 10 :: (l.flatMap rowW ++ (wTrailer ++ (textW t ++ 10 :: r))))):=by unfold tableW wXref wordX;simp
 rw [e]
 obtain ⟨T,hT⟩ : ∃ T,textW t ++ 10 :: r = T:=⟨_,rfl⟩
 have hback:=readS_text (okO_of_check ht (by omega)) r (fun h2 => by omega)
 rw [hT] at hback
 rw [hT]
 have n0 : nextS (wordX ++ 10 :: (48 :: 32 :: (digU l.length ++ 10 :: (l.flatMap rowW ++ (wTrailer ++ T))))) = .good (⟨5,4,0,wordX⟩,_):=(nextT_run (x:=wordX) (by decide) (by decide) (stop10 _) rfl).2
 have d0 : digU 0 = [48]:=by unfold digU;rfl
 have n1 : nextS (10 :: (48 :: 32 :: (digU l.length ++ 10 :: (l.flatMap rowW ++ (wTrailer ++ T))))) = .good (⟨1,1,0,[]⟩,32 :: (digU l.length ++ 10 :: (l.flatMap rowW ++ (wTrailer ++ T)))):=by
   have:=next_digU 0 (by omega) (stop32 (digU l.length ++ 10 :: (l.flatMap rowW ++ (wTrailer ++ T))))
   rw [d0] at this
   rw [nextS_sep 10 _ (.inr rfl)]
   exact this
 have n2:=(nextS_sep 32 (digU l.length ++ 10 :: (l.flatMap rowW ++ (wTrailer ++ T))) sep32).trans (next_digU l.length (by omega) (stop10 _))
 have hE:=entries_back l [] 0 10 (wTrailer ++ T) hl (.inr rfl) (fun i hi => by rw [Nat.zero_add];exact hs i hi) (by simp)
 have e0 : ((0 : Nat) : Int) = 0:=rfl
 rw [e0,List.nil_append] at hE
 have n3 : nextS (32 :: 10 :: (wTrailer ++ T)) = .good (⟨5,7,0,wordTr⟩,10 :: T):=by
   rw [nextS_sep 32 _ sep32,nextS_sep 10 _ (.inr rfl)]
   exact (nextT_run (x:=wordTr) (l:=10 :: T) (by decide) (by decide) (stop10 _) rfl).2
 have hr : readS (10 :: T) = readS T:=by unfold readS;rw [nextS_sep 10 _ (.inr rfl)]
 exact ⟨_,_,_,_,_,⟨rfl,wordR_of n0 rfl rfl,wordR_no n1 (by simp),numR_of n1 rfl (by simp) (by simp),numR_of n2 rfl (by simp) (by simp;omega),hE,wordR_of n3 rfl rfl,by rw [hr];exact hback⟩⟩
theorem entries_step {m : Nat} {num : Int} {l : L} {acc : List Sl} {z : List Sl × L} (h : entriesR (m + 1) num l acc = some z) (hlt : ∀ y ∈ acc, y.num < num) :
   ∃ x l1,entryR num l = some (x,l1) ∧ x.num = num ∧ entriesR m (num + 1) l1 (acc ++ [x]) = some z:=by
 rw [entriesR] at h
 cases he : entryR num l with
 | none => rw [he] at h;cases h
 | some y =>
   obtain ⟨x,l1⟩:=y
   rw [he] at h
   dsimp only at h
   have hx : x.num = num:=by
     unfold entryR at he
     cases h1 : numR l 0 2147483647 with
     | none => rw [h1] at he;cases he
     | some q =>
       obtain ⟨a,l2⟩:=q
       rw [h1] at he
       dsimp only at he
       cases h2 : numR l2 0 65535 with
       | none => rw [h2] at he;cases he
       | some q =>
         obtain ⟨b,l3⟩:=q
         rw [h2] at he
         dsimp only at he
         cases h3 : wordR l3 [110] with
         | some q => rw [h3] at he;cases he;rfl
         | none =>
           rw [h3] at he
           dsimp only at he
           cases h4 : wordR l3 [102] with
           | some q => rw [h4] at he;cases he;rfl
           | none => rw [h4] at he;cases he
   rw [layR_last acc x (fun y hy => by have:=hlt y hy;omega)] at h
   exact ⟨x,l1,rfl,hx,h⟩
structure PsOk (D : Dc) (f : L) (ps : List Sl) : Prop where
 up : ps.Pairwise (fun a b => a.num < b.num)
 len : ps.length = D.items.length
 at_ : ∀ k (h1 : k < D.items.length) (h2 : k < ps.length),∃ t rest,itemW D.items[k] = .good t ∧ f.drop ps[k].a.toNat = t ++ rest ∧ 0 ≤ ps[k].a ∧ ps[k].a ≤ f.length ∧ ps[k].num = D.items[k].num ∧ ps[k].b = D.items[k].gen ∧ ps[k].kind = 1
 one : ∀ k (h : k < ps.length),1 ≤ ps[k].num
 most : ∀ k (h : k < ps.length),ps[k].num ≤ mostW D.items
theorem most_last {l : List It} (hp : l.Pairwise fun a b => a.num < b.num) (h0 : ∀ i ∈ l,0 ≤ i.num) : ∀ k (h : k < l.length),l[k].num ≤ mostW l:=by
 intro k h
 have hne : l ≠ []:=fun e => by rw [e] at h;simp at h
 have hl : l.getLast? = some (l[l.length - 1]'(by omega)):=by rw [List.getLast?_eq_getElem?,List.getElem?_eq_getElem (by omega)]
 unfold mostW
 rw [hl]
 have hz:=h0 _ (List.getElem_mem (l:=l) (n:=l.length - 1) (by omega))
 by_cases e : k = l.length - 1
 · subst e;dsimp only;omega
 · have:=(List.pairwise_iff_getElem.1 hp) k (l.length - 1) h (by omega) (by omega)
   dsimp only;omega
theorem ps_ok {D : Dc} {f : L} {l : List Sl} (h : fileW D = .good (f,l)) : ∃ ps,l = slotsW ps (mostW D.items) ∧ mostW D.items ≤ 8191 ∧ PsOk D f ps:=by
 obtain ⟨hd,_⟩:=fileW_good h
 obtain ⟨hI,_⟩:=(docB_iff D).1 hd
 obtain ⟨ps,h1,h2,h3,h4⟩:=(fileW_ok h).items
 have hn : ∀ k (h : k < D.items.length),1 ≤ D.items[k].num:=fun k h => ((numsB_iff _).1 (hI.all _ (List.getElem_mem h)).1).1
 refine ⟨ps,h1,mostW_le hI,h2,h3,h4,fun k h => ?_,fun k h => ?_⟩
 · obtain ⟨t,rest,_,_,_,_,e,_⟩:=h4 k (by omega) h
   rw [e];exact hn k _
 · obtain ⟨t,rest,_,_,_,_,e,_⟩:=h4 k (by omega) h
   rw [e]
   exact most_last (ItemsOk.up hI).2 (fun i hi => by have:=((numsB_iff i).1 (hI.all i hi).1).1;omega) k (by omega)
structure PlJ (ps : List Sl) (i j f : Nat) : Prop where
 free : f = freeN ps i
 le : j ≤ ps.length
 lt : ∀ p (h : p < ps.length),p < j → ps[p].num < (i : Int)
 ge : ∀ p (h : p < ps.length),j ≤ p → (i : Int) ≤ ps[p].num
theorem PsOk.start {D : Dc} {f : L} {ps : List Sl} (h : PsOk D f ps) : PlJ ps 0 0 0 :=
 ⟨by simp [freeN],Nat.zero_le _,fun p hp h1 => by omega,fun p hp _ => by have:=h.one p hp;omega⟩
theorem PlJ.free_next {ps : List Sl} {i j f : Nat} (h : PlJ ps i j f) (hu : usedB ps i = false) : PlJ ps (i + 1) j (f + 1):=by
 refine ⟨by rw [freeN_succ,hu,h.free];rfl,h.le,fun p hp h1 => by have:=h.lt p hp h1;omega,fun p hp h1 => ?_⟩
 have h2:=h.ge p hp h1
 by_cases e : ps[p].num = (i : Int)
 · have : usedB ps i = true:=by unfold usedB;exact List.any_eq_true.2 ⟨ps[p],List.getElem_mem hp,by simp [e]⟩
   rw [hu] at this;cases this
 · omega
theorem PlJ.used_next {D : Dc} {g : L} {ps : List Sl} {i j f : Nat} (hk : PsOk D g ps) (h : PlJ ps i j f) (hu : usedB ps i = true) : ∃ hj : j < ps.length,ps[j].num = (i : Int) ∧ PlJ ps (i + 1) (j + 1) f:=by
 obtain ⟨hj,he⟩:=place_next hk.up h.lt h.ge hu
 refine ⟨hj,he,by rw [freeN_succ,hu,h.free];rfl,by omega,fun p hp h1 => ?_,fun p hp h1 => ?_⟩
 · by_cases e : p = j
   · subst e;omega
   · have:=h.lt p hp (by omega);omega
 · have:=(List.pairwise_iff_getElem.1 hk.up) j p hj hp (by omega)
   omega
theorem slot_round {D : Dc} {g : L} {ps : List Sl} {i j f : Nat} (hk : PsOk D g ps) (h : PlJ ps i j f) (hi : i ≤ mostW D.items) :
   ((slotW ps (mostW D.items) i).kind = 0 ∧ PlJ ps (i + 1) j (f + 1)) ∨
   ((slotW ps (mostW D.items) i).kind = 1 ∧ ∃ (hj : j < D.items.length) (t rest : L),itemW D.items[j] = .good t ∧ g.drop (slotW ps (mostW D.items) i).a.toNat = t ++ rest ∧ 0 ≤ (slotW ps (mostW D.items) i).a ∧ (slotW ps (mostW D.items) i).a ≤ g.length ∧
     (slotW ps (mostW D.items) i).num = D.items[j].num ∧ (slotW ps (mostW D.items) i).b = D.items[j].gen ∧ PlJ ps (i + 1) (j + 1) f):=by
 cases hu : usedB ps i
 · left
   exact ⟨by rw [slotW_free hu],h.free_next hu⟩
 · right
   obtain ⟨hj,he,hn⟩:=h.used_next hk hu
   have hs : slotW ps (mostW D.items) i = ps[j]:=slotW_used hk.up (List.getElem_mem hj) he
   have hj2 : j < D.items.length:=by have:=hk.len;omega
   obtain ⟨t,rest,a1,a2,a3,a4,a5,a6,a7⟩:=hk.at_ j hj2 hj
   rw [hs]
   exact ⟨a7,hj2,t,rest,a1,a2,a3,a4,a5,a6,hn⟩
theorem PlJ.last {D : Dc} {g : L} {ps : List Sl} {j f : Nat} (hk : PsOk D g ps) (h : PlJ ps (mostW D.items + 1) j f) : j = D.items.length ∧ f = freeN ps (mostW D.items + 1):=by
 refine ⟨?_,h.free⟩
 have:=hk.len
 have h2:=h.le
 by_cases e : j = ps.length
 · omega
 · have h3:=h.ge j (by omega) (Nat.le_refl _)
   have h4:=hk.most j (by omega)
   omega
structure PlK (ps : List Sl) (most n k : Nat) : Prop where
 le : k ≤ most
 free : usedB ps k = false
 num : freeN ps (k + 1) = n
theorem PsOk.zero_free {D : Dc} {f : L} {ps : List Sl} (h : PsOk D f ps) : usedB ps 0 = false:=by
 cases hu : usedB ps 0
 · rfl
 · obtain ⟨i,hi,e⟩:=usedB_mem hu
   have:=h.one i hi
   omega
theorem PsOk.startK {D : Dc} {f : L} {ps : List Sl} (h : PsOk D f ps) : PlK ps (mostW D.items) 1 0:=by
 refine ⟨Nat.zero_le _,h.zero_free,?_⟩
 rw [freeN_succ,h.zero_free]
 simp [freeN]
theorem PsOk.one_free {D : Dc} {f : L} {ps : List Sl} (h : PsOk D f ps) : 1 ≤ freeN ps (mostW D.items + 1):=by
 have h1:=h.startK.num
 have h2:=freeN_mono ps (a:=0 + 1) (b:=mostW D.items + 1) (by omega)
 omega
theorem PlK.next {ps : List Sl} {most n k : Nat} (h : PlK ps most n k) (hn : n < freeN ps (most + 1)) :
   0 < freeA ps most k ∧ freeA ps most k ≤ most ∧ (slotW ps most (freeA ps most k)).kind = 0 ∧ PlK ps most (n + 1) (freeA ps most k):=by
 obtain ⟨h1,h2,h3,h4⟩:=free_step ps most k h.le (by rw [h.num];exact hn)
 exact ⟨by omega,h2,by rw [slotW_free h3],h2,h3,by rw [h4,h.num]⟩
theorem PlK.a {ps : List Sl} {most n k : Nat} (h : PlK ps most n k) : (slotW ps most k).a = freeA ps most k:=by rw [slotW_free h.free]
theorem PlK.end_ {ps : List Sl} {most n k : Nat} (h : PlK ps most n k) (hn : n = freeN ps (most + 1)) : (slotW ps most k).a = 0:=by
 rw [h.a,free_last ps most k h.le (by rw [h.num];exact hn)];rfl
theorem file_table {D : Dc} {f : L} {l : List Sl} (h : fileW D = .good (f, l)) : f.length ≤ 1048576 ∧ ∃ (at' n : Nat) (t : Tok), lastR wordSx f = some at' ∧ at' + 9 ≤ f.length ∧ (nextT (f.drop (at' + 9))).2 = .good t ∧ t.kind = 1 ∧ t.n = (n : Nat) ∧ n < f.length ∧
   ∃ r l1 l2 l3 l4 l5,TableAt (f.drop n) l (sizeT D) r l1 l2 l3 l4 l5:=by
 have hok:=fileW_ok h
 obtain ⟨hd,hf,s,ps,hp,rfl,rfl⟩:=fileW_good h
 obtain ⟨hI,hT⟩:=(docB_iff D).1 hd
 obtain ⟨hPO,_⟩:=partsW_ok hp
 have hsl : s.length ≤ 1048576:=by rw [List.length_append] at hf;omega
 have hmost:=mostW_le hI
 refine ⟨hf,(s ++ tableW (slotsW ps (mostW D.items)) (sizeT D)).length,s.length,⟨1,(digU s.length).length,s.length,[]⟩,?_,?_,?_,rfl,rfl,?_,?_⟩
 · rw [← List.append_assoc];exact last_start _ _
 · have : 9 ≤ (tailW s.length).length:=by unfold tailW wStart;simp
   simp only [List.length_append];omega
 · rw [← List.append_assoc,List.drop_append,show (s ++ tableW (slotsW ps (mostW D.items)) (sizeT D)).length + 9 - (s ++ tableW (slotsW ps (mostW D.items)) (sizeT D)).length = 9 by omega,List.drop_of_length_le (by omega),List.nil_append]
   exact (nextS_good (start_back s.length (by omega))).1
 · have : 0 < (tailW s.length).length:=by unfold tailW wStart;simp
   simp only [List.length_append];omega
 · rw [List.drop_left]
   obtain ⟨l1,l2,l3,l4,l5,hTA⟩:=table_parts (l:=slotsW ps (mostW D.items)) (t:=sizeT D) (tailW s.length) (fun h0 => by have:=slotsW_len ps (mostW D.items);rw [h0] at this;simp at this) (by rw [slotsW_len];omega)
     (fun i hi => by rw [slotsW_at];exact slotW_ok hPO hI (by omega) _ hmost i (by rw [slotsW_len] at hi;omega)) (hT.size (by omega) (by omega)) (by unfold sizeT putO;exact hT.kind)
   exact ⟨_,_,_,_,_,_,hTA⟩
structure TrOk (D : Dc) : Prop where
 kind : (sizeT D).kind = 7
 chk : checkB 24 (sizeT D) = 0
 len : (sizeT D).keys.length = (sizeT D).kids.length
 few : (sizeT D).keys.length ≤ 4
 short : ∀ x ∈ (sizeT D).keys,x.length ≤ 127
 prev : [80,114,101,118] ∉ (sizeT D).keys
 hyb : [88,82,101,102,83,116,109] ∉ (sizeT D).keys
 back : trailR (sizeT D) = D.trail
theorem tr_ok {D : Dc} {f : L} {l : List Sl} (h : fileW D = .good (f,l)) : TrOk D:=by
 obtain ⟨hd,_⟩:=fileW_good h
 obtain ⟨hI,hT⟩:=(docB_iff D).1 hd
 have hmost:=mostW_le hI
 have hc : checkB 24 (sizeT D) = 0:=hT.size (by omega) (by omega)
 have hk : (sizeT D).kind = 7:=by unfold sizeT putO;exact hT.kind
 have hK:=(keysB_iff (sizeT D) (.inl hk)).1 ((checkB_iff 23 _).1 hc).keys
 have hmem : ∀ x ∈ (sizeT D).keys,x ∈ D.trail.keys ∨ x = wSize:=by
   intro x hx
   unfold sizeT at hx
   rw [put_new _ hT.no_size] at hx
   simp only [Ob.withK,Ob.keys,List.mem_append,List.mem_cons] at hx
   rcases hx with hx | rfl | hx
   · exact .inl (List.mem_of_mem_take hx)
   · exact .inr rfl
   · exact .inl (List.mem_of_mem_drop hx)
 have hlen : (sizeT D).keys.length = D.trail.keys.length + 1:=by
   unfold sizeT
   rw [put_new _ hT.no_size]
   have:=lowS_le D.trail.keys wSize
   simp only [Ob.withK,Ob.keys,List.length_append,List.length_cons,List.length_take,List.length_drop] at this ⊢
   omega
 have hfew:=hT.few
 refine ⟨hk,hc,hK.len,by omega,fun x hx => ?_,fun hx => ?_,fun hx => ?_,trail_back hT (by omega) (by omega)⟩
 · have:=hK.name x hx
   unfold nameB at this
   simp at this
   exact this.2
 · rcases hmem _ hx with h | h
   · rcases hT.keys _ h with h | h | h <;> revert h <;> decide
   · revert h;decide
 · rcases hmem _ hx with h | h
   · rcases hT.keys _ h with h | h | h <;> revert h <;> decide
   · revert h;decide
end Fo
namespace Go.Proofs.YtfgdhcemidlnfaaGreatDoor
open Go.RowKit Fo
theorem white_nat (c : UInt8) : white c = decide (c.toNat = 0 ∨ c.toNat = 9 ∨ c.toNat = 10 ∨ c.toNat = 12 ∨ c.toNat = 13 ∨ c.toNat = 32):=by
 simpa using u8_all (fun c => white c == decide (c.toNat = 0 ∨ c.toNat = 9 ∨ c.toNat = 10 ∨ c.toNat = 12 ∨ c.toNat = 13 ∨ c.toNat = 32)) (by decide +kernel) c
theorem delim_nat (c : UInt8) : delim c = decide (c.toNat = 40 ∨ c.toNat = 41 ∨ c.toNat = 60 ∨ c.toNat = 62 ∨ c.toNat = 91 ∨ c.toNat = 93 ∨ c.toNat = 123 ∨ c.toNat = 125 ∨ c.toNat = 47 ∨ c.toNat = 37):=by
 simpa using u8_all (fun c => delim c == decide (c.toNat = 40 ∨ c.toNat = 41 ∨ c.toNat = 60 ∨ c.toNat = 62 ∨ c.toNat = 91 ∨ c.toNat = 93 ∨ c.toNat = 123 ∨ c.toNat = 125 ∨ c.toNat = 47 ∨ c.toNat = 37)) (by decide +kernel) c
theorem rwhite (c : UInt8) (w : World) : Calls Tryz.prog 101 #[.int .u8 c.toNat] w fun e w' => e = .returned (.bool (white c)) ∧ w' = w:=by
 go_enter Tryz.func101,Tryz.ntmps101
 go_wp2
 all_goals go_ret
 all_goals exact ⟨ret_bool (by rw [white_nat];symm;first | (rw [decide_eq_true_eq];omega) | (rw [decide_eq_false_iff_not];omega) | (rw [Bool.eq_iff_iff];simp only [decide_eq_true_eq,Bool.or_eq_true,beq_iff_eq];omega)),rfl⟩
theorem rdelim (c : UInt8) (w : World) : Calls Tryz.prog 200 #[.int .u8 c.toNat] w fun e w' => e = .returned (.bool (delim c)) ∧ w' = w:=by
 go_enter Tryz.func200,Tryz.ntmps200
 go_wp2
 all_goals go_ret
 all_goals exact ⟨ret_bool (by rw [delim_nat];symm;first | (rw [decide_eq_true_eq];omega) | (rw [decide_eq_false_iff_not];omega) | (rw [Bool.eq_iff_iff];simp only [decide_eq_true_eq,Bool.or_eq_true,beq_iff_eq];omega)),rfl⟩
theorem rregular (c : UInt8) (w : World) : Calls Tryz.prog 152 #[.int .u8 c.toNat] w fun e w' => e = .returned (.bool (regular c)) ∧ w' = w:=by
 have H1:=Lh (fun W => rwhite c W)
 have H2:=Lh (fun W => rdelim c W)
 have HR:=Lh (show regular c = (!white c && !delim c) from rfl)
 obtain ⟨b1,hb1⟩ : ∃ b,white c = b:=⟨_,rfl⟩
 obtain ⟨b2,hb2⟩ : ∃ b,delim c = b:=⟨_,rfl⟩
 rw [hb1] at H1 HR
 rw [hb2] at H2 HR
 clear hb1 hb2
 cases b1 <;> cases b2
 all_goals
   go_enter Tryz.func152,Tryz.ntmps152
   go_wp2_with (first | (go_at_call 101;refine (H1.out _).mono ?_;rintro e w' ⟨rfl,rfl⟩) | (go_at_call 200;refine (H2.out _).mono ?_;rintro e w' ⟨rfl,rfl⟩))
   go_ret
   exact ⟨ret_bool (by rw [HR.out];rfl),rfl⟩
theorem rdigit (c : UInt8) (w : World) : Calls Tryz.prog 156 #[.int .u8 c.toNat] w fun e w' => e = .returned (.int .i64 (hexv c)) ∧ w' = w:=by
 have hc : (c.toNat : Int) < 256:=by have:=UInt8.toNat_lt c;omega
 go_enter Tryz.func156,Tryz.ntmps156
 go_wp2
 all_goals go_ret
 all_goals exact ⟨ret_int (by unfold hexv digit;(repeat' split) <;> omega),rfl⟩
theorem rrun (s : ByteArray) (a : Nat) (ha : a ≤ s.size) (hs : s.size ≤ maxLen) (w : World) :
   Calls Tryz.prog 102 #[.string s,.int .i64 a] w fun e w' => e = .returned (.int .i64 (a + regN (s.data.toList.drop a) : Nat)) ∧ w' = w:=by
 unfold maxLen at hs
 obtain ⟨T,hT⟩ : ∃ T,a + regN (s.data.toList.drop a) = T:=⟨_,rfl⟩
 rw [hT]
 have HT:=Lh hT;clear hT
 go_enter Tryz.func102,Tryz.ntmps102
 go_wp2
 go_loop [1] (fun p => ∃ k : Nat,k ≤ s.size ∧ p = .int .i64 k ∧ Hid (k + regN (s.data.toList.drop k) = T)) (fun p => s.size - (intOf p).toNat)
 case atStart => exact ⟨a,ha,rfl,HT⟩
 case round =>
   obtain ⟨k,hk,rfl,H⟩:=hrel
   clear HT
   by_cases hlt : k < s.size
   · have H1:=H.out
     rw [drop_get s k hlt,regN] at H1
     have H2:=Lh H1;clear H1 H
     have HRG:=Lh (fun W => rregular s[k] W)
     cases hr : regular s[k]
     · rw [hr] at H2 HRG
       clear hr
       go_wp2_with (go_at_call 152;refine (HRG.out _).mono ?_;rintro e w' ⟨rfl,rfl⟩)
       go_ret
       exact ⟨ret_int (by have:=H2.out;simp at this;omega),rfl⟩
     · rw [hr] at H2 HRG
       clear hr
       go_wp2_with (go_at_call 152;refine (HRG.out _).mono ?_;rintro e w' ⟨rfl,rfl⟩)
       go_round
       case rel => exact ⟨k + 1,by omega,by go_num,by have:=H2.out;simp at this;show _ = _;omega⟩
       case measure => simp [intOf];omega
   · have H1:=Lh (show k = T by have:=H.out;rw [List.drop_eq_nil_of_le (by simp;omega)] at this;simpa [regN] using this)
     clear H
     go_wp2
     go_ret
     exact ⟨ret_int (by rw [H1.out]),rfl⟩
def crlf (l : L) : Bool:=l.take 2 == [13,10]
theorem rbegins (s : ByteArray) (k : Nat) (hk : k < s.size) (hs : s.size ≤ 140737488355328) (w : World) :
   Calls Tryz.prog 32 #[.string s,.string ⟨#[13,10]⟩,.int .i64 k] w fun e w' => e = .returned (.bool (crlf (s.data.toList.drop k))) ∧ w' = w:=by
 by_cases h2 : k + 2 ≤ s.size
 · have e1 : decide ((k : Int) ≤ s.size) = true:=by simp;omega
   have e2 : decide ((2 : Int) ≤ s.size - k) = true:=by simp;omega
   have e3 : (s.extract k (k + 2)).data.toList = (s.data.toList.drop k).take 2:=by
     rw [Lib.extract_data];simp
   have HX:=Lh e3
   clear e3
   go_enter Tryz.func32,Tryz.ntmps32
   go_wp2
   all_goals go_ret
   all_goals (refine ⟨ret_bool ?_,rfl⟩)
   all_goals (unfold crlf;rw [← HX.out];first | rfl | (simp [Lib.toList_data];done))
 · have e1 : decide ((k : Int) ≤ s.size) = true:=by simp;omega
   have e2 : decide ((2 : Int) ≤ s.size - k) = false:=by simp;omega
   have HX:=Lh (show crlf (s.data.toList.drop k) = false by
     unfold crlf
     have h1 : (s.data.toList.drop k).length ≤ 1:=by simp;have : s.data.size = s.size:=rfl;omega
     rw [List.take_of_length_le (by omega)]
     cases h : s.data.toList.drop k with
     | nil => rfl
     | cons c l => rw [h] at h1; have : l = [] := by simpa using h1
                   subst this;simp)
   go_enter Tryz.func32,Tryz.ntmps32
   go_wp2
   all_goals go_ret
   all_goals exact ⟨ret_bool HX.out.symm,rfl⟩
theorem crlf_nil : crlf [] = false:=rfl
theorem crlf_cons (c : UInt8) (l : L) : crlf (c :: l) = (c == 13 && l.head? == some 10):=by
 cases l with
 | nil => simp [crlf]
 | cons d l => simp [crlf]
theorem lineN_yes (l : L) (h : crlf l = true) : lineN l = 2:=by
 cases l with
 | nil => simp [crlf_nil] at h
 | cons c l =>
   rw [crlf_cons] at h
   simp only [Bool.and_eq_true,beq_iff_eq] at h
   obtain ⟨rfl,h⟩:=h
   rw [lineN_cons,if_neg (by decide),if_pos rfl,if_pos h]
theorem lineN_no (c : UInt8) (l : L) (h : crlf (c :: l) = false) : lineN (c :: l) = if c.toNat = 13 ∨ c.toNat = 10 then 1 else lineN l + 1:=by
 rw [crlf_cons] at h
 rw [lineN_cons]
 by_cases h1 : c = 10
 · subst h1;rfl
 · have h1' : c.toNat ≠ 10:=fun h => h1 (UInt8.toNat.inj (by simpa using h))
   rw [if_neg h1]
   by_cases h2 : c = 13
   · subst h2
     have : ¬ l.head? = some 10:=by simpa using h
     rw [if_pos rfl,if_neg this,if_pos (.inl rfl)]
   · have h2' : c.toNat ≠ 13:=fun h => h2 (UInt8.toNat.inj (by simpa using h))
     rw [if_neg h2,if_neg (by omega)]
theorem skip_line : ∀ (l : L),skipN true l = lineN l + skipN false (l.drop (lineN l))
 | [] => rfl
 | c :: l => by
   rw [skipN,lineN_cons]
   by_cases h1 : c = 10
   · subst h1;simp [eol];omega
   · rw [if_neg h1]
     by_cases h2 : c = 13
     · subst h2
       rw [if_pos rfl]
       cases l with
       | nil => simp [eol,skipN]
       | cons d l =>
         by_cases hd : d = 10
         · subst hd;simp [eol,skipN,white];omega
         · simp [eol,hd];omega
     · rw [if_neg h2]
       have : eol c = false:=by simp [eol,h1,h2]
       rw [this,List.drop_succ_cons];simp only [Bool.not_false];rw [skip_line l];omega
theorem skip_hash (l : L) : skipN false (37 :: l) = lineN (37 :: l) + skipN false ((37 :: l).drop (lineN (37 :: l))):=by
 have h : lineN (37 :: l) = lineN l + 1:=by rw [lineN_cons];simp
 rw [h]
 simp only [skipN,beq_self_eq_true,if_true,List.drop_succ_cons]
 have:=skip_line l
 omega
theorem rline (s : ByteArray) (a : Nat) (ha : a ≤ s.size) (hs : s.size ≤ 140737488355327) (w : World) :
   Calls Tryz.prog 100 #[.string s,.int .i64 a] w fun e w' => e = .returned (.int .i64 (a + lineN (s.data.toList.drop a) : Nat)) ∧ w' = w:=by
 obtain ⟨T,hT⟩ : ∃ T,a + lineN (s.data.toList.drop a) = T:=⟨_,rfl⟩
 rw [hT]
 have HT:=Lh hT;clear hT
 have hz0 : decide ((a : Int) < 0) = false:=by simp
 have hz1 : decide (s.size < a) = false:=by simp;omega
 go_enter Tryz.func100,Tryz.ntmps100
 go_wp2
 go_loop [5] (fun p => ∃ (k : Nat),k ≤ s.size ∧ p = .int .i64 k ∧ Hid (k + lineN (s.data.toList.drop k) = T)) (fun p => s.size - (intOf p).toNat)
 case atStart => exact ⟨a,ha,rfl,HT⟩
 case round =>
   obtain ⟨k,hk,rfl,H⟩:=hrel
   clear HT
   by_cases hlt : k < s.size
   · have HB:=Lh (fun W => rbegins s k hlt (by omega) W)
     cases hb : crlf (s.data.toList.drop k)
     · rw [hb] at HB
       have H1:=H.out
       rw [drop_get s k hlt,lineN_no _ _ (by rw [← drop_get s k hlt];exact hb)] at H1
       clear H hb
       by_cases h13 : s[k] = 13
       · have h1 : ((s[k].toNat : Int) == 13) = true:=eq_yes (n:=13) (by decide) h13
         have H2:=Lh (show k + 1 = T by rw [if_pos (.inl (by rw [h13];rfl))] at H1;exact H1)
         clear h13 H1
         go_wp2_with fail
         refine (HB.out _).mono ?_
         rintro e w1 ⟨rfl,rfl⟩
         go_wp2
         go_ret
         exact ⟨ret_int (by have:=H2.out;omega),rfl⟩
       · have h1 : ((s[k].toNat : Int) == 13) = false:=eq_no (n:=13) (by decide) h13
         have g1 : s[k].toNat ≠ 13:=fun h => h13 (UInt8.toNat.inj (by simpa using h))
         by_cases h10 : s[k] = 10
         · have h2 : ((s[k].toNat : Int) == 10) = true:=eq_yes (n:=10) (by decide) h10
           have H2:=Lh (show k + 1 = T by rw [if_pos (.inr (by rw [h10];rfl))] at H1;exact H1)
           clear h13 h10 H1 g1
           go_wp2_with fail
           refine (HB.out _).mono ?_
           rintro e w1 ⟨rfl,rfl⟩
           go_wp2
           go_ret
           exact ⟨ret_int (by have:=H2.out;omega),rfl⟩
         · have h2 : ((s[k].toNat : Int) == 10) = false:=eq_no (n:=10) (by decide) h10
           have g2 : s[k].toNat ≠ 10:=fun h => h10 (UInt8.toNat.inj (by simpa using h))
           have H2:=Lh (show k + (lineN (s.data.toList.drop (k + 1)) + 1) = T by rw [if_neg (by omega)] at H1;exact H1)
           clear h13 h10 H1 g1 g2
           go_wp2_with fail
           refine (HB.out _).mono ?_
           rintro e w1 ⟨rfl,rfl⟩
           go_wp2
           go_round
           case rel => exact ⟨k + 1,by omega,by go_num,by have:=H2.out;show _ = _;omega⟩
           case measure => simp [intOf];omega
     · rw [hb] at HB
       have H2:=Lh (show k + 2 = T by have:=H.out;rw [lineN_yes _ hb] at this;exact this)
       clear H hb
       go_wp2_with fail
       refine (HB.out _).mono ?_
       rintro e w1 ⟨rfl,rfl⟩
       go_wp2
       go_ret
       exact ⟨ret_int (by have:=H2.out;omega),rfl⟩
   · have hk2 : k = s.size:=by omega
     subst hk2
     have H1:=Lh (show s.size = T by have:=H.out;rw [List.drop_eq_nil_of_le (by simp)] at this;simpa [lineN] using this)
     clear H
     go_wp2
     go_ret
     exact ⟨ret_int (by rw [H1.out]),rfl⟩
theorem rlineN_pos {l : L} (h : l ≠ []) : 1 ≤ lineN l:=by
 cases l with
 | nil => exact absurd rfl h
 | cons c l => rw [lineN_cons];split <;> first | omega | (split <;> first | omega | (split <;> omega))
theorem rskip (s : ByteArray) (a : Nat) (ha : a ≤ s.size) (hs : s.size ≤ 140737488355327) (w : World) :
   Calls Tryz.prog 69 #[.string s,.int .i64 a] w fun e w' => e = .returned (.int .i64 (a + skipN false (s.data.toList.drop a) : Nat)) ∧ w' = w:=by
 obtain ⟨T,hT⟩ : ∃ T,a + skipN false (s.data.toList.drop a) = T:=⟨_,rfl⟩
 rw [hT]
 have HT:=Lh hT;clear hT
 have hz0 : decide ((a : Int) < 0) = false:=by simp
 have hz1 : decide (s.size < a) = false:=by simp;omega
 go_enter Tryz.func69,Tryz.ntmps69
 go_wp2
 go_loop [1] (fun p => ∃ (k : Nat),k ≤ s.size ∧ p = .int .i64 k ∧ Hid (k + skipN false (s.data.toList.drop k) = T)) (fun p => s.size - (intOf p).toNat)
 case atStart => exact ⟨a,ha,rfl,HT⟩
 case round =>
   obtain ⟨k,hk,rfl,H⟩:=hrel
   clear HT
   by_cases hlt : k < s.size
   · by_cases h37 : s[k] = 37
     · have h1 : ((s[k].toNat : Int) == 37) = true:=eq_yes (n:=37) (by decide) h37
       obtain ⟨d,hd⟩ : ∃ d,lineN (s.data.toList.drop k) = d:=⟨_,rfl⟩
       have hd1 : 1 ≤ d:=by rw [← hd];exact rlineN_pos (by rw [drop_get s k hlt];simp)
       have hd2 : k + d ≤ s.size:=by have:=lineN_le (s.data.toList.drop k);rw [hd,List.length_drop] at this;have : s.data.toList.length = s.size:=rfl;omega
       have H2:=Lh (show k + d + skipN false (s.data.toList.drop (k + d)) = T by
         have h5:=H.out
         rw [drop_get s k hlt,h37,skip_hash] at h5
         rw [drop_get s k hlt,h37] at hd
         rw [hd,← h37,← drop_get s k hlt,List.drop_drop] at h5
         omega)
       have HL:=Lh (fun W => rline s k hk hs W)
       rw [hd] at HL
       clear H h37 hd
       go_wp2_with fail
       refine (HL.out _).mono ?_
       rintro e w1 ⟨rfl,rfl⟩
       go_wp2
       go_round
       case rel => exact ⟨k + d,hd2,by go_num,H2.out⟩
       case measure => simp [intOf];omega
     · have h1 : ((s[k].toNat : Int) == 37) = false:=eq_no (n:=37) (by decide) h37
       have HW:=Lh (fun W => rwhite s[k] W)
       have H1:=H.out
       rw [drop_get s k hlt,skipN,if_neg (by simpa using h37)] at H1
       have H2:=Lh H1
       clear H1 H h37
       cases hw : white s[k]
       · rw [hw] at HW H2
         clear hw
         go_wp2_with fail
         refine (HW.out _).mono ?_
         rintro e w1 ⟨rfl,rfl⟩
         go_wp2
         go_ret
         exact ⟨ret_int (by have:=H2.out;simp at this;omega),rfl⟩
       · rw [hw] at HW H2
         clear hw
         go_wp2_with fail
         refine (HW.out _).mono ?_
         rintro e w1 ⟨rfl,rfl⟩
         go_wp2
         go_round
         case rel => exact ⟨k + 1,by omega,by go_num,by have:=H2.out;simp at this;show _ = _;omega⟩
         case measure => simp [intOf];omega
   · have hk2 : k = s.size:=by omega
     subst hk2
     have H1:=Lh (show s.size = T by have:=H.out;rw [List.drop_eq_nil_of_le (by simp)] at this;simpa [skipN] using this)
     clear H
     go_wp2
     go_ret
     exact ⟨ret_int (by rw [H1.out]),rfl⟩
theorem dig_nat (c : UInt8) : isDig c = decide (48 ≤ c.toNat ∧ c.toNat ≤ 57):=by
 simpa using u8_all (fun c => isDig c == decide (48 ≤ c.toNat ∧ c.toNat ≤ 57)) (by decide +kernel) c
theorem sign_nat (c : UInt8) : sign c = decide (c.toNat = 43 ∨ c.toNat = 45):=by
 simpa using u8_all (fun c => sign c == decide (c.toNat = 43 ∨ c.toNat = 45)) (by decide +kernel) c
theorem rpoint (s : ByteArray) (hs : s.size ≤ 140737488355327) (w : World) :
   Calls Tryz.prog 162 #[.string s] w fun e w' => e = .returned (.bool (s.data.toList.contains 46)) ∧ w' = w:=by
 obtain ⟨T,hT⟩ : ∃ T,s.data.toList.contains 46 = T:=⟨_,rfl⟩
 rw [hT]
 have HT:=Lh hT;clear hT
 go_enter Tryz.func162,Tryz.ntmps162
 go_wp2
 go_loop [3] (fun p => ∃ (k : Nat),k ≤ s.size ∧ p = .int .i64 k ∧ Hid ((s.data.toList.drop k).contains 46 = T)) (fun p => s.size - (intOf p).toNat)
 case atStart => exact ⟨0,Nat.zero_le _,rfl,HT⟩
 case round =>
   obtain ⟨k,hk,rfl,H⟩:=hrel
   clear HT
   by_cases hlt : k < s.size
   · have H1:=H.out
     rw [drop_get s k hlt,List.contains_cons] at H1
     by_cases h46 : s[k] = 46
     · have h1 : ((s[k].toNat : Int) == 46) = true:=eq_yes (n:=46) (by decide) h46
       have H2:=Lh (show true = T by rw [h46] at H1;simpa using H1)
       clear h46 H1 H
       go_wp2
       go_ret
       exact ⟨ret_bool H2.out,rfl⟩
     · have h1 : ((s[k].toNat : Int) == 46) = false:=eq_no (n:=46) (by decide) h46
       have H2:=Lh (show (s.data.toList.drop (k + 1)).contains 46 = T by
         have : ((46 : UInt8) == s[k]) = false:=by simpa using fun h => h46 h.symm
         rw [this] at H1;simpa using H1)
       clear h46 H1 H
       go_wp2
       go_round
       case rel => exact ⟨k + 1,by omega,by go_num,H2⟩
       case measure => simp [intOf];omega
   · have hk2 : k = s.size:=by omega
     subst hk2
     have H1:=Lh (show false = T by have:=H.out;rw [List.drop_eq_nil_of_le (by simp)] at this;simpa using this)
     clear H
     go_wp2
     go_ret
     exact ⟨ret_bool H1.out,rfl⟩
theorem rinteger (s : ByteArray) (hs : s.size ≤ 140737488355327) (w : World) :
   Calls Tryz.prog 160 #[.string s] w fun e w' => e = .returned (.bool (isInt s.data.toList)) ∧ w' = w:=by
 obtain ⟨T,hT⟩ : ∃ T,isInt s.data.toList = T:=⟨_,rfl⟩
 rw [hT]
 by_cases h0 : s.size = 0
 · obtain rfl : s = ⟨#[]⟩:=ByteArray.ext (Array.eq_empty_of_size_eq_zero h0)
   have HT:=Lh (show false = T from hT)
   clear hT hs h0
   go_enter Tryz.func160,Tryz.ntmps160
   go_wp2
   go_loop [3] (fun p => p = .int .i64 0) (fun _ => 0)
   case atStart => rfl
   case round =>
     subst hrel
     go_wp2
     go_ret
     exact ⟨ret_bool HT.out,rfl⟩
 · have hp : 0 < s.size:=by omega
   have hne : s.toList.isEmpty = false:=by
     rw [Lib.toList_data,List.isEmpty_eq_false_iff]
     intro h;have : s.data.toList.length = s.size:=rfl;rw [h] at this;simp at this;omega
   have hu:=hT
   unfold isInt at hu
   have hd:=drop_get s 0 hp
   rw [List.drop_zero] at hd
   rw [hd,unsigned] at hu
   by_cases h43 : s[0].toNat = 43 ∨ s[0].toNat = 45
   · obtain ⟨t,ht⟩ : ∃ t,s.extract 1 s.size = t:=⟨_,rfl⟩
     have htl : t.data.toList = s.data.toList.drop 1:=by rw [← ht];exact Lib.extract_to_end _ _
     have hts : t.size ≤ 140737488355327:=by
       have : t.data.toList.length = t.size:=rfl
       have h2 : s.data.toList.length = s.size:=rfl
       rw [htl,List.length_drop] at this;omega
     obtain ⟨D,hD⟩ : ∃ D,t.data.toList.all isDig = D:=⟨_,rfl⟩
     have HT:=Lh (show (!t.data.toList.isEmpty && D) = T by rw [← hD,htl];rw [if_pos (by rw [sign_nat];simpa using h43)] at hu;exact hu)
     have HD:=Lh hD
     have HX:=Lh ht
     clear hu hd hD htl hT ht
     rcases h43 with h43 | h43
     · have e1 : ((s[0].toNat : Int) == 43) = true:=by simp;omega
       clear h43
       go_enter Tryz.func160,Tryz.ntmps160
       go_wp2
       rw [HX.out]
       go_loop [3] (fun p => ∃ (k : Nat),k ≤ t.size ∧ p = .int .i64 k ∧ Hid ((t.data.toList.drop k).all isDig = D)) (fun p => t.size - (intOf p).toNat)
       case atStart => exact ⟨0,Nat.zero_le _,rfl,HD⟩
       case round =>
         obtain ⟨k,hk,rfl,H⟩:=hrel
         clear HD
         by_cases hlt : k < t.size
         · have H1:=H.out
           rw [drop_get t k hlt,List.all_cons,dig_nat] at H1
           by_cases h48 : t[k].toNat < 48
           · have H2 := Lib.hid (show false = T by
               have : D = false:=by rw [← H1];simp;omega
               rw [← HT.out,this];simp)
             have h5 : (t[k].toNat : Int) < 48:=by omega
             clear H1 H
             go_wp2
             go_ret
             exact ⟨ret_bool H2.out,rfl⟩
           · by_cases h57 : 57 < t[k].toNat
             · have H2 := Lib.hid (show false = T by
                 have : D = false:=by rw [← H1];simp;omega
                 rw [← HT.out,this];simp)
               have h5 : ¬ (t[k].toNat : Int) < 48:=by omega
               have h6 : (57 : Int) < t[k].toNat:=by omega
               clear H1 H
               go_wp2
               go_ret
               exact ⟨ret_bool H2.out,rfl⟩
             · have H2 := Lib.hid (show (t.data.toList.drop (k + 1)).all isDig = D by
                 have : decide (48 ≤ t[k].toNat ∧ t[k].toNat ≤ 57) = true:=by simp;omega
                 rw [this] at H1;simpa using H1)
               have h5 : ¬ (t[k].toNat : Int) < 48:=by omega
               have h6 : ¬ (57 : Int) < t[k].toNat:=by omega
               clear H1 H
               go_wp2
               go_round
               case rel => exact ⟨k + 1,by omega,by go_num,H2⟩
               case measure => simp [intOf];omega
         · have hk2 : k = t.size:=by omega
           subst hk2
           have H1:=Lh (show D = true by have:=H.out;rw [List.drop_eq_nil_of_le (by simp)] at this;simpa using this.symm)
           clear H
           go_wp2
           go_ret
           exact ⟨ret_bool (by first | (rw [← HT.out,H1.out,Lib.toList_data];simp;done) | (rw [← HT.out,H1.out,← Lib.toList_data,hne];rfl)),rfl⟩
     · have e1 : ((s[0].toNat : Int) == 43) = false:=by simp;omega
       have e2 : ((s[0].toNat : Int) == 45) = true:=by simp;omega
       clear h43
       go_enter Tryz.func160,Tryz.ntmps160
       go_wp2
       rw [HX.out]
       go_loop [3] (fun p => ∃ (k : Nat),k ≤ t.size ∧ p = .int .i64 k ∧ Hid ((t.data.toList.drop k).all isDig = D)) (fun p => t.size - (intOf p).toNat)
       case atStart => exact ⟨0,Nat.zero_le _,rfl,HD⟩
       case round =>
         obtain ⟨k,hk,rfl,H⟩:=hrel
         clear HD
         by_cases hlt : k < t.size
         · have H1:=H.out
           rw [drop_get t k hlt,List.all_cons,dig_nat] at H1
           by_cases h48 : t[k].toNat < 48
           · have H2 := Lib.hid (show false = T by
               have : D = false:=by rw [← H1];simp;omega
               rw [← HT.out,this];simp)
             have h5 : (t[k].toNat : Int) < 48:=by omega
             clear H1 H
             go_wp2
             go_ret
             exact ⟨ret_bool H2.out,rfl⟩
           · by_cases h57 : 57 < t[k].toNat
             · have H2 := Lib.hid (show false = T by
                 have : D = false:=by rw [← H1];simp;omega
                 rw [← HT.out,this];simp)
               have h5 : ¬ (t[k].toNat : Int) < 48:=by omega
               have h6 : (57 : Int) < t[k].toNat:=by omega
               clear H1 H
               go_wp2
               go_ret
               exact ⟨ret_bool H2.out,rfl⟩
             · have H2 := Lib.hid (show (t.data.toList.drop (k + 1)).all isDig = D by
                 have : decide (48 ≤ t[k].toNat ∧ t[k].toNat ≤ 57) = true:=by simp;omega
                 rw [this] at H1;simpa using H1)
               have h5 : ¬ (t[k].toNat : Int) < 48:=by omega
               have h6 : ¬ (57 : Int) < t[k].toNat:=by omega
               clear H1 H
               go_wp2
               go_round
               case rel => exact ⟨k + 1,by omega,by go_num,H2⟩
               case measure => simp [intOf];omega
         · have hk2 : k = t.size:=by omega
           subst hk2
           have H1:=Lh (show D = true by have:=H.out;rw [List.drop_eq_nil_of_le (by simp)] at this;simpa using this.symm)
           clear H
           go_wp2
           go_ret
           exact ⟨ret_bool (by first | (rw [← HT.out,H1.out,Lib.toList_data];simp;done) | (rw [← HT.out,H1.out,← Lib.toList_data,hne];rfl)),rfl⟩
   · obtain ⟨t,rfl⟩ : ∃ t,t = s:=⟨_,rfl⟩
     obtain ⟨D,hD⟩ : ∃ D,t.data.toList.all isDig = D:=⟨_,rfl⟩
     have HT:=Lh (show (!t.data.toList.isEmpty && D) = T by rw [← hD];rw [if_neg (by rw [sign_nat];simpa using h43)] at hu;rw [← hd] at hu;exact hu)
     have HD:=Lh hD
     have e1 : ((t[0].toNat : Int) == 43) = false:=by simp;omega
     have e2 : ((t[0].toNat : Int) == 45) = false:=by simp;omega
     clear hu hd hD hT h43
     go_enter Tryz.func160,Tryz.ntmps160
     go_wp2
     go_loop [3] (fun p => ∃ (k : Nat),k ≤ t.size ∧ p = .int .i64 k ∧ Hid ((t.data.toList.drop k).all isDig = D)) (fun p => t.size - (intOf p).toNat)
     case atStart => exact ⟨0,Nat.zero_le _,rfl,HD⟩
     case round =>
       obtain ⟨k,hk,rfl,H⟩:=hrel
       clear HD
       by_cases hlt : k < t.size
       · have H1:=H.out
         rw [drop_get t k hlt,List.all_cons,dig_nat] at H1
         by_cases h48 : t[k].toNat < 48
         · have H2 := Lib.hid (show false = T by
             have : D = false:=by rw [← H1];simp;omega
             rw [← HT.out,this];simp)
           have h5 : (t[k].toNat : Int) < 48:=by omega
           clear H1 H
           go_wp2
           go_ret
           exact ⟨ret_bool H2.out,rfl⟩
         · by_cases h57 : 57 < t[k].toNat
           · have H2 := Lib.hid (show false = T by
               have : D = false:=by rw [← H1];simp;omega
               rw [← HT.out,this];simp)
             have h5 : ¬ (t[k].toNat : Int) < 48:=by omega
             have h6 : (57 : Int) < t[k].toNat:=by omega
             clear H1 H
             go_wp2
             go_ret
             exact ⟨ret_bool H2.out,rfl⟩
           · have H2 := Lib.hid (show (t.data.toList.drop (k + 1)).all isDig = D by
               have : decide (48 ≤ t[k].toNat ∧ t[k].toNat ≤ 57) = true:=by simp;omega
               rw [this] at H1;simpa using H1)
             have h5 : ¬ (t[k].toNat : Int) < 48:=by omega
             have h6 : ¬ (57 : Int) < t[k].toNat:=by omega
             clear H1 H
             go_wp2
             go_round
             case rel => exact ⟨k + 1,by omega,by go_num,H2⟩
             case measure => simp [intOf];omega
       · have hk2 : k = t.size:=by omega
         subst hk2
         have H1:=Lh (show D = true by have:=H.out;rw [List.drop_eq_nil_of_le (by simp)] at this;simpa using this.symm)
         clear H
         go_wp2
         go_ret
         exact ⟨ret_bool (by first | (rw [← HT.out,H1.out,Lib.toList_data];simp;done) | (rw [← HT.out,H1.out,← Lib.toList_data,hne];rfl)),rfl⟩
def accV (v : Nat) (l : L) : Nat:=l.foldl (fun v c => if sign c then v else 10 * v + (c.toNat - 48)) v
theorem accV_ge (l : L) (v : Nat) : v ≤ accV v l:=by
 induction l generalizing v with
 | nil => exact Nat.le_refl _
 | cons c l ih =>
   unfold accV at ih ⊢
   rw [List.foldl_cons]
   refine Nat.le_trans ?_ (ih _)
   split <;> omega
theorem accV_cons (v : Nat) (c : UInt8) (l : L) : accV v (c :: l) = accV (if sign c then v else 10 * v + (c.toNat - 48)) l:=rfl
theorem dig_no_sign {c : UInt8} (h : isDig c = true) : sign c = false:=by
 rw [dig_nat] at h;rw [sign_nat];simp at h ⊢;omega
theorem accV_dig (l : L) (v : Nat) (h : l.all isDig = true) : accV v l = l.foldl (fun v c => 10 * v + (c.toNat - 48)) v:=by
 induction l generalizing v with
 | nil => rfl
 | cons c l ih =>
   rw [List.all_cons,Bool.and_eq_true] at h
   rw [accV_cons,dig_no_sign h.1,List.foldl_cons]
   exact ih _ h.2
theorem int_cons {c : UInt8} {l : L} (h : isInt (c :: l) = true) : (sign c || isDig c) = true ∧ l.all isDig = true ∧ accV 0 (c :: l) = val (unsigned (c :: l)):=by
 unfold isInt at h
 rw [unsigned] at h ⊢
 rw [Bool.and_eq_true] at h
 obtain ⟨_,h⟩:=h
 cases hs : sign c
 · rw [hs] at h
   simp only [Bool.false_eq_true,if_false] at h ⊢
   refine ⟨?_,?_,accV_dig _ 0 h⟩
   · unfold allDig at h;rw [List.all_cons,Bool.and_eq_true] at h;simp [h.1]
   · unfold allDig at h;rw [List.all_cons,Bool.and_eq_true] at h;exact h.2
 · rw [hs] at h
   simp only [if_true] at h ⊢
   refine ⟨by simp,h,?_⟩
   rw [accV_cons,hs]
   exact accV_dig _ 0 h
theorem int_all {l : L} (h : isInt l = true) : (l.all fun c => sign c || isDig c) = true ∧ accV 0 l = val (unsigned l) ∧ l ≠ []:=by
 cases l with
 | nil => cases h
 | cons c l =>
   obtain ⟨h1,h2,h3⟩:=int_cons h
   refine ⟨?_,h3,by simp⟩
   rw [List.all_cons,h1]
   simp only [Bool.true_and]
   rw [List.all_eq_true] at h2 ⊢
   intro x hx
   simp [h2 x hx]
def WholeOut : Res Int → Ending
 | .bad e => .returned (.tuple #[.int .i64 0,.int .i64 e])
 | .good n => .returned (.tuple #[.int .i64 n,.int .i64 0])
theorem rwhole (s : ByteArray) (hs : s.size ≤ 140737488355327) (hi : isInt s.data.toList = true) (w : World) :
   Calls Tryz.prog 161 #[.string s] w fun e w' => e = WholeOut (wholeV s.data.toList) ∧ w' = w:=by
 obtain ⟨ha,hv,hn⟩:=int_all hi
 obtain ⟨T,hT⟩ : ∃ T,wholeV s.data.toList = T:=⟨_,rfl⟩
 rw [hT]
 unfold wholeV at hT
 obtain ⟨V,hV⟩ : ∃ V,val (unsigned s.data.toList) = V:=⟨_,rfl⟩
 rw [hV] at hT hv
 have hp : 0 < s.size:=by
   rcases Nat.eq_zero_or_pos s.size with h | h
   · exact absurd (List.eq_nil_of_length_eq_zero h) hn
   · exact h
 have hmn : minus s.data.toList = (s[0] == 45):=by
   have hd:=drop_get s 0 hp
   rw [List.drop_zero] at hd
   rw [hd];rfl
 rw [hmn] at hT
 have HT:=Lh hT
 have HV:=Lh hv
 have HA:=Lh ha
 clear hmn hT hv ha hV hn hi
 go_enter Tryz.func161,Tryz.ntmps161
 go_wp2
 go_loop [4,5] (fun n i => ∃ (k v : Nat),k ≤ s.size ∧ v ≤ 2147483647 ∧ i = .int .i64 k ∧ n = .int .i64 v ∧ Hid (accV v (s.data.toList.drop k) = V)) (fun _ i => s.size - (intOf i).toNat)
 case atStart => exact ⟨0,0,Nat.zero_le _,by omega,rfl,rfl,HV⟩
 case round =>
   obtain ⟨k,v,hk,hv,rfl,rfl,H⟩:=hrel
   clear HV
   by_cases hlt : k < s.size
   · have H1:=H.out
     rw [drop_get s k hlt,accV_cons] at H1
     have hc : (sign s[k] || isDig s[k]) = true:=by
       have:=HA.out
       rw [List.all_eq_true] at this
       exact this s[k] (List.mem_of_mem_drop (i:=k) (by rw [drop_get s k hlt];simp))
     by_cases h43 : s[k].toNat = 43
     · have e1 : ((s[k].toNat : Int) == 43) = true:=by simp;omega
       have H2:=Lh (show accV v (s.data.toList.drop (k + 1)) = V by rw [sign_nat] at H1;simpa [h43] using H1)
       clear H1 H hc h43
       go_wp2
       go_round
       case rel => exact ⟨k + 1,v,by omega,hv,by go_num,rfl,H2⟩
       case measure => simp [intOf];omega
     by_cases h45 : s[k].toNat = 45
     · have e1 : ((s[k].toNat : Int) == 43) = false:=by simp;omega
       have e2 : ((s[k].toNat : Int) == 45) = true:=by simp;omega
       have H2:=Lh (show accV v (s.data.toList.drop (k + 1)) = V by rw [sign_nat] at H1;simpa [h45] using H1)
       clear H1 H hc h43 h45
       go_wp2
       go_round
       case rel => exact ⟨k + 1,v,by omega,hv,by go_num,rfl,H2⟩
       case measure => simp [intOf];omega
     · have e1 : ((s[k].toNat : Int) == 43) = false:=by simp;omega
       have e2 : ((s[k].toNat : Int) == 45) = false:=by simp;omega
       have hsg : sign s[k] = false:=by rw [sign_nat];simp;omega
       rw [hsg,dig_nat] at hc
       simp only [Bool.false_or,decide_eq_true_eq] at hc
       obtain ⟨hc1,hc2⟩:=hc
       rw [hsg] at H1
       simp only [Bool.false_eq_true,if_false] at H1
       obtain ⟨c,hcc⟩ : ∃ c,s[k].toNat = c:=⟨_,rfl⟩
       rw [hcc] at H1 hc1 hc2
       have hci : ((s[k].toNat : Nat) : Int) = c:=by rw [hcc]
       have e3 : ((c : Int) == 43) = false:=by simp;omega
       have e4 : ((c : Int) == 45) = false:=by simp;omega
       clear e1 e2
       by_cases hbig : 2147483647 < 10 * v + (c - 48)
       · have H2:=Lh (show T = .bad 2 by have:=accV_ge (s.data.toList.drop (k + 1)) (10 * v + (c - 48));rw [← HT.out,if_pos (by omega)])
         have hb2 : (2147483647 : Int) < 10 * v + c - 48:=by omega
         clear H1 H h43 h45 hsg hcc
         go_wp2
         refine bodyPost_ret (v:=.tuple #[.int .i64 0,.int .i64 2]) (by simp [results,Tryz.results161,go_sem]) rfl ⟨by rw [H2.out];rfl,rfl⟩
       · have H2:=Lh H1
         have hb2 : ¬ (2147483647 : Int) < 10 * v + c - 48:=by omega
         clear H1 H h43 h45 hsg hcc
         go_wp2
         go_round
         case rel => exact ⟨k + 1,10 * v + (c - 48),by omega,by omega,by go_num,(by congr 1;omega),H2⟩
         case measure => simp [intOf];omega
   · have hk2 : k = s.size:=by omega
     subst hk2
     have H1:=Lh (show v = V by have:=H.out;rw [List.drop_eq_nil_of_le (by simp)] at this;exact this)
     clear H
     by_cases h45 : s[0].toNat = 45
     · have e2 : ((s[0].toNat : Int) == 45) = true:=by simp;omega
       have H2:=Lh (show T = .good (-(v : Int)) by rw [← HT.out,← H1.out,if_neg (by omega),if_pos (by simpa using UInt8.toNat.inj (by simpa using h45))])
       clear h45
       go_wp2
       refine bodyPost_ret (v:=.tuple #[.int .i64 (-(v : Int)),.int .i64 0]) (by simp [results,Tryz.results161,go_sem]) rfl ⟨by rw [H2.out];rfl,rfl⟩
     · have e2 : ((s[0].toNat : Int) == 45) = false:=by simp;omega
       have H2:=Lh (show T = .good (v : Int) by rw [← HT.out,← H1.out,if_neg (by omega),if_neg (by simp;intro h;exact h45 (by rw [h];rfl))])
       clear h45
       go_wp2
       refine bodyPost_ret (v:=.tuple #[.int .i64 v,.int .i64 0]) (by simp [results,Tryz.results161,go_sem]) rfl ⟨by rw [H2.out];rfl,rfl⟩
def formS : L → L → Bool → L → Option (L × L)
 | w,p,_,[] => some (w,p)
 | w,p,b,c :: l => if c = 46 ∧ b = false then formS w p true l else if isDig c = false then none else if b then formS w (p ++ [c]) b l else formS (w ++ [c]) p b l
theorem formS_dot (l : L) : ∀ (w p : L),formS w p true l = if allDig l then some (w,p ++ l) else none:=by
 induction l with
 | nil => intro w p;simp [formS,allDig]
 | cons c l ih =>
   intro w p
   rw [formS,if_neg (by simp)]
   cases hd : isDig c
   · simp [allDig,hd]
   · rw [if_neg (by simp),if_pos rfl,ih]
     simp [allDig,hd]
theorem formS_pre (l : L) : ∀ (w p : L),formS w p false l = if allDig (preDot l) && allDig (postDot l) then some (w ++ preDot l,p ++ postDot l) else none:=by
 induction l with
 | nil => intro w p;simp [formS,allDig,preDot,postDot]
 | cons c l ih =>
   intro w p
   rw [formS]
   by_cases h : c = 46
   · subst h
     rw [if_pos ⟨rfl,rfl⟩,formS_dot]
     simp [preDot,postDot,allDig]
   · rw [if_neg (by simp [h])]
     have h1 : preDot (c :: l) = c :: preDot l:=by simp [preDot,h]
     have h2 : postDot (c :: l) = postDot l:=by simp [postDot,h]
     rw [h1,h2]
     cases hd : isDig c
     · simp [allDig,hd]
     · rw [if_neg (by simp),if_neg (by simp),ih]
       simp [allDig,hd]
def FormOut (mn : Bool) : Option (L × L) → Ending
 | none => .returned (.tuple #[.string ⟨#[]⟩,.string ⟨#[]⟩,.bool false,.bool false])
 | some (w,p) => .returned (.tuple #[.string ⟨w.toArray⟩,.string ⟨p.toArray⟩,.bool mn,.bool (decide (0 < w.length + p.length))])
theorem cat_one (P : L) (t : ByteArray) (k : Nat) (h : k < t.size) : (ByteArray.mk P.toArray) ++ t.extract k (k + 1) = ByteArray.mk (P ++ [t[k]]).toArray:=by
 apply ByteArray.ext
 simp only [ByteArray.data_append,ByteArray.data_extract]
 apply Array.ext'
 simp only [Array.toList_append,Array.toList_extract,List.extract_eq_take_drop]
 have:=drop_get t k h
 rw [this]
 simp
theorem rform (s : ByteArray) (hs : s.size ≤ 40) (w : World) :
   Calls Tryz.prog 204 #[.string s] w fun e w' => e = FormOut (minus s.data.toList) (formS [] [] false (unsigned s.data.toList)) ∧ w' = w:=by
 obtain ⟨R,hR⟩ : ∃ R,formS [] [] false (unsigned s.data.toList) = R:=⟨_,rfl⟩
 rw [hR]
 have hz40 : decide ((40 : Int) < s.size) = false:=by simp;omega
 by_cases h0 : s.size = 0
 · obtain rfl : s = ⟨#[]⟩:=ByteArray.ext (Array.eq_empty_of_size_eq_zero h0)
   have HR:=Lh (show some ([],[]) = R from hR)
   rw [show minus (ByteArray.mk #[]).data.toList = false from rfl]
   clear hR hs h0
   go_enter Tryz.func204,Tryz.ntmps204
   go_wp2
   go_loop [7,8,9,10] (fun wh pa pt i => i = .int .i64 0 ∧ wh = .string ⟨#[]⟩ ∧ pa = .string ⟨#[]⟩ ∧ pt = .bool false) (fun _ _ _ _ => 0)
   case atStart => exact ⟨rfl,rfl,rfl,rfl⟩
   case round =>
     obtain ⟨rfl,rfl,rfl,rfl⟩:=hrel
     go_wp2
     refine bodyPost_ret (v:=.tuple #[.string ⟨#[]⟩,.string ⟨#[]⟩,.bool false,.bool false]) (by simp [results,Tryz.results204,go_sem]) rfl ⟨by rw [← HR.out];rfl,rfl⟩
 · have hp : 0 < s.size:=by omega
   have hne : s.toList.isEmpty = false:=by
     rw [Lib.toList_data,List.isEmpty_eq_false_iff]
     intro h;have : s.data.toList.length = s.size:=rfl;rw [h] at this;simp at this;omega
   have hd:=drop_get s 0 hp
   rw [List.drop_zero] at hd
   have hmn : minus s.data.toList = (s[0] == 45):=by rw [hd];rfl
   rw [hmn]
   have hu:=hR
   rw [hd,unsigned] at hu
   by_cases h43 : s[0].toNat = 43 ∨ s[0].toNat = 45
   · obtain ⟨t,ht⟩ : ∃ t,s.extract 1 s.size = t:=⟨_,rfl⟩
     have htl : t.data.toList = s.data.toList.drop 1:=by rw [← ht];exact Lib.extract_to_end _ _
     have hts : t.size ≤ 40:=by
       have : t.data.toList.length = t.size:=rfl
       have h2 : s.data.toList.length = s.size:=rfl
       rw [htl,List.length_drop] at this;omega
     have HR:=Lh (show formS [] [] false (t.data.toList.drop 0) = R by rw [if_pos (by rw [sign_nat];simpa using h43)] at hu;rw [List.drop_zero,htl];exact hu)
     have HX:=Lh ht
     rcases h43 with h43 | h43
     · have e1 : ((s[0].toNat : Int) == 43) = true:=by simp;omega
       have e2 : ((s[0].toNat : Int) == 45) = false:=by simp;omega
       have hm2 : (s[0] == 45) = false:=by simp;intro h;rw [h] at h43;cases h43
       rw [hm2]
       clear h43 hu hd htl hR ht hmn hm2
       go_enter Tryz.func204,Tryz.ntmps204
       go_wp2
       rw [HX.out]
       go_loop [7,8,9,10] (fun wh pa pt i => ∃ (k : Nat) (W P : L) (b : Bool),k ≤ t.size ∧ i = .int .i64 k ∧ wh = .string ⟨W.toArray⟩ ∧ pa = .string ⟨P.toArray⟩ ∧ pt = .bool b ∧ W.length + P.length ≤ k ∧ Hid (formS W P b (t.data.toList.drop k) = R)) (fun _ _ _ i => t.size - (intOf i).toNat)
       case atStart => exact ⟨0,[],[],false,Nat.zero_le _,rfl,rfl,rfl,rfl,Nat.le_refl _,HR⟩
       case round =>
         obtain ⟨k,W,P,b,hk,rfl,rfl,rfl,rfl,hWP,H⟩:=hrel
         clear HR
         by_cases hlt : k < t.size
         · have H1:=H.out
           rw [drop_get t k hlt,formS] at H1
           clear H
           by_cases h46 : t[k].toNat = 46
           · have e46 : ((t[k].toNat : Int) == 46) = true:=by simp;omega
             have h46' : t[k] = 46:=UInt8.toNat.inj (by simpa using h46)
             cases b
             · have H2:=Lh (show formS W P true (t.data.toList.drop (k + 1)) = R by rw [if_pos ⟨h46',rfl⟩] at H1;exact H1)
               clear H1 h46 h46'
               go_wp2
               go_round
               case rel => exact ⟨k + 1,W,P,true,by omega,by go_num,rfl,rfl,rfl,by omega,H2⟩
               case measure => simp [intOf];omega
             · have H2:=Lh (show none = R by rw [if_neg (by simp),if_pos (by rw [dig_nat];simp;omega)] at H1;exact H1)
               have h5 : (t[k].toNat : Int) < 48:=by omega
               clear H1 h46 h46'
               go_wp2
               refine bodyPost_ret (v:=.tuple #[.string ⟨#[]⟩,.string ⟨#[]⟩,.bool false,.bool false]) (by simp [results,Tryz.results204,go_sem]) rfl ⟨by rw [← H2.out];rfl,rfl⟩
           · have e46 : ((t[k].toNat : Int) == 46) = false:=by simp;omega
             have h46' : ¬ t[k] = 46:=fun h => h46 (by rw [h];rfl)
             rw [if_neg (by simp [h46'])] at H1
             by_cases h48 : t[k].toNat < 48
             · have H2:=Lh (show none = R by rw [if_pos (by rw [dig_nat];simp;omega)] at H1;exact H1)
               have h5 : (t[k].toNat : Int) < 48:=by omega
               clear H1 h46 h46'
               cases b
               · skip
                 go_wp2
                 refine bodyPost_ret (v:=.tuple #[.string ⟨#[]⟩,.string ⟨#[]⟩,.bool false,.bool false]) (by simp [results,Tryz.results204,go_sem]) rfl ⟨by rw [← H2.out];rfl,rfl⟩
               · skip
                 go_wp2
                 refine bodyPost_ret (v:=.tuple #[.string ⟨#[]⟩,.string ⟨#[]⟩,.bool false,.bool false]) (by simp [results,Tryz.results204,go_sem]) rfl ⟨by rw [← H2.out];rfl,rfl⟩
             by_cases h57 : 57 < t[k].toNat
             · have H2:=Lh (show none = R by rw [if_pos (by rw [dig_nat];simp;omega)] at H1;exact H1)
               have h5 : ¬ (t[k].toNat : Int) < 48:=by omega
               have h6 : (57 : Int) < t[k].toNat:=by omega
               clear H1 h46 h46'
               cases b
               · skip
                 go_wp2
                 refine bodyPost_ret (v:=.tuple #[.string ⟨#[]⟩,.string ⟨#[]⟩,.bool false,.bool false]) (by simp [results,Tryz.results204,go_sem]) rfl ⟨by rw [← H2.out];rfl,rfl⟩
               · skip
                 go_wp2
                 refine bodyPost_ret (v:=.tuple #[.string ⟨#[]⟩,.string ⟨#[]⟩,.bool false,.bool false]) (by simp [results,Tryz.results204,go_sem]) rfl ⟨by rw [← H2.out];rfl,rfl⟩
             have h5 : ¬ (t[k].toNat : Int) < 48:=by omega
             have h6 : ¬ (57 : Int) < t[k].toNat:=by omega
             rw [if_neg (by rw [dig_nat];simp;omega)] at H1
             have z1 : P.length + 1 ≤ 9223372036854775807:=by omega
             have z2 : W.length + 1 ≤ 9223372036854775807:=by omega
             have z3 : min (k + 1) t.size - k = 1:=by omega
             clear h46 h46' h48 h57
             cases b
             · have H2:=Lh (show formS (W ++ [t[k]]) P false (t.data.toList.drop (k + 1)) = R by rw [if_neg (by simp)] at H1;exact H1)
               clear H1
               go_wp2
               go_round
               case rel => exact ⟨k + 1,W ++ [t[k]],P,false,by omega,by go_num,by rw [cat_one W t k hlt],rfl,rfl,by simp;omega,H2⟩
               case measure => simp [intOf];omega
             · have H2:=Lh (show formS W (P ++ [t[k]]) true (t.data.toList.drop (k + 1)) = R by rw [if_pos rfl] at H1;exact H1)
               clear H1
               go_wp2
               go_round
               case rel => exact ⟨k + 1,W,P ++ [t[k]],true,by omega,by go_num,rfl,by rw [cat_one P t k hlt],rfl,by simp;omega,H2⟩
               case measure => simp [intOf];omega
         · have hk2 : k = t.size:=by omega
           subst hk2
           have H2:=Lh (show some (W,P) = R by have:=H.out;rw [List.drop_eq_nil_of_le (by simp)] at this;exact this)
           have z1 : W.length + P.length ≤ 9223372036854775807:=by omega
           clear H
           go_wp2
           refine bodyPost_ret (v:=.tuple #[.string ⟨W.toArray⟩,.string ⟨P.toArray⟩,.bool false,.bool (decide (0 < W.length + P.length))]) (by simp [results,Tryz.results204,go_sem];omega) rfl ⟨by rw [← H2.out];rfl,rfl⟩
     · have e1 : ((s[0].toNat : Int) == 43) = false:=by simp;omega
       have e2 : ((s[0].toNat : Int) == 45) = true:=by simp;omega
       have hm2 : (s[0] == 45) = true:=by simpa using UInt8.toNat.inj (by simpa using h43)
       rw [hm2]
       clear h43 hu hd htl hR ht hmn hm2
       go_enter Tryz.func204,Tryz.ntmps204
       go_wp2
       rw [HX.out]
       go_loop [7,8,9,10] (fun wh pa pt i => ∃ (k : Nat) (W P : L) (b : Bool),k ≤ t.size ∧ i = .int .i64 k ∧ wh = .string ⟨W.toArray⟩ ∧ pa = .string ⟨P.toArray⟩ ∧ pt = .bool b ∧ W.length + P.length ≤ k ∧ Hid (formS W P b (t.data.toList.drop k) = R)) (fun _ _ _ i => t.size - (intOf i).toNat)
       case atStart => exact ⟨0,[],[],false,Nat.zero_le _,rfl,rfl,rfl,rfl,Nat.le_refl _,HR⟩
       case round =>
         obtain ⟨k,W,P,b,hk,rfl,rfl,rfl,rfl,hWP,H⟩:=hrel
         clear HR
         by_cases hlt : k < t.size
         · have H1:=H.out
           rw [drop_get t k hlt,formS] at H1
           clear H
           by_cases h46 : t[k].toNat = 46
           · have e46 : ((t[k].toNat : Int) == 46) = true:=by simp;omega
             have h46' : t[k] = 46:=UInt8.toNat.inj (by simpa using h46)
             cases b
             · have H2:=Lh (show formS W P true (t.data.toList.drop (k + 1)) = R by rw [if_pos ⟨h46',rfl⟩] at H1;exact H1)
               clear H1 h46 h46'
               go_wp2
               go_round
               case rel => exact ⟨k + 1,W,P,true,by omega,by go_num,rfl,rfl,rfl,by omega,H2⟩
               case measure => simp [intOf];omega
             · have H2:=Lh (show none = R by rw [if_neg (by simp),if_pos (by rw [dig_nat];simp;omega)] at H1;exact H1)
               have h5 : (t[k].toNat : Int) < 48:=by omega
               clear H1 h46 h46'
               go_wp2
               refine bodyPost_ret (v:=.tuple #[.string ⟨#[]⟩,.string ⟨#[]⟩,.bool false,.bool false]) (by simp [results,Tryz.results204,go_sem]) rfl ⟨by rw [← H2.out];rfl,rfl⟩
           · have e46 : ((t[k].toNat : Int) == 46) = false:=by simp;omega
             have h46' : ¬ t[k] = 46:=fun h => h46 (by rw [h];rfl)
             rw [if_neg (by simp [h46'])] at H1
             by_cases h48 : t[k].toNat < 48
             · have H2:=Lh (show none = R by rw [if_pos (by rw [dig_nat];simp;omega)] at H1;exact H1)
               have h5 : (t[k].toNat : Int) < 48:=by omega
               clear H1 h46 h46'
               cases b
               · skip
                 go_wp2
                 refine bodyPost_ret (v:=.tuple #[.string ⟨#[]⟩,.string ⟨#[]⟩,.bool false,.bool false]) (by simp [results,Tryz.results204,go_sem]) rfl ⟨by rw [← H2.out];rfl,rfl⟩
               · skip
                 go_wp2
                 refine bodyPost_ret (v:=.tuple #[.string ⟨#[]⟩,.string ⟨#[]⟩,.bool false,.bool false]) (by simp [results,Tryz.results204,go_sem]) rfl ⟨by rw [← H2.out];rfl,rfl⟩
             by_cases h57 : 57 < t[k].toNat
             · have H2:=Lh (show none = R by rw [if_pos (by rw [dig_nat];simp;omega)] at H1;exact H1)
               have h5 : ¬ (t[k].toNat : Int) < 48:=by omega
               have h6 : (57 : Int) < t[k].toNat:=by omega
               clear H1 h46 h46'
               cases b
               · skip
                 go_wp2
                 refine bodyPost_ret (v:=.tuple #[.string ⟨#[]⟩,.string ⟨#[]⟩,.bool false,.bool false]) (by simp [results,Tryz.results204,go_sem]) rfl ⟨by rw [← H2.out];rfl,rfl⟩
               · skip
                 go_wp2
                 refine bodyPost_ret (v:=.tuple #[.string ⟨#[]⟩,.string ⟨#[]⟩,.bool false,.bool false]) (by simp [results,Tryz.results204,go_sem]) rfl ⟨by rw [← H2.out];rfl,rfl⟩
             have h5 : ¬ (t[k].toNat : Int) < 48:=by omega
             have h6 : ¬ (57 : Int) < t[k].toNat:=by omega
             rw [if_neg (by rw [dig_nat];simp;omega)] at H1
             have z1 : P.length + 1 ≤ 9223372036854775807:=by omega
             have z2 : W.length + 1 ≤ 9223372036854775807:=by omega
             have z3 : min (k + 1) t.size - k = 1:=by omega
             clear h46 h46' h48 h57
             cases b
             · have H2:=Lh (show formS (W ++ [t[k]]) P false (t.data.toList.drop (k + 1)) = R by rw [if_neg (by simp)] at H1;exact H1)
               clear H1
               go_wp2
               go_round
               case rel => exact ⟨k + 1,W ++ [t[k]],P,false,by omega,by go_num,by rw [cat_one W t k hlt],rfl,rfl,by simp;omega,H2⟩
               case measure => simp [intOf];omega
             · have H2:=Lh (show formS W (P ++ [t[k]]) true (t.data.toList.drop (k + 1)) = R by rw [if_pos rfl] at H1;exact H1)
               clear H1
               go_wp2
               go_round
               case rel => exact ⟨k + 1,W,P ++ [t[k]],true,by omega,by go_num,rfl,by rw [cat_one P t k hlt],rfl,by simp;omega,H2⟩
               case measure => simp [intOf];omega
         · have hk2 : k = t.size:=by omega
           subst hk2
           have H2:=Lh (show some (W,P) = R by have:=H.out;rw [List.drop_eq_nil_of_le (by simp)] at this;exact this)
           have z1 : W.length + P.length ≤ 9223372036854775807:=by omega
           clear H
           go_wp2
           refine bodyPost_ret (v:=.tuple #[.string ⟨W.toArray⟩,.string ⟨P.toArray⟩,.bool true,.bool (decide (0 < W.length + P.length))]) (by simp [results,Tryz.results204,go_sem];omega) rfl ⟨by rw [← H2.out];rfl,rfl⟩
   · obtain ⟨t,rfl⟩ : ∃ t,t = s:=⟨_,rfl⟩
     have HR:=Lh (show formS [] [] false (t.data.toList.drop 0) = R by rw [if_neg (by rw [sign_nat];simpa using h43)] at hu;rw [List.drop_zero,hd];exact hu)
     have e1 : ((t[0].toNat : Int) == 43) = false:=by simp;omega
     have e2 : ((t[0].toNat : Int) == 45) = false:=by simp;omega
     have hm2 : (t[0] == 45) = false:=by simp;intro h;exact h43 (.inr (by rw [h];rfl))
     rw [hm2]
     clear hu hd hR h43 hmn hm2
     go_enter Tryz.func204,Tryz.ntmps204
     go_wp2
     go_loop [7,8,9,10] (fun wh pa pt i => ∃ (k : Nat) (W P : L) (b : Bool),k ≤ t.size ∧ i = .int .i64 k ∧ wh = .string ⟨W.toArray⟩ ∧ pa = .string ⟨P.toArray⟩ ∧ pt = .bool b ∧ W.length + P.length ≤ k ∧ Hid (formS W P b (t.data.toList.drop k) = R)) (fun _ _ _ i => t.size - (intOf i).toNat)
     case atStart => exact ⟨0,[],[],false,Nat.zero_le _,rfl,rfl,rfl,rfl,Nat.le_refl _,HR⟩
     case round =>
       obtain ⟨k,W,P,b,hk,rfl,rfl,rfl,rfl,hWP,H⟩:=hrel
       clear HR
       by_cases hlt : k < t.size
       · have H1:=H.out
         rw [drop_get t k hlt,formS] at H1
         clear H
         by_cases h46 : t[k].toNat = 46
         · have e46 : ((t[k].toNat : Int) == 46) = true:=by simp;omega
           have h46' : t[k] = 46:=UInt8.toNat.inj (by simpa using h46)
           cases b
           · have H2:=Lh (show formS W P true (t.data.toList.drop (k + 1)) = R by rw [if_pos ⟨h46',rfl⟩] at H1;exact H1)
             clear H1 h46 h46'
             go_wp2
             go_round
             case rel => exact ⟨k + 1,W,P,true,by omega,by go_num,rfl,rfl,rfl,by omega,H2⟩
             case measure => simp [intOf];omega
           · have H2:=Lh (show none = R by rw [if_neg (by simp),if_pos (by rw [dig_nat];simp;omega)] at H1;exact H1)
             have h5 : (t[k].toNat : Int) < 48:=by omega
             clear H1 h46 h46'
             go_wp2
             refine bodyPost_ret (v:=.tuple #[.string ⟨#[]⟩,.string ⟨#[]⟩,.bool false,.bool false]) (by simp [results,Tryz.results204,go_sem]) rfl ⟨by rw [← H2.out];rfl,rfl⟩
         · have e46 : ((t[k].toNat : Int) == 46) = false:=by simp;omega
           have h46' : ¬ t[k] = 46:=fun h => h46 (by rw [h];rfl)
           rw [if_neg (by simp [h46'])] at H1
           by_cases h48 : t[k].toNat < 48
           · have H2:=Lh (show none = R by rw [if_pos (by rw [dig_nat];simp;omega)] at H1;exact H1)
             have h5 : (t[k].toNat : Int) < 48:=by omega
             clear H1 h46 h46'
             cases b
             · skip
               go_wp2
               refine bodyPost_ret (v:=.tuple #[.string ⟨#[]⟩,.string ⟨#[]⟩,.bool false,.bool false]) (by simp [results,Tryz.results204,go_sem]) rfl ⟨by rw [← H2.out];rfl,rfl⟩
             · skip
               go_wp2
               refine bodyPost_ret (v:=.tuple #[.string ⟨#[]⟩,.string ⟨#[]⟩,.bool false,.bool false]) (by simp [results,Tryz.results204,go_sem]) rfl ⟨by rw [← H2.out];rfl,rfl⟩
           by_cases h57 : 57 < t[k].toNat
           · have H2:=Lh (show none = R by rw [if_pos (by rw [dig_nat];simp;omega)] at H1;exact H1)
             have h5 : ¬ (t[k].toNat : Int) < 48:=by omega
             have h6 : (57 : Int) < t[k].toNat:=by omega
             clear H1 h46 h46'
             cases b
             · skip
               go_wp2
               refine bodyPost_ret (v:=.tuple #[.string ⟨#[]⟩,.string ⟨#[]⟩,.bool false,.bool false]) (by simp [results,Tryz.results204,go_sem]) rfl ⟨by rw [← H2.out];rfl,rfl⟩
             · skip
               go_wp2
               refine bodyPost_ret (v:=.tuple #[.string ⟨#[]⟩,.string ⟨#[]⟩,.bool false,.bool false]) (by simp [results,Tryz.results204,go_sem]) rfl ⟨by rw [← H2.out];rfl,rfl⟩
           have h5 : ¬ (t[k].toNat : Int) < 48:=by omega
           have h6 : ¬ (57 : Int) < t[k].toNat:=by omega
           rw [if_neg (by rw [dig_nat];simp;omega)] at H1
           have z1 : P.length + 1 ≤ 9223372036854775807:=by omega
           have z2 : W.length + 1 ≤ 9223372036854775807:=by omega
           have z3 : min (k + 1) t.size - k = 1:=by omega
           clear h46 h46' h48 h57
           cases b
           · have H2:=Lh (show formS (W ++ [t[k]]) P false (t.data.toList.drop (k + 1)) = R by rw [if_neg (by simp)] at H1;exact H1)
             clear H1
             go_wp2
             go_round
             case rel => exact ⟨k + 1,W ++ [t[k]],P,false,by omega,by go_num,by rw [cat_one W t k hlt],rfl,rfl,by simp;omega,H2⟩
             case measure => simp [intOf];omega
           · have H2:=Lh (show formS W (P ++ [t[k]]) true (t.data.toList.drop (k + 1)) = R by rw [if_pos rfl] at H1;exact H1)
             clear H1
             go_wp2
             go_round
             case rel => exact ⟨k + 1,W,P ++ [t[k]],true,by omega,by go_num,rfl,by rw [cat_one P t k hlt],rfl,by simp;omega,H2⟩
             case measure => simp [intOf];omega
       · have hk2 : k = t.size:=by omega
         subst hk2
         have H2:=Lh (show some (W,P) = R by have:=H.out;rw [List.drop_eq_nil_of_le (by simp)] at this;exact this)
         have z1 : W.length + P.length ≤ 9223372036854775807:=by omega
         clear H
         go_wp2
         refine bodyPost_ret (v:=.tuple #[.string ⟨W.toArray⟩,.string ⟨P.toArray⟩,.bool false,.bool (decide (0 < W.length + P.length))]) (by simp [results,Tryz.results204,go_sem];omega) rfl ⟨by rw [← H2.out];rfl,rfl⟩
end Go.Proofs.YtfgdhcemidlnfaaGreatDoor
