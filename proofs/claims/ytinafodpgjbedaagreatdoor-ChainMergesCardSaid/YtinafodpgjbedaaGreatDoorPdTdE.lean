/- Parts of the proof: TdE. -/
import Derived.Test.YtinafodpgjbedaaGreatDoorPdf
import Derived.Test.YtinafodpgjbedaaGreatDoorPdg
import Derived.Test.YtinafodpgjbedaaGreatDoorPdi
import Derived.Deep.CutRange
set_option linter.all false
set_option maxRecDepth 100000
set_option maxHeartbeats 8000000
namespace Go.Proofs.YtinafodpgjbedaaGreatDoor
open Go.RowKit Fo
def leadsO (o : Ob) (key : L) : Option Int:=match getO o key with
 | none => some (-1)
 | some v => if v.kind = 2 ∧ 0 ≤ v.n then some v.n else none
theorem tface_idle (q : Addr) (w : World) :
   CallsD Tryz.prog 70 #[.pointer (some q)] .returning w fun e u' w' => e = .returned (.tuple #[]) ∧ u' = .returning ∧ w' = w:=by
 refine callsD_of_wpS Tryz.func70 rfl fun c₀ cs hu => ?_
 simp only [Tryz.ntmps70,List.size_toArray,List.length_cons,List.length_nil,Nat.reduceAdd,Nat.reduceSub,Array.replicate_succ,Array.replicate_zero,List.push_toArray,List.append_toArray,List.nil_append,List.cons_append]
 apply wpS_seq
 apply wpS_region
 simp [wpOpsS,go_sem,recoverD,hu,Tryz.ntmps70,Exit.thenS]
 refine wpS_of_wp ?_
 go_wp2
 cases c₀
 simp_all [bodyPostS,results,Tryz.results70]
theorem tleads_good (S : Nat → Prop) (d : Nat) (w : World) (cs : List Value) (o : Ob) (key : L) (z : Int) (h : ObjAt S (d + 1) w cs o) (ht : tameO (d + 1) o) (hS : ∀ b, S b → b < w.heap.size) (hz : leadsO o key = some z) :
   Calls Tryz.prog 75 #[.agg cs.toArray,.string ⟨key.toArray⟩] w fun e w' => e = .returned (.int .i64 z) ∧ Below w.heap.size w w':=by
 have HG:=Lh (fun (W : World) (hW : Below w.heap.size w W) => vGet_in S d W cs o key (h.kept (fun b h => hW.block b (hS b h)) (d + 1)) ht (fun b h => Nat.lt_of_lt_of_le (hS b h) hW.size))
 obtain ⟨p1,n1,c1,p2,n2,c2,rfl⟩:=h.shape
 unfold objCells at HG
 unfold objCells
 clear h ht hS
 unfold leadsO at hz
 cases hg : getO o key with
 | none =>
   rw [hg] at hz HG
   cases hz
   go_enter Tryz.func75,Tryz.ntmps75
   go_wp2_with fail
   refine (HG.out _ bel).mono ?_
   rintro e w1 ⟨rfl,hb1⟩
   have hz1:=hb1.size
   simp at hz1
   go_wp2
   go_ret
   exact ⟨rfl,bel⟩
 | some v =>
   rw [hg] at hz HG
   dsimp only at hz
   split at hz
   · rename_i hc
     cases hz
     obtain ⟨hk,hn⟩:=hc
     have d0 : decide (0 ≤ v.n) = true:=decide_eq_true hn
     clear hn hg
     have HG2:=Lh (fun W hW => (HG.out W hW).mono (R':=fun e w' => ∃ p1 c1 p2 c2,e = .returned (.tuple #[.agg #[.int .i64 2,.int .i64 v.n,.int .i64 v.g,.string ⟨v.s.toArray⟩,.slice p1 v.keys.length c1,.slice p2 v.kids.length c2],.bool true]) ∧ Below W.heap.size W w') (by
       rintro e w' ⟨p1,c1,p2,c2,rfl,_,hb⟩
       exact ⟨p1,c1,p2,c2,by rw [hk],hb⟩))
     clear HG hk
     go_enter Tryz.func75,Tryz.ntmps75
     go_wp2_with fail
     refine (HG2.out _ bel).mono ?_
     rintro e w1 ⟨q1,e1,q2,e2,rfl,hb1⟩
     have hz1:=hb1.size
     simp at hz1
     go_wp2_with (go_at_call 71;refine (tmust_yes _).mono ?_;rintro e w9 ⟨rfl,rfl⟩)
     go_ret
     exact ⟨rfl,bel⟩
   · cases hz
theorem tableR_at {s : ByteArray} {a : Nat} {PS : List Sl} {o : Ob} {rest : L} (ha : a ≤ s.size) (h : tableR (s.data.toList.drop a) = some (PS, o, rest)) :
   Lib.hasPrefix (s.data.toList.drop a) [120,114,101,102] = true ∧ ∃ (l : Nat) (n : Int) (f : Nat) (l2 : L),TokAt s a ⟨5,l,n,wordX⟩ a ∧ sectR f (s.data.toList.drop (a + l)) [] = some (PS,l2) ∧ readS l2 = .good (o,rest) ∧ o.kind = 7:=by
 unfold tableR at h
 split at h
 · rename_i h4
   cases hw : wordR (s.data.toList.drop a) wordX with
   | none => rw [hw] at h;cases h
   | some l1 =>
     rw [hw] at h
     dsimp only at h
     obtain ⟨l,n,p,hT,rfl⟩:=wordR_at ha hw
     have hsk : (nextT (s.data.toList.drop a)).1 = 0:=by
       cases hl : s.data.toList.drop a with
       | nil => rw [hl] at h4;cases h4
       | cons c r =>
         rw [hl] at h4
         have hc : c = 120:=by simp [wordX] at h4;exact h4.1
         subst hc
         rfl
     obtain rfl : a = p:=by have:=hT.2.1;omega
     cases hs : sectR ((s.data.toList.drop (a + l)).length + 1) (s.data.toList.drop (a + l)) [] with
     | none => rw [hs] at h;cases h
     | some y =>
       obtain ⟨ps,l2⟩:=y
       rw [hs] at h
       dsimp only at h
       cases hr : readS l2 with
       | bad e => rw [hr] at h;cases h
       | good z =>
         obtain ⟨o',l3⟩:=z
         rw [hr] at h
         dsimp only at h
         split at h
         · rename_i hk
           cases h
           refine ⟨?_,l,n,_,l2,hT,hs,hr,hk⟩
           have : (s.data.toList.drop a) = wordX ++ (s.data.toList.drop a).drop 4:=by rw [← h4,List.take_append_drop]
           rw [this]
           simp [Lib.hasPrefix,wordX]
         · cases h
 · cases h
theorem eleven_of {w : World} {b : Nat} {t : TypeId} {v0 v1 v2 v3 v4 v5 v6 v7 v8 v9 v10 : Value} (h : w.heap[b]? = some (.cells #[v0, v1, v2, v3, v4, v5, v6, v7, v8, v9, v10] t (0, 0))) :
   w.cell? ⟨b,0,none⟩ = some v0 ∧ w.cell? ⟨b,1,none⟩ = some v1 ∧ w.cell? ⟨b,2,none⟩ = some v2 ∧ w.cell? ⟨b,3,none⟩ = some v3 ∧ w.cell? ⟨b,4,none⟩ = some v4 ∧ w.cell? ⟨b,5,none⟩ = some v5 ∧ w.cell? ⟨b,6,none⟩ = some v6 ∧ w.cell? ⟨b,7,none⟩ = some v7 ∧ w.cell? ⟨b,8,none⟩ = some v8 ∧ w.cell? ⟨b,9,none⟩ = some v9 ∧ w.cell? ⟨b,10,none⟩ = some v10 ∧ ∀ o,w.frozen? ⟨b,o,none⟩ = false:=by
 simp [World.cell?,World.frozen?,h]
theorem tb_step {B : Nat} {w0 w w' : World} (h : Below B w0 w) (hb : Below w.heap.size w w') (hB : B ≤ w.heap.size) : Below B w0 w':=h.trans (hb.mono hB)
def wPrevK : L:=[80,114,101,118]
def wHybK : L:=[88,82,101,102,83,116,109]
def RArgS {α : Type} (S : Nat → Prop) (E : Enc α) (w : World) (v : Value) (xs : List α) : Prop:=∃ p c,v = .slice p xs.length c ∧ ∀ j (hj : j < xs.length),∃ g off,p = some ⟨g,off,none⟩ ∧ S g ∧ g < w.heap.size ∧
 ∀ i u,(E.cells xs[j])[i]? = some u → w.cell? ⟨g,off + j * E.k + i,none⟩ = some u
theorem RArgS.arg {α : Type} {S : Nat → Prop} {E : Enc α} {w : World} {v : Value} {xs : List α} (h : RArgS S E w v xs) : RArg E w v xs:=by
 obtain ⟨p,c,e,h⟩:=h
 exact ⟨p,c,e,fun j hj => by obtain ⟨g,off,h1,_,h2,h3⟩:=h j hj;exact ⟨g,off,h1,h2,h3⟩⟩
theorem RArgS.of_row {α : Type} {E : Enc α} {t : TypeId} {w : World} {B : Nat} {v : Value} {xs : List α} (h : rownS E t w B v xs) : RArgS (fun b => B ≤ b) E w v xs:=by
 obtain ⟨p,c,e,h2⟩:=rownS.arg h
 refine ⟨p,c,e,fun j hj => ?_⟩
 obtain ⟨g,off,h3,h4,h5⟩:=h2 j hj
 refine ⟨g,off,h3,own_base h g (by rw [e,h3];rfl),h4,h5⟩
theorem RArgS.grow {α : Type} {S S' : Nat → Prop} {E : Enc α} {w w' : World} {v : Value} {xs : List α} (h : RArgS S E w v xs) (hk : ∀ b,S b → b < w.heap.size → S' b ∧ w'.heap[b]? = w.heap[b]?) : RArgS S' E w' v xs:=by
 obtain ⟨p,c,e,h2⟩:=h
 refine ⟨p,c,e,fun j hj => ?_⟩
 obtain ⟨g,off,h3,h4,h5,h6⟩:=h2 j hj
 obtain ⟨k1,k2⟩:=hk g h4 h5
 refine ⟨g,off,h3,k1,?_,fun i u hu => ?_⟩
 · exact (Array.getElem?_eq_some_iff.1 (k2.trans (Array.getElem?_eq_getElem h5))).1
 · rw [← h6 i u hu]
   unfold World.cell?
   rw [k2]
structure SecS (S : Nat → Prop) (d : Nat) (w : World) (x : SecV) (s : Sec) : Prop where
 at' : x.at' = s.at'
 prev : x.prev = s.prev
 hyb : x.hyb = s.hyb
 own : x.own = s.own
 len : x.sn = s.slots.length
 slots : RArgS S slE w (.slice x.sp x.sn x.sc) s.slots
 trail : ObjAt S d w [.int .i64 x.k,.int .i64 x.n,.int .i64 x.g,.string x.s,.slice x.p1 x.n1 x.c1,.slice x.p2 x.n2 x.c2] s.trail
theorem SecS.is {S : Nat → Prop} {d : Nat} {w : World} {x : SecV} {s : Sec} (h : SecS S d w x s) : SecIs S d w x s:=⟨h.at',h.prev,h.hyb,h.own,h.len,h.slots.arg,h.trail⟩
theorem SecS.grow {S S' : Nat → Prop} {d : Nat} {w w' : World} {x : SecV} {s : Sec} (h : SecS S d w x s) (hk : ∀ b,S b → b < w.heap.size → S' b ∧ w'.heap[b]? = w.heap[b]?) : SecS S' d w' x s :=
 ⟨h.at',h.prev,h.hyb,h.own,h.len,h.slots.grow hk,h.trail.grow hk⟩
def SecOut (r : Nat) (s : ByteArray) (w : World) (y : Sec) (e : Ending) (w' : World) : Prop :=
 ∃ x : SecV,e = .returned (.tuple #[.agg (encSec.cells x).toArray,.int .i64 0]) ∧ SecS (fun b => w.heap.size ≤ b) 25 w' x y ∧ (∃ b,b ≤ s.size ∧ RdT w' r s b) ∧ Bes r w w'
theorem tsection_good (r : Nat) (s : ByteArray) (a : Nat) (PS : List Sl) (o : Ob) (rest : L) (prev hyb : Int) (h : tableR (s.data.toList.drop a) = some (PS, o, rest)) (hc : checkB 24 o = 0) (h1 : leadsO o wPrevK = some prev) (h2 : leadsO o wHybK = some hyb)
   (ha : a ≤ s.size) (hs : s.size ≤ 100000000) (m : Int) (w : World) (hm : MaxW w m) (hr : RdT w r s a) (hrm : r ≠ 1) :
   Calls Tryz.prog 43 #[.pointer (some ⟨r,0,none⟩)] w (SecOut r s w ⟨a,PS,o,prev,hyb,0⟩):=by
 obtain ⟨hpre,l,n,f,l2,hT,hS,hO,hk⟩:=tableR_at ha h
 have hlt:=hr.lt
 have hp1:=hT.2.2
 have HB:=Lh (fun W => begins_as s ⟨#[120,114,101,102]⟩ a true hpre ha (show s.size ≤ maxLen by unfold maxLen;omega) W)
 have HT:=Lh hT
 have HS:=Lh hS
 have HO:=Lh (And.intro hO (And.intro hk (And.intro hc (And.intro h1 h2))))
 clear h hpre hT hS hO hk hc h1 h2
 go_enter_defers Tryz.func43,Tryz.ntmps43
 have r1:=hr.cell1
 have r0:=hr.cell0
 have ner : ¬ r = w.heap.size:=by omega
 have ner2 : ¬ r = w.heap.size + 1:=by omega
 go_upto_region 3 with fail
 obtain ⟨w1,hw1⟩ : ∃ w1,(w.alloc (.cells #[.int .i64 a,.slice none 0 0,.int .i64 0,.int .i64 0,.int .i64 0,.string ⟨#[]⟩,.slice none 0 0,.slice none 0 0,.int .i64 0,.int .i64 0,.int .i64 0] 40)).alloc (.cells #[.int .i64 0] 43) = w1:=⟨_,rfl⟩
 have hX1 : w1.heap[w.heap.size]? = some (.cells #[.int .i64 a,.slice none 0 0,.int .i64 0,.int .i64 0,.int .i64 0,.string ⟨#[]⟩,.slice none 0 0,.slice none 0 0,.int .i64 0,.int .i64 0,.int .i64 0] 40 (0,0)):=by
   rw [← hw1];exact (Below.heap_alloc _ _ _ (by simp)).trans (heap_new_at _ _ _ rfl)
 have hE1 : w1.heap[w.heap.size + 1]? = some (.cells #[.int .i64 0] 43 (0,0)):=by
   rw [← hw1];exact heap_new_at _ _ _ (by simp)
 have hbw1 : Below w.heap.size w w1:=by rw [← hw1];exact bel
 have hz1 : w1.heap.size = w.heap.size + 2:=by rw [← hw1];simp
 rw [hw1]
 have hr1:=hr.below hbw1
 have hm1:=hm.below hbw1
 have k1:=hr1.cell1
 have k0:=hr1.cell0
 clear hw1 r1 r0 ner ner2
 go_wp2_with fail
 go_quiet (first | (go_at_call 29;exact Calls.quiet_of_same (HB.out _)) | (go_at_call 71;exact Calls.quiet_of_same (tmust_yes _)))
 obtain ⟨v1,hv1⟩ : ∃ v1,w1.drewN nq = v1:=⟨_,rfl⟩
 have hr1' : RdT v1 r s a:=by rw [← hv1];exact hr1
 have hm1' : MaxW v1 m:=by rw [← hv1];exact hm1
 have hX1' : v1.heap[w.heap.size]? = some (.cells #[.int .i64 a,.slice none 0 0,.int .i64 0,.int .i64 0,.int .i64 0,.string ⟨#[]⟩,.slice none 0 0,.slice none 0 0,.int .i64 0,.int .i64 0,.int .i64 0] 40 (0,0)):=by rw [← hv1];exact hX1
 have hE1' : v1.heap[w.heap.size + 1]? = some (.cells #[.int .i64 0] 43 (0,0)):=by rw [← hv1];exact hE1
 have hbv1 : Below w.heap.size w v1:=by rw [← hv1];exact belowDrewN hbw1 nq
 have hzv1 : v1.heap.size = w.heap.size + 2:=by rw [← hv1];exact hz1
 rw [hv1]
 clear hv1 hX1 hE1 hbw1 hm1 hr1 k0 k1 hz1
 go_wp2_with fail
 refine (tnext_at r s a a l 5 n [120,114,101,102] HT.out ha (by omega) m _ hm1' hr1').mono ?_
 rintro e v2 ⟨rfl,hr2',hs2'⟩
 go_upto_region 5 with fail
 obtain ⟨w2,hw2⟩ : ∃ w2,v2.alloc (.cells #[.int .i64 5,.int .i64 a,.int .i64 ((a : Int) + l),.int .i64 n,.string ⟨#[120,114,101,102]⟩] 96) = w2:=⟨_,rfl⟩
 obtain ⟨tb,htb⟩ : ∃ tb,v2.heap.size = tb:=⟨_,rfl⟩
 have hb22 : Below v2.heap.size v2 w2:=by rw [← hw2];exact bel
 have hT2 : w2.heap[tb]? = some (.cells #[.int .i64 5,.int .i64 a,.int .i64 ((a : Int) + l),.int .i64 n,.string ⟨#[120,114,101,102]⟩] 96 (0,0)):=by rw [← hw2];exact heap_new_at _ _ _ htb.symm
 have hz22 : w2.heap.size = tb + 1:=by rw [← hw2,← htb];simp
 have hzz2:=hs2'.size
 rw [htb] at hzz2
 rw [hw2]
 simp only [htb]
 have hr2:=hr2'.below hb22
 replace hs2':=hs2'.trans (Bes.of_below (r:=r) hb22)
 clear hw2 htb hb22 hr2'
 obtain ⟨T0,T1,T2,T3,T4,Tf⟩:=five_of hT2
 have hz2:=hs2'.size
 have hX2:=(hs2'.block w.heap.size (by omega) (by omega)).trans hX1'
 have hE2:=(hs2'.block (w.heap.size + 1) (by omega) (by omega)).trans hE1'
 have hm2 : MaxW w2 m:=hm1'.bes hs2' hrm
 have hbw2 : Bes r w w2:=(Bes.of_below hbv1).trans hs2'
 obtain ⟨X0,X1',X2',X3',X4',X5',X6',X7',X8',X9',X10',Xf⟩:=eleven_of hX2
 clear hs2' hX1' hE1' hbv1 hm1' hr1' hT2
 go_wp2_with (go_at_call 71;refine (tmust_yes _).mono ?_;rintro e w9 ⟨rfl,h9⟩;obtain rfl:=h9.symm)
 refine (tslots_good r s (a + l) f PS l2 HS.out hp1 hs m _ hm2 hr2 hrm).mono ?_
 rintro e w3 ⟨⟨sv,rfl,hrow⟩,⟨b3,hb3,hl2,hr3⟩,hs3⟩
 have hz3:=hs3.size
 obtain ⟨sp,sc,rfl⟩:=rown_slice hrow
 have hX3 : w3.heap[w.heap.size]? = some (.cells #[.int .i64 a,.slice none 0 0,.int .i64 0,.int .i64 0,.int .i64 0,.string ⟨#[]⟩,.slice none 0 0,.slice none 0 0,.int .i64 0,.int .i64 0,.int .i64 0] 40 (0,0)):=(hs3.block w.heap.size (by omega) (by omega)).trans hX2
 have hE3 : w3.heap[w.heap.size + 1]? = some (.cells #[.int .i64 0] 43 (0,0)):=(hs3.block (w.heap.size + 1) (by omega) (by omega)).trans hE2
 have hbw3 : Bes r w w3:=hbw2.trans hs3
 have hm3 : MaxW w3 m:=hm2.bes hs3 hrm
 have HROW:=Lh (hrow.low (show w.heap.size + 2 ≤ _ from by omega))
 obtain ⟨Y0,Y1,Y2,Y3,Y4,Y5,Y6,Y7,Y8,Y9,Y10,Yf⟩:=eleven_of hX3
 clear hs3 hX2 hE2 hbw2 hm2 hr2 hrow T0 T1 T2 T3 T4 Tf X0 X1' X2' X3' X4' X5' X6' X7' X8' X9' X10' Xf
 go_upto_region 7 with fail
 obtain ⟨w4,hw4⟩ : ∃ w4,w3.setCell ⟨w.heap.size,1,none⟩ (.slice sp PS.length sc) = w4:=⟨_,rfl⟩
 rw [hw4]
 have hX4 : w4.heap[w.heap.size]? = some (.cells #[.int .i64 a,.slice sp PS.length sc,.int .i64 0,.int .i64 0,.int .i64 0,.string ⟨#[]⟩,.slice none 0 0,.slice none 0 0,.int .i64 0,.int .i64 0,.int .i64 0] 40 (0,0)):=by rw [← hw4,set_any hX3];rfl
 have hE4 : w4.heap[w.heap.size + 1]? = some (.cells #[.int .i64 0] 43 (0,0)):=by rw [← hw4,Below.heap_setCell _ _ _ _ (by show w.heap.size + 1 ≠ w.heap.size;omega)];exact hE3
 have hr4 : RdT w4 r s b3:=by rw [← hw4];exact hr3.belowB (B:=r + 1) belr (by omega)
 have hbw4 : Bes r w w4:=by rw [← hw4];exact hbw3.setCell_new (Nat.le_refl _) _
 have hz4 : w3.heap.size ≤ w4.heap.size:=by rw [← hw4];simp [World.setCell]
 have HROW4:=Lh (show rownS slE 28 w4 (w.heap.size + 2) (.slice sp PS.length sc) PS by rw [← hw4];exact row_set HROW.out (by omega))
 have hm4 : MaxW w4 m:=hm.bes hbw4 hrm
 have HOB:=Lh (fun W hW => hl2 ▸ Object_in s b3 hb3 (by omega) m W hW)
 have hz42 : w.heap.size + 2 ≤ w4.heap.size:=by omega
 clear hw4 hX3 hE3 hr3 hbw3 hm3 HROW Y0 Y1 Y2 Y3 Y4 Y5 Y6 Y7 Y8 Y9 Y10 Yf hz3 hz4
 have k0:=hr4.cell0
 have k1:=hr4.cell1
 have hltr:=hr4.lt
 have ne1 : ¬ r = w4.heap.size:=by omega
 have ne2 : ¬ w4.heap.size = r:=by omega
 go_cut [5,6,7] from 44 to 56 (fun s5 s6 s7 wx => ∃ (g z : Nat) (p1 : Option Addr) (n1 c1 : Nat) (p2 : Option Addr) (n2 c2 : Nat),s5 = .pointer (some ⟨g,0,none⟩) ∧ s6 = .int .i64 z ∧ s7 = .int .i64 0 ∧ z ≤ s.size ∧ wx.heap[g]? = some (.cells #[.int .i64 o.kind,.int .i64 o.n,.int .i64 o.g,.string ⟨o.s.toArray⟩,.slice p1 n1 c1,.slice p2 n2 c2] 36 (0,0)) ∧ w4.heap.size ≤ g ∧
   Hid (ObjAt (fun b => w4.heap.size ≤ b) 25 wx (objCells o.kind o.n o.g o.s (.slice p1 n1 c1) (.slice p2 n2 c2)) o) ∧ Below w4.heap.size w4 wx)
 case first =>
   go_region_held3 (fun w' => w'.cell? ⟨r,0,none⟩ = some (.string s) ∧ w'.cell? ⟨r,1,none⟩ = some (.int .i64 b3)) (go_keep) ((go_at_call 74;refine (HOB.out _ (hm4.below bel)).mono ?_;intro e w5 hpost;rw [HO.out.1] at hpost;obtain ⟨p1,n1,c1,p2,n2,c2,z,rfl,hz1,_,hO5,hb⟩:=hpost;obtain ⟨hc,hf⟩:=bcell hb;have hz:=hb.size;simp at hz;have hbw : Below w4.heap.size w4 w5:=bel;have k0:=(hbw.cell (p:=⟨r,0,none⟩) hltr).trans k0;have k1:=(hbw.cell (p:=⟨r,1,none⟩) hltr).trans k1))
   all_goals go_wp2_with fail
   all_goals go_meet
   · exact ⟨w5.heap.size,z,p1,n1,c1,p2,n2,c2,rfl,rfl,rfl,hz1,heap_new_at _ _ _ rfl,hbw.size,Lh (hO5.grow (fun b h1 h2 => ⟨h1,Below.heap_alloc _ _ _ h2⟩)),hbw.alloc hbw.size _⟩
   · have B1 : w5.heap[w4.heap.size]? = some (.cells #[.int .i64 0,.int .i64 0,.int .i64 0,.string ⟨#[]⟩,.slice none 0 0,.slice none 0 0] 36 (0,0)):=(hb.block _ (by simp)).trans (heap_new_at w4 _ _ rfl)
     have hg6:=set6_grown w5 w4.heap.size 0 1 2 3 4 5 (.int .i64 o.kind) (.int .i64 o.n) (.int .i64 o.g) (.string ⟨o.s.toArray⟩) (.slice p1 n1 c1) (.slice p2 n2 c2)
     exact ⟨w4.heap.size,z,p1,n1,c1,p2,n2,c2,rfl,rfl,rfl,hz1,set_six B1,Nat.le_refl _,Lh (hO5.grow (fun b h1 h2 => ⟨by simp at h1;omega,hg6.block b h2 (fun e => by simp at e h1;omega)⟩)),hbw.grown hg6 hbw.size (fun k e => by cases e;exact Nat.le_refl _)⟩
 case rest =>
   obtain ⟨g,z,p1,n1,c1,p2,n2,c2,rfl,rfl,rfl,hz1,hG,hg,HOA,hbx⟩:=hcut
   obtain ⟨w5,rfl⟩ : ∃ w5,w5 = wc:=⟨_,rfl⟩
   have hz5:=hbx.size
   have hX5:=(hbx.block w.heap.size (by omega)).trans hX4
   have hE5:=(hbx.block (w.heap.size + 1) (by omega)).trans hE4
   have hr5:=hr4.below hbx
   have hbw5 : Bes r w w5:=hbw4.trans (Bes.of_below hbx)
   have HROW5:=Lh (HROW4.out.below hbx)
   have hm5:=hm4.below hbx
   have hgl:=lt_of_block hG
   have hk7 : (o.kind == 7) = true:=by simpa using HO.out.2.1
   clear hX4 hE4 hr4 hbw4 HROW4 hm4 k0 k1 hltr ne1 ne2 HOB
   obtain ⟨g0,g1,g2,g3,g4,g5,gf⟩:=six_of hG
   have k1:=hr5.cell1
   have kf:=hr5.frozen 1
   have hkK : o.kind = 7:=HO.out.2.1
   rw [hkK] at g0
   go_upto_region 10 with (go_at_call 71;refine (tmust_yes _).mono ?_;rintro e w9 ⟨rfl,h9⟩;obtain rfl:=h9.symm)
   obtain ⟨w6,hw6⟩ : ∃ w6,w5.setCell ⟨r,1,none⟩ (.int .i64 z) = w6:=⟨_,rfl⟩
   rw [hw6]
   have hs56 : Bes r w5 w6:=by rw [← hw6];exact (Bes.refl _ _).setCell _ _
   have hz6 : w5.heap.size = w6.heap.size:=by rw [← hw6];simp [World.setCell]
   have hX6:=(hs56.block w.heap.size (by omega) (by omega)).trans hX5
   have hE6:=(hs56.block (w.heap.size + 1) (by omega) (by omega)).trans hE5
   have hbw6:=hbw5.trans hs56
   have hG6:=(hs56.block g (by omega) (by omega)).trans hG
   have hr6 : RdT w6 r s z:=by rw [← hw6];exact hr5.set
   have HROW6:=Lh (show rownS slE 28 w6 (w.heap.size + 2) (.slice sp PS.length sc) PS by rw [← hw6];exact row_set HROW5.out (by omega))
   have HO6:=Lh (show ObjAt (fun b => w4.heap.size ≤ b ∧ b < w6.heap.size) 25 w6 (objCells 7 o.n o.g o.s (.slice p1 n1 c1) (.slice p2 n2 c2)) o from hkK ▸ (HOA.out.grow (fun b h1 h2 => ⟨⟨h1,by omega⟩,hs56.block b (by omega) (by omega)⟩)))
   have hz46 : w4.heap.size ≤ w6.heap.size:=by omega
   have htame:=tame_of 25 24 _ o HO6.out HO.out.2.2.1
   have HL1:=Lh (fun (W : World) (hW : Below w6.heap.size w6 W) => tleads_good _ 24 W _ o wPrevK prev (HO6.out.kept (fun b h => hW.block b h.2) 25) htame (fun b h => Nat.lt_of_lt_of_le h.2 hW.size) HO.out.2.2.2.1)
   have HL2:=Lh (fun (W : World) (hW : Below w6.heap.size w6 W) => tleads_good _ 24 W _ o wHybK hyb (HO6.out.kept (fun b h => hW.block b h.2) 25) htame (fun b h => Nat.lt_of_lt_of_le h.2 hW.size) HO.out.2.2.2.2)
   unfold objCells wPrevK at HL1
   unfold objCells wHybK at HL2
   clear hw6 hX5 hE5 hbw5 hG hr5 HROW5 HOA hz5 hm5 hs56 g0 g1 g2 g3 g4 g5 gf k1 kf htame hk7
   obtain ⟨g0,g1,g2,g3,g4,g5,gf⟩:=six_of hG6
   obtain ⟨X0,X1',X2',X3',X4',X5',X6',X7',X8',X9',X10',Xf⟩:=eleven_of hX6
   rw [hkK] at g0
   have HB6:=Lh (Below.refl w6.heap.size w6)
   have ng1 : ¬ g = w.heap.size:=by omega
   have ng2 : ¬ w.heap.size = g:=by omega
   go_region_held3 (fun w' => (w'.cell? ⟨g,0,none⟩ = some (.int .i64 7) ∧ w'.cell? ⟨g,1,none⟩ = some (.int .i64 o.n) ∧ w'.cell? ⟨g,2,none⟩ = some (.int .i64 o.g) ∧ w'.cell? ⟨g,3,none⟩ = some (.string ⟨o.s.toArray⟩) ∧ w'.cell? ⟨g,4,none⟩ = some (.slice p1 n1 c1) ∧ w'.cell? ⟨g,5,none⟩ = some (.slice p2 n2 c2))) (go_keep)
     (first
      | (go_at_call 75;(with_reducible refine (HL1.out _ (by first | exact HB6.out | exact HB6.out.drew | exact bel)).mono ?_);rintro e w7 ⟨rfl,hb⟩;replace HB6 : Hid (Below w6.heap.size w6 w7):=Lh (tb_step (by first | exact HB6.out | exact HB6.out.drew | exact bel) hb (by first | exact HB6.out.size | exact HB6.out.drew.size | (have:=HB6.out.size;simp;omega)));clear hb g0 g1 g2 g3 g4 g5 gf X0 X1' X2' X3' X4' X5' X6' X7' X8' X9' X10' Xf;(obtain ⟨g0,g1,g2,g3,g4,g5,gf⟩:=six_of ((HB6.out.block _ (by omega)).trans hG6));(obtain ⟨X0,X1',X2',X3',X4',X5',X6',X7',X8',X9',X10',Xf⟩:=eleven_of ((HB6.out.block _ (by omega)).trans hX6));rw [hkK] at g0)
      | (go_at_call 75;(with_reducible refine (HL2.out _ (by first | exact HB6.out | exact HB6.out.drew | exact bel)).mono ?_);rintro e w8 ⟨rfl,hb⟩;replace HB6 : Hid (Below w6.heap.size w6 w8):=Lh (tb_step (by first | exact HB6.out | exact HB6.out.drew | exact bel) hb (by first | exact HB6.out.size | exact HB6.out.drew.size | (have:=HB6.out.size;simp;omega)));clear hb g0 g1 g2 g3 g4 g5 gf X0 X1' X2' X3' X4' X5' X6' X7' X8' X9' X10' Xf;(obtain ⟨g0,g1,g2,g3,g4,g5,gf⟩:=six_of ((HB6.out.block _ (by omega)).trans hG6));(obtain ⟨X0,X1',X2',X3',X4',X5',X6',X7',X8',X9',X10',Xf⟩:=eleven_of ((HB6.out.block _ (by omega)).trans hX6));rw [hkK] at g0))
   have hz8:=HB6.out.size
   have hX8:=(HB6.out.block w.heap.size (by omega)).trans hX6
   have hE8:=(HB6.out.block (w.heap.size + 1) (by omega)).trans hE6
   have hbw8 : Bes r w w8:=hbw6.trans (Bes.of_below HB6.out)
   have HROW8:=Lh (HROW6.out.below HB6.out)
   have HO8:=Lh (fun (W : World) (hW : ∀ b,w.heap.size + 2 ≤ b → W.heap[b]? = w8.heap[b]?) => HO6.out.grow (w':=W) (S':=fun b => w.heap.size ≤ b) (fun b h1 h2 => ⟨by have:=h1.1;omega,(hW b (by have:=h1.1;omega)).trans (HB6.out.block b h1.2)⟩))
   have hr8:=hr6.below HB6.out
   clear g0 g1 g2 g3 g4 g5 gf X0 X1' X2' X3' X4' X5' X6' X7' X8' X9' X10' Xf HB6 hX6 hE6 hbw6 HROW6 HO6 hr6 HL1 HL2 hG6 hbx ng1 ng2
   obtain ⟨w9,hw9⟩ : ∃ w9,((((((((w8.setCell ⟨w.heap.size,2,none⟩ (.int .i64 7)).setCell ⟨w.heap.size,3,none⟩ (.int .i64 o.n)).setCell ⟨w.heap.size,4,none⟩ (.int .i64 o.g)).setCell ⟨w.heap.size,5,none⟩ (.string ⟨o.s.toArray⟩)).setCell ⟨w.heap.size,6,none⟩ (.slice p1 n1 c1)).setCell ⟨w.heap.size,7,none⟩ (.slice p2 n2 c2)).setCell ⟨w.heap.size,8,none⟩ (.int .i64 prev)).setCell ⟨w.heap.size,9,none⟩ (.int .i64 hyb)) = w9:=⟨_,rfl⟩
   rw [hw9]
   have hX9 : w9.heap[w.heap.size]? = some (.cells #[.int .i64 a,.slice sp PS.length sc,.int .i64 7,.int .i64 o.n,.int .i64 o.g,.string ⟨o.s.toArray⟩,.slice p1 n1 c1,.slice p2 n2 c2,.int .i64 prev,.int .i64 hyb,.int .i64 0] 40 (0,0)):=by
     rw [← hw9,set_any (set_any (set_any (set_any (set_any (set_any (set_any (set_any hX8)))))))];rfl
   have hO9 : ∀ b,b ≠ w.heap.size → w9.heap[b]? = w8.heap[b]?:=by
     intro b hb
     rw [← hw9]
     iterate 8 rw [Below.heap_setCell _ _ _ _ (by show b ≠ w.heap.size;exact hb)]
   have hE9:=(hO9 (w.heap.size + 1) (by omega)).trans hE8
   have hz9 : w9.heap.size = w8.heap.size:=by rw [← hw9];simp [World.setCell]
   have hbw9 : Bes r w w9:=by
     rw [← hw9]
     (repeat' (first | (with_reducible exact hbw8) | (with_reducible refine Bes.setCell_new ?_ ?_ _) | exact Nat.le_refl _))
   have HROW9:=Lh (show rownS slE 28 w9 (w.heap.size + 2) (.slice sp PS.length sc) PS by
     rw [← hw9]
     (repeat' (first | (with_reducible exact HROW8.out) | (with_reducible refine row_set ?_ ?_) | omega)))
   have hr9 : RdT w9 r s z:=by unfold RdT at *;rw [hO9 r (by omega)];exact hr8
   have hl9 : w.heap.size + 1 < w9.heap.size:=by have:=lt_of_block hE9;omega
   have HO9:=Lh (fun (W : World) (hW : ∀ b,w.heap.size + 2 ≤ b → W.heap[b]? = w9.heap[b]?) => HO8.out W (fun b hb => (hW b hb).trans (hO9 b (by omega))))
   clear hw9 hX8 hE8 hbw8 HROW8 HO8 hr8 hO9 hz9
   obtain ⟨X0,X1',X2',X3',X4',X5',X6',X7',X8',X9',X10',Xf⟩:=eleven_of hX9
   have y0 : w9.cell? ⟨w.heap.size + 1,0,none⟩ = some (.int .i64 0):=by simp [World.cell?,hE9]
   have yf : w9.frozen? ⟨w.heap.size + 1,0,none⟩ = false:=by simp [World.frozen?,hE9]
   clear hX9 hE9
   go_wp2
   refine leaves_cons (f:=70) (args:=#[.pointer (some ⟨w.heap.size + 1,0,none⟩)]) (by simp) (by simp [go_sem]) ?_
   refine (tface_idle _ _).mono ?_
   rintro e u' w'' ⟨rfl,rfl,rfl⟩
   simp [Leaves,settle,results,Tryz.results43,go_sem,X0,X1',X2',X3',X4',X5',X6',X7',X8',X9',X10',Xf,y0,yf]
   refine ⟨⟨a,sp,PS.length,sc,7,o.n,o.g,⟨o.s.toArray⟩,p1,n1,c1,p2,n2,c2,prev,hyb,0⟩,rfl,⟨rfl,rfl,rfl,rfl,rfl,?_,?_⟩,⟨z,hz1,?_⟩,?_⟩
   · refine RArgS.grow (S:=fun b => w.heap.size + 2 ≤ b) (RArgS.of_row (t:=28) ?_) (fun b hb _ => ⟨by omega,rfl⟩)
     (repeat' (first | (with_reducible exact HROW9.out) | (with_reducible refine row_set ?_ ?_) | omega))
   · refine HO9.out _ (fun b hb => ?_)
     iterate 12 rw [Below.heap_setCell _ _ _ _ (by first | (show b ≠ w.heap.size;omega) | (show b ≠ w.heap.size + 1;omega))]
   · unfold RdT at *
     iterate 12 rw [Below.heap_setCell _ _ _ _ (by first | (show r ≠ w.heap.size;omega) | (show r ≠ w.heap.size + 1;omega))]
     exact hr9
   · (repeat' (first | (with_reducible exact hbw9) | (with_reducible refine Bes.setCell_new ?_ ?_ _) | exact Nat.le_refl _ | exact Nat.le_succ _))
end Go.Proofs.YtinafodpgjbedaaGreatDoor
