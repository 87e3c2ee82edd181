/- Parts of the proof: ChX. -/
import Derived.Test.YtinafodpgjbedaaGreatDoorPdk
import Derived.Test.YtinafodpgjbedaaGreatDoorPdl
import Derived.Test.YtinafodpgjbedaaGreatDoorPdf
import Derived.Deep.CutBlock
import Derived.Deep.CutRange
set_option linter.all false
set_option maxRecDepth 100000
set_option maxHeartbeats 8000000
namespace Go.Proofs.YtinafodpgjbedaaGreatDoor
open Go.RowKit Fo
theorem allS_le (l : List Sec) (h : ∀ s ∈ l,s.slots.length ≤ 40) : (allS l).length ≤ l.length * 40:=by
 induction l with
 | nil => exact Nat.zero_le _
 | cons s l ih =>
   have h1:=h s (by simp)
   have h2:=ih fun t ht => h t (by simp [ht])
   show (s.slots ++ allS l).length ≤ _
   rw [List.length_append,List.length_cons];omega
theorem rmerge_in (S : Nat → Prop) (d : Nat) (w : World) (p : Option Addr) (n c : Nat) (vs : List SecV) (l : List Sec) (hR : RArg encSec w (.slice p n c) vs) (hI : SecsIs S d w vs l) (hS : ∀ b, S b → b < w.heap.size)
   (hn : n ≤ 20) (hsl : ∀ s ∈ l,s.slots.length ≤ 40) :
   Calls Tryz.prog 8 #[.slice p n c] w fun e w' => ∃ v,e = .returned v ∧ rownS slE 28 w' w.heap.size v (mergeS (allS l)) ∧ Below w.heap.size w w':=by
 have hvl : vs.length = n:=(rarg_len hR).symm
 have hll : l.length = n:=by rw [← hI.1];exact hvl
 have HR:=Lh hR
 have HI:=Lh hI
 have HS:=Lh hS
 have HL:=Lh (And.intro hsl hll)
 have HVL:=Lh hvl
 have hmk1 : (Instr.makeSlice 25 (.int .i64 8192) (.int .i64 8192)).run Tryz.prog w = .ok (.slice (some ⟨w.heap.size,0,none⟩) 8192 8192) (w.alloc (.cells (madeCells #[.int .i64 0,.int .i64 0,.int .i64 0,.int .i64 0] 32768) 28)):=make_slots 8192 (Nat.le_refl _) w
 have hmk2 : ∀ W,(Instr.makeSlice 54 (.int .i64 8192) (.int .i64 8192)).run Tryz.prog W = .ok (.slice (some ⟨W.heap.size,0,none⟩) 8192 8192) (W.alloc (.cells (madeCells #[.bool false] 8192) 4)):=fun W => make_bits 8192 (Nat.le_refl _) W
 clear hR hI hS hsl hvl hll
 go_enter Tryz.func8,Tryz.ntmps8
 go_upto_region 3 with fail
 obtain ⟨w0,hw0⟩ : ∃ w0,(w.alloc (.cells (madeCells #[.int .i64 0,.int .i64 0,.int .i64 0,.int .i64 0] 32768) 28)).alloc (.cells (madeCells #[.bool false] 8192) 4) = w0:=⟨_,rfl⟩
 have HM0 : MSt w w0 (.slice none 0 0) []:=by rw [← hw0];exact MSt.made w
 rw [hw0]
 clear hw0 hmk1 hmk2
 obtain ⟨T1,hT1⟩ : ∃ T,w.heap.size = T:=⟨_,rfl⟩
 simp only [hT1]
 have HT:=Lh hT1
 clear hT1
 go_wp2
 go_loopw [5,6] (fun v i wr => ∃ (k : Nat),k ≤ n ∧ i = .int .i64 k ∧ MSt w wr v (allS (l.take k))) (fun _ i _ => n - (intOf i).toNat)
 case atStart => exact ⟨0,Nat.zero_le _,rfl,HM0⟩
 case round =>
   obtain ⟨k,hk,rfl,HM⟩:=hrel
   clear HM0
   by_cases hlk : k < n
   · have hbr:=HM.blw
     have hRr:=HR.out.below hbr
     obtain ⟨x,hx⟩ : ∃ x,vs[k]? = some x:=⟨_,List.getElem?_eq_getElem (by rw [HVL.out];exact hlk)⟩
     obtain ⟨g,off,rfl,hg,a0,a1,a2,a3,a4,a5,a6,a7,a8,a9,a10⟩:=sec_at HR.out k x hx
     have hkl : k < l.length:=by rw [HL.out.2];exact hlk
     have hSec:=HI.out.2 k x l[k] hx (List.getElem?_eq_getElem hkl)
     have hsn:=hSec.len
     have hsm : x.sn ≤ 40:=by rw [hsn];exact HL.out.1 _ (List.getElem_mem hkl)
     have HF0:=Lh (allS_take hkl)
     have HSL:=Lh (And.intro hsn hSec.slots)
     have hlen:=allS_le (l.take k) (fun s hs => HL.out.1 s (List.mem_of_mem_take hs))
     rw [List.length_take] at hlen
     have hkL:=HL.out.2
     obtain ⟨P,hP⟩ : ∃ P,allS (l.take k) = P:=⟨_,rfl⟩
     rw [hP] at HF0 HM hlen
     have hPl : P.length ≤ 800:=by omega
     obtain ⟨ss,hss⟩ : ∃ ss,l[k].slots = ss:=⟨_,rfl⟩
     rw [hss] at HF0 HSL
     have HA1:=Lh (fun (W : World) (hW : Below w.heap.size w W) => (hW.cell (p:=⟨g,off + k * 11 + 1,none⟩) hg).trans a1)
     have hgz:=HM.size
     have hgne : ¬ g = wr.heap.size:=by omega
     clear hRr hSec hsn hP hss hx hlen hkL a0 a1 a2 a3 a4 a5 a6 a7 a8 a9 a10
     obtain ⟨A0,sp,sn,sc,K,N,G,st,p1,n1,c1,p2,n2,c2,pv,hy,ow⟩:=x
     dsimp only at *
     obtain ⟨W1,rfl⟩ : ∃ W1,W1 = wr:=⟨_,rfl⟩
     have a1:=HA1.out _ hbr
     go_wp2
     go_loopw [5,7] (fun v j wr => ∃ (q : Nat),q ≤ sn ∧ j = .int .i64 q ∧ MSt w wr v (P ++ ss.take q)) (fun _ j _ => sn - (intOf j).toNat)
     case atStart => exact ⟨0,Nat.zero_le _,rfl,by simpa using HM⟩
     case round =>
       obtain ⟨q,hq,rfl,HM2⟩:=hrel
       clear HM a1 hbr
       have hbr:=HM2.blw
       have hgz2:=HM2.size
       have a1:=HA1.out _ hbr
       by_cases hlq : q < sn
       · have hqs : q < ss.length:=by rw [← HSL.out.1];exact hlq
         obtain ⟨g2,off2,rfl,hg2,e0,e1,e2,e3⟩:=slot_at HSL.out.2 q hqs
         have HTK:=Lh (List.take_succ_eq_append_getElem hqs)
         have kl:=fun o => hbr.cell (p:=⟨g2,o,none⟩) hg2
         replace e0:=(kl _).trans e0
         replace e1:=(kl _).trans e1
         replace e2:=(kl _).trans e2
         replace e3:=(kl _).trans e3
         obtain ⟨y,hy0⟩ : ∃ y,ss[q] = y:=⟨_,rfl⟩
         rw [hy0] at e0 e1 e2 e3 HTK
         obtain ⟨x0,x1,x2,x3⟩:=y
         dsimp only at e0 e1 e2 e3
         have hg2n : ¬ g2 = wr.heap.size:=by omega
         have hgn : ¬ g = wr.heap.size:=by omega
         clear kl hy0
         have hmx : (oddS (P ++ ss.take q)).length ≤ 100000:=by
           have h1:=odd_len (P ++ ss.take q)
           rw [List.length_append,List.length_take] at h1
           omega
         go_upto_region 11 with fail
         obtain ⟨w3,hw3⟩ : ∃ w3,wr.alloc (.cells #[.int .i64 x0,.int .i64 x1,.int .i64 x2,.int .i64 x3] 28) = w3:=⟨_,rfl⟩
         obtain ⟨gx,hgx⟩ : ∃ gx,wr.heap.size = gx:=⟨_,rfl⟩
         have hX3 : w3.heap[gx]? = some (.cells #[.int .i64 x0,.int .i64 x1,.int .i64 x2,.int .i64 x3] 28 (0,0)):=by rw [← hw3];exact heap_new_at _ _ _ hgx.symm
         have HM3 : MSt w w3 u5 (P ++ ss.take q):=by rw [← hw3];exact HM2.below bel
         have hT1:=HT.out
         have hgT : T1 + 2 ≤ gx:=by omega
         rw [hw3]
         simp only [hgx]
         clear hw3 e0 e1 e2 e3 a1 HM2 hgx hgz2 hbr hT1
         obtain ⟨e0,e1,e2,e3,ef⟩:=four_ofF hX3
         have hgl:=lt_of_block hX3
         cases ho : outN ⟨x0,x1,x2,x3⟩
         · obtain ⟨mm,rfl⟩ : ∃ mm : Nat,x0 = mm:=⟨x0.toNat,by unfold outN at ho;simp at ho;omega⟩
           have hm8 : mm < 8192:=by unfold outN at ho;simp at ho;omega
           have d1 : decide ((mm : Int) < 0) = false:=by simp
           have d2 : decide (8191 < (mm : Int)) = false:=by simp;omega
           have hT1:=HT.out
           have hbt:=HM3.bit.at mm hm8
           have hbf:=HM3.bit.fro mm
           rw [hT1] at hbt hbf
           have HO:=Lh ho
           clear ho hT1
           cases hme : (numF (mm : Int) (P ++ ss.take q)).isSome
           · rw [hme] at hbt
             have hfin:=HM3.new (a:=x1) (b:=x2) (c:=x3) hm8 hme
             rw [HT.out] at hfin
             have HFIN:=Lh hfin
             clear hfin hme
             go_upto_region 15 with fail
             obtain ⟨w4,hw4⟩ : ∃ w4,w3.setCell ⟨T1 + 1,mm,none⟩ (.bool true) = w4:=⟨_,rfl⟩
             have hX4 : w4.heap[gx]? = some (.cells #[.int .i64 mm,.int .i64 x1,.int .i64 x2,.int .i64 x3] 28 (0,0)):=by rw [← hw4,Below.heap_setCell _ _ _ _ (by show gx ≠ T1 + 1;omega)];exact hX3
             have hT4 : TabF w4 T1 8192 (firstN (P ++ ss.take q)):=by
               have h:=HM3.tab
               rw [HT.out] at h
               rw [← hw4]
               exact h.kept (Below.heap_setCell _ _ _ _ (by show T1 ≠ T1 + 1;omega))
             rw [hw4] at HFIN ⊢
             have HT4:=Lh hT4
             obtain ⟨f0,f1,f2,f3,r0,r1,r2,r3⟩:=hT4.four mm hm8
             obtain ⟨z0,hz0⟩ : ∃ z,(firstN (P ++ ss.take q) mm).num = z:=⟨_,rfl⟩
             obtain ⟨z1,hz1⟩ : ∃ z,(firstN (P ++ ss.take q) mm).kind = z:=⟨_,rfl⟩
             obtain ⟨z2,hz2⟩ : ∃ z,(firstN (P ++ ss.take q) mm).a = z:=⟨_,rfl⟩
             obtain ⟨z3,hz3⟩ : ∃ z,(firstN (P ++ ss.take q) mm).b = z:=⟨_,rfl⟩
             rw [hz0] at f0
             rw [hz1] at f1
             rw [hz2] at f2
             rw [hz3] at f3
             have hgx1 : ¬ gx = T1:=by omega
             have hgx2 : ¬ T1 = gx:=by omega
             have hgl4:=lt_of_block hX4
             clear hw4 hz0 hz1 hz2 hz3 hT4 hX3 e0 e1 e2 e3 ef hbt hbf HM3
             obtain ⟨e0,e1,e2,e3,ef⟩:=four_ofF hX4
             go_wp2_with fail
             go_roundw
             case rel => exact ⟨q + 1,by omega,by go_num,by rw [HTK.out,← List.append_assoc];exact HFIN.out⟩
             case measure => simp [intOf];omega
           · rw [hme] at hbt
             have HM4:=Lh (HM3.met HO.out hme)
             clear hme
             go_wp2_with fail
             go_roundw
             case rel => exact ⟨q + 1,by omega,by go_num,by rw [HTK.out,← List.append_assoc];exact HM4.out⟩
             case measure => simp [intOf];omega
         · have HODD:=Lh (fun (W : World) (hW : MSt w W u5 (P ++ ss.take q)) => odd_in W (w.heap.size + 2) u5 (oddS (P ++ ss.take q)) ⟨x0,x1,x2,x3⟩ hW.oth (odd_up _) hW.size hmx)
           have HO:=Lh ho
           rcases (show x0 < 0 ∨ (¬ x0 < 0 ∧ 8191 < x0) from by unfold outN at ho;simp at ho;omega) with h0 | ⟨h0,h1⟩
           · have d1 : decide (x0 < 0) = true:=by simpa using h0
             clear h0 ho
             go_wp2_with fail
             refine (HODD.out w3 HM3).mono ?_
             rintro e w5 ⟨v5,rfl,hr5,hk5,hb5⟩
             have HM5:=Lh (HM3.out HO.out hr5 hb5)
             clear hr5 hk5 hb5 HODD
             go_wp2_with fail
             go_roundw
             case rel => exact ⟨q + 1,by omega,by go_num,by rw [HTK.out,← List.append_assoc];exact HM5.out⟩
             case measure => simp [intOf];omega
           · have d1 : decide (x0 < 0) = false:=by simpa using h0
             have d2 : decide (8191 < x0) = true:=by simpa using h1
             clear h0 h1 ho
             go_wp2_with fail
             refine (HODD.out w3 HM3).mono ?_
             rintro e w5 ⟨v5,rfl,hr5,hk5,hb5⟩
             have HM5:=Lh (HM3.out HO.out hr5 hb5)
             clear hr5 hk5 hb5 HODD
             go_wp2_with fail
             go_roundw
             case rel => exact ⟨q + 1,by omega,by go_num,by rw [HTK.out,← List.append_assoc];exact HM5.out⟩
             case measure => simp [intOf];omega
       · have hqn : q = sn:=by omega
         subst hqn
         have HM6 : MSt w wr u5 (allS (l.take (k + 1))):=by
           rw [HF0.out]
           rw [List.take_of_length_le (by rw [← HSL.out.1];exact Nat.le_refl _)] at HM2
           exact HM2
         clear HM2
         go_wp2_with fail
         go_roundw
         case rel => exact ⟨k + 1,by omega,by go_num,HM6⟩
         case measure => simp [intOf];omega
   · have hkn : k = n:=by omega
     subst hkn
     have HM6 : MSt w wr u5 (allS l):=by
       rw [List.take_of_length_le (by rw [HL.out.2];exact Nat.le_refl _)] at HM
       exact HM
     clear HM
     obtain ⟨W,rfl⟩ : ∃ W,W = wr:=⟨_,rfl⟩
     have HW:=Lh HM6
     obtain ⟨p5,c5,hu5⟩:=rown_slice HM6.oth
     subst hu5
     obtain ⟨O,hO⟩ : ∃ O,oddS (allS l) = O:=⟨_,rfl⟩
     have hR5 : RArg slE W (.slice p5 (oddS (allS l)).length c5) (oddS (allS l)):=rownS.arg HM6.oth
     have hN8 : (oddS (allS l)).length ≤ 800:=by
       have h1:=odd_len (allS l)
       have h2:=allS_le l HL.out.1
       rw [HL.out.2] at h2
       omega
     rw [hO] at hR5 hN8
     simp only [hO]
     obtain ⟨N,hN⟩ : ∃ N,O.length = N:=⟨_,rfl⟩
     rw [hN] at hR5 hN8
     simp only [hN]
     have HNO:=Lh (And.intro hO hN)
     have hz:=HM6.size
     have HR5:=Lh (fun (X : World) (hX : Below W.heap.size W X) => hR5.below hX)
     clear HM6 hO hN hR5
     go_upto_block 4 with fail
     go_cut [9,10] from 65 to 85 (fun v i wc => rownS slE 28 wc W.heap.size v (lowO (allS l)) ∧ Below W.heap.size W wc)
     case first =>
       go_wp2_with fail
       go_loopw [9,10] (fun v i wr => ∃ j : Nat,j ≤ N ∧ i = .int .i64 j ∧ rownS slE 28 wr W.heap.size v (O.take j) ∧ Below W.heap.size W wr ∧ Hid (∀ x ∈ O.take j,x.num < 0)) (fun _ i _ => N - (intOf i).toNat)
       case atStart => exact ⟨0,Nat.zero_le _,rfl,rownS_nil _ _,Below.refl _ _,Lh (fun x hx => by simp at hx)⟩
       case round =>
         obtain ⟨j,hj,rfl,hrow,hbr,HT3⟩:=hrel
         have hzr:=hbr.size
         by_cases hjN : j < N
         · have hjO : j < O.length:=by rw [HNO.out.2];exact hjN
           obtain ⟨g,off,rfl,hg,e0,e1,e2,e3⟩:=slot_at (HR5.out wr hbr) j hjO
           have HTK:=Lh (List.take_succ_eq_append_getElem hjO)
           obtain ⟨⟨x0,x1,x2,x3⟩,hy0⟩ : ∃ y,O[j] = y:=⟨_,rfl⟩
           have HY:=Lh hy0
           rw [hy0] at e0 e1 e2 e3 HTK
           dsimp only at e0 e1 e2 e3
           have hmemj : ∀ y ∈ O.take j,y.num < 0:=HT3.out
           clear hy0
           cases hx0 : decide (x0 < 0)
           · have HLOW := Lib.hid (show O.take j = lowO (allS l) from by
               have h:=@low_end (allS l) j (by rw [HNO.out.1];exact HT3.out) (by rw [HNO.out.1];omega) (fun hk => by
                 have h1 : (oddS (allS l))[j] = O[j]:=by simp only [HNO.out.1]
                 rw [h1,HY.out];simpa using hx0)
               rwa [HNO.out.1] at h)
             go_wp2_with fail
             go_meet
             exact ⟨by rw [← HLOW.out];exact hrow,hbr⟩
           · have HT4 := Lib.hid (show ∀ y ∈ O.take (j + 1), y.num < 0 from by
               rw [HTK.out]
               intro y hy
               rcases List.mem_append.1 hy with h | h
               · exact HT3.out y h
               · simp at h;subst h;simpa using hx0)
             have hlen : (O.take j).length = j:=by rw [List.length_take];omega
             have hj1 : j ≤ 1000000000:=by omega
             clear hmemj
             go_wp2_with (at_builtin;go_must (refine rappend (E:=slE) rfl _ _ rfl Tryz.underlying25 Tryz.infoSlt rfl (by decide) (by decide) W.heap.size _ (O.take j) ⟨x0,x1,x2,x3⟩ hrow rfl rfl (by rw [hlen];exact hj1) hzr ?_);intro p2 q2 w2 hown2 hb2 hz2 _)
             go_roundw
             case rel => exact ⟨j + 1,by omega,by go_num,by rw [HTK.out];have h:=hown2;rw [hlen] at h;exact h,hbr.trans hb2,HT4⟩
             case measure => simp [intOf];omega
         · have hjn : j = N:=by omega
           subst hjn
           have HLOW:=Lh (show O.take j = lowO (allS l) from by
             have h:=@low_end (allS l) j (by rw [HNO.out.1];exact HT3.out) (by rw [HNO.out.1,HNO.out.2];exact Nat.le_refl _) (fun hk => by
               simp only [HNO.out.1] at hk
               have:=HNO.out.2
               omega)
             rwa [HNO.out.1] at h)
           go_wp2_with fail
           go_meet
           exact ⟨by rw [← HLOW.out];exact hrow,hbr⟩
     case rest =>
       obtain ⟨hrow3,hbc⟩:=hcut
       obtain ⟨L,hL⟩ : ∃ L,allS l = L:=⟨_,rfl⟩
       have hlow : (lowO L).length ≤ 800:=by
         rw [← hL]
         unfold lowO
         rw [HNO.out.1]
         exact Nat.le_trans (List.takeWhile_sublist _).length_le (by rw [HNO.out.2];exact hN8)
       rw [hL] at HW HNO hrow3
       have HLL:=Lh hL
       clear hL
       go_wp2_with fail
       go_loopw [9,11] (fun v i wr => ∃ j : Nat,j ≤ 8192 ∧ i = .int .i64 j ∧ rownS slE 28 wr W.heap.size v (lowO L ++ midS L j) ∧ Below W.heap.size W wr) (fun _ i _ => 8192 - (intOf i).toNat)
       case atStart => exact ⟨0,Nat.zero_le _,rfl,by simpa [midS] using hrow3,hbc⟩
       case round =>
         clear hrow3 hbc
         obtain ⟨j,hj,rfl,hrow,hbr⟩:=hrel
         have hzr:=hbr.size
         by_cases hj8 : j < 8192
         · have hM:=HW.out.below hbr
           have hbt:=hM.bit.at j hj8
           have hT1:=HT.out
           rw [hT1] at hbt
           have d1 : decide ((j : Int) ≤ 8191) = true:=by simp;omega
           cases hme : (numF (j : Int) L).isSome
           · rw [hme] at hbt
             have HMS:=Lh (show midS L (j + 1) = midS L j from by
               rw [midS_succ]
               cases h : numF (j : Int) L with
               | none => simp
               | some y => rw [h] at hme;cases hme)
             clear hme hM hT1
             go_wp2_with fail
             go_roundw
             case rel => exact ⟨j + 1,by omega,by go_num,by rw [HMS.out];exact hrow,hbr⟩
             case measure => simp [intOf];omega
           · rw [hme] at hbt
             have HMS:=Lh (show midS L (j + 1) = midS L j ++ [firstN L j] from by
               rw [midS_succ,rows_mem hme])
             have hlen : (lowO L ++ midS L j).length ≤ 1000000000:=by
               rw [List.length_append]
               have:=List.length_filterMap_le (fun n : Nat => numF (n : Int) L) (List.range j)
               rw [List.length_range] at this
               unfold midS
               omega
             have hT:=hM.tab
             rw [hT1] at hT
             obtain ⟨f0,f1,f2,f3,_⟩:=hT.four j hj8
             obtain ⟨⟨x0,x1,x2,x3⟩,hx⟩ : ∃ x,firstN L j = x:=⟨_,rfl⟩
             rw [hx] at f0 f1 f2 f3 HMS
             dsimp only at f0 f1 f2 f3
             obtain ⟨A,hA⟩ : ∃ A,lowO L ++ midS L j = A:=⟨_,rfl⟩
             rw [hA] at hlen hrow
             have HA:=Lh hA
             have hT1l : T1 < wr.heap.size:=by omega
             clear hme hM hT1 hT hx hA
             go_wp2_with (at_builtin;go_must (refine rappend (E:=slE) rfl _ _ rfl Tryz.underlying25 Tryz.infoSlt rfl (by decide) (by decide) W.heap.size _ A ⟨x0,x1,x2,x3⟩ hrow rfl rfl hlen hzr ?_);intro p2 q2 w2 hown2 hb2 hz2 _)
             go_roundw
             case rel => exact ⟨j + 1,by omega,by go_num,by rw [HMS.out,← List.append_assoc,HA.out];exact hown2,hbr.trans hb2⟩
             case measure => simp [intOf];omega
         · have hj2 : j = 8192:=by omega
           subst hj2
           go_wp2_with fail
           go_loopw [9,12] (fun v i wr => ∃ j : Nat,j ≤ N ∧ i = .int .i64 j ∧ rownS slE 28 wr W.heap.size v (lowO L ++ midS L 8192 ++ (O.take j).filter fun x => decide (8191 < x.num)) ∧ Below W.heap.size W wr) (fun _ i _ => N - (intOf i).toNat)
           case atStart => exact ⟨0,Nat.zero_le _,rfl,by simpa using hrow,hbr⟩
           case round =>
             clear hrow hbr hzr
             obtain ⟨j,hj,rfl,hrow,hbr⟩:=hrel
             have hzr:=hbr.size
             by_cases hjN : j < N
             · have hjO : j < O.length:=by rw [HNO.out.2];exact hjN
               obtain ⟨g,off,rfl,hg,e0,e1,e2,e3⟩:=slot_at (HR5.out wr hbr) j hjO
               have HTK:=Lh (List.take_succ_eq_append_getElem hjO)
               obtain ⟨⟨x0,x1,x2,x3⟩,hy0⟩ : ∃ y,O[j] = y:=⟨_,rfl⟩
               rw [hy0] at e0 e1 e2 e3 HTK
               dsimp only at e0 e1 e2 e3
               clear hy0
               cases hx0 : decide (8191 < x0)
               · have HF := Lib.hid (show ((O.take (j + 1)).filter fun x => decide (8191 < x.num)) = (O.take j).filter fun x => decide (8191 < x.num) from by
                   rw [HTK.out,List.filter_append]
                   simp [hx0])
                 go_wp2_with fail
                 go_roundw
                 case rel => exact ⟨j + 1,by omega,by go_num,by rw [HF.out];exact hrow,hbr⟩
                 case measure => simp [intOf];omega
               · have HF := Lib.hid (show ((O.take (j + 1)).filter fun x => decide (8191 < x.num)) = ((O.take j).filter fun x => decide (8191 < x.num)) ++ [⟨x0, x1, x2, x3⟩] from by
                   rw [HTK.out,List.filter_append]
                   congr 1
                   simp [hx0])
                 have hlen : (lowO L ++ midS L 8192 ++ (O.take j).filter fun x => decide (8191 < x.num)).length ≤ 1000000000:=by
                   rw [List.length_append,List.length_append]
                   have h1:=List.length_filterMap_le (fun n : Nat => numF (n : Int) L) (List.range 8192)
                   rw [List.length_range] at h1
                   have h2:=List.length_filter_le (fun x : Sl => decide (8191 < x.num)) (O.take j)
                   rw [List.length_take] at h2
                   unfold midS
                   omega
                 obtain ⟨A,hA⟩ : ∃ A,lowO L ++ midS L 8192 ++ ((O.take j).filter fun x => decide (8191 < x.num)) = A:=⟨_,rfl⟩
                 rw [hA] at hlen hrow
                 have HA:=Lh hA
                 clear hA
                 go_wp2_with (at_builtin;go_must (refine rappend (E:=slE) rfl _ _ rfl Tryz.underlying25 Tryz.infoSlt rfl (by decide) (by decide) W.heap.size _ A ⟨x0,x1,x2,x3⟩ hrow rfl rfl hlen hzr ?_);intro p2 q2 w2 hown2 hb2 hz2 _)
                 go_roundw
                 case rel =>
                   (repeat apply Exists.intro)
                   refine ⟨?_,rfl⟩
                   exact ⟨j + 1,by omega,by go_num,by rw [HF.out,← List.append_assoc,HA.out];exact hown2,hbr.trans hb2⟩
                 case measure => simp [intOf];omega
             · have hjn : j = N:=by omega
               subst hjn
               have HFIN:=Lh (show lowO L ++ midS L 8192 ++ ((O.take j).filter fun x => decide (8191 < x.num)) = mergeS (allS l) from by
                 rw [List.take_of_length_le (by rw [HNO.out.2];exact Nat.le_refl _),HLL.out,← merge_ref L,List.append_assoc]
                 unfold highO
                 rw [HNO.out.1])
               have hzw:=(HW.out.blw).size
               go_wp2_with fail
               go_ret
               exact ⟨_,rfl,by rw [← HFIN.out];exact hrow.low hzw,HW.out.blw.trans (hbr.mono hzw)⟩
end Go.Proofs.YtinafodpgjbedaaGreatDoor
