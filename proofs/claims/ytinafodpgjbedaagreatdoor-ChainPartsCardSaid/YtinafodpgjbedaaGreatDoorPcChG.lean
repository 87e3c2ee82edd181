/- Parts of the proof: ChG. -/
import Derived.Test.YtinafodpgjbedaaGreatDoorPck
set_option linter.all false
set_option maxRecDepth 100000
set_option maxHeartbeats 8000000
namespace Go.Proofs.YtinafodpgjbedaaGreatDoor
open Go.RowKit Fo Go.Maps
theorem allS_len (l : List Sec) (h : ∀ s ∈ l,s.slots.length ≤ 40) : (allS l).length ≤ l.length * 40:=by
 induction l with
 | nil => exact Nat.zero_le _
 | cons s l ih =>
   have h1:=h s (by simp)
   have h2:=ih fun t ht => h t (by simp [ht])
   show (s.slots ++ allS l).length ≤ _
   rw [List.length_append,List.length_cons];omega
theorem merge_up (l : List Sl) : (mergeS l).Pairwise fun a b => a.num < b.num:=(mergeS_ok l).1
theorem merge_mem {l : List Sl} {x : Sl} (h : x ∈ mergeS l) : x ∈ l:=by
 have h3 : numF x.num (mergeS l) = some x:=nod_num ((merge_up l).imp (fun h => by omega)) h
 rw [(mergeS_ok l).2] at h3
 exact (numF_some h3).1
theorem insS_len (l : List Sl) (x : Sl) : (insS l x).length ≤ l.length + 1:=by
 induction l with
 | nil => simp [insS]
 | cons y l ih =>
   unfold insS
   split
   · simp;exact ih
   · split <;> simp
theorem merge_len (l : List Sl) : (mergeS l).length ≤ l.length:=by
 have key : ∀ (l acc : List Sl),(l.foldl insS acc).length ≤ acc.length + l.length:=by
   intro l
   induction l with
   | nil => intro acc;simp
   | cons x l ih =>
     intro acc
     have h1:=ih (insS acc x)
     have h2:=insS_len acc x
     simp only [List.foldl_cons,List.length_cons]
     omega
 have:=key l []
 simpa [mergeS] using this
theorem allS_mem {l : List Sec} {x : Sl} (h : x ∈ allS l) : ∃ s ∈ l,x ∈ s.slots:=by
 unfold allS at h
 simpa using h
theorem find_step {l : List Sec} {j : Nat} {X : Int} (hj : j < l.length) (h : (l.take j).findSome? (fun s => numF X s.slots) = none) :
   (∀ y,numF X l[j].slots = some y → l.findSome? (fun s => numF X s.slots) = some y) ∧ (numF X l[j].slots = none → (l.take (j + 1)).findSome? (fun s => numF X s.slots) = none):=by
 refine ⟨fun y hy => ?_,fun hn => ?_⟩
 · have e : (l.take j ++ (l[j] :: l.drop (j + 1))).findSome? (fun s => numF X s.slots) = some y:=by rw [List.findSome?_append,h];simp only [Option.none_or,List.findSome?_cons,hy]
   rw [List.getElem_cons_drop,List.take_append_drop] at e
   exact e
 · rw [List.take_succ_eq_append_getElem hj,List.findSome?_append,h]
   simp [hn]
theorem find_merge {l : List Sec} {i : Nat} (hi : i < (mergeS (allS l)).length) : l.findSome? (fun s => numF ((mergeS (allS l))[i]).num s.slots) = some (mergeS (allS l))[i]:=by
 rw [← num_all,← (mergeS_ok (allS l)).2]
 exact nod_num ((merge_up (allS l)).imp (fun h => by omega)) (List.getElem_mem hi)
theorem four_off {w : World} {b : Nat} {t : TypeId} {v0 v1 v2 v3 : Value} (h : w.heap[b]? = some (.cells #[v0, v1, v2, v3] t (0, 0))) :
   w.cell? ⟨b,0,none⟩ = some v0 ∧ w.cell? ⟨b,1,none⟩ = some v1 ∧ w.cell? ⟨b,2,none⟩ = some v2 ∧ w.cell? ⟨b,3,none⟩ = some v3 ∧ ∀ o,w.frozen? ⟨b,o,none⟩ = false:=by
 simp [World.cell?,World.frozen?,h]
theorem set4 {w : World} {b : Nat} {t : TypeId} {u0 u1 u2 u3 : Value} (h : w.heap[b]? = some (.cells #[u0, u1, u2, u3] t (0, 0))) (v0 v1 v2 v3 : Value) :
   ((((w.setCell ⟨b,0,none⟩ v0).setCell ⟨b,1,none⟩ v1).setCell ⟨b,2,none⟩ v2).setCell ⟨b,3,none⟩ v3).heap[b]? = some (.cells #[v0,v1,v2,v3] t (0,0)):=by
 rw [set_any (set_any (set_any (set_any h)))];simp only [List.setIfInBounds_toArray,List.set_cons_succ,List.set_cons_zero]
theorem allS_append (a b : List Sec) : allS (a ++ b) = allS a ++ allS b:=by unfold allS;rw [List.flatMap_append]
theorem row_one {α : Type} {E : Enc α} {t : TypeId} {w w' : World} {x : α} (hk0 : 0 < E.k) (h : w'.heap[w.heap.size]? = some (.cells (E.cells x).toArray t (0,0))) : rownS E t w' w.heap.size (.slice (some ⟨w.heap.size,0,none⟩) 1 1) [x]:=by
 have e : E.row [x] = E.cells x:=by simp [Enc.row]
 refine ⟨by rw [e,E.len];simp,.inr ⟨w.heap.size,1,(E.cells x).toArray,rfl,Nat.le_refl _,h,Nat.le_refl _,by unfold maxLen;omega,by simp [E.len],?_⟩⟩
 rw [e]
 simp [List.take_of_length_le,E.len]
theorem chainParts_in (S : Nat → Prop) (d : Nat) (w : World) (p : Option Addr) (n c : Nat) (vs : List SecV) (l : List Sec) (a : Nat) (hR : RArg encSec w (.slice p n c) vs) (hI : SecsIs S (d + 1) w vs l) (hS : ∀ b, S b → b < w.heap.size)
   (hsm : ∀ s ∈ l,smallO (d + 1) s.trail) (hwf : ∀ s ∈ l,∀ x ∈ s.slots,(Lit.int .i64 x.num).wf = true) (hnc : n ≤ c) (hc : c ≤ maxLen) (hp : p = none → c = 0) (ha : a < 256) (m : Int) (hm : MaxW w m) :
   Calls Tryz.prog 4 #[.slice p n c,.int .u8 a] w fun e w' => e = .returned (.bool true) ∧ Below w.heap.size w w':=by
 have hmx : n ≤ 9223372036854775807:=by unfold maxLen at hc;omega
 have hvl : vs.length = n:=(rarg_len hR).symm
 have hll : l.length = n:=by rw [← hI.1];exact hvl
 have HLI:=Lh (light_in S (d + 1) w p n c vs l hR hI hS hsm hmx)
 have HL:=Lh (fun (W : World) (hW : MaxW W m) => lives_in W m hW)
 go_enter Tryz.func4,Tryz.ntmps4
 go_wp2_with fail
 refine HLI.out.mono ?_
 rintro e w1 ⟨rfl | ⟨rfl,hn20,hs40⟩,hb1⟩
 · have hz1:=hb1.size
   go_wp2_with fail
   refine (HL.out _ (hm.below hb1)).mono ?_
   rintro e w2 ⟨rfl,hb2⟩
   go_wp2
   go_ret
   exact ⟨rfl,hb1.trans (hb2.mono hz1)⟩
 · have hz1:=hb1.size
   have HR:=Lh (fun (W : World) (hW : Below w1.heap.size w1 W) => (hR.below hb1).below hW)
   have HI:=Lh (fun (W : World) (hW : Below w1.heap.size w1 W) => (hI.below hS hb1).below (fun b h => Nat.lt_of_lt_of_le (hS b h) hz1) hW)
   have HW:=Lh (And.intro hwf (And.intro hs40 (And.intro hvl (And.intro hll hS))))
   have hm1:=hm.below hb1
   clear hR hI hS hsm hwf hs40 hvl hll HLI hm
   obtain ⟨k,hk⟩ : ∃ k,a % (n + 1) = k:=⟨_,rfl⟩
   have hkn : k ≤ n:=by have:=Nat.mod_lt a (show 0 < n + 1 by omega);omega
   have hkm : (a : Int).tmod ((n : Int) + 1) = (k : Int):=by
     rw [← hk]
     have : ((n : Int) + 1) = ((n + 1 : Nat) : Int):=by push_cast;rfl
     rw [this]
     exact rfl
   go_upto_region 4 with fail
   have hA : (allS l).length ≤ 800:=by have:=allS_len l HW.out.2.1;rw [HW.out.2.2.2.1] at this;omega
   go_wp2_with fail
   refine (merge_in S (d + 1) w1 p n c vs l (HR.out _ (Below.refl _ _)) (HI.out _ (Below.refl _ _)) (fun b h => Nat.lt_of_lt_of_le (HW.out.2.2.2.2 b h) hz1) (by omega) (fun s hs => by have:=HW.out.2.1 s hs;omega) HW.out.1).mono ?_
   rintro e w2 ⟨v,rfl,hrow,hb2⟩
   have hz2:=hb2.size
   obtain ⟨vp,vc,rfl⟩:=rown_slice hrow
   have HV:=Lh (fun (W : World) (hW : Below w2.heap.size w2 W) => (rownS.arg hrow).below hW)
   obtain ⟨M,hM⟩ : ∃ M,mergeS (allS l) = M:=⟨_,rfl⟩
   rw [hM] at HV
   simp only [hM]
   obtain ⟨N,hN⟩ : ∃ N,M.length = N:=⟨_,rfl⟩
   simp only [hN]
   rw [hN] at HV
   have hN8 : N ≤ 800:=by rw [← hN,← hM];exact Nat.le_trans (merge_len _) hA
   clear hrow hA
   go_upto_region 5 with fail
   go_cut [7] from 25 to 34 (fun s7 wc => ∃ (q : Option Addr) (qc : Nat) (kp : Option Addr) (K kc : Nat),s7 = .slice q (n - k + 1) qc ∧ Hid (RArg encSec wc (.slice q (n - k + 1) qc) (⟨0,kp,K,kc,0,0,0,⟨#[]⟩,none,0,0,none,0,0,0,0,0⟩ :: vs.drop k)) ∧ Hid (K = (mergeS (allS (l.take k))).length ∧ RArg slE wc (.slice kp K kc) (mergeS (allS (l.take k)))) ∧ Below w2.heap.size w2 wc)
   case first =>
     have HMK:=Lh (fun (W : World) (hW : Below w2.heap.size w2 W) => merge_in S (d + 1) W p k c (vs.take k) (l.take k) ((HR.out _ (hb2.trans (hW.mono hz2))).take k hkn c) ((HI.out _ (hb2.trans (hW.mono hz2))).take k) (fun b h => by have:=HW.out.2.2.2.2 b h;have:=hW.size;omega) (by omega) (fun s hs => by have:=HW.out.2.1 s (List.mem_of_mem_take hs);omega) (fun s hs => HW.out.1 s (List.mem_of_mem_take hs)))
     obtain ⟨MK,hMK⟩ : ∃ MK,mergeS (allS (l.take k)) = MK:=⟨_,rfl⟩
     simp only [hMK] at HMK ⊢
     have HMKE:=Lh hMK
     clear HV hM hMK
     have HB2:=Lh (Below.refl w2.heap.size w2)
     have hkc : k ≤ c:=by omega
     obtain ⟨xp,hxp⟩ : ∃ xp,(if c = k then p else Option.map (fun x => x.add (k * 11)) p) = xp:=⟨_,rfl⟩
     have HXP:=Lh (fun (W : World) (hW : Below w2.heap.size w2 W) => show RArg encSec W (.slice xp (n - k) (c - k)) (vs.drop k) from by
       have h:=HR.out W (hb2.trans (hW.mono hz2))
       by_cases hkn2 : k < n
       · obtain ⟨x,hx⟩ : ∃ x,vs[k]? = some x:=⟨_,List.getElem?_eq_getElem (by rw [HW.out.2.2.1];exact hkn2)⟩
         obtain ⟨g,off,rfl,_⟩:=sec_at h k x hx
         rw [← hxp,if_neg (by omega)]
         have hd:=h.drop k hkn (c - k)
         show RArg encSec W (.slice (some ((⟨g,off,none⟩ : Addr).add (k * 11))) (n - k) (c - k)) _
         rw [add_none]
         exact hd
       · have e : n - k = 0:=by omega
         have e2 : vs.drop k = []:=List.drop_eq_nil_of_le (by rw [HW.out.2.2.1];omega)
         rw [e,e2]
         exact ⟨xp,c - k,rfl,fun j hj => absurd hj (by simp)⟩)
     have HDL:=Lh (show (vs.drop k).length = n - k by rw [List.length_drop,HW.out.2.2.1])
     refine wp_region_noPanic ?_
     by_cases hkn2 : k < n
     · go_region_law (first
         | (go_simp;go_at_call 7;refine (HMK.out _ (by first | exact HB2.out | exact HB2.out.drew | exact HB2.out.drew.drew)).mono ?_;rintro e w3 ⟨v3,rfl,hrow3,hb3⟩;obtain ⟨kp,kc,rfl⟩:=rown_slice hrow3;replace HB2 : Hid (Below w2.heap.size w2 w3):=Lh ((show Below w2.heap.size w2 _ from by first | exact HB2.out | exact HB2.out.drew | exact HB2.out.drew.drew).trans (Below.mono hb3 (by first | exact Nat.le_refl _ | (simp;done))));have HRK:=Lh (rownS.arg hrow3);clear hrow3 hb3)
         | (refine rappendT (E:=encSec) (by rfl) _ _ (by rfl) Tryz.underlying22 Tryz.infoSec rfl (by decide) (by decide) w3.heap.size (.slice (some ⟨w3.heap.size,0,none⟩) 1 1) (.slice xp (n - k) (c - k)) [⟨0,kp,MK.length,kc,0,0,0,⟨#[]⟩,none,0,0,none,0,0,0,0,0⟩] (vs.drop k) (row_one (by decide) (heap_alloc_new _ _)) (by rfl) (by rfl) (HXP.out _ (by first | exact HB2.out.alloc HB2.out.size _ | exact (HB2.out.drew).alloc HB2.out.size _)) (by rw [HDL.out];omega) (by rw [HDL.out];simp;omega) (by simp) ?_;intro q qc w5 hr5 hb5 hg5))
       all_goals refine NoPanic.normal ?_
       all_goals go_wp2_with fail
       all_goals go_meet
       all_goals
         have hl3 : 1 + (vs.length - k) = n - k + 1:=by rw [HW.out.2.2.1];omega
         rw [hl3]
         refine ⟨q,qc,kp,MK.length,kc,rfl,Lh ?_,Lh ⟨by rw [HMKE.out],?_⟩,?_⟩
         · have h:=rownS.arg hr5
           rw [HDL.out,Nat.add_comm] at h
           exact h
         · rw [HMKE.out];exact HRK.out.below (Below.trans bel hb5)
         · exact (HB2.out.alloc HB2.out.size _).trans (hb5.mono HB2.out.size)
     · obtain rfl : k = n:=by omega
       have hkk : k - k = 0:=by omega
       rw [hkk] at HXP HDL
       have HD0:=Lh (show vs.drop k = [] from List.eq_nil_of_length_eq_zero HDL.out)
       rcases xp with _ | ad
       all_goals go_region_law (go_simp;go_at_call 7;refine (HMK.out _ (by first | exact HB2.out | exact HB2.out.drew | exact HB2.out.drew.drew)).mono ?_;rintro e w3 ⟨v3,rfl,hrow3,hb3⟩;obtain ⟨kp,kc,rfl⟩:=rown_slice hrow3;replace HB2 : Hid (Below w2.heap.size w2 w3):=Lh ((show Below w2.heap.size w2 _ from by first | exact HB2.out | exact HB2.out.drew | exact HB2.out.drew.drew).trans (Below.mono hb3 (by first | exact Nat.le_refl _ | (simp;done))));have HRK:=Lh (rownS.arg hrow3);clear hrow3 hb3)
       all_goals refine NoPanic.normal ?_
       all_goals go_wp2_with fail
       all_goals go_meet
       all_goals
         refine ⟨some ⟨w3.heap.size,0,none⟩,1,kp,MK.length,kc,by rw [hkk],Lh ?_,Lh ⟨by rw [HMKE.out],?_⟩,?_⟩
         · rw [hkk,HD0.out]
           exact rownS.arg (row_one (E:=encSec) (t:=40) (x:=⟨0,kp,MK.length,kc,0,0,0,⟨#[]⟩,none,0,0,none,0,0,0,0,0⟩) (by decide) (heap_alloc_new w3 _))
         · rw [HMKE.out];exact HRK.out.below bel
         · exact HB2.out.alloc HB2.out.size _
   case rest =>
     obtain ⟨q,qc,kp,K,kc,rfl,HQ,HK,hb3⟩:=hcut
     obtain ⟨w3,rfl⟩ : ∃ w3,w3 = wc:=⟨_,rfl⟩
     have hz3:=hb3.size
     have hb13:=hb2.trans (hb3.mono hz2)
     have hQl : n - k + 1 ≤ 1000:=by omega
     have hKl : K ≤ 800:=by
       rw [HK.out.1]
       refine Nat.le_trans (merge_len _) ?_
       have:=allS_len (l.take k) (fun s hs => HW.out.2.1 s (List.mem_of_mem_take hs))
       rw [List.length_take] at this
       have:=HW.out.2.2.2.1
       omega
     have hAll : mergeS (allS (⟨0,mergeS (allS (l.take k)),.mk 0 0 0 [] [] [],0,0,0⟩ :: l.drop k)) = M:=by
       rw [← hM]
       show mergeS (mergeS (allS (l.take k)) ++ allS (l.drop k)) = _
       rw [merge_two,← allS_append,List.take_append_drop]
     have hx : SecIs (fun b => b < w3.heap.size) (d + 1) w3 ⟨0,kp,K,kc,0,0,0,⟨#[]⟩,none,0,0,none,0,0,0,0,0⟩ ⟨0,mergeS (allS (l.take k)),.mk 0 0 0 [] [] [],0,0,0⟩ :=
       ⟨rfl,rfl,rfl,rfl,HK.out.1,HK.out.2,⟨_,_,rfl,.inl ⟨rfl,_,_,rfl⟩,.inl ⟨rfl,_,_,rfl⟩⟩⟩
     have HM2:=Lh (merge_in (fun b => b < w3.heap.size) (d + 1) w3 q (n - k + 1) qc _ _ HQ.out (SecsIs.cons hx (((HI.out _ hb13).drop k).weaken (fun b _ h => h))) (fun b h => h) hQl
       (fun s hs => by
         rcases List.mem_cons.1 hs with rfl | hs
         · have:=HK.out.1;dsimp only;omega
         · have:=HW.out.2.1 s (List.mem_of_mem_drop hs);omega)
       (fun s hs x hx => by
         rcases List.mem_cons.1 hs with rfl | hs
         · obtain ⟨s',hs',hx'⟩:=allS_mem (merge_mem hx)
           exact HW.out.1 s' (List.mem_of_mem_take hs') x hx'
         · exact HW.out.1 s (List.mem_of_mem_drop hs) x hx))
     rw [hAll] at HM2
     have HME:=Lh hM
     clear hx hAll HK HQ hM
     go_wp2_with fail
     refine HM2.out.mono ?_
     rintro e w4 ⟨v4,rfl,hrow4,hb4⟩
     have hz4:=hb4.size
     have hb24:=hb3.trans (hb4.mono hz3)
     have hR4:=rownS.arg hrow4
     obtain ⟨p4,c4,rfl⟩:=rown_slice hrow4
     rw [hN] at hR4
     simp only [hN]
     have HKS:=Lh (kslots _ _ M w4 hR4 (HV.out _ hb24) (by omega))
     clear HM2 hrow4 hR4 hb3 hb4
     go_wp2_with fail
     refine HKS.out.mono ?_
     rintro e w5 ⟨rfl,hb5⟩
     have hb25:=hb24.trans (hb5.mono (by omega))
     clear HKS hb24 hb5
     go_wp2_with fail
     go_loopw [8] (fun i wr => ∃ (k' : Nat),k' ≤ N ∧ i = .int .i64 k' ∧ Below w2.heap.size w2 wr) (fun i _ => N - (intOf i).toNat)
     case atStart => exact ⟨0,Nat.zero_le _,rfl,hb25⟩
     case round =>
       obtain ⟨i,hi,rfl,hbr⟩:=hrel
       clear hb25
       by_cases hiN : i < N
       · have hiM : i < M.length:=by rw [hN];exact hiN
         go_upto_region 11 with fail
         go_cut [61] from 46 to 61 (fun v wx => v = .bool false ∧ Below w2.heap.size w2 wx)
         case first =>
           rcases i with _ | j
           · go_quiet (fail)
             all_goals go_wp2_with fail
             all_goals go_meet
             all_goals exact ⟨rfl,belowDrewN hbr _⟩
           · have hRr:=HV.out wr hbr
             have hup:=merge_up (allS l)
             rw [HME.out] at hup
             have hlt:=List.pairwise_iff_getElem.1 hup j (j + 1) (by omega) hiM (by omega)
             obtain ⟨g,off,rfl,hg,f0,_⟩:=slot_at hRr (j + 1) hiM
             obtain ⟨g',off',e,_,e0,_⟩:=slot_at hRr j (by omega)
             cases e
             obtain ⟨X,hX⟩ : ∃ X,M[j + 1].num = X:=⟨_,rfl⟩
             obtain ⟨Y,hY⟩ : ∃ Y,M[j].num = Y:=⟨_,rfl⟩
             rw [hX] at f0 hlt
             rw [hY] at e0 hlt
             have d1 : decide (X ≤ Y) = false:=by simp;omega
             have d2 : decide ((0 : Int) < ((j + 1 : Nat) : Int)) = true:=by first | (simp;done) | (simp;omega)
             have d3 : ((j + 1 : Nat) : Int) - 1 = (j : Int):=by omega
             have hjN : j < N:=by omega
             clear hRr hup hX hY hlt
             go_quiet (fail)
             all_goals go_wp2_with fail
             all_goals go_meet
             all_goals exact ⟨rfl,belowDrewN hbr _⟩
         case rest =>
           obtain ⟨rfl,hbc⟩:=hcut
           obtain ⟨w6,rfl⟩ : ∃ w6,w6 = wc:=⟨_,rfl⟩
           clear hbr
           have hFM : l.findSome? (fun s => numF (M[i]).num s.slots) = some M[i]:=by
             have h:=@find_merge l i (by rw [HME.out];exact hiM)
             simp only [HME.out] at h
             exact h
           have hMi:=List.getElem_mem hiM
           obtain ⟨y,hy⟩ : ∃ y,M[i] = y:=⟨_,rfl⟩
           have HY:=Lh hy
           obtain ⟨X,Y1,Y2,Y3⟩:=y
           rw [hy] at hFM
           dsimp only at hFM
           have HFM:=Lh hFM
           clear hFM hMi hy
           go_wp2_with fail
           go_loopw [9,10] (fun th nn wr2 => ∃ (j : Nat) (t : Bool),j ≤ n ∧ th = .bool t ∧ nn = .int .i64 j ∧ Below w2.heap.size w2 wr2 ∧ Hid (t = false → (l.take j).findSome? (fun s => numF X s.slots) = none)) (fun _ nn _ => n - (intOf nn).toNat)
           case atStart => exact ⟨0,false,Nat.zero_le _,rfl,rfl,hbc,Lh (fun _ => rfl)⟩
           case round =>
             obtain ⟨j,t,hj,rfl,rfl,hbr2,HT⟩:=hrel
             clear hbc
             by_cases hjn : j < n
             · cases t with
               | true =>
                 go_wp2
                 go_roundw
                 case rel => exact ⟨i + 1,by omega,by go_num,hbr2⟩
                 case measure => simp [intOf];omega
               | false =>
                 have hjl : j < l.length:=by rw [HW.out.2.2.2.1];exact hjn
                 have hF:=find_step hjl (HT.out rfl)
                 obtain ⟨x,hx⟩ : ∃ x,vs[j]? = some x:=⟨_,List.getElem?_eq_getElem (by rw [HW.out.2.2.1];exact hjn)⟩
                 have hbw:=hb2.trans (hbr2.mono hz2)
                 have hSec:=(HI.out wr hbw).2 j x l[j] hx (List.getElem?_eq_getElem hjl)
                 obtain ⟨g,off,rfl,hg,a0,a1,_⟩:=sec_at (HR.out wr hbw) j x hx
                 obtain ⟨g2,off2,rfl,hg2,f0,f1,f2,f3⟩:=slot_at (HV.out wr hbr2) i hiM
                 have hFI:=fun (W : World) (hW : Below wr.heap.size wr W) => cfind_in (.slice x.sp x.sn x.sc) l[j].slots X W (hSec.slots.below hW) (by have:=HW.out.2.1 _ (List.getElem_mem hjl);omega)
                 rw [HY.out] at f0 f1 f2 f3
                 dsimp only at f0 f1 f2 f3
                 obtain ⟨A0,sp,sn,sc,K0,N0,G0,st,p1,n1,c1,p2,n2,c2,pv,hyy,ow⟩:=x
                 dsimp only at a1 hFI
                 have d1 : i < N:=hiN
                 obtain ⟨W1,rfl⟩ : ∃ W1,W1 = wr:=⟨_,rfl⟩
                 have hz6:=hbr2.size
                 obtain ⟨r,hr⟩ : ∃ r,numF X l[j].slots = r:=⟨_,rfl⟩
                 rw [hr] at hF hFI
                 have HFI:=Lh hFI
                 obtain ⟨⟨z0,z1,z2,z3⟩,hz⟩ : ∃ z : Sl,r.getD ⟨0,0,0,0⟩ = z:=⟨_,rfl⟩
                 obtain ⟨bs,hbs⟩ : ∃ bs,r.isSome = bs:=⟨_,rfl⟩
                 unfold slR slE at HFI
                 simp only [hz,hbs] at HFI
                 have HF:=Lh (And.intro hF (And.intro hz hbs))
                 clear hF hFI hr hSec hx a0 hz hbs
                 go_upto_region 17 with fail
                 go_cut [11,12] from 72 to 85 (fun s11 s12 wx => ∃ gb,s11 = .pointer (some ⟨gb,0,none⟩) ∧ s12 = .bool bs ∧ wx.heap[gb]? = some (.cells #[.int .i64 z0,.int .i64 z1,.int .i64 z2,.int .i64 z3] 28 (0,0)) ∧ Below W1.heap.size W1 wx)
                 case first =>
                   have ne1 : ¬ g = W1.heap.size:=by omega
                   have ne2 : ¬ W1.heap.size = g:=by omega
                   have ne3 : ¬ g2 = W1.heap.size:=by omega
                   have ne4 : ¬ W1.heap.size = g2:=by omega
                   go_region_held3 (fun w' => w'.cell? ⟨g,off + j * 11 + 1,none⟩ = some (.slice sp sn sc) ∧ w'.cell? ⟨g2,off2 + i * 4,none⟩ = some (.int .i64 X)) (go_keep) ((go_at_call 9;refine (HFI.out _ bel).mono ?_;intro e w7 hpost;obtain ⟨rfl,hb⟩:=hpost;obtain ⟨hc,hf⟩:=bcell hb;have hz:=hb.size;simp at hz;have hbw : Below W1.heap.size W1 w7:=bel;have a1:=(hbw.cell (p:=⟨g,off + j * 11 + 1,none⟩) hg).trans a1;have f0:=(hbw.cell (p:=⟨g2,off2 + i * 4,none⟩) hg2).trans f0))
                   all_goals go_wp2_with fail
                   all_goals go_meet
                   · exact ⟨w7.heap.size,rfl,rfl,heap_new_at _ _ _ rfl,hbw.alloc hbw.size _⟩
                   · have B1 : w7.heap[W1.heap.size]? = some (.cells #[.int .i64 0,.int .i64 0,.int .i64 0,.int .i64 0] 28 (0,0)):=(hb.block _ (by simp)).trans (heap_new_at W1 _ _ rfl)
                     exact ⟨W1.heap.size,rfl,rfl,set4 B1 _ _ _ _,(((hbw.setCell (p:=⟨W1.heap.size,0,none⟩) (Nat.le_refl _) _).setCell (p:=⟨W1.heap.size,1,none⟩) (Nat.le_refl _) _).setCell (p:=⟨W1.heap.size,2,none⟩) (Nat.le_refl _) _).setCell (p:=⟨W1.heap.size,3,none⟩) (Nat.le_refl _) _⟩
                 case rest =>
                   obtain ⟨gb,rfl,rfl,hG,hb7⟩:=hcut
                   obtain ⟨w7,rfl⟩ : ∃ w7,w7 = wc:=⟨_,rfl⟩
                   have hz7:=hb7.size
                   have hbr7:=hbr2.trans (hb7.mono hz6)
                   have e0:=(hb7.cell (p:=⟨g2,off2 + i * 4,none⟩) (by show g2 < _;omega)).trans f0
                   have e1:=(hb7.cell (p:=⟨g2,off2 + i * 4 + 1,none⟩) (by show g2 < _;omega)).trans f1
                   have e2:=(hb7.cell (p:=⟨g2,off2 + i * 4 + 2,none⟩) (by show g2 < _;omega)).trans f2
                   have e3:=(hb7.cell (p:=⟨g2,off2 + i * 4 + 3,none⟩) (by show g2 < _;omega)).trans f3
                   obtain ⟨q0,q1,q2,q3,qf⟩:=four_off hG
                   clear f0 f1 f2 f3 a1 HFI hbr2 hb7 hG
                   cases r with
                   | none =>
                     obtain ⟨hF,hz,hbs⟩:=HF.out
                     have HF2:=Lh (hF.2 rfl)
                     simp only [Option.isSome_none] at hbs
                     subst hbs
                     clear hF hz
                     go_upto_region 19 with fail
                     go_quiet (fail)
                     all_goals go_wp2_with fail
                     all_goals go_roundw
                     all_goals first
                       | (case rel => exact ⟨j + 1,false,by omega,rfl,by go_num,belowDrewN hbr7 _,Lh (fun _ => HF2.out)⟩)
                       | (case measure => simp [intOf];omega)
                   | some y =>
                     obtain ⟨hF,hz,hbs⟩:=HF.out
                     have h1:=hF.1 y rfl
                     rw [HFM.out] at h1
                     simp only [Option.getD_some] at hz
                     simp only [Option.isSome_some] at hbs
                     subst hbs
                     have h2 : (⟨X,Y1,Y2,Y3⟩ : Sl) = ⟨z0,z1,z2,z3⟩:=(Option.some.inj h1).trans hz
                     simp only [Sl.mk.injEq] at h2
                     obtain ⟨rfl,rfl,rfl,rfl⟩:=h2
                     clear hF hz h1
                     go_upto_region 19 with fail
                     go_quiet (fail)
                     all_goals go_wp2_with fail
                     all_goals go_roundw
                     all_goals first
                       | (case rel => exact ⟨j + 1,true,by omega,rfl,by go_num,belowDrewN hbr7 _,Lh (fun h => by cases h)⟩)
                       | (case measure => simp [intOf];omega)
             · have hjn2 : j = n:=by omega
               subst hjn2
               cases t with
               | true =>
                 go_wp2
                 go_roundw
                 case rel => exact ⟨i + 1,by omega,by go_num,hbr2⟩
                 case measure => simp [intOf];omega
               | false =>
                 exfalso
                 have h:=HT.out rfl
                 rw [List.take_of_length_le (by rw [HW.out.2.2.2.1];exact Nat.le_refl _),HFM.out] at h
                 cases h
       · have hiN2 : i = N:=by omega
         subst hiN2
         have hz:=hbr.size
         have hbw1 : Below w1.heap.size w1 wr:=hb2.trans (hbr.mono hz2)
         have HLW:=Lh (HL.out wr (hm1.below hbw1))
         have hbw:=hb1.trans (hbw1.mono hz1)
         go_wp2_with fail
         refine HLW.out.mono ?_
         rintro e w8 ⟨rfl,hb8⟩
         go_wp2
         go_ret
         exact ⟨rfl,hbw.trans (hb8.mono hbw.size)⟩
end Go.Proofs.YtinafodpgjbedaaGreatDoor
