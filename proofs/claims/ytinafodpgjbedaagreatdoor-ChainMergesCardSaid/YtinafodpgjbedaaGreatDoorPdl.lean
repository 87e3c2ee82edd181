/- Parts of the proof: ChN. -/
import Derived.Test.YtinafodpgjbedaaGreatDoorPdk
import Derived.Test.YtinafodpgjbedaaGreatDoorPda
import Derived.Test.YtinafodpgjbedaaGreatDoorPdf
import Derived.Deep.CutBlock
import Derived.Deep.DeepCutAuto
set_option linter.all false
set_option maxRecDepth 100000
set_option maxHeartbeats 8000000
namespace Go.Proofs.YtinafodpgjbedaaGreatDoor
open Go.RowKit Fo
def OddOut (w : World) (B : Nat) (v : Value) (ys : List Sl) (e : Ending) (w' : World) : Prop :=
 ∃ v',e = .returned v' ∧ rownS slE 28 w' B v' ys ∧ (∀ k,k < w.heap.size → v.ownBlock ≠ some k → w'.heap[k]? = w.heap[k]? ∧ v'.ownBlock ≠ some k) ∧ Below B w w'
theorem odd_shut {w w2 w6 wr w9 : World} {B : Nat} {v : Value} {N g3 q3 k : Nat} {xs ys : List Sl} {x : Sl} (hO : rownS slE 28 w B v xs) (hN : xs.length = N) (hu : upS xs) (hno : (numF x.num xs).isSome = false) (hB : B ≤ w.heap.size) (hbw2 : Below w.heap.size w w2)
   (hg6 : (w2.alloc (.cells (slE.cells x).toArray 28)).grownBy w6 v.ownBlock) (hor : v.ownBlock = some g3 ∨ g3 = w2.heap.size + 1) (hS : SetAt g3 w6 wr) (hk : k ≤ N) (hys : ys.length = N + 1)
   (h1 : ys.take k = xs.take k) (h2 : ys.drop (k + 1) = xs.drop k) (h3 : ∀ y ∈ xs.drop k,x.num < y.num) (h4 : ∀ h : 0 < k,¬ x.num < (xs[k - 1]'(by omega)).num) (hS9 : SetAt g3 wr w9) (h9 : rownS slE 28 w9 B (.slice (some ⟨g3,0,none⟩) (N + 1) q3) (ys.set k x)) :
   OddOut w B v (insS xs x) (.returned (.slice (some ⟨g3,0,none⟩) (N + 1) q3)) w9:=by
 have hov:=own_lt hO
 have hob:=own_base hO
 have hz2:=hbw2.size
 have hz6:=hg6.size
 simp only [World.size_alloc] at hz6
 have hins : ys.set k x = insS xs x:=by
   rw [insS_stop hu hno (by omega) h4 h3,List.set_eq_take_append_cons_drop,if_pos (by omega),h1,h2]
 rw [hins] at h9
 have hkeep : ∀ b,b < w.heap.size → v.ownBlock ≠ some b → w9.heap[b]? = w.heap[b]? ∧ (Value.slice (some ⟨g3,0,none⟩) (N + 1) q3).ownBlock ≠ some b:=by
   intro b hb hne
   have hg : b ≠ g3:=fun e => by
     subst e
     rcases hor with h | h
     · exact hne h
     · omega
   refine ⟨(hS9.block b hg).trans ((hS.block b hg).trans ((hg6.block b (by simp only [World.size_alloc];omega) (fun e => hne e.symm)).trans ((Below.heap_alloc _ _ _ (by omega)).trans (hbw2.block b hb)))),fun e => hg ?_⟩
   simpa [Value.ownBlock] using e.symm
 exact ⟨_,rfl,h9,hkeep,⟨hS9.os.trans (hS.os.trans (hg6.os.trans hbw2.os)),hS9.tape.trans (hS.tape.trans (hg6.tape.trans hbw2.tape)),hS9.output.trans (hS.output.trans (hg6.output.trans hbw2.output)),by rw [hS9.size,hS.size];omega,fun b hb => (hkeep b (by omega) (fun e => by have:=hob b e;omega)).1⟩⟩
theorem odd_fin {w w2 w6 wr w9 : World} {B : Nat} {p : Option Addr} {c N g3 q3 k : Nat} {xs ys : List Sl} {x : Sl} (hO : rownS slE 28 w B (.slice p xs.length c) xs) (hN : xs.length = N) (hu : upS xs) (hno : (numF x.num xs).isSome = false) (hB : B ≤ w.heap.size) (hbw2 : Below w.heap.size w w2)
   (hg6 : (w2.alloc (.cells (slE.cells x).toArray 28)).grownBy w6 (Value.slice p N c).ownBlock) (hor : (Value.slice p N c).ownBlock = some g3 ∨ g3 = w2.heap.size + 1) (hS : SetAt g3 w6 wr) (hk : k ≤ N) (hys : ys.length = N + 1)
   (h1 : ys.take k = xs.take k) (h2 : ys.drop (k + 1) = xs.drop k) (h3 : ∀ y ∈ xs.drop k,x.num < y.num) (h4 : 0 < k → (xs.getD (k - 1) x).num ≤ x.num) (hS9 : SetAt g3 wr w9) (h9 : rownS slE 28 w9 B (.slice (some ⟨g3,0,none⟩) (N + 1) q3) (ys.set k x)) :
   OddOut w B (.slice p xs.length c) (insS xs x) (.returned (.slice (some ⟨g3,0,none⟩) (N + 1) q3)) w9:=by
 subst hN
 refine odd_shut hO rfl hu hno hB hbw2 hg6 hor hS hk hys h1 h2 h3 (fun h => ?_) hS9 h9
 have:=h4 h
 rw [List.getD_eq_getElem?_getD,List.getElem?_eq_getElem (by omega),Option.getD_some] at this
 omega
theorem put4 {wr : World} {B g3 N q3 : Nat} {ys : List Sl} (nq : Nat) (hrow : rownS slE 28 wr B (.slice (some ⟨g3, 0, none⟩) (N + 1) q3) ys) (k o : Nat) (ho : o = k * 4) (hk : k < ys.length) (x0 x1 x2 x3 : Int) :
   SetAt g3 wr (((((wr.drewN nq).setCell ⟨g3,o,none⟩ (.int .i64 x0)).setCell ⟨g3,o + 1,none⟩ (.int .i64 x1)).setCell ⟨g3,o + 2,none⟩ (.int .i64 x2)).setCell ⟨g3,o + 3,none⟩ (.int .i64 x3)) ∧
   rownS slE 28 (((((wr.drewN nq).setCell ⟨g3,o,none⟩ (.int .i64 x0)).setCell ⟨g3,o + 1,none⟩ (.int .i64 x1)).setCell ⟨g3,o + 2,none⟩ (.int .i64 x2)).setCell ⟨g3,o + 3,none⟩ (.int .i64 x3)) B (.slice (some ⟨g3,0,none⟩) (N + 1) q3) (ys.set k ⟨x0,x1,x2,x3⟩):=by
 subst ho
 have h0 : SetAt g3 wr (wr.drewN nq):=⟨rfl,rfl,rfl,rfl,fun _ _ => rfl⟩
 exact ⟨(((h0.set _ _).set _ _).set _ _).set _ _,row_put (w:=wr.drewN nq) (hrow.below (belowDrewN (Below.refl _ _) nq)) k hk ⟨x0,x1,x2,x3⟩⟩
theorem odd_step {xs ys : List Sl} {j N : Nat} {n : Int} (hN : xs.length = N) (hj : j + 1 ≤ N) (hys : ys.length = N + 1) (h1 : ys.take (j + 1) = xs.take (j + 1)) (h2 : ys.drop (j + 2) = xs.drop (j + 1)) (h3 : ∀ y ∈ xs.drop (j + 1), n < y.num) (z : Sl) (hz : ys[j]? = some z) :
   xs[j]? = some z ∧ (ys.set (j + 1) z).length = N + 1 ∧ (n < z.num → (ys.set (j + 1) z).take j = xs.take j ∧ (ys.set (j + 1) z).drop (j + 1) = xs.drop j ∧ ∀ y ∈ xs.drop j,n < y.num):=by
 have hxj : xs[j]? = some z:=by
   have e:=congrArg (·[j]?) h1
   simp only [List.getElem?_take] at e
   rw [if_pos (by omega),if_pos (by omega)] at e
   rw [← e,hz]
 have hxl : j < xs.length:=by omega
 have hxz : xs[j] = z:=by
   rw [List.getElem?_eq_getElem hxl] at hxj
   exact Option.some.inj hxj
 have hdrop : xs.drop j = z :: xs.drop (j + 1):=by rw [← hxz];exact (List.getElem_cons_drop hxl).symm
 refine ⟨hxj,by simp [hys],fun hn => ⟨?_,?_,?_⟩⟩
 · rw [List.take_set_of_le (by omega)]
   have:=congrArg (List.take j) h1
   rwa [List.take_take,List.take_take,Nat.min_eq_left (by omega)] at this
 · rw [hdrop,← h2,List.drop_set,if_neg (by omega),Nat.sub_self]
   have hl : j + 1 < ys.length:=by omega
   rw [← List.getElem_cons_drop hl]
   rfl
 · rw [hdrop]
   intro y hy
   rcases List.mem_cons.1 hy with rfl | hy
   · exact hn
   · exact h3 y hy
theorem odd_in (w : World) (B : Nat) (v : Value) (xs : List Sl) (x : Sl) (hown : rownS slE 28 w B v xs) (hu : upS xs) (hB : B ≤ w.heap.size) (hl : xs.length ≤ 100000) :
   Calls Tryz.prog 21 #[v,.agg (slE.cells x).toArray] w (OddOut w B v (insS xs x)):=by
 have HF:=Lh (fun (W : World) (hW : Below w.heap.size w W) => rfind_in v xs x.num W ((rownS.arg hown).below hW) (by omega))
 have HU:=Lh hu
 have HO:=Lh hown
 obtain ⟨p,c,rfl⟩:=rown_slice hown
 obtain ⟨x0,x1,x2,x3⟩:=x
 dsimp only at HF
 show Calls Tryz.prog 21 #[_,.agg #[.int .i64 x0,.int .i64 x1,.int .i64 x2,.int .i64 x3]] w _
 have hov:=own_lt hown
 clear hown hu
 go_enter Tryz.func21,Tryz.ntmps21
 go_wp2_with fail
 refine (HF.out _ bel).mono ?_
 rintro e w1 ⟨rfl,hb1⟩
 have hz1:=hb1.size
 simp at hz1
 have hX1:=(hb1.block w.heap.size (by simp)).trans (heap_new_at w _ _ rfl)
 have hbw1 : Below w.heap.size w w1:=(show Below w.heap.size w (w.alloc (.cells #[.int .i64 x0,.int .i64 x1,.int .i64 x2,.int .i64 x3] 28)) from bel).trans (hb1.mono (by simp))
 clear hb1 HF
 cases hf : (numF x0 xs).isSome
 · have hr : numF x0 xs = none := by cases h : numF x0 xs with
     | none => rfl
     | some y => rw [h] at hf;cases hf
   rw [hr]
   have HR:=Lh (show (numF (⟨x0,x1,x2,x3⟩ : Sl).num xs).isSome = false from hf)
   unfold slR
   dsimp only [Option.getD_none,Option.isSome_none]
   have HO1:=Lh (HO.out.below hbw1)
   clear hf hr
   unfold slE
   dsimp only
   go_upto_region 5 with fail
   obtain ⟨w2,hw2⟩ : ∃ w2,w1.alloc (.cells #[.int .i64 0,.int .i64 0,.int .i64 0,.int .i64 0] 28) = w2:=⟨_,rfl⟩
   rw [hw2]
   have hb12 : Below w1.heap.size w1 w2:=by rw [← hw2];exact bel
   have hX2:=(hb12.block w.heap.size (by omega)).trans hX1
   have hrow2:=HO1.out.below hb12
   have hz2:=hb12.size
   have hbw2 : Below w.heap.size w w2:=hbw1.trans (hb12.mono (by omega))
   have hzB : B ≤ w2.heap.size:=by omega
   obtain ⟨e0,e1,e2,e3,ef⟩:=four_ofF hX2
   obtain ⟨N,hN⟩ : ∃ N,xs.length = N:=⟨_,rfl⟩
   clear hw2 hX1 hbw1 hb12
   go_upto_region 6 with (at_builtin;(refine rappendL (E:=slE) rfl _ _ rfl Tryz.underlying25 Tryz.infoSlt rfl (by decide) (by decide) B _ xs ⟨x0,x1,x2,x3⟩ hrow2 rfl rfl (by omega) hzB ?_;intro g3 q3 w6 hr6 hb6 hz6 hg6 hor6))
   rw [hN] at hr6 hg6 hor6
   have HX6:=Lh (show w6.heap[w.heap.size]? = some (.cells #[.int .i64 x0,.int .i64 x1,.int .i64 x2,.int .i64 x3] 28 (0,0)) from (hg6.block _ (by simp;omega) (fun e => by have:=hov _ (by rw [hN];exact e.symm);omega)).trans ((Below.heap_alloc _ _ _ (by omega)).trans hX2))
   have HG6:=Lh (And.intro hg6 hor6)
   have HN:=Lh hN
   have hNl : N ≤ 100000:=by rw [← hN];exact hl
   have hgw : g3 ≠ w.heap.size:=fun e => by
     rcases hor6 with h | h
     · have:=hov g3 (by rw [hN];exact h);omega
     · omega
   clear e0 e1 e2 e3 ef hX2 hrow2 hg6 hor6 hN
   (try rw [HN.out])
   go_loopw [7] (fun i wr => ∃ (k : Nat) (ys : List Sl),k ≤ N ∧ i = .int .i64 k ∧ ys.length = N + 1 ∧ Hid (ys.take k = xs.take k ∧ ys.drop (k + 1) = xs.drop k ∧ ∀ y ∈ xs.drop k,x0 < y.num) ∧ rownS slE 28 wr B (.slice (some ⟨g3,0,none⟩) (N + 1) q3) ys ∧ SetAt g3 w6 wr) (fun i _ => (intOf i).toNat)
   case atStart =>
     refine ⟨N,_,Nat.le_refl _,rfl,by simp [HN.out],Lh ⟨?_,?_,?_⟩,hr6,SetAt.refl _ _⟩
     · rw [← HN.out];simp
     · rw [← HN.out];simp
     · rw [← HN.out];simp
   case round =>
     obtain ⟨k,ys,hk,rfl,hys,HT,hrow,hS⟩:=hrel
     have hz6':=hb6.size
     obtain ⟨b0,b1,b2,b3,bf⟩:=four_ofF ((hS.block w.heap.size (fun e => hgw e.symm)).trans HX6.out)
     obtain ⟨gq,oq,e,hgq,f0,f1,f2,f3⟩:=slot_at (rownS.arg hrow) k (by omega)
     cases e
     have hfr:=fun j => World.ownsRow.frozenAt (show wr.ownsRow B 28 4 (.slice (some ⟨g3,0,none⟩) (N + 1) q3) (N + 1) (slE.row ys) from hys ▸ hrow) j
     simp only [Nat.zero_add] at f0 f1 f2 f3
     have hXl : w.heap.size < wr.heap.size:=by rw [hS.size];omega
     rcases k with _ | j
     · simp only [Nat.zero_mul,Nat.zero_add] at f0 f1 f2 f3
       obtain ⟨z0,hz0⟩ : ∃ z,(ys[0]'(by omega)).num = z:=⟨_,rfl⟩
       obtain ⟨z1,hz1⟩ : ∃ z,(ys[0]'(by omega)).kind = z:=⟨_,rfl⟩
       obtain ⟨z2,hz2⟩ : ∃ z,(ys[0]'(by omega)).a = z:=⟨_,rfl⟩
       obtain ⟨z3,hz3⟩ : ∃ z,(ys[0]'(by omega)).b = z:=⟨_,rfl⟩
       rw [hz0] at f0
       rw [hz1] at f1
       rw [hz2] at f2
       rw [hz3] at f3
       clear hz0 hz1 hz2 hz3
       have HST:=Lh (show 0 < 0 → (xs.getD (0 - 1) ⟨x0,x1,x2,x3⟩).num ≤ x0 from fun h => absurd h (by decide))
       go_upto_region 6 with fail
       go_quiet (fail)
       all_goals go_wp2_with fail
       obtain ⟨h91,h92⟩:=put4 nq hrow 0 0 (by first | exact HOQ.out.1.symm | omega) (by omega) x0 x1 x2 x3
       obtain ⟨w9,hw9⟩ : ∃ w9,(((((wr.drewN nq).setCell ⟨g3,0,none⟩ (.int .i64 x0)).setCell ⟨g3,1,none⟩ (.int .i64 x1)).setCell ⟨g3,2,none⟩ (.int .i64 x2)).setCell ⟨g3,3,none⟩ (.int .i64 x3)) = w9:=⟨_,rfl⟩
       have h91' : SetAt g3 wr w9:=by rw [← hw9];exact h91
       have h92' : rownS slE 28 w9 B (.slice (some ⟨g3,0,none⟩) (N + 1) q3) (ys.set 0 ⟨x0,x1,x2,x3⟩):=by rw [← hw9];exact h92
       rw [hw9]
       clear h91 h92 hw9
       go_ret
       exact odd_fin HO.out HN.out HU.out HR.out hB hbw2 HG6.out.1 HG6.out.2 hS hk hys HT.out.1 HT.out.2.1 HT.out.2.2 HST.out h91' h92'
     · obtain ⟨gq',oq',e',_,e0,e1,e2,e3⟩:=slot_at (rownS.arg hrow) j (by omega)
       cases e'
       simp only [Nat.zero_add] at e0 e1 e2 e3
       obtain ⟨⟨z0,z1,z2,z3⟩,hz⟩ : ∃ z,ys[j + 1]'(by omega) = z:=⟨_,rfl⟩
       obtain ⟨⟨y0,y1,y2,y3⟩,hy⟩ : ∃ z,ys[j]'(by omega) = z:=⟨_,rfl⟩
       rw [hz] at f0 f1 f2 f3
       rw [hy] at e0 e1 e2 e3
       dsimp only at f0 f1 f2 f3 e0 e1 e2 e3
       have hyj : ys[j]? = some ⟨y0,y1,y2,y3⟩:=by rw [← hy];exact List.getElem?_eq_getElem (by omega)
       have HSt:=Lh (odd_step HN.out hk hys HT.out.1 HT.out.2.1 HT.out.2.2 ⟨y0,y1,y2,y3⟩ hyj)
       have d3 : ((j + 1 : Nat) : Int) - 1 = (j : Int):=by omega
       have d2 : decide ((0 : Int) < ((j + 1 : Nat) : Int)) = true:=by first | (simp;done) | (simp;omega)
       have hjN : j < N + 1:=by omega
       have hjN2 : j + 1 < N + 1:=by omega
       obtain ⟨o,ho⟩ : ∃ o,(j + 1) * 4 = o:=⟨_,rfl⟩
       rw [ho] at f0 f1 f2 f3
       obtain ⟨q,hq⟩ : ∃ q,j * 4 = q:=⟨_,rfl⟩
       rw [hq] at e0 e1 e2 e3
       have HOQ:=Lh (And.intro ho hq)
       clear hz hy hyj
       cases hlt : decide (x0 < y0)
       · have HST := Lib.hid (show 0 < j + 1 → (xs.getD (j + 1 - 1) ⟨x0, x1, x2, x3⟩).num ≤ x0 from fun _ => by
           rw [Nat.add_sub_cancel,List.getD_eq_getElem?_getD,HSt.out.1,Option.getD_some]
           simpa using hlt)
         go_upto_region 6 with fail
         go_quiet (fail)
         all_goals go_wp2_with fail
         obtain ⟨h91,h92⟩:=put4 nq hrow (j + 1) o (by first | exact HOQ.out.1.symm | omega) (by omega) x0 x1 x2 x3
         obtain ⟨w9,hw9⟩ : ∃ w9,(((((wr.drewN nq).setCell ⟨g3,o,none⟩ (.int .i64 x0)).setCell ⟨g3,o + 1,none⟩ (.int .i64 x1)).setCell ⟨g3,o + 2,none⟩ (.int .i64 x2)).setCell ⟨g3,o + 3,none⟩ (.int .i64 x3)) = w9:=⟨_,rfl⟩
         have h91' : SetAt g3 wr w9:=by rw [← hw9];exact h91
         have h92' : rownS slE 28 w9 B (.slice (some ⟨g3,0,none⟩) (N + 1) q3) (ys.set (j + 1) ⟨x0,x1,x2,x3⟩):=by rw [← hw9];exact h92
         rw [hw9]
         clear h91 h92 hw9
         go_ret
         exact odd_fin HO.out HN.out HU.out HR.out hB hbw2 HG6.out.1 HG6.out.2 hS hk hys HT.out.1 HT.out.2.1 HT.out.2.2 HST.out h91' h92'
       · go_upto_region 6 with fail
         go_quiet (fail)
         all_goals go_wp2_with fail
         obtain ⟨h91,h92⟩:=put4 nq hrow (j + 1) o HOQ.out.1.symm (by omega) y0 y1 y2 y3
         have h3:=HSt.out.2.2 (by simpa using hlt)
         have hl:=HSt.out.2.1
         go_roundw
         case rel => exact ⟨j,_,by omega,rfl,hl,Lh h3,h92,⟨h91.os.trans hS.os,h91.tape.trans hS.tape,h91.output.trans hS.output,h91.size.trans hS.size,fun i hi => (h91.block i hi).trans (hS.block i hi)⟩⟩
         case measure => simp [intOf]
 · obtain ⟨y,hr⟩:=Option.isSome_iff_exists.1 hf
   have hins : insS xs ⟨x0,x1,x2,x3⟩ = xs:=insS_have HU.out hf
   have HINS:=Lh hins
   rw [hr]
   unfold slR slE
   dsimp only [Option.getD_some,Option.isSome_some]
   have HO1:=Lh (HO.out.below hbw1)
   clear hf hr hins
   go_wp2
   go_ret
   refine ⟨.slice p xs.length c,rfl,?_,fun k h1 h2 => ⟨?_,h2⟩,?_⟩
   · rw [HINS.out];exact HO1.out.below bel
   · exact (show Below w.heap.size w _ from bel).block k h1
   · exact Below.mono (show Below w.heap.size w _ from bel) hB
end Go.Proofs.YtinafodpgjbedaaGreatDoor
